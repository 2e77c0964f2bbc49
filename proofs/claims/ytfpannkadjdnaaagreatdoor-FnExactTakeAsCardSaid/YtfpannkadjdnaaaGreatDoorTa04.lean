/-
  What the laws' own helpers do, said over plain data: one statement a family, for every type. Also int64, string and bool as plain data. (and 2 more texts)
-/
import Derived.Test.YtfpannkadjdnaaaGreatDoorRows
import Derived.Test.YtfpannkadjdnaaaGreatDoorTa03
namespace Go.Proofs.YtfpannkadjdnaaaGreatDoor
open Go.RowKit
set_option linter.all false
def SzC (fn:Nat) (ds:List PD):Prop:=∀ (B:Nat) (cs:List Value) (w:World) (left:Int),0≤left→left≤1048576→B≤w.heap.size→PD.wfL ds→jq w B ds cs→
 Calls Tryz.prog fn #[.agg cs.toArray,.int .i64 left] w fun e w'=>e=.returned (.int .i64 (aoo (PD.szL ds) left))∧Below w.heap.size w w'
def SzR (fn:Nat) (d:PD):Prop:=∀ (B:Nat) (v:Value) (w:World) (left:Int),0≤left→left≤1048576→B≤w.heap.size→d.wf→Rep w B d v→
 Calls Tryz.prog fn #[v,.int .i64 left] w fun e w'=>e=.returned (.int .i64 (aoo d.sz left))∧Below w.heap.size w w'
def ToC (fn:Nat) (ds:List PD):Prop:=∀ (B:Nat) (cs:List Value) (w:World),B≤w.heap.size→PD.szL ds≤1048576→jq w B ds cs→
 Calls Tryz.prog fn #[.agg cs.toArray] w fun e w'=>∃ us,e=.returned (.agg us.toArray)∧LvC w' w.heap.size w'.heap.size ds us∧Below w.heap.size w w'
def ToR (fn:Nat) (d:PD):Prop:=∀ (B:Nat) (v:Value) (w:World),B≤w.heap.size→d.sz≤1048576→Rep w B d v→
 Calls Tryz.prog fn #[v] w fun e w'=>∃ u,e=.returned u∧Lv w' w.heap.size w'.heap.size d u∧Below w.heap.size w w'
def EqC (fn:Nat) (ds:List PD):Prop:=∀ (B:Nat) (cs us:List Value) (w:World),B≤w.heap.size→jq w B ds cs→jq w B ds us→
 Calls Tryz.prog fn #[.agg cs.toArray,.agg us.toArray] w fun e w'=>e=.returned (.bool true)∧Below w.heap.size w w'
def EqR (fn:Nat) (d:PD):Prop:=∀ (B:Nat) (v u:Value) (w:World),B≤w.heap.size→Rep w B d v→Rep w B d u→
 Calls Tryz.prog fn #[v,u] w fun e w'=>e=.returned (.bool true)∧Below w.heap.size w w'
def MkC (fn:Nat) (ds:List PD):Prop:=∀ (us:List Value) (F:List Nat) (w:World) (k:Int),0≤k→k+ab8 ds≤1099511627776→ni w ds us F→F.Nodup→(∀ b ∈ F,b < w.heap.size)→
 Calls Tryz.prog fn #[.agg us.toArray,.int .i64 k] w fun e w'=>e=.returned (.int .i64 (k+ab8 ds))∧ni w' (afw ds k) us F∧ad5 F w w'
def MkR (fn:Nat) (d:PD):Prop:=∀ (v:Value) (F:List Nat) (w:World) (k:Int),0≤k→k+d.cnt≤1099511627776→Hold w d v F→F.Nodup→(∀ b ∈ F,b < w.heap.size)→
 Calls Tryz.prog fn #[v,.int .i64 k] w fun e w'=>e=.returned (.int .i64 (k+d.cnt))∧Hold w' (d.mark k) v F∧ad5 F w w'
def HdC (fn:Nat) (ds:List PD):Prop:=∀ (B:Nat) (us:List Value) (w:World) (k:Int),0≤k→k+ab8 ds≤1099511627776→B≤w.heap.size→jq w B (afw ds k) us→
 Calls Tryz.prog fn #[.agg us.toArray,.int .i64 k] w fun e w'=>e=.returned (.int .i64 (k+ab8 ds))∧Below w.heap.size w w'
def HdR (fn:Nat) (d:PD):Prop:=∀ (B:Nat) (v:Value) (w:World) (k:Int),0≤k→k+d.cnt≤1099511627776→B≤w.heap.size→Rep w B (d.mark k) v→
 Calls Tryz.prog fn #[v,.int .i64 k] w fun e w'=>e=.returned (.int .i64 (k+d.cnt))∧Below w.heap.size w w'
def aoe (x:Int):List PD:=[.lit (.int .i64 x)]
def aam (x:ByteArray):List PD:=[.lit (.string x)]
theorem a0r (x:Int):(aoe x).length=1:=rfl
theorem jo (x:ByteArray):(aam x).length=1:=rfl
theorem bct (x:ByteArray):PD.afx (aam x):=by simp[aam,PD.afx,PD.fit]
theorem bcu (x:ByteArray):PD.szL (aam x)=x.size:=by simp[aam,PD.szL,PD.sz]
end Go.Proofs.YtfpannkadjdnaaaGreatDoor
namespace Go.Proofs.YtfpannkadjdnaaaGreatDoor
open Go.RowKit
set_option linter.all false
set_option maxRecDepth 100000
structure Block where
 at_:Int
 size:Int
structure b1e where
 bytes:ByteArray
 free:List Block
inductive Ty where
 | mk (kind:Int) (name:ByteArray) (labels:List ByteArray) (kids:List Ty)
mutual
def Ty.pd:Ty→List PD
 | .mk kind name labels kids=>[.lit (.int .i64 kind),.lit (.string name),.row 1 (labels.flatMap aam),.row 4 (Ty.pdS kids)]
def Ty.pdS:List Ty→List PD
 | []=>[]
 | t ::r=>Ty.pd t ++Ty.pdS r
end
theorem Ty.al6:∀ ts:List Ty,Ty.pdS ts=ts.flatMap Ty.pd
 | []=>by rw[Ty.pdS];rfl
 | t ::r=>by rw[Ty.pdS,Ty.al6 r,List.flatMap_cons]
theorem Ty.ji (kind:Int) (name:ByteArray) (labels:List ByteArray) (kids:List Ty):Ty.pd ⟨kind,name,labels,kids⟩=[.lit (.int .i64 kind),.lit (.string name),.row 1 (labels.flatMap aam),.row 4 (kids.flatMap Ty.pd)]:=by rw[Ty.pd,Ty.al6]
theorem Ty.ay (t:Ty):(Ty.pd t).length=4:=by obtain⟨kind,name,labels,kids⟩:=t;rw[Ty.ji];rfl
theorem Ty.open_ {w:World} {B:Nat} {cs:List Value} {kind:Int} {name:ByteArray} {labels:List ByteArray} {kids:List Ty} (h:jq w B (Ty.pd ⟨kind,name,labels,kids⟩) cs):∃ iy iw,cs=[.int .i64 kind,.string name,iy,iw]∧Rep w B (.row 1 (labels.flatMap aam)) iy∧Rep w B (.row 4 (kids.flatMap Ty.pd)) iw:=by
 rw[Ty.ji] at h;obtain⟨cs1,rfl,h1⟩:=h.ab2;obtain⟨cs2,rfl,h2⟩:=h1.ab2;obtain⟨iy,cs3,rfl,dh,h3⟩:=h2.of_cons;obtain⟨iw,cs4,rfl,dn,h4⟩:=h3.of_cons;obtain rfl:=h4.of_nil;exact⟨_,_,rfl,dh,dn⟩
theorem Ty.close_ {w:World} {B:Nat} {kind:Int} {name:ByteArray} {labels:List ByteArray} {kids:List Ty} {iy:Value} {iw:Value} (dh:Rep w B (.row 1 (labels.flatMap aam)) iy) (dn:Rep w B (.row 4 (kids.flatMap Ty.pd)) iw):jq w B (Ty.pd ⟨kind,name,labels,kids⟩) [.int .i64 kind,.string name,iy,iw]:=by
 rw[Ty.ji];exact((jq.cons dh (jq.cons dn (jq.nil_))).lit _).lit _
theorem Ty.acv {w:World} {lo hi:Nat} {us:List Value} {kind:Int} {name:ByteArray} {labels:List ByteArray} {kids:List Ty} (h:LvC w lo hi (Ty.pd ⟨kind,name,labels,kids⟩) us):∃ jy jc jl l9 iq ku,us=[.int .i64 kind,.string name,.slice jy jc jl,.slice l9 iq ku]:=by
 rw[Ty.ji] at h;obtain⟨us1,rfl,h1⟩:=h.ap7;obtain⟨us2,rfl,h2⟩:=h1.ap7;obtain⟨jy,jc,jl,us3,rfl,h3⟩:=h2.ayh;obtain⟨l9,iq,ku,us4,rfl,h4⟩:=h3.ayh;obtain rfl:=h4.nil_;exact⟨_,_,_,_,_,_,rfl⟩
mutual
theorem Ty.fit:∀ t:Ty,PD.afx (Ty.pd t)
 | .mk kind name labels kids=>by rw[Ty.ji];simp only[PD.afx];exact⟨by rw[PD.fit];trivial,by rw[PD.fit];trivial,aop jo (by decide) (by decide) (fun t _=>bct t),aop Ty.ay (by decide) (by decide) (Ty.akp kids),trivial⟩
theorem Ty.akp:∀ ts:List Ty,∀ t ∈ ts,PD.afx (Ty.pd t)
 | [],x,hx=>absurd hx (by simp)
 | t ::r,x,hx=>(List.mem_cons.1 hx).elim (fun e=>e ▸ Ty.fit t) (fun h=>Ty.akp r x h)
end
structure Param where
 name:ByteArray
 typ:Ty
structure bcv where
 params:List Param
 result:Ty
 async:Bool
structure Fun where
 name:ByteArray
 typ:bcv
structure bsm where
 package:ByteArray
 name:ByteArray
 version:ByteArray
 resources:List ByteArray
 funcs:List Fun
structure Wld where
 package:ByteArray
 name:ByteArray
 version:ByteArray
 imports:List bsm
 exports:List bsm
structure Ins where
 op:Int
 a:Int
structure Imp where
 name:ByteArray
 params:Int
 result:Bool
structure Core where
 name:ByteArray
 params:Int
 locals:Int
 result:Bool
 code:List Ins
structure Mod where
 pages:Int
 imports:List Imp
 cores:List Core
inductive Val where
 | mk (kind:Int) (num:Int) (text:ByteArray) (kids:List Val)
mutual
def Val.pd:Val→List PD
 | .mk kind num text kids=>[.lit (.int .i64 kind),.lit (.int .i64 num),.lit (.string text),.row 4 (Val.pdS kids)]
def Val.pdS:List Val→List PD
 | []=>[]
 | t ::r=>Val.pd t ++Val.pdS r
end
theorem Val.al6:∀ ts:List Val,Val.pdS ts=ts.flatMap Val.pd
 | []=>by rw[Val.pdS];rfl
 | t ::r=>by rw[Val.pdS,Val.al6 r,List.flatMap_cons]
theorem Val.ji (kind:Int) (num:Int) (text:ByteArray) (kids:List Val):Val.pd ⟨kind,num,text,kids⟩=[.lit (.int .i64 kind),.lit (.int .i64 num),.lit (.string text),.row 4 (kids.flatMap Val.pd)]:=by rw[Val.pd,Val.al6]
theorem Val.ay (t:Val):(Val.pd t).length=4:=by obtain⟨kind,num,text,kids⟩:=t;rw[Val.ji];rfl
theorem Val.open_ {w:World} {B:Nat} {cs:List Value} {kind:Int} {num:Int} {text:ByteArray} {kids:List Val} (h:jq w B (Val.pd ⟨kind,num,text,kids⟩) cs):∃ iw,cs=[.int .i64 kind,.int .i64 num,.string text,iw]∧Rep w B (.row 4 (kids.flatMap Val.pd)) iw:=by
 rw[Val.ji] at h;obtain⟨cs1,rfl,h1⟩:=h.ab2;obtain⟨cs2,rfl,h2⟩:=h1.ab2;obtain⟨cs3,rfl,h3⟩:=h2.ab2;obtain⟨iw,cs4,rfl,dn,h4⟩:=h3.of_cons;obtain rfl:=h4.of_nil;exact⟨_,rfl,dn⟩
theorem Val.close_ {w:World} {B:Nat} {kind:Int} {num:Int} {text:ByteArray} {kids:List Val} {iw:Value} (dn:Rep w B (.row 4 (kids.flatMap Val.pd)) iw):jq w B (Val.pd ⟨kind,num,text,kids⟩) [.int .i64 kind,.int .i64 num,.string text,iw]:=by
 rw[Val.ji];exact(((jq.cons dn (jq.nil_)).lit _).lit _).lit _
theorem Val.acv {w:World} {lo hi:Nat} {us:List Value} {kind:Int} {num:Int} {text:ByteArray} {kids:List Val} (h:LvC w lo hi (Val.pd ⟨kind,num,text,kids⟩) us):∃ l9 iq ku,us=[.int .i64 kind,.int .i64 num,.string text,.slice l9 iq ku]:=by
 rw[Val.ji] at h;obtain⟨us1,rfl,h1⟩:=h.ap7;obtain⟨us2,rfl,h2⟩:=h1.ap7;obtain⟨us3,rfl,h3⟩:=h2.ap7;obtain⟨l9,iq,ku,us4,rfl,h4⟩:=h3.ayh;obtain rfl:=h4.nil_;exact⟨_,_,_,rfl⟩
mutual
theorem Val.fit:∀ t:Val,PD.afx (Val.pd t)
 | .mk kind num text kids=>by rw[Val.ji];simp only[PD.afx];exact⟨by rw[PD.fit];trivial,by rw[PD.fit];trivial,by rw[PD.fit];trivial,aop Val.ay (by decide) (by decide) (Val.akp kids),trivial⟩
theorem Val.akp:∀ ts:List Val,∀ t ∈ ts,PD.afx (Val.pd t)
 | [],x,hx=>absurd hx (by simp)
 | t ::r,x,hx=>(List.mem_cons.1 hx).elim (fun e=>e ▸ Val.fit t) (fun h=>Val.akp r x h)
end
inductive Move where
 | mk (kind:Int) (at_:Int) (size:Int) (align:Int) (typ:Int) (most:Int) (name:ByteArray) (kids:List (List Move))
mutual
def Move.pd:Move→List PD
 | .mk kind at_ size align typ most name kids=>[.lit (.int .i64 kind),.lit (.int .i64 at_),.lit (.int .i64 size),.lit (.int .i64 align),.lit (.int .i64 typ),.lit (.int .i64 most),.lit (.string name),.row 1 (Move.ayi kids)]
def Move.pdS:List Move→List PD
 | []=>[]
 | t ::r=>Move.pd t ++Move.pdS r
def Move.ayi:List (List Move)→List PD
 | []=>[]
 | t ::r=>.row 8 (Move.pdS t) ::Move.ayi r
end
theorem Move.al6:∀ ts:List Move,Move.pdS ts=ts.flatMap Move.pd
 | []=>by rw[Move.pdS];rfl
 | t ::r=>by rw[Move.pdS,Move.al6 r,List.flatMap_cons]
def akq (ts:List Move):List PD:=[.row 8 (ts.flatMap Move.pd)]
theorem asq (ts:List Move):(akq ts).length=1:=rfl
theorem Move.a1c:∀ ts:List (List Move),Move.ayi ts=ts.flatMap akq
 | []=>by rw[Move.ayi];rfl
 | t ::r=>by rw[Move.ayi,Move.a1c r,List.flatMap_cons];rw[akq,Move.al6];rfl
theorem Move.ji (kind:Int) (at_:Int) (size:Int) (align:Int) (typ:Int) (most:Int) (name:ByteArray) (kids:List (List Move)):Move.pd ⟨kind,at_,size,align,typ,most,name,kids⟩=[.lit (.int .i64 kind),.lit (.int .i64 at_),.lit (.int .i64 size),.lit (.int .i64 align),.lit (.int .i64 typ),.lit (.int .i64 most),.lit (.string name),.row 1 (kids.flatMap akq)]:=by rw[Move.pd,Move.a1c]
theorem Move.ay (t:Move):(Move.pd t).length=8:=by obtain⟨kind,at_,size,align,typ,most,name,kids⟩:=t;rw[Move.ji];rfl
mutual
theorem Move.fit:∀ t:Move,PD.afx (Move.pd t)
 | .mk kind at_ size align typ most name kids=>by rw[Move.ji];simp only[PD.afx];exact⟨by rw[PD.fit];trivial,by rw[PD.fit];trivial,by rw[PD.fit];trivial,by rw[PD.fit];trivial,by rw[PD.fit];trivial,by rw[PD.fit];trivial,by rw[PD.fit];trivial,aop asq (by decide) (by decide) (Move.ayj kids),trivial⟩
theorem Move.akp:∀ ts:List Move,∀ t ∈ ts,PD.afx (Move.pd t)
 | [],x,hx=>absurd hx (by simp)
 | t ::r,x,hx=>(List.mem_cons.1 hx).elim (fun e=>e ▸ Move.fit t) (fun h=>Move.akp r x h)
theorem Move.ayj:∀ ts:List (List Move),∀ t ∈ ts,PD.afx (akq t)
 | [],x,hx=>absurd hx (by simp)
 | t ::r,x,hx=>(List.mem_cons.1 hx).elim (fun e=>by rw[e];simp only[akq,PD.afx];exact⟨aop Move.ay (by decide) (by decide) (Move.akp t),trivial⟩) (fun h=>Move.ayj r x h)
end
structure Plan where
 types:List Ty
 from_:Int
 to_:Int
 flat:List Move
 mem:List Move
structure Section where
 id:Int
 name:ByteArray
 bytes:ByteArray
structure Reason where
 kind:Int
 at_:ByteArray
structure CodeBlock where
 at_:Int
 els:Int
 end_:Int
 height:Int
 result:Bool
structure Token where
 kind:Int
 text:ByteArray
 line:Int
end Go.Proofs.YtfpannkadjdnaaaGreatDoor
namespace Go.Proofs.YtfpannkadjdnaaaGreatDoor
open Go.RowKit
set_option linter.all false
set_option maxRecDepth 100000
open Go.ChangeShapes Go.WideShapes Go.ChangeAt
def aub:Dom:=
 (2,[.int]) ::
 (9,[.str]) ::
 (4,[.bool]) ::
 (96,[.sl 2]) ::
 (25,[.sl 9]) ::
 (26,[.sl 28]) ::
 (28,[.int,.str,.sl 9,.sl 28]) ::
 (22,[.sl 24]) ::
 (24,[.int,.int,.str,.sl 24]) ::
 []
theorem a4u:bcs Tryz.prog aub=true:=by kernel_rfl
abbrev al7:Nat→List TyC:=aub.env
theorem bcw {ds:List PD} (h:ajk al7 ds [.str]):∃ t,ds=aam t:=by
 obtain⟨h1,h2⟩:=h
 match ds,h1 with
 | [d],_=>obtain⟨n,rfl,_⟩:=asn (h2 0 _ _ rfl rfl);exact⟨n,rfl⟩
theorem Ty.avc:∀ (N:Nat) (ds:List PD),(∀ d ∈ ds,SizeOf.sizeOf d < N∧d.whole)→ajk al7 ds [.int,.str,.sl 9,.sl 28]→∃ t:Ty,ds=Ty.pd t:=by
 intro N
 induction N with
 | zero=>
  intro ds hs h;obtain⟨h1,_⟩:=h
  match ds,h1 with
  | d ::_,_=>exact absurd (hs d (by simp)).1 (by omega)
 | succ N ih=>
  intro ds hs h;obtain⟨h1,h2⟩:=h
  match ds,h1 with
  | [d0,d1,d2,d3],_=>
   obtain⟨kind,rfl,_⟩:=asl (h2 0 _ _ rfl rfl);obtain⟨name,rfl,_⟩:=asn (h2 1 _ _ rfl rfl);obtain⟨xs2,rfl,hx2⟩:=ava (h2 2 _ _ rfl rfl);obtain⟨hz2,hw2⟩:=hs (.row (al7 9).length xs2) (by simp);rw[PD.whole] at hw2;obtain⟨⟨n2,hn2⟩,b31⟩:=hw2;obtain⟨xs3,rfl,hx3⟩:=ava (h2 3 _ _ rfl rfl);obtain⟨hz3,hw3⟩:=hs (.row (al7 28).length xs3) (by simp);rw[PD.whole] at hw3;obtain⟨⟨n3,hn3⟩,bcx⟩:=hw3
   obtain⟨labels,rfl⟩:∃ ts,xs2=List.flatMap aam ts:=by
    exact amu (pd:=aam) (cells:=[.str]) (by decide) n2 xs2 (fun ds _ h=>bcw h) hn2 hx2
   obtain⟨kids,rfl⟩:∃ ts,xs3=List.flatMap Ty.pd ts:=by
    exact amu (pd:=Ty.pd) (cells:=[.int,.str,.sl 9,.sl 28]) (by decide) n3 xs3 (fun ds hds h=>ih ds (fun d hd=>⟨(by have:=ar2 (n:=(al7 28).length) (hds d hd);omega),ao4 bcx _ (hds d hd)⟩) h) hn3 hx3
   exact⟨⟨kind,name,labels,kids⟩,by rw[Ty.ji]<;>rfl⟩
def avd (w:World) (v:Value):Prop:=∃ (t:Ty) (cs:List Value),v=.agg cs.toArray∧PD.wfL (Ty.pd t)∧jq w w.heap.size (Ty.pd t) cs
theorem argType {H:Type} {enc:TypeId×Value→H} {w:World} {base b0:Nat} {spare:Nat→Bool} {held:Bool} {r:Reach} {v:Value} {d:DataW H} {ps:List MemPlace} (hv:Value.okWide Tryz.prog w r b0 28 v) (h:DataW.Trod enc Tryz.prog w base spare held 28 v d ps):avd w v:=by
 obtain⟨cs,rfl,ds,hc,hr⟩:=ar1 (dom:=aub) Tryz.underlying28 a4u rfl hv h;obtain⟨t,rfl⟩:=Ty.avc _ ds (fun d hd=>⟨Nat.lt_succ_of_lt (List.sizeOf_lt_of_mem hd),hr.whole d hd⟩) hc;exact⟨t,cs,rfl,hc.wf,hr⟩
theorem Val.avc:∀ (N:Nat) (ds:List PD),(∀ d ∈ ds,SizeOf.sizeOf d < N∧d.whole)→ajk al7 ds [.int,.int,.str,.sl 24]→∃ t:Val,ds=Val.pd t:=by
 intro N
 induction N with
 | zero=>
  intro ds hs h;obtain⟨h1,_⟩:=h
  match ds,h1 with
  | d ::_,_=>exact absurd (hs d (by simp)).1 (by omega)
 | succ N ih=>
  intro ds hs h;obtain⟨h1,h2⟩:=h
  match ds,h1 with
  | [d0,d1,d2,d3],_=>
   obtain⟨kind,rfl,_⟩:=asl (h2 0 _ _ rfl rfl);obtain⟨num,rfl,_⟩:=asl (h2 1 _ _ rfl rfl);obtain⟨text,rfl,_⟩:=asn (h2 2 _ _ rfl rfl);obtain⟨xs3,rfl,hx3⟩:=ava (h2 3 _ _ rfl rfl);obtain⟨hz3,hw3⟩:=hs (.row (al7 24).length xs3) (by simp);rw[PD.whole] at hw3;obtain⟨⟨n3,hn3⟩,bcx⟩:=hw3
   obtain⟨kids,rfl⟩:∃ ts,xs3=List.flatMap Val.pd ts:=by
    exact amu (pd:=Val.pd) (cells:=[.int,.int,.str,.sl 24]) (by decide) n3 xs3 (fun ds hds h=>ih ds (fun d hd=>⟨(by have:=ar2 (n:=(al7 24).length) (hds d hd);omega),ao4 bcx _ (hds d hd)⟩) h) hn3 hx3
   exact⟨⟨kind,num,text,kids⟩,by rw[Val.ji]<;>rfl⟩
def ayk (w:World) (v:Value):Prop:=∃ (t:Val) (cs:List Value),v=.agg cs.toArray∧PD.wfL (Val.pd t)∧jq w w.heap.size (Val.pd t) cs
theorem argValue {H:Type} {enc:TypeId×Value→H} {w:World} {base b0:Nat} {spare:Nat→Bool} {held:Bool} {r:Reach} {v:Value} {d:DataW H} {ps:List MemPlace} (hv:Value.okWide Tryz.prog w r b0 24 v) (h:DataW.Trod enc Tryz.prog w base spare held 24 v d ps):ayk w v:=by
 obtain⟨cs,rfl,ds,hc,hr⟩:=ar1 (dom:=aub) Tryz.underlying24 a4u rfl hv h;obtain⟨t,rfl⟩:=Val.avc _ ds (fun d hd=>⟨Nat.lt_succ_of_lt (List.sizeOf_lt_of_mem hd),hr.whole d hd⟩) hc;exact⟨t,cs,rfl,hc.wf,hr⟩
end Go.Proofs.YtfpannkadjdnaaaGreatDoor
