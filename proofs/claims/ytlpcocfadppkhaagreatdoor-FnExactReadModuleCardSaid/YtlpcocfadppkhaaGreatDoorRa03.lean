/-
  The program's structs and their plain data (by program: tygen2.py). No program in sight.
  The laws' own helpers 'eq..' over the program's types (by program: tygen2.py, tyfam.py).
  laws.markText returns the mark's text.
-/
import Derived.Test.YtlpcocfadppkhaaGreatDoorRa02
import Derived.Test.YtlpcocfadppkhaaGreatDoorRows
import Derived.Laws.BytesArg
namespace Go.Proofs.YtlpcocfadppkhaaGreatDoor
open Go.RowKit
set_option linter.unusedVariables false
set_option linter.unusedSimpArgs false
set_option linter.unnecessarySimpa false
set_option maxRecDepth 100000
inductive Ty where
 | mk (kind:Int) (name:ByteArray) (labels:List ByteArray) (kids:List Ty)
structure Ins where
 op:Int
 a:Int
def Ins.pd (t:Ins):List PD:=[.lit (.int .i64 t.op),.lit (.int .i64 t.a)]
theorem Ins.aj (op:Int) (a:Int):Ins.pd ⟨op,a⟩=[.lit (.int .i64 op),.lit (.int .i64 a)]:=rfl
theorem Ins.au (t:Ins):(Ins.pd t).length=2:=by obtain⟨op,a⟩:=t;rw[Ins.aj];rfl
theorem Ins.open_ {w:World} {B:Nat} {cs:List Value} {op:Int} {a:Int} (h:jd w B (Ins.pd ⟨op,a⟩) cs):cs=[.int .i64 op,.int .i64 a]:=by
 rw[Ins.aj] at h
 obtain⟨cs1,rfl,h1⟩:=h.uo
 obtain⟨cs2,rfl,h2⟩:=h1.uo
 obtain rfl:=h2.of_nil
 exact rfl
theorem Ins.close_ {w:World} {B:Nat} {op:Int} {a:Int}:jd w B (Ins.pd ⟨op,a⟩) [.int .i64 op,.int .i64 a]:=by
 rw[Ins.aj]
 exact((jd.nil_).lit _).lit _
structure Imp where
 name:ByteArray
 params:Int
 result:Bool
def Imp.pd (t:Imp):List PD:=[.lit (.string t.name),.lit (.int .i64 t.params),.lit (.bool t.result)]
theorem Imp.aj (name:ByteArray) (params:Int) (result:Bool):Imp.pd ⟨name,params,result⟩=[.lit (.string name),.lit (.int .i64 params),.lit (.bool result)]:=rfl
theorem Imp.au (t:Imp):(Imp.pd t).length=3:=by obtain⟨name,params,result⟩:=t;rw[Imp.aj];rfl
theorem Imp.open_ {w:World} {B:Nat} {cs:List Value} {name:ByteArray} {params:Int} {result:Bool} (h:jd w B (Imp.pd ⟨name,params,result⟩) cs):cs=[.string name,.int .i64 params,.bool result]:=by
 rw[Imp.aj] at h
 obtain⟨cs1,rfl,h1⟩:=h.uo
 obtain⟨cs2,rfl,h2⟩:=h1.uo
 obtain⟨cs3,rfl,h3⟩:=h2.uo
 obtain rfl:=h3.of_nil
 exact rfl
theorem Imp.close_ {w:World} {B:Nat} {name:ByteArray} {params:Int} {result:Bool}:jd w B (Imp.pd ⟨name,params,result⟩) [.string name,.int .i64 params,.bool result]:=by
 rw[Imp.aj]
 exact(((jd.nil_).lit _).lit _).lit _
structure Core where
 name:ByteArray
 params:Int
 locals:Int
 result:Bool
 code:List Ins
def Core.pd (t:Core):List PD:=[.lit (.string t.name),.lit (.int .i64 t.params),.lit (.int .i64 t.locals),.lit (.bool t.result),.row 2 (t.code.flatMap Ins.pd)]
theorem Core.aj (name:ByteArray) (params:Int) (locals:Int) (result:Bool) (code:List Ins):Core.pd ⟨name,params,locals,result,code⟩=[.lit (.string name),.lit (.int .i64 params),.lit (.int .i64 locals),.lit (.bool result),.row 2 (code.flatMap Ins.pd)]:=rfl
theorem Core.au (t:Core):(Core.pd t).length=5:=by obtain⟨name,params,locals,result,code⟩:=t;rw[Core.aj];rfl
theorem Core.open_ {w:World} {B:Nat} {cs:List Value} {name:ByteArray} {params:Int} {locals:Int} {result:Bool} {code:List Ins} (h:jd w B (Core.pd ⟨name,params,locals,result,code⟩) cs):∃ yj,cs=[.string name,.int .i64 params,.int .i64 locals,.bool result,yj]∧Rep w B (.row 2 (code.flatMap Ins.pd)) yj:=by
 rw[Core.aj] at h
 obtain⟨cs1,rfl,h1⟩:=h.uo
 obtain⟨cs2,rfl,h2⟩:=h1.uo
 obtain⟨cs3,rfl,h3⟩:=h2.uo
 obtain⟨cs4,rfl,h4⟩:=h3.uo
 obtain⟨yj,cs5,rfl,qy,h5⟩:=h4.of_cons
 obtain rfl:=h5.of_nil
 exact⟨_,rfl,qy⟩
theorem Core.close_ {w:World} {B:Nat} {name:ByteArray} {params:Int} {locals:Int} {result:Bool} {code:List Ins} {yj:Value} (qy:Rep w B (.row 2 (code.flatMap Ins.pd)) yj):jd w B (Core.pd ⟨name,params,locals,result,code⟩) [.string name,.int .i64 params,.int .i64 locals,.bool result,yj]:=by
 rw[Core.aj]
 exact((((jd.cons qy (jd.nil_)).lit _).lit _).lit _).lit _
structure Mod where
 pages:Int
 imports:List Imp
 cores:List Core
def Mod.pd (t:Mod):List PD:=[.lit (.int .i64 t.pages),.row 3 (t.imports.flatMap Imp.pd),.row 5 (t.cores.flatMap Core.pd)]
theorem Mod.aj (pages:Int) (imports:List Imp) (cores:List Core):Mod.pd ⟨pages,imports,cores⟩=[.lit (.int .i64 pages),.row 3 (imports.flatMap Imp.pd),.row 5 (cores.flatMap Core.pd)]:=rfl
theorem Mod.open_ {w:World} {B:Nat} {cs:List Value} {pages:Int} {imports:List Imp} {cores:List Core} (h:jd w B (Mod.pd ⟨pages,imports,cores⟩) cs):∃ jm ng,cs=[.int .i64 pages,jm,ng]∧Rep w B (.row 3 (imports.flatMap Imp.pd)) jm∧Rep w B (.row 5 (cores.flatMap Core.pd)) ng:=by
 rw[Mod.aj] at h
 obtain⟨cs1,rfl,h1⟩:=h.uo
 obtain⟨jm,cs2,rfl,gq,h2⟩:=h1.of_cons
 obtain⟨ng,cs3,rfl,je,h3⟩:=h2.of_cons
 obtain rfl:=h3.of_nil
 exact⟨_,_,rfl,gq,je⟩
theorem Mod.close_ {w:World} {B:Nat} {pages:Int} {imports:List Imp} {cores:List Core} {jm:Value} {ng:Value} (gq:Rep w B (.row 3 (imports.flatMap Imp.pd)) jm) (je:Rep w B (.row 5 (cores.flatMap Core.pd)) ng):jd w B (Mod.pd ⟨pages,imports,cores⟩) [.int .i64 pages,jm,ng]:=by
 rw[Mod.aj]
 exact(jd.cons gq (jd.cons je (jd.nil_))).lit _
theorem Mod.apo {w:World} {lo hi:Nat} {us:List Value} {pages:Int} {imports:List Imp} {cores:List Core} (h:LvC w lo hi (Mod.pd ⟨pages,imports,cores⟩) us):∃ ac7 ac8 ac9 aeb aec aed,us=[.int .i64 pages,.slice ac7 ac8 ac9,.slice aeb aec aed]:=by
 rw[Mod.aj] at h
 obtain⟨us1,rfl,h1⟩:=h.ajj
 obtain⟨ac7,ac8,ac9,us2,rfl,h2⟩:=h1.adr
 obtain⟨aeb,aec,aed,us3,rfl,h3⟩:=h2.adr
 obtain rfl:=h3.nil_
 exact⟨_,_,_,_,_,_,rfl⟩
set_option maxHeartbeats 1600000 in
theorem apq {op:Int} {a:Int}:EqC 87 (Ins.pd ⟨op,a⟩):=by
 intro B cs us w hB h h'
 obtain rfl:=Ins.open_ h
 obtain rfl:=Ins.open_ h'
 go_enter Tryz.func87,Tryz.ntmps87
 go_wp2_with fail
 go_ret
 exact⟨rfl,((Below.refl _ _).alloc (Nat.le_refl _) _).alloc (by simp) _⟩
theorem aqt (t:Ins):EqC 87 (Ins.pd t):=by obtain⟨op,a⟩:=t;exact apq
set_option maxHeartbeats 1600000 in
theorem al1 {name:ByteArray} {params:Int} {result:Bool}:EqC 43 (Imp.pd ⟨name,params,result⟩):=by
 intro B cs us w hB h h'
 obtain rfl:=Imp.open_ h
 obtain rfl:=Imp.open_ h'
 go_enter Tryz.func43,Tryz.ntmps43
 go_wp2_with fail
 go_ret
 exact⟨rfl,((Below.refl _ _).alloc (Nat.le_refl _) _).alloc (by simp) _⟩
theorem ami (t:Imp):EqC 43 (Imp.pd t):=by obtain⟨name,params,result⟩:=t;exact al1
set_option maxHeartbeats 1600000 in
theorem aod {ts:List Ins} (ih:∀ t ∈ ts,EqC 87 (Ins.pd t)):EqR 68 (.row 2 (ts.flatMap Ins.pd)):=by
 intro B v u w hB h h'
 obtain⟨A,n,c,rfl,hnl,hm,hat⟩:=jr Ins.au (by decide) h
 obtain⟨A',n',c',rfl,aee,_,hat'⟩:=jr Ins.au (by decide) h'
 have hnn:n'=n:=by omega
 subst hnn
 unfold maxLen at hm
 have HN:=Lib.hid hnl
 have HI:=Lib.hid ih
 clear ih
 clear h h' hnl aee
 go_enter Tryz.func68,Tryz.ntmps68
 go_wp2_with fail
 go_loopw [5] (fun i wr=>∃ k:Nat,k≤n'∧i=.int .i64 k∧Below w.heap.size w wr) (fun i _=>n' - (intOf i).toNat)
 case atStart=>exact⟨0,Nat.zero_le _,rfl,Below.refl _ _⟩
 case round=>
  obtain⟨k,hk,rfl,hbr⟩:=hrel
  by_cases hlt:k < n'
  ·obtain⟨g,off,rfl,hg,hcell⟩:=hat (by omega)
   obtain⟨g',off',rfl,hg',hcell'⟩:=hat' (by omega)
   obtain⟨t,hx,hmem⟩:=l7 HN.out hlt
   obtain⟨op,a⟩:=t
   have c0:wr.cell? ⟨g,off+k * 2,none⟩=some (.int .i64 op):=ak hbr (by omega) (hcell k 0 _ _ hx (by rw[Ins.aj];rfl))
   have c1:wr.cell? ⟨g,off+k * 2+1,none⟩=some (.int .i64 a):=ak hbr (by omega) (hcell k 1 _ _ hx (by rw[Ins.aj];rfl))
   have d0':wr.cell? ⟨g',off'+k * 2,none⟩=some (.int .i64 op):=ak hbr (by omega) (hcell' k 0 _ _ hx (by rw[Ins.aj];rfl))
   have d1':wr.cell? ⟨g',off'+k * 2+1,none⟩=some (.int .i64 a):=ak hbr (by omega) (hcell' k 1 _ _ hx (by rw[Ins.aj];rfl))
   have hlt':(k:Int) < (n':Int):=by omega
   have hgw:g < wr.heap.size:=by have:=hbr.size;omega
   have adu:g' < wr.heap.size:=by have:=hbr.size;omega
   have HM:=Lib.hid hmem
   have HBW:=Lib.hid (Nat.le_trans hB hbr.size)
   clear hx hcell hcell' hmem
   go_wp2_with fail
   have HC:=Lib.hid (HI.out _ HM.out B [.int .i64 op,.int .i64 a] [.int .i64 op,.int .i64 a] wr.drew HBW.out (Ins.close_) (Ins.close_))
   go_region_held3 (fun w'=>w'.cell? ⟨g,off+k * 2,none⟩=some (.int .i64 op)∧w'.cell? ⟨g,off+k * 2+1,none⟩=some (.int .i64 a)∧w'.cell? ⟨g',off'+k * 2,none⟩=some (.int .i64 op)∧w'.cell? ⟨g',off'+k * 2+1,none⟩=some (.int .i64 a))
    (first|go_keep|exact⟨(hbq.cell (p:=⟨g,off+k * 2,none⟩) hgw).trans c0,(hbq.cell (p:=⟨g,off+k * 2+1,none⟩) hgw).trans c1,(hbq.cell (p:=⟨g',off'+k * 2,none⟩) adu).trans d0',(hbq.cell (p:=⟨g',off'+k * 2+1,none⟩) adu).trans d1'⟩)
    (first|(go_at_call 87;refine HC.out.mono ?_;rintro e wq ⟨rfl,hbq⟩))
   have hbn:Below w.heap.size w wq:=hbr.drew.trans (hbq.mono hbr.size)
   clear hbq hbr c0 c1 d0' d1'
   go_wp2_with fail
   go_roundw
   case rel=>exact⟨k+1,by omega,by go_num,hbn⟩
   case measure=>simp[intOf];omega
  ·have hkn:k=n':=by omega
   subst hkn
   go_wp2_with fail
   go_ret
   exact⟨rfl,hbr⟩
theorem apr (ts:List Ins):EqR 68 (.row 2 (ts.flatMap Ins.pd)):=aod fun t _=>aqt t
set_option maxHeartbeats 1600000 in
theorem aoe {name:ByteArray} {params:Int} {locals:Int} {result:Bool} {code:List Ins} (auw:EqR 68 (.row 2 (code.flatMap Ins.pd))):EqC 44 (Core.pd ⟨name,params,locals,result,code⟩):=by
 intro B cs us w hB h h'
 obtain⟨yj,rfl,qy⟩:=Core.open_ h
 obtain⟨aef,rfl,aqu⟩:=Core.open_ h'
 have yu:=Lib.hid qy
 have axf:=Lib.hid aqu
 clear qy aqu
 go_enter Tryz.func44,Tryz.ntmps44
 go_wp2_with fail
 obtain⟨w0,hw0⟩:∃ w0,w0=(w.alloc (.cells #[.string name,.int .i64 params,.int .i64 locals,.bool result,yj] 36)).alloc (.cells #[.string name,.int .i64 params,.int .i64 locals,.bool result,aef] 36):=⟨_,rfl⟩
 rw[← hw0]
 have bA:Blk w0 w.heap.size 36 #[.string name,.int .i64 params,.int .i64 locals,.bool result,yj]:=by rw[hw0];exact(Blk.new w _ _).alloc _
 have bB:Blk w0 (w.heap.size+1) 36 #[.string name,.int .i64 params,.int .i64 locals,.bool result,aef]:=by rw[hw0];have:=Blk.new (w.alloc (.cells #[.string name,.int .i64 params,.int .i64 locals,.bool result,yj] 36)) 36 #[.string name,.int .i64 params,.int .i64 locals,.bool result,aef];simpa using this
 have hB0:Below w.heap.size w w0:=by rw[hw0];exact((Below.refl _ _).alloc (Nat.le_refl _) _).alloc (by simp) _
 clear hw0
 refine(auw B yj aef _ (by have:=hB0.size;omega) (yu.out.below (hB0.mono hB)) (axf.out.below (hB0.mono hB))).mono ?_
 rintro e w1 ⟨rfl,hb1⟩
 have hB1:=hB0.trans (hb1.mono hB0.size)
 replace bA:=bA.step hb1
 replace bB:=bB.step hb1
 go_wp2_with fail
 go_ret
 exact⟨rfl,hB1⟩
theorem aps (t:Core):EqC 44 (Core.pd t):=by obtain⟨name,params,locals,result,code⟩:=t;exact aoe (apr code)
set_option maxHeartbeats 1600000 in
theorem akl {ts:List Imp} (ih:∀ t ∈ ts,EqC 43 (Imp.pd t)):EqR 18 (.row 3 (ts.flatMap Imp.pd)):=by
 intro B v u w hB h h'
 obtain⟨A,n,c,rfl,hnl,hm,hat⟩:=jr Imp.au (by decide) h
 obtain⟨A',n',c',rfl,aee,_,hat'⟩:=jr Imp.au (by decide) h'
 have hnn:n'=n:=by omega
 subst hnn
 unfold maxLen at hm
 have HN:=Lib.hid hnl
 have HI:=Lib.hid ih
 clear ih
 clear h h' hnl aee
 go_enter Tryz.func18,Tryz.ntmps18
 go_wp2_with fail
 go_loopw [5] (fun i wr=>∃ k:Nat,k≤n'∧i=.int .i64 k∧Below w.heap.size w wr) (fun i _=>n' - (intOf i).toNat)
 case atStart=>exact⟨0,Nat.zero_le _,rfl,Below.refl _ _⟩
 case round=>
  obtain⟨k,hk,rfl,hbr⟩:=hrel
  by_cases hlt:k < n'
  ·obtain⟨g,off,rfl,hg,hcell⟩:=hat (by omega)
   obtain⟨g',off',rfl,hg',hcell'⟩:=hat' (by omega)
   obtain⟨t,hx,hmem⟩:=l7 HN.out hlt
   obtain⟨name,params,result⟩:=t
   have c0:wr.cell? ⟨g,off+k * 3,none⟩=some (.string name):=ak hbr (by omega) (hcell k 0 _ _ hx (by rw[Imp.aj];rfl))
   have c1:wr.cell? ⟨g,off+k * 3+1,none⟩=some (.int .i64 params):=ak hbr (by omega) (hcell k 1 _ _ hx (by rw[Imp.aj];rfl))
   have c2:wr.cell? ⟨g,off+k * 3+2,none⟩=some (.bool result):=ak hbr (by omega) (hcell k 2 _ _ hx (by rw[Imp.aj];rfl))
   have d0':wr.cell? ⟨g',off'+k * 3,none⟩=some (.string name):=ak hbr (by omega) (hcell' k 0 _ _ hx (by rw[Imp.aj];rfl))
   have d1':wr.cell? ⟨g',off'+k * 3+1,none⟩=some (.int .i64 params):=ak hbr (by omega) (hcell' k 1 _ _ hx (by rw[Imp.aj];rfl))
   have d2':wr.cell? ⟨g',off'+k * 3+2,none⟩=some (.bool result):=ak hbr (by omega) (hcell' k 2 _ _ hx (by rw[Imp.aj];rfl))
   have hlt':(k:Int) < (n':Int):=by omega
   have hgw:g < wr.heap.size:=by have:=hbr.size;omega
   have adu:g' < wr.heap.size:=by have:=hbr.size;omega
   have HM:=Lib.hid hmem
   have HBW:=Lib.hid (Nat.le_trans hB hbr.size)
   clear hx hcell hcell' hmem
   go_wp2_with fail
   have HC:=Lib.hid (HI.out _ HM.out B [.string name,.int .i64 params,.bool result] [.string name,.int .i64 params,.bool result] wr.drew HBW.out (Imp.close_) (Imp.close_))
   go_region_held3 (fun w'=>w'.cell? ⟨g,off+k * 3,none⟩=some (.string name)∧w'.cell? ⟨g,off+k * 3+1,none⟩=some (.int .i64 params)∧w'.cell? ⟨g,off+k * 3+2,none⟩=some (.bool result)∧w'.cell? ⟨g',off'+k * 3,none⟩=some (.string name)∧w'.cell? ⟨g',off'+k * 3+1,none⟩=some (.int .i64 params)∧w'.cell? ⟨g',off'+k * 3+2,none⟩=some (.bool result))
    (first|go_keep|exact⟨(hbq.cell (p:=⟨g,off+k * 3,none⟩) hgw).trans c0,(hbq.cell (p:=⟨g,off+k * 3+1,none⟩) hgw).trans c1,(hbq.cell (p:=⟨g,off+k * 3+2,none⟩) hgw).trans c2,(hbq.cell (p:=⟨g',off'+k * 3,none⟩) adu).trans d0',(hbq.cell (p:=⟨g',off'+k * 3+1,none⟩) adu).trans d1',(hbq.cell (p:=⟨g',off'+k * 3+2,none⟩) adu).trans d2'⟩)
    (first|(go_at_call 43;refine HC.out.mono ?_;rintro e wq ⟨rfl,hbq⟩))
   have hbn:Below w.heap.size w wq:=hbr.drew.trans (hbq.mono hbr.size)
   clear hbq hbr c0 c1 c2 d0' d1' d2'
   go_wp2_with fail
   go_roundw
   case rel=>exact⟨k+1,by omega,by go_num,hbn⟩
   case measure=>simp[intOf];omega
  ·have hkn:k=n':=by omega
   subst hkn
   go_wp2_with fail
   go_ret
   exact⟨rfl,hbr⟩
theorem al2 (ts:List Imp):EqR 18 (.row 3 (ts.flatMap Imp.pd)):=akl fun t _=>ami t
set_option maxHeartbeats 1600000 in
theorem amj {ts:List Core} (ih:∀ t ∈ ts,EqC 44 (Core.pd t)):EqR 19 (.row 5 (ts.flatMap Core.pd)):=by
 intro B v u w hB h h'
 obtain⟨A,n,c,rfl,hnl,hm,hat⟩:=jr Core.au (by decide) h
 obtain⟨A',n',c',rfl,aee,_,hat'⟩:=jr Core.au (by decide) h'
 have hnn:n'=n:=by omega
 subst hnn
 unfold maxLen at hm
 have HN:=Lib.hid hnl
 have HI:=Lib.hid ih
 clear ih
 clear h h' hnl aee
 go_enter Tryz.func19,Tryz.ntmps19
 go_wp2_with fail
 go_loopw [5] (fun i wr=>∃ k:Nat,k≤n'∧i=.int .i64 k∧Below w.heap.size w wr) (fun i _=>n' - (intOf i).toNat)
 case atStart=>exact⟨0,Nat.zero_le _,rfl,Below.refl _ _⟩
 case round=>
  obtain⟨k,hk,rfl,hbr⟩:=hrel
  by_cases hlt:k < n'
  ·obtain⟨g,off,rfl,hg,hcell⟩:=hat (by omega)
   obtain⟨g',off',rfl,hg',hcell'⟩:=hat' (by omega)
   obtain⟨t,hx,hmem⟩:=l7 HN.out hlt
   obtain⟨name,params,locals,result,code⟩:=t
   have c0:wr.cell? ⟨g,off+k * 5,none⟩=some (.string name):=ak hbr (by omega) (hcell k 0 _ _ hx (by rw[Core.aj];rfl))
   have c1:wr.cell? ⟨g,off+k * 5+1,none⟩=some (.int .i64 params):=ak hbr (by omega) (hcell k 1 _ _ hx (by rw[Core.aj];rfl))
   have c2:wr.cell? ⟨g,off+k * 5+2,none⟩=some (.int .i64 locals):=ak hbr (by omega) (hcell k 2 _ _ hx (by rw[Core.aj];rfl))
   have c3:wr.cell? ⟨g,off+k * 5+3,none⟩=some (.bool result):=ak hbr (by omega) (hcell k 3 _ _ hx (by rw[Core.aj];rfl))
   obtain⟨yj,c4,hr4⟩:∃ u,wr.cell? ⟨g,off+k * 5+4,none⟩=some u∧Rep wr B (.row 2 (code.flatMap Ins.pd)) u:=abh hbr (by omega) hB (hcell k 4 _ _ hx (by rw[Core.aj];rfl))
   have HR4:=Lib.hid hr4
   clear hr4
   have d0':wr.cell? ⟨g',off'+k * 5,none⟩=some (.string name):=ak hbr (by omega) (hcell' k 0 _ _ hx (by rw[Core.aj];rfl))
   have d1':wr.cell? ⟨g',off'+k * 5+1,none⟩=some (.int .i64 params):=ak hbr (by omega) (hcell' k 1 _ _ hx (by rw[Core.aj];rfl))
   have d2':wr.cell? ⟨g',off'+k * 5+2,none⟩=some (.int .i64 locals):=ak hbr (by omega) (hcell' k 2 _ _ hx (by rw[Core.aj];rfl))
   have d3':wr.cell? ⟨g',off'+k * 5+3,none⟩=some (.bool result):=ak hbr (by omega) (hcell' k 3 _ _ hx (by rw[Core.aj];rfl))
   obtain⟨aef,d4',axg⟩:∃ u,wr.cell? ⟨g',off'+k * 5+4,none⟩=some u∧Rep wr B (.row 2 (code.flatMap Ins.pd)) u:=abh hbr (by omega) hB (hcell' k 4 _ _ hx (by rw[Core.aj];rfl))
   have a0j:=Lib.hid axg
   clear axg
   have hlt':(k:Int) < (n':Int):=by omega
   have hgw:g < wr.heap.size:=by have:=hbr.size;omega
   have adu:g' < wr.heap.size:=by have:=hbr.size;omega
   have HM:=Lib.hid hmem
   have HBW:=Lib.hid (Nat.le_trans hB hbr.size)
   clear hx hcell hcell' hmem
   go_wp2_with fail
   have HC:=Lib.hid (HI.out _ HM.out B [.string name,.int .i64 params,.int .i64 locals,.bool result,yj] [.string name,.int .i64 params,.int .i64 locals,.bool result,aef] wr.drew HBW.out (Core.close_ HR4.out.drew) (Core.close_ a0j.out.drew))
   go_region_held3 (fun w'=>w'.cell? ⟨g,off+k * 5,none⟩=some (.string name)∧w'.cell? ⟨g,off+k * 5+1,none⟩=some (.int .i64 params)∧w'.cell? ⟨g,off+k * 5+2,none⟩=some (.int .i64 locals)∧w'.cell? ⟨g,off+k * 5+3,none⟩=some (.bool result)∧w'.cell? ⟨g,off+k * 5+4,none⟩=some (yj)∧w'.cell? ⟨g',off'+k * 5,none⟩=some (.string name)∧w'.cell? ⟨g',off'+k * 5+1,none⟩=some (.int .i64 params)∧w'.cell? ⟨g',off'+k * 5+2,none⟩=some (.int .i64 locals)∧w'.cell? ⟨g',off'+k * 5+3,none⟩=some (.bool result)∧w'.cell? ⟨g',off'+k * 5+4,none⟩=some (aef))
    (first|go_keep|exact⟨(hbq.cell (p:=⟨g,off+k * 5,none⟩) hgw).trans c0,(hbq.cell (p:=⟨g,off+k * 5+1,none⟩) hgw).trans c1,(hbq.cell (p:=⟨g,off+k * 5+2,none⟩) hgw).trans c2,(hbq.cell (p:=⟨g,off+k * 5+3,none⟩) hgw).trans c3,(hbq.cell (p:=⟨g,off+k * 5+4,none⟩) hgw).trans c4,(hbq.cell (p:=⟨g',off'+k * 5,none⟩) adu).trans d0',(hbq.cell (p:=⟨g',off'+k * 5+1,none⟩) adu).trans d1',(hbq.cell (p:=⟨g',off'+k * 5+2,none⟩) adu).trans d2',(hbq.cell (p:=⟨g',off'+k * 5+3,none⟩) adu).trans d3',(hbq.cell (p:=⟨g',off'+k * 5+4,none⟩) adu).trans d4'⟩)
    (first|(go_at_call 44;refine HC.out.mono ?_;rintro e wq ⟨rfl,hbq⟩))
   have hbn:Below w.heap.size w wq:=hbr.drew.trans (hbq.mono hbr.size)
   clear hbq hbr c0 c1 c2 c3 c4 d0' d1' d2' d3' d4'
   go_wp2_with fail
   go_roundw
   case rel=>exact⟨k+1,by omega,by go_num,hbn⟩
   case measure=>simp[intOf];omega
  ·have hkn:k=n':=by omega
   subst hkn
   go_wp2_with fail
   go_ret
   exact⟨rfl,hbr⟩
theorem aof (ts:List Core):EqR 19 (.row 5 (ts.flatMap Core.pd)):=amj fun t _=>aps t
set_option maxHeartbeats 1600000 in
theorem al3 {pages:Int} {imports:List Imp} {cores:List Core} (acu:EqR 18 (.row 3 (imports.flatMap Imp.pd))) (aeg:EqR 19 (.row 5 (cores.flatMap Core.pd))):EqC 6 (Mod.pd ⟨pages,imports,cores⟩):=by
 intro B cs us w hB h h'
 obtain⟨jm,ng,rfl,gq,je⟩:=Mod.open_ h
 obtain⟨ae5,afk,rfl,alg,aoz⟩:=Mod.open_ h'
 have tu:=Lib.hid gq
 have aqv:=Lib.hid alg
 clear gq alg
 have y5:=Lib.hid je
 have auy:=Lib.hid aoz
 clear je aoz
 go_enter Tryz.func6,Tryz.ntmps6
 go_wp2_with fail
 obtain⟨w0,hw0⟩:∃ w0,w0=(w.alloc (.cells #[.int .i64 pages,jm,ng] 25)).alloc (.cells #[.int .i64 pages,ae5,afk] 25):=⟨_,rfl⟩
 rw[← hw0]
 have bA:Blk w0 w.heap.size 25 #[.int .i64 pages,jm,ng]:=by rw[hw0];exact(Blk.new w _ _).alloc _
 have bB:Blk w0 (w.heap.size+1) 25 #[.int .i64 pages,ae5,afk]:=by rw[hw0];have:=Blk.new (w.alloc (.cells #[.int .i64 pages,jm,ng] 25)) 25 #[.int .i64 pages,ae5,afk];simpa using this
 have hB0:Below w.heap.size w w0:=by rw[hw0];exact((Below.refl _ _).alloc (Nat.le_refl _) _).alloc (by simp) _
 clear hw0
 refine(acu B jm ae5 _ (by have:=hB0.size;omega) (tu.out.below (hB0.mono hB)) (aqv.out.below (hB0.mono hB))).mono ?_
 rintro e w1 ⟨rfl,hb1⟩
 have hB1:=hB0.trans (hb1.mono hB0.size)
 replace bA:=bA.step hb1
 replace bB:=bB.step hb1
 have a0k:w1.cell? ⟨w.heap.size,2,none⟩=some (ng):=bA.cell 2
 have a6u:w1.cell? ⟨w.heap.size+1,2,none⟩=some (afk):=bB.cell 2
 go_wp2_with fail
 refine(aeg B ng afk _ (by have:=hB1.size;omega) (y5.out.below (hB1.mono hB)) (auy.out.below (hB1.mono hB))).mono ?_
 rintro e w2 ⟨rfl,hb2⟩
 have hB2:=hB1.trans (hb2.mono hB1.size)
 replace bA:=bA.step hb2
 replace bB:=bB.step hb2
 go_wp2_with fail
 go_ret
 exact⟨rfl,hB2⟩
theorem ag3 (t:Mod):EqC 6 (Mod.pd t):=by obtain⟨pages,imports,cores⟩:=t;exact al3 (al2 imports) (aof cores)
end Go.Proofs.YtlpcocfadppkhaaGreatDoor
namespace Go.Proofs.YtlpcocfadppkhaaGreatDoor
open Go.RowKit
set_option linter.unusedVariables false
set_option linter.unusedSimpArgs false
set_option linter.unnecessarySimpa false
theorem auz (w:World) (xs:List Int) (n:Nat) (C:Array Value) (hn:xs.length=n) (hC:C=(xs.map (Value.int .u8)).toArray):
  (convert 74 9 (.slice (some ⟨w.heap.size,0,none⟩) n n)).run Tryz.prog (w.alloc (.cells C 5))=.ok (.string (strOfNums xs)) (w.alloc (.cells C 5)):=by
 subst hC
 refine run_convert_bytes_arg _ _ _ Tryz.underlying74 Tryz.underlying5 _ 0 n n xs hn (fun i hi=>?_) _ Tryz.underlying9
 refine(Blk.cell (Blk.new w 5 _) (0+i)).trans ?_
 have:i < xs.length:=by omega
 simp[this]
theorem ah6 (a b:List Int):strOfNums a ++strOfNums b=strOfNums (a ++b):=by
 apply ByteArray.ext
 simp[strOfNums,ByteArray.data_append]
theorem adz (a:List Int):(strOfNums a).size=a.length:=by simp[strOfNums,ByteArray.size]
set_option maxHeartbeats 800000 in
theorem acv (k:Int) (w:World) (h0:0≤k) (h1:k≤1099511627776):
  Calls Tryz.prog 45 #[.int .i64 k] w fun e w'=>e=.returned (.string (markT k))∧Below w.heap.size w w':=by
 by_cases hk:k≤0
 ·have HK:Hid (markT k=strOfNums [109,48]):=by show _=_;rw[markT,if_pos hk]
  go_enter Tryz.func45,Tryz.ntmps45
  go_wp2_with fail
  go_ret
  exact⟨aa2 HK.out.symm,Below.refl _ _⟩
 ·obtain⟨n,rfl⟩:=Int.eq_ofNat_of_zero_le h0
  have HK:Hid (markT (n:Int)=strOfNums (109 ::aff n [])):=by show _=_;rw[markT,if_neg hk];rfl
  have hn:0 < n:=by omega
  have hn1:n≤1099511627776:=by omega
  clear h0 h1
  go_enter Tryz.func45,Tryz.ntmps45
  go_wp2_with fail
  go_loopw [0,3] (fun kk o wr=>∃ (m:Nat) (l:List Int),kk=.int .i64 m∧o=.string (strOfNums l)∧Hid (aff m l=aff n [])∧l.length+m≤n∧Below w.heap.size w wr) (fun kk _ _=>(intOf kk).toNat)
  case atStart=>exact⟨n,[],rfl,rfl,Lib.hid rfl,by simp,Below.refl _ _⟩
  case round=>
   obtain⟨m,l,rfl,rfl,HD,hl,hb⟩:=hrel
   have hsz:=adz l
   have HZ:=Lib.hid hsz
   by_cases hm:0 < m
   ·have k1:=auz wr [48+(m:Int) % 10] 1 #[.int .u8 (48+(m:Int) % 10)] rfl rfl
    have e1:IntKind.u8.wrap (48+(m:Int) % 10)=48+(m:Int) % 10:=by rw[IntKind.wrap_u8];omega
    have hs1:(strOfNums [48+(m:Int) % 10]).size≤4:=by rw[adz];simp
    have hs2:(strOfNums l).size≤1099511627776:=by rw[adz];omega
    clear hsz
    go_wp2_with fail
    go_roundw
    case rel=>exact⟨m / 10,(48+(m:Int) % 10) ::l,by go_num,by rw[ah6];rfl,Lib.hid (by rw[← HD.out,aqr hm l];simp),by simp;omega,(hb.alloc hb.size _)⟩
    case measure=>simp[intOf];omega
   ·have hm0:m=0:=by omega
    subst hm0
    have hs2:(strOfNums l).size≤1099511627776:=by rw[adz];omega
    clear hsz
    go_wp2_with fail
    go_ret
    refine⟨aa2 ?_,hb⟩
    rw[HK.out,← HD.out,aqp,show(109:Int) ::l=[109] ++l from rfl,← ah6]
    rfl
end Go.Proofs.YtlpcocfadppkhaaGreatDoor
