/-
  Types as data: what it means that one is right. No program in sight. (and 2 more texts)
-/
import Derived.Test.YtbafphecjijdmaaGreatDoorUb05
import Derived.Test.YtbafphecjijdmaaGreatDoorUb01
import Derived.Test.YtbafphecjijdmaaGreatDoorUb04
import Derived.Laws.StructEq
namespace Go.Proofs.YtbafphecjijdmaaGreatDoor
set_option linter.all false
def Ty.kind:Ty→Int|.mk k _ _ _=>k
def Ty.name:Ty→ByteArray|.mk _ n _ _=>n
def Ty.kids:Ty→List Ty|.mk _ _ _ k=>k
mutual
def Ty.has (lo hi:Int):Ty→Bool
 | .mk kind _ _ kids=>inB kind lo hi ||Ty.bdr lo hi kids
def Ty.bdr (lo hi:Int):List Ty→Bool
 | []=>false
 | t ::r=>t.has lo hi ||Ty.bdr lo hi r
end
theorem a1t (lo hi:Int):∀ ts:List Ty,Ty.bdr lo hi ts=ts.any (Ty.has lo hi)
 | []=>rfl
 | t ::r=>by rw[Ty.bdr,a1t lo hi r,List.any_cons]
mutual
def Ty.height:Ty→Nat
 | .mk _ _ _ kids=>Ty.agb kids+1
def Ty.agb:List Ty→Nat
 | []=>0
 | t ::r=>max t.height (Ty.agb r)
end
mutual
def Ty.parts:Ty→Nat
 | .mk _ _ _ kids=>Ty.adh kids+1
def Ty.adh:List Ty→Nat
 | []=>0
 | t ::r=>t.parts+Ty.adh r
end
theorem apx (t:Ty):1≤t.height:=by cases t;rw[Ty.height];omega
theorem bf5 (t:Ty):1≤t.parts:=by cases t;rw[Ty.parts];omega
theorem aog:∀ (xs ys:List Ty),Ty.agb (xs ++ys)=max (Ty.agb xs) (Ty.agb ys)
 | [],ys=>by simp[Ty.agb]
 | x ::xs,ys=>by simp[Ty.agb,aog xs ys,Nat.max_assoc]
theorem apk:∀ (xs ys:List Ty),Ty.adh (xs ++ys)=Ty.adh xs+Ty.adh ys
 | [],ys=>by simp[Ty.adh]
 | x ::xs,ys=>by simp[Ty.adh,apk xs ys];omega
theorem ava {ts:List Ty} {k:Nat} {t:Ty} (h:ts[k]?=some t):Ty.agb (ts.take (k+1))=max (Ty.agb (ts.take k)) t.height:=by
 rw[List.take_add_one,h,aog];simp[Ty.agb]
theorem ajr {ts:List Ty} {k:Nat} {t:Ty} (h:ts[k]?=some t):Ty.adh (ts.take (k+1))=Ty.adh (ts.take k)+t.parts:=by
 rw[List.take_add_one,h,apk];simp[Ty.adh]
theorem ahy (ts:List Ty) (k:Nat):Ty.adh (ts.take k)≤Ty.adh ts:=by
 have:Ty.adh ts=Ty.adh (ts.take k)+Ty.adh (ts.drop k):=by rw[← apk,List.take_append_drop]
 omega
theorem az9 (ts:List Ty) (k:Nat):Ty.agb (ts.take k)≤Ty.agb ts:=by
 have:Ty.agb ts=max (Ty.agb (ts.take k)) (Ty.agb (ts.drop k)):=by rw[← aog,List.take_append_drop]
 omega
theorem as1:∀ ts:List Ty,ts.length≤Ty.adh ts
 | []=>by simp
 | t ::r=>by have:=as1 r;have:=bf5 t;rw[Ty.adh,List.length_cons];omega
theorem a0a {ts:List Ty} {t:Ty} (h:t ∈ ts):t.height≤Ty.agb ts:=by
 induction ts with
 | nil=>simp at h
 | cons x xs ih=>
  rw[Ty.agb]
  rcases List.mem_cons.1 h with rfl|h
  ·omega
  ·have:=ih h;omega
theorem bf6 {ts:List Ty} {t:Ty} (h:t ∈ ts):t.parts≤Ty.adh ts:=by
 induction ts with
 | nil=>simp at h
 | cons x xs ih=>
  rw[Ty.adh]
  rcases List.mem_cons.1 h with rfl|h
  ·omega
  ·have:=ih h;omega
mutual
theorem aye:∀ t:Ty,t.parts≤1+PD.szL (Ty.pd t)
 | .mk a b c kids=>by
  have:=a3i kids
  rw[Ty.parts,Ty.aj]
  simp only[PD.szL]
  omega
theorem a3i:∀ ts:List Ty,Ty.adh ts≤(PD.row 4 (ts.flatMap Ty.pd)).sz
 | []=>by simp[Ty.adh]
 | t ::r=>by
  have h1:=aye t
  have h2:=a3i r
  rw[ahw Ty.jd (by decide)] at h2 ⊢
  rw[Ty.adh,List.flatMap_cons,aje,List.length_cons]
  omega
end
mutual
theorem Ty.ai4 {p:Ty→Prop} (h:∀ kind name labels kids,(∀ t ∈ kids,p t)→p ⟨kind,name,labels,kids⟩):∀ t:Ty,p t
 | .mk a b c d=>h a b c d (Ty.bbx h d)
theorem Ty.bbx {p:Ty→Prop} (h:∀ kind name labels kids,(∀ t ∈ kids,p t)→p ⟨kind,name,labels,kids⟩):∀ ts:List Ty,∀ t ∈ ts,p t
 | [],x,hx=>absurd hx (by simp)
 | t ::r,x,hx=>(List.mem_cons.1 hx).elim (fun e=>e ▸ Ty.ai4 h t) (fun hm=>Ty.bbx h r x hm)
end
def ahh (s:ByteArray) (k:Nat):Bool:=match s.data.toList[k]? with
 | none=>true
 | some c=>inB c.toNat 97 122 ||(decide (0 < k) && (inB c.toNat 48 57 ||(c.toNat ==45 && !(s.data.toList[k - 1]? ==some 45))))
def zn (s:ByteArray):Bool:=(List.range s.size).all (ahh s) && inB s.size 1 12 && !(s.data.toList[s.size - 1]? ==some 45)
theorem ap6 {s:ByteArray} {k:Nat} (hp:∀ j,j < k→ahh s j=true) (hu:ahh s k=true):∀ j,j < k+1→ahh s j=true:=fun j hj=>by
 by_cases e:j=k
 ·subst e;exact hu
 ·exact hp j (by omega)
theorem bf7 {s:ByteArray} (hp:∀ j,j < s.size→ahh s j=true):zn s=(inB s.size 1 12 && !(s.data.toList[s.size - 1]? ==some 45)):=by
 have:(List.range s.size).all (ahh s)=true:=List.all_eq_true.2 fun x hx=>hp x (List.mem_range.1 hx)
 rw[zn,this,Bool.true_and]
theorem aoh {s:ByteArray} {k:Nat} (h:k < s.size) (hu:ahh s k=false):zn s=false:=by
 have:(List.range s.size).all (ahh s)=false:=List.all_eq_false.2 ⟨k,List.mem_range.2 h,by simp[hu]⟩
 simp[zn,this]
theorem ae8 {s:ByteArray} {k:Nat} (h:k < s.size):s.data.toList[k]?=some s[k]:=by
 rw[List.getElem?_eq_getElem (by simpa using h)]
 rfl
theorem akn (c:UInt8):(c=45)↔c.toNat=45:=⟨fun h=>by rw[h];rfl,fun h=>UInt8.toNat_inj.1 h⟩
def abw (ls:List ByteArray):Bool:=inB ls.length 1 16 && ls.all zn && decide ls.Nodup
def Ty.isUnit (t:Ty):Bool:=t.kind ==1
def acv (ts:List Ty):Bool:=!ts.any Ty.isUnit
def jv (kind:Int) (nl:Nat) (kids:List Ty):Bool:=
 if kind=12∨kind=13 then decide (kids.length=1) && acv kids
 else if kind=22∨kind=23 then decide (kids.length=1) && !kids.any (Ty.has 21 21)
 else if kind=14 then decide (kids.length=2)
 else if kind=15 then inB kids.length 1 6 && acv kids
 else if kind=16 then decide (kids.length=nl) && acv kids
 else if kind=17 then decide (kids.length=nl)
 else inB kind 1 23 && decide (kids.length=0)
def named (kind:Int):Bool:=kind ==20 ||kind ==21
def abb:Ty→Bool
 | .mk kind name labels kids=>
  (if named kind then zn name else decide (name.size=0)) && (if inB kind 16 19 then abw labels else decide (labels.length=0)) && jv kind labels.length kids
mutual
def Ty.shapes:Ty→Bool
 | .mk kind name labels kids=>abb (.mk kind name labels kids) && Ty.ar4 kids
def Ty.ar4:List Ty→Bool
 | []=>true
 | t ::r=>t.shapes && Ty.ar4 r
end
theorem al7:∀ ts:List Ty,Ty.ar4 ts=ts.all Ty.shapes
 | []=>rfl
 | t ::r=>by rw[Ty.ar4,al7 r,List.all_cons]
def afp (t:Ty):Bool:=decide (t.height≤4) && decide (t.parts≤24) && t.shapes
theorem aiv {s:ByteArray} (h:zn s=true):1≤s.size∧s.size≤12:=by
 simp only[zn,Bool.and_eq_true,agx] at h
 omega
theorem aeu {s t:ByteArray} (h:¬ s=t):(s.toList ==t.toList)=false:=by
 rw[beq_eq_false_iff_ne]
 intro e
 rw[ByteArray.toList_eq,ByteArray.toList_eq] at e
 exact h (by cases s;cases t;congr;exact Array.toList_inj.1 e)
section
variable {α:Type}
def acu (p:α→Bool):List α→Int
 | []=>-1
 | t ::r=>if p t then 0 else (let i:=acu p r;if i < 0 then -1 else i+1)
theorem ap7 (p:α→Bool):∀ ts:List α,-1≤acu p ts
 | []=>by simp[acu]
 | t ::r=>by
  have:=ap7 p r
  rw[acu]
  split
  ·omega
  ·dsimp only
   split<;>omega
theorem akv (p:α→Bool):∀ ts:List α,decide (0≤acu p ts)=ts.any p
 | []=>by simp[acu]
 | t ::r=>by
  have ih:=akv p r
  rw[acu,List.any_cons]
  cases ht:p t
  ·simp only[Bool.false_eq_true,if_false,Bool.false_or]
   rw[← ih]
   by_cases h:acu p r < 0
   ·simp[h]<;>omega
   ·simp[h]<;>omega
  ·simp
theorem aji {p:α→Bool} {ts:List α} (h:∀ (j:Nat) (t:α),ts[j]?=some t→p t=false):acu p ts=-1:=by
 induction ts with
 | nil=>rfl
 | cons t r ih=>
  have h0:=h 0 t (by simp)
  rw[acu,h0,ih fun j x hx=>h (j+1) x (by simpa using hx)]
  simp
theorem ajs {p:α→Bool} {ts:List α} {k:Nat} {t:α} (hp:∀ (j:Nat) (t:α),j < k→ts[j]?=some t→p t=false) (hx:ts[k]?=some t) (hb:p t=true):acu p ts=(k:Int):=by
 induction ts generalizing k with
 | nil=>simp at hx
 | cons x r ih=>
  cases k with
  | zero=>
   simp at hx
   subst hx
   rw[acu,hb]
   simp
  | succ k=>
   have h0:=hp 0 x (by omega) (by simp)
   have:=ih (k:=k) (fun j y hj hy=>hp (j+1) y (by omega) (by simpa using hy)) (by simpa using hx)
   rw[acu,h0,this]
   simp
   omega
theorem agd {p:α→Bool} {ts:List α} {k:Nat} {t:α} (hp:∀ (j:Nat) (t:α),j < k→ts[j]?=some t→p t=false) (hx:ts[k]?=some t) (hb:p t=false):∀ (j:Nat) (t:α),j < k+1→ts[j]?=some t→p t=false:=by
 intro j y hj hy
 by_cases e:j=k
 ·subst e
  rw[hx] at hy
  injection hy with hy
  rw[← hy];exact hb
 ·exact hp j y (by omega) hy
theorem ap8 {p:α→Bool} {ts:List α} {k:Nat} {t:α} (hx:ts[k]?=some t) (hb:p t=true):ts.any p=true:=List.any_eq_true.2 ⟨t,List.mem_of_getElem? hx,hb⟩
theorem any_none {p:α→Bool} {ts:List α} {n:Nat} (hn:ts.length≤n) (hp:∀ (j:Nat) (t:α),j < n→ts[j]?=some t→p t=false):ts.any p=false:=List.any_eq_false.2 fun x hx=>by
 obtain⟨j,hj,rfl⟩:=List.getElem_of_mem hx
 simp[hp j _ (by omega) (List.getElem?_eq_getElem hj)]
theorem bq2 {p:α→Bool} {ts:List α} {n:Nat} (hn:ts.length≤n) (hp:∀ (j:Nat) (t:α),j < n→ts[j]?=some t→(fun t=>!p t) t=false):ts.all p=true:=List.all_eq_true.2 fun x hx=>by
 obtain⟨j,hj,rfl⟩:=List.getElem_of_mem hx
 have:=hp j _ (by omega) (List.getElem?_eq_getElem hj)
 simpa using this
theorem bm0 {p:α→Bool} {ts:List α} {k:Nat} {t:α} (hx:ts[k]?=some t) (hb:p t=false):ts.all p=false:=List.all_eq_false.2 ⟨t,List.mem_of_getElem? hx,by simp[hb]⟩
end
end Go.Proofs.YtbafphecjijdmaaGreatDoor
namespace Go.Proofs.YtbafphecjijdmaaGreatDoor
open Go.RowKit
set_option linter.all false
set_option maxRecDepth 100000
section
variable {α β:Type}
def same2 (p:α→β→Bool):List α→List β→Bool
 | [],[]=>true
 | x ::xs,y ::ys=>p x y && same2 p xs ys
 | _,_=>false
theorem a3j {p:α→β→Bool}:∀ {xs:List α} {ys:List β},same2 p xs ys=true→xs.length=ys.length
 | [],[],_=>rfl
 | x ::xs,y ::ys,h=>by rw[same2,Bool.and_eq_true] at h;simp[a3j h.2]
 | [],y ::ys,h=>by simp[same2] at h
 | x ::xs,[],h=>by simp[same2] at h
theorem as2 {p:α→β→Bool} {xs:List α} {ys:List β} (h:xs.length≠ys.length):same2 p xs ys=false:=Bool.eq_false_iff.2 fun e=>h (a3j e)
theorem a6x {p:α→β→Bool}:∀ {xs:List α} {ys:List β} {k:Nat} {x:α} {y:β},xs[k]?=some x→ys[k]?=some y→same2 p xs ys=true→p x y=true
 | x ::xs,y ::ys,0,_,_,hx,hy,h=>by simp at hx hy;subst hx hy;rw[same2,Bool.and_eq_true] at h;exact h.1
 | x ::xs,y ::ys,k+1,_,_,hx,hy,h=>by rw[same2,Bool.and_eq_true] at h;exact a6x (k:=k) (by simpa using hx) (by simpa using hy) h.2
 | [],_,_,_,_,hx,_,_=>by simp at hx
 | x ::xs,[],_,_,_,_,hy,_=>by simp at hy
theorem apy {p:α→β→Bool} {xs:List α} {ys:List β} {k:Nat} {x:α} {y:β} (hx:xs[k]?=some x) (hy:ys[k]?=some y) (h:p x y=false):same2 p xs ys=false:=
 Bool.eq_false_iff.2 fun e=>by have:=a6x hx hy e;rw[h] at this;cases this
theorem a3k {p:α→β→Bool}:∀ {xs:List α} {ys:List β},xs.length=ys.length→(∀ (j:Nat) (x:α) (y:β),xs[j]?=some x→ys[j]?=some y→p x y=true)→same2 p xs ys=true
 | [],[],_,_=>rfl
 | x ::xs,y ::ys,hl,h=>by
  rw[same2,h 0 x y (by simp) (by simp),a3k (by simpa using hl) fun j a b ha hb=>h (j+1) a b (by simpa using ha) (by simpa using hb)]
  rfl
 | [],y ::ys,hl,_=>by simp at hl
 | x ::xs,[],hl,_=>by simp at hl
theorem apz {p:α→β→Bool} {xs:List α} {ys:List β} {k:Nat} {x:α} {y:β} (hp:∀ (j:Nat) (a:α) (b:β),j < k→xs[j]?=some a→ys[j]?=some b→p a b=true) (hx:xs[k]?=some x) (hy:ys[k]?=some y) (h:p x y=true):
  ∀ (j:Nat) (a:α) (b:β),j < k+1→xs[j]?=some a→ys[j]?=some b→p a b=true:=by
 intro j a b hj ha hb
 by_cases e:j=k
 ·subst e
  rw[hx] at ha
  rw[hy] at hb
  injection ha with ha
  injection hb with hb
  rw[← ha,← hb];exact h
 ·exact hp j a b (by omega) ha hb
theorem aq6 {p:α→β→Bool} {xs:List α} {ys:List β} {k n:Nat} (hk:¬ k < n) (h1:n=xs.length) (h2:n=ys.length) (hp:∀ (j:Nat) (a:α) (b:β),j < k→xs[j]?=some a→ys[j]?=some b→p a b=true):same2 p xs ys=true:=
 a3k (by omega) fun j a b ha hb=>hp j a b (by have:=(List.getElem?_eq_some_iff.1 ha).1;omega) ha hb
end
def strEq (x y:ByteArray):Bool:=decide (x=y)
set_option maxHeartbeats 1600000 in
theorem ayf {B:Nat} {v u:Value} {xs ys:List ByteArray} {w:World} (h:Rep w B (.row 1 (xs.flatMap qj)) v) (k:Rep w B (.row 1 (ys.flatMap qj)) u):
  Calls Tryz.prog 161 #[v,u] w fun e w'=>e=.returned (.bool (same2 strEq xs ys))∧Below w.heap.size w w':=by
 obtain⟨A,n,c,rfl,hnl,hm,hat⟩:=ni aaz (by decide) h
 obtain⟨A',n',c',rfl,alb,hm',hat'⟩:=ni aaz (by decide) k
 unfold maxLen at hm hm'
 have HN:=zqd hnl
 have HM:=zqd alb
 clear h k hnl alb
 by_cases hnm:n=n'
 ·subst hnm
  go_enter Tryz.func161,Tryz.ntmps161
  go_wp2_with fail
  go_loopw [13] (fun i wr=>∃ k:Nat,k≤n∧i=.int .i64 k∧Hid (∀ (j:Nat) (a b:ByteArray),j < k→xs[j]?=some a→ys[j]?=some b→strEq a b=true)∧∃ q,wr=w.drewN q) (fun i _=>n - (intOf i).toNat)
  case atStart=>exact⟨0,Nat.zero_le _,rfl,zqd fun j a b h=>absurd h (by omega),0,rfl⟩
  case round=>
   obtain⟨k,hk,rfl,HP,q,rfl⟩:=hrel
   by_cases hlt:k < n
   ·obtain⟨g,off,rfl,hg,hcell⟩:=hat (by omega)
    obtain⟨g',off',rfl,hg',hcell'⟩:=hat' (by omega)
    obtain⟨x,hx,_⟩:=um HN.out hlt
    obtain⟨y,hy,_⟩:=um HM.out hlt
    have hlt':(k:Int) < (n:Int):=by omega
    have c_x:w.cell? ⟨g,off+k,none⟩=some (.string x):=by
     obtain⟨u,hu,hr⟩:=hcell k 0 _ _ hx rfl
     rw[hr.ad8] at hu
     simpa using hu
    have c_y:w.cell? ⟨g',off'+k,none⟩=some (.string y):=by
     obtain⟨u,hu,hr⟩:=hcell' k 0 _ _ hy rfl
     rw[hr.ad8] at hu
     simpa using hu
    have HX:=zqd hx
    have HY:=zqd hy
    clear hx hy hcell hcell' hat hat'
    by_cases hb:x=y
    ·have HQ:=zqd (apz (p:=strEq) HP.out HX.out HY.out (by simp[strEq,hb]))
     subst hb
     go_wp2_with fail
     go_quiet (fail)
     go_wp2_with fail
     go_roundw
     case rel=>exact⟨k+1,by omega,by go_num,HQ,_,rfl⟩
     case measure=>simp[intOf];omega
    ·have HF:Hid (same2 strEq xs ys=false):=apy HX.out HY.out (by simp[strEq,hb])
     have hs:(x.toList ==y.toList)=false:=aeu hb
     clear hb
     go_wp2_with fail
     go_quiet (fail)
     go_wp2_with fail
     go_ret
     exact⟨ah HF.out.symm,by rw[World.drewN_drewN];exact below_drewN (zqf _ _) _⟩
   ·have HF:Hid (same2 strEq xs ys=true):=aq6 hlt HN.out HM.out HP.out
    have hkn:k=n:=by omega
    subst hkn
    go_wp2_with fail
    go_ret
    exact⟨ah HF.out.symm,below_drewN (zqf _ _) _⟩
 ·have HF:Hid (same2 strEq xs ys=false):=as2 (by have:=HN.out;have:=HM.out;omega)
  have hb:((n:Int) != (n':Int))=true:=by simp;omega
  clear hat hat'
  go_enter Tryz.func161,Tryz.ntmps161
  go_wp2_with fail
  go_ret
  exact⟨ah HF.out.symm,zqf _ _⟩
set_option maxHeartbeats 1600000 in
theorem a6y (fid:Nat) (caps:Array Value) (p:Ty→Ty→Bool) {B:Nat} {v u:Value} {xs ys:List Ty} {w:World} (hB:B≤w.heap.size) (h:Rep w B (.row 4 (xs.flatMap Ty.pd)) v) (k:Rep w B (.row 4 (ys.flatMap Ty.pd)) u)
  (hcf:∀ a W,Sem.run Tryz.prog (callFunc fid a) W=.ok (.enter fid a) W)
  (hp:∀ x ∈ xs,∀ y ∈ ys,∀ (cs ds:List Value) (W:World),Below w.heap.size w W→lq W B (Ty.pd x) cs→lq W B (Ty.pd y) ds→Calls Tryz.prog fid (#[.agg cs.toArray,.agg ds.toArray] ++caps) W fun e w'=>e=.returned (.bool (p x y))∧Below W.heap.size W w'):
  Calls Tryz.prog 162 #[v,u,.func (.func fid) #[] caps] w fun e w'=>e=.returned (.bool (same2 p xs ys))∧Below w.heap.size w w':=by
 obtain⟨A,n,c,rfl,hnl,hm,hat⟩:=ni Ty.jd (by decide) h
 obtain⟨A',n',c',rfl,alb,hm',hat'⟩:=ni Ty.jd (by decide) k
 unfold maxLen at hm hm'
 have HN:=zqd hnl
 have HM:=zqd alb
 have HC:=zqd hp
 clear h k hnl alb hp
 by_cases hnm:n=n'
 ·subst hnm
  go_enter Tryz.func162,Tryz.ntmps162
  go_wp2_with fail
  go_loopw [17] (fun i wr=>∃ k:Nat,k≤n∧i=.int .i64 k∧Hid (∀ (j:Nat) (a b:Ty),j < k→xs[j]?=some a→ys[j]?=some b→p a b=true)∧Below w.heap.size w wr) (fun i _=>n - (intOf i).toNat)
  case atStart=>exact⟨0,Nat.zero_le _,rfl,zqd fun j a b h=>absurd h (by omega),zqf _ _⟩
  case round=>
   obtain⟨k,hk,rfl,HP,hbr⟩:=hrel
   have hsz:=hbr.size
   by_cases hlt:k < n
   ·obtain⟨g,off,rfl,hg,hcell⟩:=hat (by omega)
    obtain⟨g',off',rfl,hg',hcell'⟩:=hat' (by omega)
    obtain⟨x,hx,hmx⟩:=um HN.out hlt
    obtain⟨y,hy,hmy⟩:=um HM.out hlt
    have hlt':(k:Int) < (n:Int):=by omega
    obtain⟨kind,name,labels,kids⟩:=x
    obtain⟨xw,dw,eu,jk⟩:=y
    have c0:wr.cell? ⟨g,off+k * 4,none⟩=some (.int .i64 kind):=bg hbr (by omega) (hcell k 0 _ _ hx (by rw[Ty.aj];rfl))
    have c1:wr.cell? ⟨g,off+k * 4+1,none⟩=some (.string name):=bg hbr (by omega) (hcell k 1 _ _ hx (by rw[Ty.aj];rfl))
    obtain⟨iw,c2,rc2⟩:∃ u,wr.cell? ⟨g,off+k * 4+2,none⟩=some u∧Rep wr B (.row 1 (labels.flatMap qj)) u:=jc hbr (by omega) hB (hcell k 2 _ _ hx (by rw[Ty.aj];rfl))
    have Rc2:=zqd rc2
    clear rc2
    obtain⟨jo,ig,ji,rfl⟩:=Rc2.out.form
    obtain⟨qw,c3,rc3⟩:∃ u,wr.cell? ⟨g,off+k * 4+3,none⟩=some u∧Rep wr B (.row 4 (kids.flatMap Ty.pd)) u:=jc hbr (by omega) hB (hcell k 3 _ _ hx (by rw[Ty.aj];rfl))
    have Rc3:=zqd rc3
    clear rc3
    obtain⟨qg,gy,l9,rfl⟩:=Rc3.out.form
    have d0:wr.cell? ⟨g',off'+k * 4,none⟩=some (.int .i64 xw):=bg hbr (by omega) (hcell' k 0 _ _ hy (by rw[Ty.aj];rfl))
    have d1:wr.cell? ⟨g',off'+k * 4+1,none⟩=some (.string dw):=bg hbr (by omega) (hcell' k 1 _ _ hy (by rw[Ty.aj];rfl))
    obtain⟨acd,d2,rd2⟩:∃ u,wr.cell? ⟨g',off'+k * 4+2,none⟩=some u∧Rep wr B (.row 1 (eu.flatMap qj)) u:=jc hbr (by omega) hB (hcell' k 2 _ _ hy (by rw[Ty.aj];rfl))
    have Rd2:=zqd rd2
    clear rd2
    obtain⟨jy,jf,jr,rfl⟩:=Rd2.out.form
    obtain⟨ad9,d3,rd3⟩:∃ u,wr.cell? ⟨g',off'+k * 4+3,none⟩=some u∧Rep wr B (.row 4 (jk.flatMap Ty.pd)) u:=jc hbr (by omega) hB (hcell' k 3 _ _ hy (by rw[Ty.aj];rfl))
    have Rd3:=zqd rd3
    clear rd3
    obtain⟨oq,iq,jw,rfl⟩:=Rd3.out.form
    have e0:(wr.alloc (.cells #[.int .i64 kind,.string name,.slice jo ig ji,.slice qg gy l9] 60)).cell? ⟨g',off'+k * 4,none⟩=some (.int .i64 xw):=(World.cell?_alloc_lt wr _ ⟨g',off'+k * 4,none⟩ (by show g' < _;omega)).trans d0
    have e1:(wr.alloc (.cells #[.int .i64 kind,.string name,.slice jo ig ji,.slice qg gy l9] 60)).cell? ⟨g',off'+k * 4+1,none⟩=some (.string dw):=(World.cell?_alloc_lt wr _ ⟨g',off'+k * 4+1,none⟩ (by show g' < _;omega)).trans d1
    have e2:(wr.alloc (.cells #[.int .i64 kind,.string name,.slice jo ig ji,.slice qg gy l9] 60)).cell? ⟨g',off'+k * 4+2,none⟩=some (.slice jy jf jr):=(World.cell?_alloc_lt wr _ ⟨g',off'+k * 4+2,none⟩ (by show g' < _;omega)).trans d2
    have e3:(wr.alloc (.cells #[.int .i64 kind,.string name,.slice jo ig ji,.slice qg gy l9] 60)).cell? ⟨g',off'+k * 4+3,none⟩=some (.slice oq iq jw):=(World.cell?_alloc_lt wr _ ⟨g',off'+k * 4+3,none⟩ (by show g' < _;omega)).trans d3
    have hb1:Below wr.heap.size wr ((wr.alloc (.cells #[.int .i64 kind,.string name,.slice jo ig ji,.slice qg gy l9] 60)).alloc (.cells #[.int .i64 xw,.string dw,.slice jy jf jr,.slice oq iq jw] 60)):=((zqf _ _).alloc (zql _) _).alloc (by simp) _
    obtain⟨w2,hw2⟩:∃ W,W=(wr.alloc (.cells #[.int .i64 kind,.string name,.slice jo ig ji,.slice qg gy l9] 60)).alloc (.cells #[.int .i64 xw,.string dw,.slice jy jf jr,.slice oq iq jw] 60):=⟨_,rfl⟩
    rw[← hw2] at hb1
    have HW:=zqd hw2
    clear hw2
    have hB2:=hbr.trans (hb1.mono hbr.size)
    have hc:=HC.out _ hmx _ hmy [.int .i64 kind,.string name,.slice jo ig ji,.slice qg gy l9] [.int .i64 xw,.string dw,.slice jy jf jr,.slice oq iq jw] w2 hB2 (Ty.close_ (Rc2.out.below (hb1.mono (Nat.le_trans hB hbr.size))) (Rc3.out.below (hb1.mono (Nat.le_trans hB hbr.size)))) (Ty.close_ (Rd2.out.below (hb1.mono (Nat.le_trans hB hbr.size))) (Rd3.out.below (hb1.mono (Nat.le_trans hB hbr.size))))
    obtain⟨x,hxx⟩:∃ x:Ty,x=⟨kind,name,labels,kids⟩:=⟨_,rfl⟩
    obtain⟨y,hyy⟩:∃ y:Ty,y=⟨xw,dw,eu,jk⟩:=⟨_,rfl⟩
    rw[← hxx] at hc hx
    rw[← hyy] at hc hy
    clear hxx hyy
    have HK:=zqd hc
    have HX:=zqd hx
    have HY:=zqd hy
    clear hc hx hy hmx hmy hcell hcell' hat hat'
    go_wp2_with fail
    rw[← HW.out]
    refine HK.out.mono ?_
    rintro e w3 ⟨rfl,hb3⟩
    have hB3:=hB2.trans (hb3.mono hB2.size)
    cases hb:p x y
    ·have HF:Hid (same2 p xs ys=false):=apy HX.out HY.out hb
     go_wp2_with fail
     go_ret
     exact⟨ah HF.out.symm,hB3⟩
    ·have HQ:=zqd (apz HP.out HX.out HY.out hb)
     go_wp2_with fail
     go_roundw
     case rel=>exact⟨k+1,by omega,by go_num,HQ,hB3⟩
     case measure=>simp[intOf];omega
   ·have HF:Hid (same2 p xs ys=true):=aq6 hlt HN.out HM.out HP.out
    have hkn:k=n:=by omega
    subst hkn
    go_wp2_with fail
    go_ret
    exact⟨ah HF.out.symm,hbr⟩
 ·have HF:Hid (same2 p xs ys=false):=as2 (by have:=HN.out;have:=HM.out;omega)
  have hb:((n:Int) != (n':Int))=true:=by simp;omega
  clear hat hat'
  go_enter Tryz.func162,Tryz.ntmps162
  go_wp2_with fail
  go_ret
  exact⟨ah HF.out.symm,zqf _ _⟩
end Go.Proofs.YtbafphecjijdmaaGreatDoor
