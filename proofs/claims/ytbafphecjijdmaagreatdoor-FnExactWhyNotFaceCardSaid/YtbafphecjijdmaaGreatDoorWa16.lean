/-
  spec.l03Labels and impl.labelsOk return the same bool.
  spec.l03Shape and impl.shapeOk: what one type's own fields say (by program: gen_shape.py).
-/
import Derived.Test.YtbafphecjijdmaaGreatDoorWa12
import Derived.Test.YtbafphecjijdmaaGreatDoorWa14
import Derived.Test.YtbafphecjijdmaaGreatDoorWa15
import Derived.Deep.RegionHeld3
namespace Go.Proofs.YtbafphecjijdmaaGreatDoor
open Go.RowKit
set_option linter.unusedVariables false
set_option linter.unusedSimpArgs false
set_option linter.unnecessarySimpa false
theorem aw8 {α:Type} {ls:List α} {i:Nat} {x:α} (hx:ls[i]?=some x) (h:(ls.take i).Nodup) (hne:∀ (j:Nat) (y:α),j < i→ls[j]?=some y→y≠x):(ls.take (i+1)).Nodup:=by
 rw[List.take_add_one,hx]
 refine List.nodup_append.2 ⟨h,by simp,?_⟩
 intro a ha b hb e
 simp at hb
 obtain⟨j,hj,rfl⟩:=List.getElem_of_mem ha
 rw[List.length_take] at hj
 rw[List.getElem_take] at e
 exact hne j _ (by omega) (List.getElem?_eq_getElem (by omega)) (e.trans hb)
theorem bab {α:Type} {ls:List α} {i j:Nat} {x:α} (hij:j < i) (hx:ls[i]?=some x) (hy:ls[j]?=some x):¬ ls.Nodup:=by
 intro hn
 obtain⟨hi,rfl⟩:=List.getElem?_eq_some_iff.1 hx
 obtain⟨hj,e⟩:=List.getElem?_eq_some_iff.1 hy
 exact List.pairwise_iff_getElem.1 (List.nodup_iff_pairwise_ne.1 hn) j i hj hi hij e
set_option maxHeartbeats 1600000 in
theorem aef {B:Nat} {v:Value} {ls:List ByteArray} {w:World} (hB:B≤w.heap.size) (hs:∀ s ∈ ls,s.size≤maxLen) (h:Rep w B (.row 1 (ls.flatMap tu)) v):
  Calls Tryz.prog 169 #[v] w fun e w'=>e=.returned (.bool (abn ls))∧Below w.heap.size w w':=by
 obtain⟨A,n,c,rfl,hnl,hm,hat⟩:=ny aat (by decide) h
 unfold maxLen at hm
 have HN:=Lib.hid hnl
 have HS:=Lib.hid hs
 have HAT:=Lib.hid hat
 clear h hnl hs hat
 by_cases h1:1≤n
 case neg=>
  have HF:Hid (abn ls=false):=by show _=_;rw[abn,a0r (by have:=HN.out;omega)];rfl
  go_enter Tryz.func169,Tryz.ntmps169
  go_wp2_with fail
  go_ret
  exact⟨ah HF.out.symm,Below.refl _ _⟩
 by_cases h2:n≤16
 case neg=>
  have HF:Hid (abn ls=false):=by show _=_;rw[abn,a0s (by have:=HN.out;omega)];rfl
  go_enter Tryz.func169,Tryz.ntmps169
  go_wp2_with fail
  go_ret
  exact⟨ah HF.out.symm,Below.refl _ _⟩
 obtain⟨g,off,rfl,hg,hcell⟩:=HAT.out (by omega)
 have HC:=Lib.hid hcell
 clear HAT hcell
 go_enter Tryz.func169,Tryz.ntmps169
 go_wp2_with fail
 go_loopw [3,4] (fun i k2 wr=>∃ k:Nat,k≤n∧i=.int .i64 k∧Hid (∀ (j:Nat) (t:ByteArray),j < k→ls[j]?=some t→(fun t=>!aag t) t=false)∧Hid ((ls.take k).Nodup)∧∃ q,wr=w.drewN q) (fun i _ _=>n - (intOf i).toNat)
 case atStart=>exact⟨0,Nat.zero_le _,rfl,Lib.hid fun j t h=>absurd h (by omega),Lib.hid (by simp),0,rfl⟩
 case round=>
  obtain⟨k,hk,rfl,HP,HD,q,rfl⟩:=hrel
  by_cases hlt:k < n
  ·obtain⟨x,hx,hmem⟩:=xg HN.out hlt
   have ck:w.cell? ⟨g,off+k,none⟩=some (.string x):=by
    obtain⟨u,hu,hr⟩:=HC.out k 0 x _ hx rfl
    rw[hr.ad8] at hu
    simpa using hu
   have HX:=Lib.hid hx
   have hxs:=HS.out x hmem
   clear hx hmem
   go_wp2_with fail
   refine(afs x hxs _).mono ?_
   rintro e w1 ⟨rfl,rfl⟩
   cases hb:aag x
   ·have HF:Hid (abn ls=false):=by show _=_;rw[abn,bgu HX.out hb];simp
    go_wp2_with fail
    go_ret
    exact⟨ah HF.out.symm,below_drewN (Below.refl _ _) _⟩
   have HB:=Lib.hid hb
   clear hb
   go_wp2_with fail
   go_loopw [4] (fun i2 wr=>∃ m:Nat,m≤k∧i2=.int .i64 m∧Hid (∀ (j:Nat) (y:ByteArray),j < m→ls[j]?=some y→y≠x)∧∃ q,wr=w.drewN q) (fun i2 _=>k - (intOf i2).toNat)
   case atStart=>exact⟨0,Nat.zero_le _,rfl,Lib.hid fun j t h=>absurd h (by omega),q,rfl⟩
   case round=>
    obtain⟨m,hmk,rfl,HM,q2,rfl⟩:=hrel
    clear ck
    by_cases hlt2:m < k
    ·obtain⟨y,hy,_⟩:=xg HN.out (show m < n by omega)
     have ck:w.cell? ⟨g,off+k,none⟩=some (.string x):=by
      obtain⟨u,hu,hr⟩:=HC.out k 0 x _ HX.out rfl
      rw[hr.ad8] at hu
      simpa using hu
     have cm:w.cell? ⟨g,off+m,none⟩=some (.string y):=by
      obtain⟨u,hu,hr⟩:=HC.out m 0 y _ hy rfl
      rw[hr.ad8] at hu
      simpa using hu
     have hlt3:(m:Int) < (n:Int):=by omega
     have hlt4:(k:Int) < (n:Int):=by omega
     have HY:=Lib.hid hy
     clear hy
     by_cases e:y=x
     ·have HF:Hid (abn ls=false):=by
       show _=_
       rw[abn,decide_eq_false (bab hlt2 HX.out (by rw[HY.out,e]))]
       simp
      subst e
      go_wp2_with fail
      go_quiet (fail)
      go_wp2_with fail
      go_ret
      exact⟨ah HF.out.symm,below_drewN (below_drewN (Below.refl _ _) _) _⟩
     ·have hne:=ae0 e
      have HE:Hid (∀ (j:Nat) (z:ByteArray),j < m+1→ls[j]?=some z→z≠x):=by
       intro j z hj hz
       by_cases e2:j=m
       ·subst e2
        rw[HY.out] at hz
        injection hz with hz
        rw[← hz]
        exact e
       ·exact HM.out j z (by omega) hz
      clear e
      go_wp2_with fail
      go_quiet (fail)
      go_wp2_with fail
      go_roundw
      case rel=>exact⟨m+1,by omega,by go_num,HE,_,rfl⟩
      case measure=>simp[intOf];omega
    ·have boz:m=k:=by omega
     subst boz
     go_wp2_with fail
     go_roundw
     case rel=>exact⟨m+1,by omega,by go_num,Lib.hid (afr HP.out HX.out (by rw[HB.out];rfl)),Lib.hid (aw8 HX.out HD.out HM.out),_,rfl⟩
     case measure=>simp[intOf];omega
  ·have hkn:k=n:=by omega
   subst hkn
   have HF:Hid (abn ls=true):=by
    show _=_
    have h3:ls.take k=ls:=List.take_of_length_le (by have:=HN.out;omega)
    have h4:=HD.out
    rw[h3] at h4
    rw[abn,agi (by have:=HN.out;omega) (by have:=HN.out;omega),bku (n:=k) (by have:=HN.out;omega) HP.out,decide_eq_true h4]
    rfl
   go_wp2_with fail
   go_ret
   exact⟨ah HF.out.symm,below_drewN (Below.refl _ _) _⟩
theorem a4v (s:ByteArray) (hs:s.size≤maxLen) (w:World):
  Calls Tryz.prog 159 #[.string s] w fun e w'=>e=.returned (.bool (!aag s))∧Below w.heap.size w w':=by
 have HI:=Lib.hid (aeo s hs w)
 clear hs
 go_enter Tryz.func159,Tryz.ntmps159
 go_wp2_with fail
 refine HI.out.mono ?_
 rintro e w1 ⟨rfl,hb⟩
 go_wp2_with fail
 go_ret
 exact⟨rfl,hb⟩
theorem az6 (a:Array Value) (W:World):Sem.run Tryz.prog (callFunc 159 a) W=.ok (.enter 159 a) W:=by kernel_rfl
set_option maxHeartbeats 1600000 in
theorem ac3 {B:Nat} {v:Value} {ls:List ByteArray} {w:World} (hB:B≤w.heap.size) (hs:∀ s ∈ ls,s.size≤maxLen) (h:Rep w B (.row 1 (ls.flatMap tu)) v):
  Calls Tryz.prog 140 #[v] w fun e w'=>e=.returned (.bool (abn ls))∧Below w.heap.size w w':=by
 obtain⟨A,n,c,rfl⟩:=h.form
 have HR:=Lib.hid h
 have HS:=Lib.hid hs
 clear h hs
 obtain⟨L,hL⟩:∃ L:Nat,L=ls.length:=⟨_,rfl⟩
 have HL:=Lib.hid hL
 clear hL
 cases hi:inB (L:Int) 1 16
 case false=>
  have HF:Hid (abn ls=false):=by show _=_;rw[abn,← HL.out,hi];rfl
  go_enter Tryz.func140,Tryz.ntmps140
  go_wp2_with fail
  refine(al9 HR.out).mono ?_
  rintro e w1 ⟨rfl,rfl⟩
  rw[← HL.out]
  go_wp2_with fail
  refine(ng _ _ _ _).mono ?_
  rintro e w1 ⟨rfl,rfl⟩
  rw[hi]
  go_wp2_with fail
  go_ret
  exact⟨ah HF.out.symm,Below.refl _ _⟩
 have HI:=Lib.hid hi
 have hl:=(af9.1 hi).2
 clear hi
 by_cases hd:ls.Nodup
 case neg=>
  have HF:Hid (abn ls=false):=by show _=_;rw[abn,decide_eq_false hd];simp
  have HD:=Lib.hid (decide_eq_false hd)
  clear hd
  go_enter Tryz.func140,Tryz.ntmps140
  go_wp2_with fail
  refine(al9 HR.out).mono ?_
  rintro e w1 ⟨rfl,rfl⟩
  rw[← HL.out]
  go_wp2_with fail
  refine(ng _ _ _ _).mono ?_
  rintro e w1 ⟨rfl,rfl⟩
  rw[HI.out]
  go_wp2_with fail
  refine(distinct_any hB (by have:=HL.out;omega) HR.out).mono ?_
  rintro e w1 ⟨rfl,hb1⟩
  rw[HD.out]
  go_wp2_with fail
  go_ret
  exact⟨ah HF.out.symm,hb1⟩
 have HD:=Lib.hid (decide_eq_true hd)
 clear hd
 have HF:Hid (abn ls=!(ls.any fun s=>!aag s)):=by
  show _=_
  rw[abn,← HL.out,HI.out,HD.out,List.not_any_eq_all_not]
  simp
 go_enter Tryz.func140,Tryz.ntmps140
 go_wp2_with fail
 refine(al9 HR.out).mono ?_
 rintro e w1 ⟨rfl,rfl⟩
 rw[← HL.out]
 go_wp2_with fail
 refine(ng _ _ _ _).mono ?_
 rintro e w1 ⟨rfl,rfl⟩
 rw[HI.out]
 go_wp2_with fail
 refine(distinct_any hB (by have:=HL.out;omega) HR.out).mono ?_
 rintro e w1 ⟨rfl,hb1⟩
 rw[HD.out]
 go_wp2_with fail
 refine(anc 159 #[] (fun s=>!aag s) (B:=B) (by have:=hb1.size;omega) (HR.out.below (hb1.mono hB)) az6 (fun s hm W _=>a4v s (HS.out s hm) W)).mono ?_
 rintro e w2 ⟨rfl,hb2⟩
 obtain⟨r,hr⟩:∃ r,r=ls.any fun s=>!aag s:=⟨_,rfl⟩
 have HG:=Lib.hid hr
 rw[← hr]
 clear hr
 go_wp2_with fail
 go_ret
 exact⟨ah (by rw[HF.out,← HG.out]),hb1.trans (hb2.mono hb1.size)⟩
theorem aev {s:ByteArray} (h:s.size=0):s={data:=#[]}:=by
 cases s with
 | mk d=>congr;exact Array.eq_empty_of_size_eq_zero h
theorem aer {s:ByteArray} (h:¬ s.size=0):s.toList.isEmpty=false:=by
 rw[ByteArray.toList_eq]
 cases s with
 | mk d=>
  rw[List.isEmpty_eq_false_iff]
  intro e
  apply h
  have:d=#[]:=by simpa using e
  rw[this]
  rfl
theorem aem {s:ByteArray} (h:¬ s.size=0):s.toList≠[]:=by
 have:=aer h
 rwa[List.isEmpty_eq_false_iff] at this
structure Plain (kind:Int):Prop where
 n20:(kind ==20)=false
 n21:(kind ==21)=false
 lab:inB kind 16 19=false
theorem aw9 (kind:Int):(kind=20∨kind=21)∨(kind=16∨kind=17∨kind=18∨kind=19)∨Plain kind:=by
 by_cases h1:kind=20∨kind=21
 ·exact .inl h1
 by_cases h2:kind=16∨kind=17∨kind=18∨kind=19
 ·exact .inr (.inl h2)
 ·exact .inr (.inr ⟨by simp;omega,by simp;omega,af4.2 (by omega)⟩)
theorem ave (kind:Int):kind=12∨kind=13∨kind=22∨kind=23∨kind=14∨kind=15∨((kind ==12)=false∧(kind ==13)=false∧(kind ==22)=false∧(kind ==23)=false∧(kind ==14)=false∧(kind ==15)=false):=by
 by_cases h:kind=12∨kind=13∨kind=22∨kind=23∨kind=14∨kind=15
 ·rcases h with h|h|h|h|h|h<;>simp[h]
 ·refine .inr (.inr (.inr (.inr (.inr (.inr ?_)))))
  simp
  omega
theorem lq (kind:Int) (name:ByteArray) (labels:List ByteArray) (kids:List Ty):aay ⟨kind,name,labels,kids⟩=
  ((if named kind then aag name else decide (name.size=0)) && (if inB kind 16 19 then abn labels else decide (labels.length=0)) && jo kind labels.length kids):=rfl
theorem aom {s:ByteArray} (h:s.size=0):aag s=false:=by
 cases e:aag s
 ·rfl
 ·exact absurd (ahs e).1 (by omega)
structure ale (B n n' c c':Nat) (A A':Option Addr) (name:ByteArray) (labels:List ByteArray) (kids:List Ty) (w:World):Prop where
 hB:B≤w.heap.size
 hn:n≤9223372036854775807
 hn':n'≤9223372036854775807
 HN:n=kids.length
 HN':n'=labels.length
 HS1:name.size≤maxLen
 HS2:∀ s ∈ labels,s.size≤maxLen
 RL:Rep w B (.row 1 (labels.flatMap tu)) (.slice A' n' c')
 RK:Rep w B (.row 4 (kids.flatMap Ty.pd)) (.slice A n c)
theorem ale.c {B n n' c c':Nat} {A A':Option Addr} {name:ByteArray} {labels:List ByteArray} {kids:List Ty} {w w':World} {kind:Int} (h:ale B n n' c c' A A' name labels kids w) (hb:Below w.heap.size w w'):
  B≤w'.heap.size∧jy w' B (Ty.pd ⟨kind,name,labels,kids⟩) [.int .i64 kind,.string name,.slice A' n' c',.slice A n c]:=
 ⟨Nat.le_trans h.hB hb.size,Ty.close_ (h.RL.below (hb.mono h.hB)) (h.RK.below (hb.mono h.hB))⟩
theorem aij {α:Type} {f:α→List PD} {sz:Nat} {w:World} {B n c:Nat} {A:Option Addr} {ts:List α} (hf:∀ t,(f t).length=sz) (hsz:0 < sz) (h:Rep w B (.row sz (ts.flatMap f)) (.slice A n c)):
  0 < n→∃ g off,A=some ⟨g,off,none⟩∧g < B∧∀ (k j:Nat) (t:α) (x:PD),ts[k]?=some t→(f t)[j]?=some x→∃ u,w.cell? ⟨g,off+(k * sz+j),none⟩=some u∧Rep w B x u:=by
 obtain⟨A',n',c',he,h1,h2,h3⟩:=ny hf hsz h
 injection he with e1 e2 e3
 intro h0
 rw[e1]
 exact h3 (by omega)
theorem ale.l {B n n' c c':Nat} {A A':Option Addr} {name:ByteArray} {labels:List ByteArray} {kids:List Ty} {w w':World} (h:ale B n n' c c' A A' name labels kids w) (hb:Below w.heap.size w w'):Rep w' B (.row 1 (labels.flatMap tu)) (.slice A' n' c'):=h.RL.below (hb.mono h.hB)
theorem ale.k {B n n' c c':Nat} {A A':Option Addr} {name:ByteArray} {labels:List ByteArray} {kids:List Ty} {w w':World} (h:ale B n n' c c' A A' name labels kids w) (hb:Below w.heap.size w w'):Rep w' B (.row 4 (kids.flatMap Ty.pd)) (.slice A n c):=h.RK.below (hb.mono h.hB)
theorem bhg {ts:List Ty} {v:Value} {B n:Nat} {w:World} (hn:n=ts.length) (h:Rep w B (.row 4 (ts.flatMap Ty.pd)) v):
  Calls Tryz.prog 142 #[v] w fun e w'=>e=.returned (.int .i64 n)∧w'=w:=by
 rw[hn]
 exact(an1 h).mono fun e w' q=>⟨q.1,q.2.symm⟩
theorem bdc {a b c:Int} {v:Bool} {w:World} (h:inB a b c=v):
  Calls Tryz.prog 128 #[.int .i64 a,.int .i64 b,.int .i64 c] w fun e w'=>e=.returned (.bool v)∧w'=w:=by
 rw[← h]
 exact(ng _ _ _ _).mono fun e w' q=>⟨q.1,q.2.symm⟩
def ane (t:Ty):Prop:=∀ (B:Nat) (cs:List Value) (w:World),B≤w.heap.size→PD.wfL (Ty.pd t)→jy w B (Ty.pd t) cs→
 Calls Tryz.prog 113 #[.agg cs.toArray] w fun e w'=>e=.returned (.bool t.shapes)∧Below w.heap.size w w'
theorem pz (a:Array Value) (W:World):Sem.run Tryz.prog (callFunc 139 a) W=.ok (.enter 139 a) W:=by kernel_rfl
theorem y9 {kids:List Ty} (h:(kids.any fun t=>!t.shapes)=false):Ty.aqa kids=true:=by
 rw[ak4,List.all_eq_true]
 intro x hx
 have:=List.any_eq_false.1 h x hx
 simpa using this
theorem an2 {w:World} {b:Nat} (hc:w.cell? ⟨b,0,none⟩=some (.int .i64 21)) (hb:b < w.heap.size):Rep w w.heap.size (.row 1 ([21].flatMap am8)) (.slice (some ⟨b,0,none⟩) 1 1):=by
 rw[Rep]
 refine⟨_,1,1,rfl,rfl,by decide,fun _=>⟨b,0,rfl,hb,?_⟩⟩
 show agk w w.heap.size b 0 [.lit (.int .i64 21)]
 rw[agk,agk]
 exact⟨⟨_,hc,by rw[Rep]⟩,trivial⟩
theorem su {t:Ty} (ih:ane t) {B:Nat} {cs:List Value} {w:World} (hB:B≤w.heap.size) (hwf:PD.wfL (Ty.pd t)) (h:jy w B (Ty.pd t) cs):
  Calls Tryz.prog 139 (#[.agg cs.toArray] ++#[]) w fun e w'=>e=.returned (.bool (!t.shapes))∧Below w.heap.size w w':=by
 obtain⟨kind,name,labels,kids⟩:=t
 obtain⟨iq,qp,rfl,bf,eu⟩:=Ty.open_ h
 have pq:=Lib.hid bf
 clear bf
 have qm:=Lib.hid eu
 clear eu
 have IH:=Lib.hid ih
 have HW:=Lib.hid hwf
 clear ih h hwf
 go_enter Tryz.func139,Tryz.ntmps139
 go_wp2_with fail
 obtain⟨w0,hw0⟩:∃ W,W=w.alloc (.cells #[.int .i64 kind,.string name,iq,qp] 60):=⟨_,rfl⟩
 rw[← hw0]
 have bA:Blk w0 w.heap.size 60 #[.int .i64 kind,.string name,iq,qp]:=by rw[hw0];exact Blk.new w _ _
 have hB0:Below w.heap.size w w0:=by rw[hw0];exact(Below.refl _ _).alloc (Nat.le_refl _) _
 clear hw0
 refine(IH.out B [.int .i64 kind,.string name,iq,qp] w0 (by have:=hB0.size;omega) HW.out (Ty.close_ (pq.out.below (hB0.mono hB)) (qm.out.below (hB0.mono hB)))).mono ?_
 rintro e w1 ⟨rfl,hb1⟩
 obtain⟨r,hr⟩:∃ r,r=(Ty.mk kind name labels kids).shapes:=⟨_,rfl⟩
 have HR:=Lib.hid hr
 rw[← hr]
 clear hr
 go_wp2_with fail
 go_ret
 exact⟨ah (by rw[HR.out]),hB0.trans (hb1.mono hB0.size)⟩
end Go.Proofs.YtbafphecjijdmaaGreatDoor
