/-
  spec.l03Shape, spec.l03Parts, impl.shapeOk at any type; spec.TypeOk, impl.TypeOk. (and 1 more texts)
-/
import Derived.Test.YtbafphecjijdmaaGreatDoorUb15
import Derived.Test.YtbafphecjijdmaaGreatDoorUb16
import Derived.Test.YtbafphecjijdmaaGreatDoorUb17
import Derived.Test.YtbafphecjijdmaaGreatDoorUb18
import Derived.Test.YtbafphecjijdmaaGreatDoorUb19
import Derived.Test.YtbafphecjijdmaaGreatDoorUb20
import Derived.Test.YtbafphecjijdmaaGreatDoorUb21
import Derived.Test.YtbafphecjijdmaaGreatDoorUb04
namespace Go.Proofs.YtbafphecjijdmaaGreatDoor
open Go.RowKit
set_option linter.all false
theorem bjf {kind:Int} {name:ByteArray} {labels:List ByteArray} {kids:List Ty} (h:PD.wfL (Ty.pd ⟨kind,name,labels,kids⟩)):
  name.size≤maxLen∧(∀ s ∈ labels,s.size≤maxLen)∧∀ t ∈ kids,PD.wfL (Ty.pd t):=by
 rw[Ty.aj] at h
 simp only[PD.wfL,PD.wf] at h
 refine⟨h.2.1,fun s hs=>?_,afx.1 h.2.2.2.1⟩
 have:=afx.1 h.2.2.1 s hs
 rw[qj] at this
 simp only[PD.wfL,PD.wf] at this
 exact this.1
theorem bq8 {kind:Int} {name:ByteArray} {labels:List ByteArray} {kids:List Ty} {B:Nat} {cs:List Value} {w:World} (hB:B≤w.heap.size) (hwf:PD.wfL (Ty.pd ⟨kind,name,labels,kids⟩)) (h:lq w B (Ty.pd ⟨kind,name,labels,kids⟩) cs):
  ∃ A n c A' n' c',cs=[.int .i64 kind,.string name,.slice A' n' c',.slice A n c]∧alk B n n' c c' A A' name labels kids w:=by
 obtain⟨iw,qw,rfl,r1,r2⟩:=Ty.open_ h
 obtain⟨A,n,c,rfl,hn,hm,_⟩:=ni Ty.jd (by decide) r2
 obtain⟨A',n',c',rfl,hn',hm',_⟩:=ni aaz (by decide) r1
 unfold maxLen at hm hm'
 obtain⟨h1,h2,_⟩:=bjf hwf
 exact⟨A,n,c,A',n',c',rfl,⟨hB,hm,hm',hn,hn',h1,h2,r1,r2⟩⟩
theorem a4s (t:Ty) {B:Nat} {cs:List Value} {w:World} (hB:B≤w.heap.size) (hwf:PD.wfL (Ty.pd t)) (h:lq w B (Ty.pd t) cs):
  Calls Tryz.prog 154 #[.agg cs.toArray] w fun e w'=>e=.returned (.bool (abb t))∧Below w.heap.size w w':=by
 obtain⟨kind,name,labels,kids⟩:=t
 obtain⟨A,n,c,A',n',c',rfl,ht⟩:=bq8 hB hwf h
 rcases a0i kind with hk|hk|hk
 ·exact a0j (zqd ht) hk (.inr trivial)
 ·exact avf (zqd ht) hk
 ·by_cases hz:name.size=0
  ·by_cases hl:n'=0
   ·exact ayl (zqd ht) hk hz hl
   ·exact aqj (zqd ht) hk (.inr hl)
  ·exact aqj (zqd ht) hk (.inl hz)
set_option maxHeartbeats 1600000 in
theorem a13 {kind:Int} {name:ByteArray} {labels:List ByteArray} {kids:List Ty} {B n n' c c':Nat} {A A':Option Addr} {w:World} (HT:Hid (alk B n n' c c' A A' name labels kids w)) (HI:Hid (∀ t ∈ kids,anb t)) (HW:Hid (∀ t ∈ kids,PD.wfL (Ty.pd t))) (HK:Hid ((kids.any fun t=>!t.shapes)=true)):Calls Tryz.prog 113 #[.agg #[.int .i64 kind,.string name,.slice A' n' c',.slice A n c]] w fun e w'=>e=.returned (.bool (Ty.shapes ⟨kind,name,labels,kids⟩))∧Below w.heap.size w w':=by
 have HF:Hid (Ty.shapes ⟨kind,name,labels,kids⟩=false):=by
  show _=_
  rw[Ty.shapes,al7,Bool.and_eq_false_iff]
  right
  rw[List.all_eq_false]
  obtain⟨x,hx,hy⟩:=List.any_eq_true.1 HK.out
  exact⟨x,hx,by simpa using hy⟩
 go_enter Tryz.func113,Tryz.ntmps113
 go_wp2_with fail
 obtain⟨w0,hw0⟩:=zqe w 60 #[.int .i64 kind,.string name,.slice A' n' c',.slice A n c]
 rw[← hw0]
 have bA:=zqn hw0
 have hB0:=zqb hw0
 clear hw0
 refine(uz 0 HT HI HW hB0).mono ?_
 rintro e w1 ⟨rfl,hb1⟩
 rw[HK.out]
 go_wp2_with fail
 go_ret
 exact⟨ah HF.out.symm,hB0.trans (hb1.mono hB0.size)⟩
theorem a4t:∀ t:Ty,anb t:=Ty.ai4 fun kind name labels kids ih=>by
 intro B cs w hB hwf h
 obtain⟨A,n,c,A',n',c',rfl,ht⟩:=bq8 hB hwf h
 have HW:=zqd (bjf hwf).2.2
 have HI:=zqd ih
 cases hk:kids.any fun t=>!t.shapes
 case true=>exact a13 (zqd ht) HI HW (zqd hk)
 have HK:=zqd hk
 rcases a0i kind with hk|hk|hk
 ·exact a0k (zqd ht) HI HW HK hk (.inr trivial)
 ·exact avg (zqd ht) HI HW HK hk
 ·by_cases hz:name.size=0
  ·by_cases hl:n'=0
   ·exact aym (zqd ht) HI HW HK hk hz hl
   ·exact aqk (zqd ht) HI HW HK hk (.inr hl)
  ·exact aqk (zqd ht) HI HW HK hk (.inl hz)
def a14 (t:Ty):Prop:=∀ (B:Nat) (cs:List Value) (w:World),B≤w.heap.size→PD.wfL (Ty.pd t)→lq w B (Ty.pd t) cs→
 Calls Tryz.prog 132 #[.agg cs.toArray] w fun e w'=>e=.returned (.bool t.shapes)∧Below w.heap.size w w'
set_option maxHeartbeats 1600000 in
theorem a15 {kind:Int} {name:ByteArray} {labels:List ByteArray} {kids:List Ty} (ih:∀ t ∈ kids,a14 t):a14 ⟨kind,name,labels,kids⟩:=by
 intro B cs w hB hwf h
 have HWK:=zqd (bjf hwf).2.2
 have HWF:=zqd hwf
 obtain⟨iw,qw,rfl,bf,gu⟩:=Ty.open_ h
 have pz:=zqd bf
 clear bf
 have qo:=zqd gu
 clear gu
 obtain⟨A,n,c,rfl,hnl,hm,hat⟩:=ni Ty.jd (by decide) qo.out
 unfold maxLen at hm
 have HN:=zqd hnl
 have HI:=zqd ih
 clear hnl ih h hwf
 have HF:=zqd (show(Ty.mk kind name labels kids).shapes=(abb ⟨kind,name,labels,kids⟩ && !kids.any fun t=>!t.shapes) by rw[Ty.shapes,al7,List.all_eq_not_any_not])
 go_enter Tryz.func132,Tryz.ntmps132
 go_wp2_with fail
 obtain⟨w0,hw0⟩:=zqe w 60 #[.int .i64 kind,.string name,iw,.slice A n c]
 rw[← hw0]
 have bA:=zqn hw0
 have hB0:=zqb hw0
 clear hw0
 refine(a4s ⟨kind,name,labels,kids⟩ (B:=B) (cs:=[.int .i64 kind,.string name,iw,.slice A n c]) (by have:=hB0.size;omega) HWF.out (Ty.close_ (pz.out.below (hB0.mono hB)) (qo.out.below (hB0.mono hB)))).mono ?_
 rintro e w1 ⟨rfl,hb1⟩
 have hB1:=hB0.trans (hb1.mono hB0.size)
 have bA1:=bA.step hb1
 clear bA
 cases hs:abb ⟨kind,name,labels,kids⟩
 ·have HS:=zqd hs
  clear hs
  go_wp2_with fail
  go_ret
  exact⟨ah (by rw[HF.out,HS.out];rfl),hB1⟩
 have HS:=zqd hs
 clear hs
 go_wp2_with fail
 go_loopw [3] (fun i wr=>∃ k:Nat,k≤n∧i=.int .i64 k∧Hid (∀ (j:Nat) (t:Ty),j < k→kids[j]?=some t→(!t.shapes)=false)∧Below w.heap.size w wr∧Blk wr w.heap.size 60 #[.int .i64 kind,.string name,iw,.slice A n c]) (fun i _=>n - (intOf i).toNat)
 case atStart=>exact⟨0,Nat.zero_le _,rfl,zqd fun j t h=>absurd h (by omega),hB1,bA1⟩
 case round=>
  obtain⟨k,hk,rfl,HP,hbr,bR⟩:=hrel
  clear hB0 hB1 bA1
  have aqi:wr.cell? ⟨w.heap.size,3,none⟩=some (.slice A n c):=bR.cell 3
  have hsz:=hbr.size
  by_cases hlt:k < n
  ·obtain⟨g,off,rfl,hg2,hcell2⟩:=hat (by omega)
   obtain⟨t2,hx2,ab1⟩:=um HN.out hlt
   obtain⟨kind2,name2,zu,abv⟩:=t2
   have aiw:wr.cell? ⟨g,off+k * 4,none⟩=some (.int .i64 kind2):=bg hbr (by omega) (hcell2 k 0 _ _ hx2 (by rw[Ty.aj];rfl))
   have ad5:wr.cell? ⟨g,off+k * 4+1,none⟩=some (.string name2):=bg hbr (by omega) (hcell2 k 1 _ _ hx2 (by rw[Ty.aj];rfl))
   obtain⟨adg,ahq,ace⟩:∃ u,wr.cell? ⟨g,off+k * 4+2,none⟩=some u∧Rep wr B (.row 1 (zu.flatMap qj)) u:=jc hbr (by omega) hB (hcell2 k 2 _ _ hx2 (by rw[Ty.aj];rfl))
   have adi:=zqd ace
   clear ace
   obtain⟨aez,ajc,ad6⟩:∃ u,wr.cell? ⟨g,off+k * 4+3,none⟩=some u∧Rep wr B (.row 4 (abv.flatMap Ty.pd)) u:=jc hbr (by omega) hB (hcell2 k 3 _ _ hx2 (by rw[Ty.aj];rfl))
   have aew:=zqd ad6
   clear ad6
   have HX2:=zqd hx2
   have HM2:=zqd ab1
   clear hx2 ab1
   clear hcell2
   have hcall:=HI.out _ HM2.out B [.int .i64 kind2,.string name2,adg,aez] wr (Nat.le_trans hB hbr.size) (HWK.out _ HM2.out) (Ty.close_ adi.out aew.out)
   obtain⟨t,ht⟩:∃ t:Ty,t=⟨kind2,name2,zu,abv⟩:=⟨_,rfl⟩
   have hx:=HX2.out
   rw[← ht] at hcall hx
   have HX:=zqd hx
   have HC:=zqd hcall
   clear hcall ht hx
   go_wp2_with fail
   refine HC.out.mono ?_
   rintro e w2 ⟨rfl,hb2⟩
   have bR1:=bR.step hb2
   have hB2:=hbr.trans (hb2.mono hbr.size)
   cases hb:t.shapes
   ·have HA:=zqd (ap8 (p:=fun t:Ty=>!t.shapes) HX.out (by rw[hb];rfl))
    go_wp2_with fail
    go_ret
    exact⟨ah (by rw[HF.out,HS.out,HA.out];rfl),hB2⟩
   ·have HB:=zqd (show(!t.shapes)=false by rw[hb];rfl)
    clear hb
    go_wp2_with fail
    go_roundw
    case rel=>exact⟨k+1,by omega,by go_num,zqd (agd (p:=fun t:Ty=>!t.shapes) HP.out HX.out HB.out),hB2,bR1⟩
    case measure=>simp[intOf];omega
  ·have hkn:k=n:=by omega
   subst hkn
   have HA:=zqd (any_none (p:=fun t:Ty=>!t.shapes) (ts:=kids) (n:=k) (by have:=HN.out;omega) HP.out)
   go_wp2_with fail
   go_ret
   exact⟨ah (by rw[HF.out,HS.out,HA.out];rfl),hbr⟩
theorem a4u:∀ t:Ty,a14 t:=Ty.ai4 fun kind name labels kids ih=>a15 ih
set_option maxHeartbeats 1600000 in
theorem a0l (t:Ty) {B:Nat} {cs:List Value} {w:World} (hB:B≤w.heap.size) (hwf:PD.wfL (Ty.pd t)) (h:lq w B (Ty.pd t) cs):
  Calls Tryz.prog 101 #[.agg cs.toArray] w fun e w'=>e=.returned (.bool (afp t))∧Below w.heap.size w w':=by
 obtain⟨kind,name,labels,kids⟩:=t
 obtain⟨iw,qw,rfl,bf,gu⟩:=Ty.open_ h
 have pz:=zqd bf
 clear bf
 have qo:=zqd gu
 clear gu
 have HWF:=zqd hwf
 clear h hwf
 go_enter Tryz.func101,Tryz.ntmps101
 go_wp2_with fail
 obtain⟨w0,hw0⟩:=zqe w 60 #[.int .i64 kind,.string name,iw,qw]
 rw[← hw0]
 have bA:=zqn hw0
 have hB0:=zqb hw0
 clear hw0
 have RC:Hid (lq w0 B (Ty.pd ⟨kind,name,labels,kids⟩) [.int .i64 kind,.string name,iw,qw]):=Ty.close_ (pz.out.below (hB0.mono hB)) (qo.out.below (hB0.mono hB))
 have hBs:=Nat.le_trans hB hB0.size
 refine(a7q ⟨kind,name,labels,kids⟩ B [.int .i64 kind,.string name,iw,qw] w0 1 (by omega) (by omega) hBs RC.out).mono ?_
 rintro e w1 ⟨rfl,hb1⟩
 have hB1:=hB0.trans (hb1.mono hB0.size)
 have bA1:=bA.step hb1
 clear bA
 obtain⟨abq,abm⟩:=zc2 bA1
 have abn:w1.cell? ⟨w.heap.size,2,none⟩=some iw:=bA1.cell 2
 have abg:w1.cell? ⟨w.heap.size,3,none⟩=some qw:=bA1.cell 3
 by_cases hs:alm ⟨kind,name,labels,kids⟩ 1
 ·have hD:szD ⟨kind,name,labels,kids⟩ 1=((Ty.mk kind name labels kids).height:Int):=if_pos hs
  have hP:szP ⟨kind,name,labels,kids⟩ 1=((Ty.mk kind name labels kids).parts:Int):=if_pos hs
  rw[hD,hP]
  obtain⟨D,hDD⟩:∃ D,D=(Ty.mk kind name labels kids).height:=⟨_,rfl⟩
  obtain⟨Q,hQQ⟩:∃ Q,Q=(Ty.mk kind name labels kids).parts:=⟨_,rfl⟩
  have h1:D≤4:=by have:=hs.1;omega
  have h2:Q≤24:=by have:=hs.2;omega
  have HF:Hid (afp ⟨kind,name,labels,kids⟩=(Ty.mk kind name labels kids).shapes):=by
   show _=_
   rw[afp,decide_eq_true (by omega),decide_eq_true (by omega)]
   rfl
  rw[← hDD,← hQQ]
  clear hD hP hDD hQQ hs
  go_wp2_with fail
  refine(a4u ⟨kind,name,labels,kids⟩ B [.int .i64 kind,.string name,iw,qw] w1 (Nat.le_trans hBs hb1.size) HWF.out (RC.out.below (hb1.mono hBs))).mono ?_
  rintro e w2 ⟨rfl,hb2⟩
  go_wp2_with fail
  go_ret
  exact⟨ah HF.out.symm,hB1.trans (hb2.mono hB1.size)⟩
 ·have hD:szD ⟨kind,name,labels,kids⟩ 1=5:=if_neg hs
  have hP:szP ⟨kind,name,labels,kids⟩ 1=25:=if_neg hs
  have HF:Hid (afp ⟨kind,name,labels,kids⟩=false):=by
   show _=_
   by_cases h1:(Ty.mk kind name labels kids).height≤4
   ·rw[afp,decide_eq_true h1,decide_eq_false (fun h2=>hs ⟨by omega,h2⟩)]
    rfl
   ·rw[afp,decide_eq_false h1]
    rfl
  rw[hD,hP]
  clear hD hP hs
  go_wp2_with fail
  go_ret
  exact⟨ah HF.out.symm,hB1⟩
set_option maxHeartbeats 1600000 in
theorem ar6 (t:Ty) {B:Nat} {cs:List Value} {w:World} (hB:B≤w.heap.size) (hwf:PD.wfL (Ty.pd t)) (hp:t.parts≤4194304) (h:lq w B (Ty.pd t) cs):
  Calls Tryz.prog 84 #[.agg cs.toArray] w fun e w'=>e=.returned (.bool (afp t))∧Below w.heap.size w w':=by
 obtain⟨kind,name,labels,kids⟩:=t
 obtain⟨iw,qw,rfl,bf,gu⟩:=Ty.open_ h
 have pz:=zqd bf
 clear bf
 have qo:=zqd gu
 clear gu
 have HWF:=zqd hwf
 have HP:=zqd hp
 clear h hwf hp
 have HD:Hid (min (Ty.mk kind name labels kids).height (4+1)≤5):=Nat.min_le_right _ _
 have HDD:Hid ((Ty.mk kind name labels kids).height≤4↔min (Ty.mk kind name labels kids).height (4+1)≤4):=by show _↔_;omega
 obtain⟨D,hD⟩:∃ D,D=min (Ty.mk kind name labels kids).height (4+1):=⟨_,rfl⟩
 obtain⟨Q,hQ⟩:∃ Q,Q=(Ty.mk kind name labels kids).parts:=⟨_,rfl⟩
 have HDE:=zqd hD
 have HQE:=zqd hQ
 have h5:D≤5:=by rw[hD];exact HD.out
 have h4:Q≤4194304:=by rw[hQ];exact HP.out
 have HF:Hid (afp ⟨kind,name,labels,kids⟩=(decide (D≤4) && decide (Q≤24) && (Ty.mk kind name labels kids).shapes)):=by
  show _=_
  rw[afp,hQ,decide_eq_decide.2 (show(Ty.mk kind name labels kids).height≤4↔D≤4 by rw[hD];exact HDD.out)]
 clear hD hQ HD HDD
 by_cases hd4:D≤4
 ·by_cases hq:Q≤24
  ·have HG:Hid (afp ⟨kind,name,labels,kids⟩=(Ty.mk kind name labels kids).shapes):=by show _=_;rw[HF.out,decide_eq_true hd4,decide_eq_true hq];rfl
   go_enter Tryz.func84,Tryz.ntmps84
   go_wp2_with fail
   obtain⟨w0,hw0⟩:=zqe w 60 #[.int .i64 kind,.string name,iw,qw]
   rw[← hw0]
   have bA:=zqn hw0
   have hB0:=zqb hw0
   clear hw0
   have RC:Hid (lq w0 B (Ty.pd ⟨kind,name,labels,kids⟩) [.int .i64 kind,.string name,iw,qw]):=Ty.close_ (pz.out.below (hB0.mono hB)) (qo.out.below (hB0.mono hB))
   have hBs:=Nat.le_trans hB hB0.size
   have H1:=zqd (aql ⟨kind,name,labels,kids⟩ B [.int .i64 kind,.string name,iw,qw] w0 4 (by omega) hBs RC.out)
   rw[← HDE.out] at H1
   refine H1.out.mono ?_
   rintro e w1 ⟨rfl,hb1⟩
   have hB1:=hB0.trans (hb1.mono hB0.size)
   have bA1:=bA.step hb1
   clear bA
   obtain⟨abq,abm⟩:=zc2 bA1
   have abn:w1.cell? ⟨w.heap.size,2,none⟩=some iw:=bA1.cell 2
   have abg:w1.cell? ⟨w.heap.size,3,none⟩=some qw:=bA1.cell 3
   go_wp2_with fail
   have H2:=zqd (aup ⟨kind,name,labels,kids⟩ B [.int .i64 kind,.string name,iw,qw] w1 HP.out (Nat.le_trans hBs hb1.size) (RC.out.below (hb1.mono hBs)))
   rw[← HQE.out] at H2
   refine H2.out.mono ?_
   rintro e w2 ⟨rfl,hb2⟩
   have hB2:=hB1.trans (hb2.mono hB1.size)
   have bA2:=bA1.step hb2
   clear bA1
   obtain⟨af4,af5⟩:=zc2 bA2
   have af6:w2.cell? ⟨w.heap.size,2,none⟩=some iw:=bA2.cell 2
   have af7:w2.cell? ⟨w.heap.size,3,none⟩=some qw:=bA2.cell 3
   go_wp2_with fail
   refine(a4t ⟨kind,name,labels,kids⟩ B [.int .i64 kind,.string name,iw,qw] w2 (Nat.le_trans hBs (Nat.le_trans hb1.size hb2.size)) HWF.out ((RC.out.below (hb1.mono hBs)).below (hb2.mono (Nat.le_trans hBs hb1.size)))).mono ?_
   rintro e w3 ⟨rfl,hb3⟩
   go_wp2_with fail
   go_ret
   exact⟨ah HG.out.symm,hB2.trans (hb3.mono hB2.size)⟩
  ·have HG:Hid (afp ⟨kind,name,labels,kids⟩=false):=by show _=_;rw[HF.out,decide_eq_true hd4,decide_eq_false hq];rfl
   go_enter Tryz.func84,Tryz.ntmps84
   go_wp2_with fail
   obtain⟨w0,hw0⟩:=zqe w 60 #[.int .i64 kind,.string name,iw,qw]
   rw[← hw0]
   have bA:=zqn hw0
   have hB0:=zqb hw0
   clear hw0
   have RC:Hid (lq w0 B (Ty.pd ⟨kind,name,labels,kids⟩) [.int .i64 kind,.string name,iw,qw]):=Ty.close_ (pz.out.below (hB0.mono hB)) (qo.out.below (hB0.mono hB))
   have hBs:=Nat.le_trans hB hB0.size
   have H1:=zqd (aql ⟨kind,name,labels,kids⟩ B [.int .i64 kind,.string name,iw,qw] w0 4 (by omega) hBs RC.out)
   rw[← HDE.out] at H1
   refine H1.out.mono ?_
   rintro e w1 ⟨rfl,hb1⟩
   have hB1:=hB0.trans (hb1.mono hB0.size)
   have bA1:=bA.step hb1
   clear bA
   obtain⟨abq,abm⟩:=zc2 bA1
   have abn:w1.cell? ⟨w.heap.size,2,none⟩=some iw:=bA1.cell 2
   have abg:w1.cell? ⟨w.heap.size,3,none⟩=some qw:=bA1.cell 3
   go_wp2_with fail
   have H2:=zqd (aup ⟨kind,name,labels,kids⟩ B [.int .i64 kind,.string name,iw,qw] w1 HP.out (Nat.le_trans hBs hb1.size) (RC.out.below (hb1.mono hBs)))
   rw[← HQE.out] at H2
   refine H2.out.mono ?_
   rintro e w2 ⟨rfl,hb2⟩
   have hB2:=hB1.trans (hb2.mono hB1.size)
   have bA2:=bA1.step hb2
   clear bA1
   obtain⟨af4,af5⟩:=zc2 bA2
   have af6:w2.cell? ⟨w.heap.size,2,none⟩=some iw:=bA2.cell 2
   have af7:w2.cell? ⟨w.heap.size,3,none⟩=some qw:=bA2.cell 3
   go_wp2_with fail
   go_ret
   exact⟨ah HG.out.symm,hB2⟩
 ·have HG:Hid (afp ⟨kind,name,labels,kids⟩=false):=by show _=_;rw[HF.out,decide_eq_false hd4];rfl
  go_enter Tryz.func84,Tryz.ntmps84
  go_wp2_with fail
  obtain⟨w0,hw0⟩:=zqe w 60 #[.int .i64 kind,.string name,iw,qw]
  rw[← hw0]
  have bA:=zqn hw0
  have hB0:=zqb hw0
  clear hw0
  have RC:Hid (lq w0 B (Ty.pd ⟨kind,name,labels,kids⟩) [.int .i64 kind,.string name,iw,qw]):=Ty.close_ (pz.out.below (hB0.mono hB)) (qo.out.below (hB0.mono hB))
  have hBs:=Nat.le_trans hB hB0.size
  have H1:=zqd (aql ⟨kind,name,labels,kids⟩ B [.int .i64 kind,.string name,iw,qw] w0 4 (by omega) hBs RC.out)
  rw[← HDE.out] at H1
  refine H1.out.mono ?_
  rintro e w1 ⟨rfl,hb1⟩
  have hB1:=hB0.trans (hb1.mono hB0.size)
  have bA1:=bA.step hb1
  clear bA
  obtain⟨abq,abm⟩:=zc2 bA1
  have abn:w1.cell? ⟨w.heap.size,2,none⟩=some iw:=bA1.cell 2
  have abg:w1.cell? ⟨w.heap.size,3,none⟩=some qw:=bA1.cell 3
  go_wp2_with fail
  go_ret
  exact⟨ah HG.out.symm,hB1⟩
theorem agw {w w':World} {base sz n:Nat} {e:TypeId} {v:Value} {xs:List Value} (h:w.ownsRow base e sz v n xs) (hb:Below w.heap.size w w'):w'.ownsRow base e sz v n xs:=by
 obtain⟨h1,h2⟩:=h
 refine⟨h1,?_⟩
 rcases h2 with h2|⟨g,cap,cur,hv,hbb,hh,hr⟩
 ·exact .inl h2
 ·exact .inr ⟨g,cap,cur,hv,hbb,by rw[hb.block g (Array.getElem?_eq_some_iff.1 hh).1];exact hh,hr⟩
end Go.Proofs.YtbafphecjijdmaaGreatDoor
