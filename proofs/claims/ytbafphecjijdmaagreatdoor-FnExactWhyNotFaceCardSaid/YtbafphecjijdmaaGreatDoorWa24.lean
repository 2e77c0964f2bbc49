/-
  spec.l03Shape, spec.l03Parts, impl.shapeOk at any type; spec.TypeOk, impl.TypeOk.
  Rows of whole numbers that a call owns, as readings.
-/
import Derived.Test.YtbafphecjijdmaaGreatDoorWa17
import Derived.Test.YtbafphecjijdmaaGreatDoorWa18
import Derived.Test.YtbafphecjijdmaaGreatDoorWa19
import Derived.Test.YtbafphecjijdmaaGreatDoorWa20
import Derived.Test.YtbafphecjijdmaaGreatDoorWa21
import Derived.Test.YtbafphecjijdmaaGreatDoorWa22
import Derived.Test.YtbafphecjijdmaaGreatDoorWa23
import Derived.Test.YtbafphecjijdmaaGreatDoorWa04
namespace Go.Proofs.YtbafphecjijdmaaGreatDoor
open Go.RowKit
set_option linter.unusedVariables false
set_option linter.unusedSimpArgs false
set_option linter.unnecessarySimpa false
theorem bdj {kind:Int} {name:ByteArray} {labels:List ByteArray} {kids:List Ty} (h:PD.wfL (Ty.pd ⟨kind,name,labels,kids⟩)):
  name.size≤maxLen∧(∀ s ∈ labels,s.size≤maxLen)∧∀ t ∈ kids,PD.wfL (Ty.pd t):=by
 rw[Ty.ay] at h
 simp only[PD.wfL,PD.wf] at h
 refine⟨h.2.1,fun s hs=>?_,agr.1 h.2.2.2.1⟩
 have:=agr.1 h.2.2.1 s hs
 rw[tu] at this
 simp only[PD.wfL,PD.wf] at this
 exact this.1
theorem bk0 {kind:Int} {name:ByteArray} {labels:List ByteArray} {kids:List Ty} {B:Nat} {cs:List Value} {w:World} (hB:B≤w.heap.size) (hwf:PD.wfL (Ty.pd ⟨kind,name,labels,kids⟩)) (h:jy w B (Ty.pd ⟨kind,name,labels,kids⟩) cs):
  ∃ A n c A' n' c',cs=[.int .i64 kind,.string name,.slice A' n' c',.slice A n c]∧ale B n n' c c' A A' name labels kids w:=by
 obtain⟨iq,qp,rfl,r1,r2⟩:=Ty.open_ h
 obtain⟨A,n,c,rfl,hn,hm,_⟩:=ny Ty.jw (by decide) r2
 obtain⟨A',n',c',rfl,hn',hm',_⟩:=ny aat (by decide) r1
 unfold maxLen at hm hm'
 obtain⟨h1,h2,_⟩:=bdj hwf
 exact⟨A,n,c,A',n',c',rfl,⟨hB,hm,hm',hn,hn',h1,h2,r1,r2⟩⟩
theorem az9 (t:Ty) {B:Nat} {cs:List Value} {w:World} (hB:B≤w.heap.size) (hwf:PD.wfL (Ty.pd t)) (h:jy w B (Ty.pd t) cs):
  Calls Tryz.prog 154 #[.agg cs.toArray] w fun e w'=>e=.returned (.bool (aay t))∧Below w.heap.size w w':=by
 obtain⟨kind,name,labels,kids⟩:=t
 obtain⟨A,n,c,A',n',c',rfl,ht⟩:=bk0 hB hwf h
 rcases aw9 kind with hk|hk|hk
 ·exact axa (Lib.hid ht) hk (.inr trivial)
 ·exact as4 (Lib.hid ht) hk
 ·by_cases hz:name.size=0
  ·by_cases hl:n'=0
   ·exact avv (Lib.hid ht) hk hz hl
   ·exact aoy (Lib.hid ht) hk (.inr hl)
  ·exact aoy (Lib.hid ht) hk (.inl hz)
set_option maxHeartbeats 1600000 in
theorem ayf {kind:Int} {name:ByteArray} {labels:List ByteArray} {kids:List Ty} {B n n' c c':Nat} {A A':Option Addr} {w:World} (HT:Hid (ale B n n' c c' A A' name labels kids w)) (HI:Hid (∀ t ∈ kids,ane t)) (HW:Hid (∀ t ∈ kids,PD.wfL (Ty.pd t))) (HK:Hid ((kids.any fun t=>!t.shapes)=true)):Calls Tryz.prog 113 #[.agg #[.int .i64 kind,.string name,.slice A' n' c',.slice A n c]] w fun e w'=>e=.returned (.bool (Ty.shapes ⟨kind,name,labels,kids⟩))∧Below w.heap.size w w':=by
 have HF:Hid (Ty.shapes ⟨kind,name,labels,kids⟩=false):=by
  show _=_
  rw[Ty.shapes,ak4,Bool.and_eq_false_iff]
  right
  rw[List.all_eq_false]
  obtain⟨x,hx,hy⟩:=List.any_eq_true.1 HK.out
  exact⟨x,hx,by simpa using hy⟩
 go_enter Tryz.func113,Tryz.ntmps113
 go_wp2_with fail
 obtain⟨w0,hw0⟩:∃ W,W=w.alloc (.cells #[.int .i64 kind,.string name,.slice A' n' c',.slice A n c] 60):=⟨_,rfl⟩
 rw[← hw0]
 have bA:Blk w0 w.heap.size 60 #[.int .i64 kind,.string name,.slice A' n' c',.slice A n c]:=by rw[hw0];exact Blk.new w _ _
 have hB0:Below w.heap.size w w0:=by rw[hw0];exact(Below.refl _ _).alloc (Nat.le_refl _) _
 clear hw0
 refine(ou 139 #[] (fun t=>!t.shapes) (HT.out.c (kind:=0) hB0).1 (HT.out.k hB0) pz (fun t ht cs W hW hr=>su (HI.out t ht) (B:=W.heap.size) (Nat.le_refl _) (HW.out t ht) (hr.more (by have h1:=(HT.out.c (kind:=0) hB0).1;have:=hW.size;omega)))).mono ?_
 rintro e w1 ⟨rfl,hb1⟩
 rw[HK.out]
 go_wp2_with fail
 go_ret
 exact⟨ah HF.out.symm,hB0.trans (hb1.mono hB0.size)⟩
theorem a0a:∀ t:Ty,ane t:=Ty.ahy fun kind name labels kids ih=>by
 intro B cs w hB hwf h
 obtain⟨A,n,c,A',n',c',rfl,ht⟩:=bk0 hB hwf h
 have HW:=Lib.hid (bdj hwf).2.2
 have HI:=Lib.hid ih
 cases hk:kids.any fun t=>!t.shapes
 case true=>exact ayf (Lib.hid ht) HI HW (Lib.hid hk)
 have HK:=Lib.hid hk
 rcases aw9 kind with hk|hk|hk
 ·exact axb (Lib.hid ht) HI HW HK hk (.inr trivial)
 ·exact as5 (Lib.hid ht) HI HW HK hk
 ·by_cases hz:name.size=0
  ·by_cases hl:n'=0
   ·exact avw (Lib.hid ht) HI HW HK hk hz hl
   ·exact aoz (Lib.hid ht) HI HW HK hk (.inr hl)
  ·exact aoz (Lib.hid ht) HI HW HK hk (.inl hz)
def ayg (t:Ty):Prop:=∀ (B:Nat) (cs:List Value) (w:World),B≤w.heap.size→PD.wfL (Ty.pd t)→jy w B (Ty.pd t) cs→
 Calls Tryz.prog 132 #[.agg cs.toArray] w fun e w'=>e=.returned (.bool t.shapes)∧Below w.heap.size w w'
set_option maxHeartbeats 1600000 in
theorem ayh {kind:Int} {name:ByteArray} {labels:List ByteArray} {kids:List Ty} (ih:∀ t ∈ kids,ayg t):ayg ⟨kind,name,labels,kids⟩:=by
 intro B cs w hB hwf h
 have HWK:=Lib.hid (bdj hwf).2.2
 have HWF:=Lib.hid hwf
 obtain⟨iq,qp,rfl,bf,eu⟩:=Ty.open_ h
 have pq:=Lib.hid bf
 clear bf
 have qm:=Lib.hid eu
 clear eu
 obtain⟨A,n,c,rfl,hnl,hm,hat⟩:=ny Ty.jw (by decide) qm.out
 unfold maxLen at hm
 have HN:=Lib.hid hnl
 have HI:=Lib.hid ih
 clear hnl ih h hwf
 have HF:=Lib.hid (show(Ty.mk kind name labels kids).shapes=(aay ⟨kind,name,labels,kids⟩ && !kids.any fun t=>!t.shapes) by rw[Ty.shapes,ak4,List.all_eq_not_any_not])
 go_enter Tryz.func132,Tryz.ntmps132
 go_wp2_with fail
 obtain⟨w0,hw0⟩:∃ W,W=w.alloc (.cells #[.int .i64 kind,.string name,iq,.slice A n c] 60):=⟨_,rfl⟩
 rw[← hw0]
 have bA:Blk w0 w.heap.size 60 #[.int .i64 kind,.string name,iq,.slice A n c]:=by rw[hw0];exact Blk.new w _ _
 have hB0:Below w.heap.size w w0:=by rw[hw0];exact(Below.refl _ _).alloc (Nat.le_refl _) _
 clear hw0
 refine(az9 ⟨kind,name,labels,kids⟩ (B:=B) (cs:=[.int .i64 kind,.string name,iq,.slice A n c]) (by have:=hB0.size;omega) HWF.out (Ty.close_ (pq.out.below (hB0.mono hB)) (qm.out.below (hB0.mono hB)))).mono ?_
 rintro e w1 ⟨rfl,hb1⟩
 have hB1:=hB0.trans (hb1.mono hB0.size)
 have bA1:=bA.step hb1
 clear bA
 cases hs:aay ⟨kind,name,labels,kids⟩
 ·have HS:=Lib.hid hs
  clear hs
  go_wp2_with fail
  go_ret
  exact⟨ah (by rw[HF.out,HS.out];rfl),hB1⟩
 have HS:=Lib.hid hs
 clear hs
 go_wp2_with fail
 go_loopw [3] (fun i wr=>∃ k:Nat,k≤n∧i=.int .i64 k∧Hid (∀ (j:Nat) (t:Ty),j < k→kids[j]?=some t→(!t.shapes)=false)∧Below w.heap.size w wr∧Blk wr w.heap.size 60 #[.int .i64 kind,.string name,iq,.slice A n c]) (fun i _=>n - (intOf i).toNat)
 case atStart=>exact⟨0,Nat.zero_le _,rfl,Lib.hid fun j t h=>absurd h (by omega),hB1,bA1⟩
 case round=>
  obtain⟨k,hk,rfl,HP,hbr,bR⟩:=hrel
  clear hB0 hB1 bA1
  have aox:wr.cell? ⟨w.heap.size,3,none⟩=some (.slice A n c):=bR.cell 3
  have hsz:=hbr.size
  by_cases hlt:k < n
  ·obtain⟨g,off,rfl,hg2,hcell2⟩:=hat (by omega)
   obtain⟨t2,hx2,ac9⟩:=xg HN.out hlt
   obtain⟨kind2,name2,zh,abl⟩:=t2
   have aht:wr.cell? ⟨g,off+k * 4,none⟩=some (.int .i64 kind2):=gq hbr (by omega) (hcell2 k 0 _ _ hx2 (by rw[Ty.ay];rfl))
   have afe:wr.cell? ⟨g,off+k * 4+1,none⟩=some (.string name2):=gq hbr (by omega) (hcell2 k 1 _ _ hx2 (by rw[Ty.ay];rfl))
   obtain⟨ac0,ag3,ab2⟩:∃ u,wr.cell? ⟨g,off+k * 4+2,none⟩=some u∧Rep wr B (.row 1 (zh.flatMap tu)) u:=ku hbr (by omega) hB (hcell2 k 2 _ _ hx2 (by rw[Ty.ay];rfl))
   have ac2:=Lib.hid ab2
   clear ab2
   obtain⟨aeh,ah9,adr⟩:∃ u,wr.cell? ⟨g,off+k * 4+3,none⟩=some u∧Rep wr B (.row 4 (abl.flatMap Ty.pd)) u:=ku hbr (by omega) hB (hcell2 k 3 _ _ hx2 (by rw[Ty.ay];rfl))
   have aee:=Lib.hid adr
   clear adr
   have HX2:=Lib.hid hx2
   have HM2:=Lib.hid ac9
   clear hx2 ac9
   clear hcell2
   have hcall:=HI.out _ HM2.out B [.int .i64 kind2,.string name2,ac0,aeh] wr (Nat.le_trans hB hbr.size) (HWK.out _ HM2.out) (Ty.close_ ac2.out aee.out)
   obtain⟨t,ht⟩:∃ t:Ty,t=⟨kind2,name2,zh,abl⟩:=⟨_,rfl⟩
   have hx:=HX2.out
   rw[← ht] at hcall hx
   have HX:=Lib.hid hx
   have HC:=Lib.hid hcall
   clear hcall ht hx
   go_wp2_with fail
   refine HC.out.mono ?_
   rintro e w2 ⟨rfl,hb2⟩
   have bR1:=bR.step hb2
   have hB2:=hbr.trans (hb2.mono hbr.size)
   cases hb:t.shapes
   ·have HA:=Lib.hid (aor (p:=fun t:Ty=>!t.shapes) HX.out (by rw[hb];rfl))
    go_wp2_with fail
    go_ret
    exact⟨ah (by rw[HF.out,HS.out,HA.out];rfl),hB2⟩
   ·have HB:=Lib.hid (show(!t.shapes)=false by rw[hb];rfl)
    clear hb
    go_wp2_with fail
    go_roundw
    case rel=>exact⟨k+1,by omega,by go_num,Lib.hid (afr (p:=fun t:Ty=>!t.shapes) HP.out HX.out HB.out),hB2,bR1⟩
    case measure=>simp[intOf];omega
  ·have hkn:k=n:=by omega
   subst hkn
   have HA:=Lib.hid (any_none (p:=fun t:Ty=>!t.shapes) (ts:=kids) (n:=k) (by have:=HN.out;omega) HP.out)
   go_wp2_with fail
   go_ret
   exact⟨ah (by rw[HF.out,HS.out,HA.out];rfl),hbr⟩
theorem a0b:∀ t:Ty,ayg t:=Ty.ahy fun kind name labels kids ih=>ayh ih
set_option maxHeartbeats 1600000 in
theorem axc (t:Ty) {B:Nat} {cs:List Value} {w:World} (hB:B≤w.heap.size) (hwf:PD.wfL (Ty.pd t)) (h:jy w B (Ty.pd t) cs):
  Calls Tryz.prog 101 #[.agg cs.toArray] w fun e w'=>e=.returned (.bool (ae9 t))∧Below w.heap.size w w':=by
 obtain⟨kind,name,labels,kids⟩:=t
 obtain⟨iq,qp,rfl,bf,eu⟩:=Ty.open_ h
 have pq:=Lib.hid bf
 clear bf
 have qm:=Lib.hid eu
 clear eu
 have HWF:=Lib.hid hwf
 clear h hwf
 go_enter Tryz.func101,Tryz.ntmps101
 go_wp2_with fail
 obtain⟨w0,hw0⟩:∃ W,W=w.alloc (.cells #[.int .i64 kind,.string name,iq,qp] 60):=⟨_,rfl⟩
 rw[← hw0]
 have bA:Blk w0 w.heap.size 60 #[.int .i64 kind,.string name,iq,qp]:=by rw[hw0];exact Blk.new w _ _
 have hB0:Below w.heap.size w w0:=by rw[hw0];exact(Below.refl _ _).alloc (Nat.le_refl _) _
 clear hw0
 have RC:Hid (jy w0 B (Ty.pd ⟨kind,name,labels,kids⟩) [.int .i64 kind,.string name,iq,qp]):=Ty.close_ (pq.out.below (hB0.mono hB)) (qm.out.below (hB0.mono hB))
 have hBs:=Nat.le_trans hB hB0.size
 refine(a2a ⟨kind,name,labels,kids⟩ B [.int .i64 kind,.string name,iq,qp] w0 1 (by omega) (by omega) hBs RC.out).mono ?_
 rintro e w1 ⟨rfl,hb1⟩
 have hB1:=hB0.trans (hb1.mono hB0.size)
 have bA1:=bA.step hb1
 clear bA
 have abg:w1.cell? ⟨w.heap.size,0,none⟩=some (.int .i64 kind):=bA1.cell 0
 have aa9:w1.cell? ⟨w.heap.size,1,none⟩=some (.string name):=bA1.cell 1
 have abb:w1.cell? ⟨w.heap.size,2,none⟩=some iq:=bA1.cell 2
 have aa1:w1.cell? ⟨w.heap.size,3,none⟩=some qp:=bA1.cell 3
 by_cases hs:akn ⟨kind,name,labels,kids⟩ 1
 ·have hD:szD ⟨kind,name,labels,kids⟩ 1=((Ty.mk kind name labels kids).height:Int):=if_pos hs
  have hP:szP ⟨kind,name,labels,kids⟩ 1=((Ty.mk kind name labels kids).parts:Int):=if_pos hs
  rw[hD,hP]
  obtain⟨D,hDD⟩:∃ D,D=(Ty.mk kind name labels kids).height:=⟨_,rfl⟩
  obtain⟨Q,hQQ⟩:∃ Q,Q=(Ty.mk kind name labels kids).parts:=⟨_,rfl⟩
  have h1:D≤4:=by have:=hs.1;omega
  have h2:Q≤24:=by have:=hs.2;omega
  have HF:Hid (ae9 ⟨kind,name,labels,kids⟩=(Ty.mk kind name labels kids).shapes):=by
   show _=_
   rw[ae9,decide_eq_true (by omega),decide_eq_true (by omega)]
   rfl
  rw[← hDD,← hQQ]
  clear hD hP hDD hQQ hs
  go_wp2_with fail
  refine(a0b ⟨kind,name,labels,kids⟩ B [.int .i64 kind,.string name,iq,qp] w1 (Nat.le_trans hBs hb1.size) HWF.out (RC.out.below (hb1.mono hBs))).mono ?_
  rintro e w2 ⟨rfl,hb2⟩
  go_wp2_with fail
  go_ret
  exact⟨ah HF.out.symm,hB1.trans (hb2.mono hB1.size)⟩
 ·have hD:szD ⟨kind,name,labels,kids⟩ 1=5:=if_neg hs
  have hP:szP ⟨kind,name,labels,kids⟩ 1=25:=if_neg hs
  have HF:Hid (ae9 ⟨kind,name,labels,kids⟩=false):=by
   show _=_
   by_cases h1:(Ty.mk kind name labels kids).height≤4
   ·rw[ae9,decide_eq_true h1,decide_eq_false (fun h2=>hs ⟨by omega,h2⟩)]
    rfl
   ·rw[ae9,decide_eq_false h1]
    rfl
  rw[hD,hP]
  clear hD hP hs
  go_wp2_with fail
  go_ret
  exact⟨ah HF.out.symm,hB1⟩
set_option maxHeartbeats 1600000 in
theorem aqc (t:Ty) {B:Nat} {cs:List Value} {w:World} (hB:B≤w.heap.size) (hwf:PD.wfL (Ty.pd t)) (hp:t.parts≤4194304) (h:jy w B (Ty.pd t) cs):
  Calls Tryz.prog 84 #[.agg cs.toArray] w fun e w'=>e=.returned (.bool (ae9 t))∧Below w.heap.size w w':=by
 obtain⟨kind,name,labels,kids⟩:=t
 obtain⟨iq,qp,rfl,bf,eu⟩:=Ty.open_ h
 have pq:=Lib.hid bf
 clear bf
 have qm:=Lib.hid eu
 clear eu
 have HWF:=Lib.hid hwf
 have HP:=Lib.hid hp
 clear h hwf hp
 have HD:Hid (min (Ty.mk kind name labels kids).height (4+1)≤5):=Nat.min_le_right _ _
 have HDD:Hid ((Ty.mk kind name labels kids).height≤4↔min (Ty.mk kind name labels kids).height (4+1)≤4):=by show _↔_;omega
 obtain⟨D,hD⟩:∃ D,D=min (Ty.mk kind name labels kids).height (4+1):=⟨_,rfl⟩
 obtain⟨Q,hQ⟩:∃ Q,Q=(Ty.mk kind name labels kids).parts:=⟨_,rfl⟩
 have HDE:=Lib.hid hD
 have HQE:=Lib.hid hQ
 have h5:D≤5:=by rw[hD];exact HD.out
 have h4:Q≤4194304:=by rw[hQ];exact HP.out
 have HF:Hid (ae9 ⟨kind,name,labels,kids⟩=(decide (D≤4) && decide (Q≤24) && (Ty.mk kind name labels kids).shapes)):=by
  show _=_
  rw[ae9,hQ,decide_eq_decide.2 (show(Ty.mk kind name labels kids).height≤4↔D≤4 by rw[hD];exact HDD.out)]
 clear hD hQ HD HDD
 by_cases hd4:D≤4
 ·by_cases hq:Q≤24
  ·have HG:Hid (ae9 ⟨kind,name,labels,kids⟩=(Ty.mk kind name labels kids).shapes):=by show _=_;rw[HF.out,decide_eq_true hd4,decide_eq_true hq];rfl
   go_enter Tryz.func84,Tryz.ntmps84
   go_wp2_with fail
   obtain⟨w0,hw0⟩:∃ W,W=w.alloc (.cells #[.int .i64 kind,.string name,iq,qp] 60):=⟨_,rfl⟩
   rw[← hw0]
   have bA:Blk w0 w.heap.size 60 #[.int .i64 kind,.string name,iq,qp]:=by rw[hw0];exact Blk.new w _ _
   have hB0:Below w.heap.size w w0:=by rw[hw0];exact(Below.refl _ _).alloc (Nat.le_refl _) _
   clear hw0
   have RC:Hid (jy w0 B (Ty.pd ⟨kind,name,labels,kids⟩) [.int .i64 kind,.string name,iq,qp]):=Ty.close_ (pq.out.below (hB0.mono hB)) (qm.out.below (hB0.mono hB))
   have hBs:=Nat.le_trans hB hB0.size
   have H1:=Lib.hid (ao0 ⟨kind,name,labels,kids⟩ B [.int .i64 kind,.string name,iq,qp] w0 4 (by omega) hBs RC.out)
   rw[← HDE.out] at H1
   refine H1.out.mono ?_
   rintro e w1 ⟨rfl,hb1⟩
   have hB1:=hB0.trans (hb1.mono hB0.size)
   have bA1:=bA.step hb1
   clear bA
   have abg:w1.cell? ⟨w.heap.size,0,none⟩=some (.int .i64 kind):=bA1.cell 0
   have aa9:w1.cell? ⟨w.heap.size,1,none⟩=some (.string name):=bA1.cell 1
   have abb:w1.cell? ⟨w.heap.size,2,none⟩=some iq:=bA1.cell 2
   have aa1:w1.cell? ⟨w.heap.size,3,none⟩=some qp:=bA1.cell 3
   go_wp2_with fail
   have H2:=Lib.hid (ase ⟨kind,name,labels,kids⟩ B [.int .i64 kind,.string name,iq,qp] w1 HP.out (Nat.le_trans hBs hb1.size) (RC.out.below (hb1.mono hBs)))
   rw[← HQE.out] at H2
   refine H2.out.mono ?_
   rintro e w2 ⟨rfl,hb2⟩
   have hB2:=hB1.trans (hb2.mono hB1.size)
   have bA2:=bA1.step hb2
   clear bA1
   have afh:w2.cell? ⟨w.heap.size,0,none⟩=some (.int .i64 kind):=bA2.cell 0
   have afi:w2.cell? ⟨w.heap.size,1,none⟩=some (.string name):=bA2.cell 1
   have afj:w2.cell? ⟨w.heap.size,2,none⟩=some iq:=bA2.cell 2
   have afk:w2.cell? ⟨w.heap.size,3,none⟩=some qp:=bA2.cell 3
   go_wp2_with fail
   refine(a0a ⟨kind,name,labels,kids⟩ B [.int .i64 kind,.string name,iq,qp] w2 (Nat.le_trans hBs (Nat.le_trans hb1.size hb2.size)) HWF.out ((RC.out.below (hb1.mono hBs)).below (hb2.mono (Nat.le_trans hBs hb1.size)))).mono ?_
   rintro e w3 ⟨rfl,hb3⟩
   go_wp2_with fail
   go_ret
   exact⟨ah HG.out.symm,hB2.trans (hb3.mono hB2.size)⟩
  ·have HG:Hid (ae9 ⟨kind,name,labels,kids⟩=false):=by show _=_;rw[HF.out,decide_eq_true hd4,decide_eq_false hq];rfl
   go_enter Tryz.func84,Tryz.ntmps84
   go_wp2_with fail
   obtain⟨w0,hw0⟩:∃ W,W=w.alloc (.cells #[.int .i64 kind,.string name,iq,qp] 60):=⟨_,rfl⟩
   rw[← hw0]
   have bA:Blk w0 w.heap.size 60 #[.int .i64 kind,.string name,iq,qp]:=by rw[hw0];exact Blk.new w _ _
   have hB0:Below w.heap.size w w0:=by rw[hw0];exact(Below.refl _ _).alloc (Nat.le_refl _) _
   clear hw0
   have RC:Hid (jy w0 B (Ty.pd ⟨kind,name,labels,kids⟩) [.int .i64 kind,.string name,iq,qp]):=Ty.close_ (pq.out.below (hB0.mono hB)) (qm.out.below (hB0.mono hB))
   have hBs:=Nat.le_trans hB hB0.size
   have H1:=Lib.hid (ao0 ⟨kind,name,labels,kids⟩ B [.int .i64 kind,.string name,iq,qp] w0 4 (by omega) hBs RC.out)
   rw[← HDE.out] at H1
   refine H1.out.mono ?_
   rintro e w1 ⟨rfl,hb1⟩
   have hB1:=hB0.trans (hb1.mono hB0.size)
   have bA1:=bA.step hb1
   clear bA
   have abg:w1.cell? ⟨w.heap.size,0,none⟩=some (.int .i64 kind):=bA1.cell 0
   have aa9:w1.cell? ⟨w.heap.size,1,none⟩=some (.string name):=bA1.cell 1
   have abb:w1.cell? ⟨w.heap.size,2,none⟩=some iq:=bA1.cell 2
   have aa1:w1.cell? ⟨w.heap.size,3,none⟩=some qp:=bA1.cell 3
   go_wp2_with fail
   have H2:=Lib.hid (ase ⟨kind,name,labels,kids⟩ B [.int .i64 kind,.string name,iq,qp] w1 HP.out (Nat.le_trans hBs hb1.size) (RC.out.below (hb1.mono hBs)))
   rw[← HQE.out] at H2
   refine H2.out.mono ?_
   rintro e w2 ⟨rfl,hb2⟩
   have hB2:=hB1.trans (hb2.mono hB1.size)
   have bA2:=bA1.step hb2
   clear bA1
   have afh:w2.cell? ⟨w.heap.size,0,none⟩=some (.int .i64 kind):=bA2.cell 0
   have afi:w2.cell? ⟨w.heap.size,1,none⟩=some (.string name):=bA2.cell 1
   have afj:w2.cell? ⟨w.heap.size,2,none⟩=some iq:=bA2.cell 2
   have afk:w2.cell? ⟨w.heap.size,3,none⟩=some qp:=bA2.cell 3
   go_wp2_with fail
   go_ret
   exact⟨ah HG.out.symm,hB2⟩
 ·have HG:Hid (ae9 ⟨kind,name,labels,kids⟩=false):=by show _=_;rw[HF.out,decide_eq_false hd4];rfl
  go_enter Tryz.func84,Tryz.ntmps84
  go_wp2_with fail
  obtain⟨w0,hw0⟩:∃ W,W=w.alloc (.cells #[.int .i64 kind,.string name,iq,qp] 60):=⟨_,rfl⟩
  rw[← hw0]
  have bA:Blk w0 w.heap.size 60 #[.int .i64 kind,.string name,iq,qp]:=by rw[hw0];exact Blk.new w _ _
  have hB0:Below w.heap.size w w0:=by rw[hw0];exact(Below.refl _ _).alloc (Nat.le_refl _) _
  clear hw0
  have RC:Hid (jy w0 B (Ty.pd ⟨kind,name,labels,kids⟩) [.int .i64 kind,.string name,iq,qp]):=Ty.close_ (pq.out.below (hB0.mono hB)) (qm.out.below (hB0.mono hB))
  have hBs:=Nat.le_trans hB hB0.size
  have H1:=Lib.hid (ao0 ⟨kind,name,labels,kids⟩ B [.int .i64 kind,.string name,iq,qp] w0 4 (by omega) hBs RC.out)
  rw[← HDE.out] at H1
  refine H1.out.mono ?_
  rintro e w1 ⟨rfl,hb1⟩
  have hB1:=hB0.trans (hb1.mono hB0.size)
  have bA1:=bA.step hb1
  clear bA
  have abg:w1.cell? ⟨w.heap.size,0,none⟩=some (.int .i64 kind):=bA1.cell 0
  have aa9:w1.cell? ⟨w.heap.size,1,none⟩=some (.string name):=bA1.cell 1
  have abb:w1.cell? ⟨w.heap.size,2,none⟩=some iq:=bA1.cell 2
  have aa1:w1.cell? ⟨w.heap.size,3,none⟩=some qp:=bA1.cell 3
  go_wp2_with fail
  go_ret
  exact⟨ah HG.out.symm,hB1⟩
theorem af8 {w w':World} {base sz n:Nat} {e:TypeId} {v:Value} {xs:List Value} (h:w.ownsRow base e sz v n xs) (hb:Below w.heap.size w w'):w'.ownsRow base e sz v n xs:=by
 obtain⟨h1,h2⟩:=h
 refine⟨h1,?_⟩
 rcases h2 with h2|⟨g,cap,cur,hv,hbb,hh,hr⟩
 ·exact .inl h2
 ·exact .inr ⟨g,cap,cur,hv,hbb,by rw[hb.block g (Array.getElem?_eq_some_iff.1 hh).1];exact hh,hr⟩
end Go.Proofs.YtbafphecjijdmaaGreatDoor
