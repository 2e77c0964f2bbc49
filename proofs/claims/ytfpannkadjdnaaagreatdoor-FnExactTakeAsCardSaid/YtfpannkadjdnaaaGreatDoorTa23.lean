/-
  spec.l03Shape, spec.l03Parts, impl.shapeOk at any type; spec.TypeOk, impl.TypeOk. (and 2 more texts)
-/
import Derived.Test.YtfpannkadjdnaaaGreatDoorTa16
import Derived.Test.YtfpannkadjdnaaaGreatDoorTa17
import Derived.Test.YtfpannkadjdnaaaGreatDoorTa18
import Derived.Test.YtfpannkadjdnaaaGreatDoorTa19
import Derived.Test.YtfpannkadjdnaaaGreatDoorTa20
import Derived.Test.YtfpannkadjdnaaaGreatDoorTa21
import Derived.Test.YtfpannkadjdnaaaGreatDoorTa22
import Derived.Test.YtfpannkadjdnaaaGreatDoorTa13
import Derived.Test.YtfpannkadjdnaaaGreatDoorTa01
import Derived.Laws.CopyOwn
namespace Go.Proofs.YtfpannkadjdnaaaGreatDoor
open Go.RowKit
set_option linter.all false
theorem bdu {kind:Int} {name:ByteArray} {labels:List ByteArray} {kids:List Ty} (h:PD.wfL (Ty.pd ⟨kind,name,labels,kids⟩)):
  name.size≤maxLen∧(∀ s ∈ labels,s.size≤maxLen)∧∀ t ∈ kids,PD.wfL (Ty.pd t):=by
 rw[Ty.ji] at h;simp only[PD.wfL,PD.wf] at h;refine⟨h.2.1,fun s hs=>?_,ahq.1 h.2.2.2.1⟩;have:=ahq.1 h.2.2.1 s hs;rw[aam] at this;simp only[PD.wfL,PD.wf] at this;exact this.1
theorem bs9 {kind:Int} {name:ByteArray} {labels:List ByteArray} {kids:List Ty} {B:Nat} {cs:List Value} {w:World} (hB:B≤w.heap.size) (hwf:PD.wfL (Ty.pd ⟨kind,name,labels,kids⟩)) (h:jq w B (Ty.pd ⟨kind,name,labels,kids⟩) cs):
  ∃ A n c A' n' c',cs=[.int .i64 kind,.string name,.slice A' n' c',.slice A n c]∧aja B n n' c c' A A' name labels kids w:=by
 obtain⟨iy,iw,rfl,r1,r2⟩:=Ty.open_ h;obtain⟨A,n,c,rfl,hn,hm,_⟩:=bf Ty.ay (by decide) r2;obtain⟨A',n',c',rfl,hn',hm',_⟩:=bf jo (by decide) r1;unfold maxLen at hm hm';obtain⟨h1,h2,_⟩:=bdu hwf;exact⟨A,n,c,A',n',c',rfl,⟨hB,hm,hm',hn,hn',h1,h2,r1,r2⟩⟩
theorem axw (t:Ty) {B:Nat} {cs:List Value} {w:World} (hB:B≤w.heap.size) (hwf:PD.wfL (Ty.pd t)) (h:jq w B (Ty.pd t) cs):
  Calls Tryz.prog 87 #[.agg cs.toArray] w fun e w'=>e=.returned (.bool (aag t))∧Below w.heap.size w w':=by
 obtain⟨kind,name,labels,kids⟩:=t;obtain⟨A,n,c,A',n',c',rfl,ht⟩:=bs9 hB hwf h;rcases aus kind with hk|hk|hk
 ·exact aut (zqd ht) hk (.inr trivial)
 ·exact aqi (zqd ht) hk
 ·by_cases hz:name.size=0
  ·by_cases hl:n'=0
   ·exact as2 (zqd ht) hk hz hl
   ·exact anf (zqd ht) hk (.inr hl)
  ·exact anf (zqd ht) hk (.inl hz)
set_option maxHeartbeats 1600000 in
theorem av6 {kind:Int} {name:ByteArray} {labels:List ByteArray} {kids:List Ty} {B n n' c c':Nat} {A A':Option Addr} {w:World} (HT:Hid (aja B n n' c c' A A' name labels kids w)) (HI:Hid (∀ t ∈ kids,aku t)) (HW:Hid (∀ t ∈ kids,PD.wfL (Ty.pd t))) (HK:Hid ((kids.any fun t=>!t.shapes)=true)):Calls Tryz.prog 42 #[.agg #[.int .i64 kind,.string name,.slice A' n' c',.slice A n c]] w fun e w'=>e=.returned (.bool (Ty.shapes ⟨kind,name,labels,kids⟩))∧Below w.heap.size w w':=by
 have HF:Hid (Ty.shapes ⟨kind,name,labels,kids⟩=false):=by
  show _=_;rw[Ty.shapes,ak5,Bool.and_eq_false_iff];right;rw[List.all_eq_false];obtain⟨x,hx,hy⟩:=List.any_eq_true.1 HK.out;exact⟨x,hx,by simpa using hy⟩
 go_enter Tryz.func42,Tryz.ntmps42
 go_wp2_with fail
 obtain⟨w0,hw0⟩:=zqe w 39 #[.int .i64 kind,.string name,.slice A' n' c',.slice A n c];rw[← hw0];have bA:=zqn hw0;have hB0:=zqb hw0;clear hw0;refine(ql 0 HT HI HW hB0).mono ?_;rintro e w1 ⟨rfl,hb1⟩;rw[HK.out];go_wp2_with fail
 go_ret
 exact⟨au HF.out.symm,hB0.trans (hb1.mono hB0.size)⟩
theorem axx:∀ t:Ty,aku t:=Ty.ai6 fun kind name labels kids ih=>by
 intro B cs w hB hwf h;obtain⟨A,n,c,A',n',c',rfl,ht⟩:=bs9 hB hwf h;have HW:=zqd (bdu hwf).2.2;have HI:=zqd ih;cases hk:kids.any fun t=>!t.shapes
 case true=>exact av6 (zqd ht) HI HW (zqd hk)
 have HK:=zqd hk;rcases aus kind with hk|hk|hk
 ·exact auu (zqd ht) HI HW HK hk (.inr trivial)
 ·exact aqj (zqd ht) HI HW HK hk
 ·by_cases hz:name.size=0
  ·by_cases hl:n'=0
   ·exact as3 (zqd ht) HI HW HK hk hz hl
   ·exact ang (zqd ht) HI HW HK hk (.inr hl)
  ·exact ang (zqd ht) HI HW HK hk (.inl hz)
def av7 (t:Ty):Prop:=∀ (B:Nat) (cs:List Value) (w:World),B≤w.heap.size→PD.wfL (Ty.pd t)→jq w B (Ty.pd t) cs→
 Calls Tryz.prog 50 #[.agg cs.toArray] w fun e w'=>e=.returned (.bool t.shapes)∧Below w.heap.size w w'
set_option maxHeartbeats 1600000 in
theorem av8 {kind:Int} {name:ByteArray} {labels:List ByteArray} {kids:List Ty} (ih:∀ t ∈ kids,av7 t):av7 ⟨kind,name,labels,kids⟩:=by
 intro B cs w hB hwf h;have HWK:=zqd (bdu hwf).2.2;have HWF:=zqd hwf;obtain⟨iy,iw,rfl,dh,dn⟩:=Ty.open_ h;have pz:=zqd dh;clear dh;have pq:=zqd dn;clear dn;obtain⟨A,n,c,rfl,hnl,hm,hat⟩:=bf Ty.ay (by decide) pq.out;unfold maxLen at hm;have HN:=zqd hnl;have HI:=zqd ih;clear hnl ih h hwf;have HF:=zqd (show(Ty.mk kind name labels kids).shapes=(aag ⟨kind,name,labels,kids⟩ && !kids.any fun t=>!t.shapes) by rw[Ty.shapes,ak5,List.all_eq_not_any_not]);go_enter Tryz.func50,Tryz.ntmps50
 go_wp2_with fail
 obtain⟨w0,hw0⟩:=zqe w 39 #[.int .i64 kind,.string name,iy,.slice A n c];rw[← hw0];have bA:=zqn hw0;have hB0:=zqb hw0;clear hw0;refine(axw ⟨kind,name,labels,kids⟩ (B:=B) (cs:=[.int .i64 kind,.string name,iy,.slice A n c]) (by have:=hB0.size;omega) HWF.out (Ty.close_ (pz.out.below (hB0.mono hB)) (pq.out.below (hB0.mono hB)))).mono ?_;rintro e w1 ⟨rfl,hb1⟩;have hB1:=hB0.trans (hb1.mono hB0.size);have bA1:=bA.step hb1;clear bA;cases hs:aag ⟨kind,name,labels,kids⟩
 ·have HS:=zqd hs
  clear hs;go_wp2_with fail
  go_ret
  exact⟨au (by rw[HF.out,HS.out];rfl),hB1⟩
 have HS:=zqd hs;clear hs;go_wp2_with fail
 go_loopw [3] (fun i wr=>∃ k:Nat,k≤n∧i=.int .i64 k∧Hid (∀ (j:Nat) (t:Ty),j < k→kids[j]?=some t→(!t.shapes)=false)∧Below w.heap.size w wr∧Blk wr w.heap.size 39 #[.int .i64 kind,.string name,iy,.slice A n c]) (fun i _=>n - (intOf i).toNat)
 case atStart=>exact⟨0,Nat.zero_le _,rfl,zqd fun j t h=>absurd h (by omega),hB1,bA1⟩
 case round=>
  obtain⟨k,hk,rfl,HP,hbr,bR⟩:=hrel;clear hB0 hB1 bA1;have aqh:wr.cell? ⟨w.heap.size,3,none⟩=some (.slice A n c):=bR.cell 3;have hsz:=hbr.size;by_cases hlt:k < n
  ·obtain⟨g,off,rfl,hg2,hcell2⟩:=hat (by omega)
   obtain⟨t2,hx2,aeb⟩:=uo HN.out hlt;obtain⟨kind2,name2,aa5,aa1⟩:=t2;have afe:wr.cell? ⟨g,off+k * 4,none⟩=some (.int .i64 kind2):=ng hbr (by omega) (hcell2 k 0 _ _ hx2 (by rw[Ty.ji];rfl));have aro:wr.cell? ⟨g,off+k * 4+1,none⟩=some (.string name2):=ng hbr (by omega) (hcell2 k 1 _ _ hx2 (by rw[Ty.ji];rfl));obtain⟨adf,an4,afd⟩:∃ u,wr.cell? ⟨g,off+k * 4+2,none⟩=some u∧Rep wr B (.row 1 (aa5.flatMap aam)) u:=xq hbr (by omega) hB (hcell2 k 2 _ _ hx2 (by rw[Ty.ji];rfl));have agl:=zqd afd;clear afd;obtain⟨ad1,afr,acy⟩:∃ u,wr.cell? ⟨g,off+k * 4+3,none⟩=some u∧Rep wr B (.row 4 (aa1.flatMap Ty.pd)) u:=xq hbr (by omega) hB (hcell2 k 3 _ _ hx2 (by rw[Ty.ji];rfl));have acj:=zqd acy;clear acy;have HX2:=zqd hx2;have HM2:=zqd aeb;clear hx2 aeb;clear hcell2;have hcall:=HI.out _ HM2.out B [.int .i64 kind2,.string name2,adf,ad1] wr (Nat.le_trans hB hbr.size) (HWK.out _ HM2.out) (Ty.close_ agl.out acj.out);obtain⟨t,ht⟩:∃ t:Ty,t=⟨kind2,name2,aa5,aa1⟩:=⟨_,rfl⟩;have hx:=HX2.out;rw[← ht] at hcall hx;have HX:=zqd hx;have HC:=zqd hcall;clear hcall ht hx;go_wp2_with fail
   refine HC.out.mono ?_;rintro e w2 ⟨rfl,hb2⟩;have bR1:=bR.step hb2;have hB2:=hbr.trans (hb2.mono hbr.size);cases hb:t.shapes
   ·have HA:=zqd (avq (p:=fun t:Ty=>!t.shapes) HX.out (by rw[hb];rfl))
    go_wp2_with fail
    go_ret
    exact⟨au (by rw[HF.out,HS.out,HA.out];rfl),hB2⟩
   ·have HB:=zqd (show(!t.shapes)=false by rw[hb];rfl)
    clear hb;go_wp2_with fail
    go_roundw
    case rel=>exact⟨k+1,by omega,by go_num,zqd (aij (p:=fun t:Ty=>!t.shapes) HP.out HX.out HB.out),hB2,bR1⟩
    case measure=>simp[intOf];omega
  ·have hkn:k=n:=by omega
   subst hkn;have HA:=zqd (any_none (p:=fun t:Ty=>!t.shapes) (ts:=kids) (n:=k) (by have:=HN.out;omega) HP.out);go_wp2_with fail
   go_ret
   exact⟨au (by rw[HF.out,HS.out,HA.out];rfl),hbr⟩
theorem axy:∀ t:Ty,av7 t:=Ty.ai6 fun kind name labels kids ih=>av8 ih
set_option maxHeartbeats 1600000 in
theorem a2o (t:Ty) {B:Nat} {cs:List Value} {w:World} (hB:B≤w.heap.size) (hwf:PD.wfL (Ty.pd t)) (h:jq w B (Ty.pd t) cs):
  Calls Tryz.prog 36 #[.agg cs.toArray] w fun e w'=>e=.returned (.bool (acp t))∧Below w.heap.size w w':=by
 obtain⟨kind,name,labels,kids⟩:=t;obtain⟨iy,iw,rfl,dh,dn⟩:=Ty.open_ h;have pz:=zqd dh;clear dh;have pq:=zqd dn;clear dn;have HWF:=zqd hwf;clear h hwf;go_enter Tryz.func36,Tryz.ntmps36
 go_wp2_with fail
 obtain⟨w0,hw0⟩:=zqe w 39 #[.int .i64 kind,.string name,iy,iw];rw[← hw0];have bA:=zqn hw0;have hB0:=zqb hw0;clear hw0;have RC:Hid (jq w0 B (Ty.pd ⟨kind,name,labels,kids⟩) [.int .i64 kind,.string name,iy,iw]):=Ty.close_ (pz.out.below (hB0.mono hB)) (pq.out.below (hB0.mono hB));have hBs:=Nat.le_trans hB hB0.size;refine(azm ⟨kind,name,labels,kids⟩ B [.int .i64 kind,.string name,iy,iw] w0 1 (by omega) (by omega) hBs RC.out).mono ?_;rintro e w1 ⟨rfl,hb1⟩;have hB1:=hB0.trans (hb1.mono hB0.size);have bA1:=bA.step hb1;clear bA;obtain⟨aap,aaq⟩:=zc2 bA1;have aar:w1.cell? ⟨w.heap.size,2,none⟩=some iy:=bA1.cell 2;have aan:w1.cell? ⟨w.heap.size,3,none⟩=some iw:=bA1.cell 3;by_cases hs:ajb ⟨kind,name,labels,kids⟩ 1
 ·have hD:szD ⟨kind,name,labels,kids⟩ 1=((Ty.mk kind name labels kids).height:Int):=if_pos hs
  have hP:szP ⟨kind,name,labels,kids⟩ 1=((Ty.mk kind name labels kids).parts:Int):=if_pos hs;rw[hD,hP];obtain⟨D,hDD⟩:∃ D,D=(Ty.mk kind name labels kids).height:=⟨_,rfl⟩;obtain⟨Q,hQQ⟩:∃ Q,Q=(Ty.mk kind name labels kids).parts:=⟨_,rfl⟩;have h1:D≤4:=by have:=hs.1;omega
  have h2:Q≤24:=by have:=hs.2;omega
  have HF:Hid (acp ⟨kind,name,labels,kids⟩=(Ty.mk kind name labels kids).shapes):=by
   show _=_;rw[acp,decide_eq_true (by omega),decide_eq_true (by omega)];rfl
  rw[← hDD,← hQQ];clear hD hP hDD hQQ hs;go_wp2_with fail
  refine(axy ⟨kind,name,labels,kids⟩ B [.int .i64 kind,.string name,iy,iw] w1 (Nat.le_trans hBs hb1.size) HWF.out (RC.out.below (hb1.mono hBs))).mono ?_;rintro e w2 ⟨rfl,hb2⟩;go_wp2_with fail
  go_ret
  exact⟨au HF.out.symm,hB1.trans (hb2.mono hB1.size)⟩
 ·have hD:szD ⟨kind,name,labels,kids⟩ 1=5:=if_neg hs
  have hP:szP ⟨kind,name,labels,kids⟩ 1=25:=if_neg hs
  have HF:Hid (acp ⟨kind,name,labels,kids⟩=false):=by
   show _=_;by_cases h1:(Ty.mk kind name labels kids).height≤4
   ·rw[acp,decide_eq_true h1,decide_eq_false (fun h2=>hs ⟨by omega,h2⟩)]
    rfl
   ·rw[acp,decide_eq_false h1]
    rfl
  rw[hD,hP];clear hD hP hs;go_wp2_with fail
  go_ret
  exact⟨au HF.out.symm,hB1⟩
theorem alr (t:Ty) {B:Nat} {cs:List Value} {w:World} (hB:B≤w.heap.size) (hwf:PD.wfL (Ty.pd t)) (h:jq w B (Ty.pd t) cs):
  Calls Tryz.prog 18 #[.agg cs.toArray] w fun e w'=>e=.returned (.bool (acp t))∧Below w.heap.size w w':=by
 obtain⟨kind,name,labels,kids⟩:=t;obtain⟨iy,iw,rfl,dh,dn⟩:=Ty.open_ h;have pz:=zqd dh;clear dh;have pq:=zqd dn;clear dn;have HWF:=zqd hwf;clear h hwf;go_enter Tryz.func18,Tryz.ntmps18
 go_wp2_with fail
 obtain⟨w0,hw0⟩:=zqe w 39 #[.int .i64 kind,.string name,iy,iw];rw[← hw0];have bA:=zqn hw0;have hB0:=zqb hw0;clear hw0;refine(a2o ⟨kind,name,labels,kids⟩ (B:=B) (cs:=[.int .i64 kind,.string name,iy,iw]) (Nat.le_trans hB hB0.size) HWF.out (Ty.close_ (pz.out.below (hB0.mono hB)) (pq.out.below (hB0.mono hB)))).mono ?_;rintro e w1 ⟨rfl,hb1⟩;go_wp2_with fail
 go_ret
 exact⟨rfl,hB0.trans (hb1.mono hB0.size)⟩
set_option maxHeartbeats 1600000 in
theorem ajo (t:Ty) {B:Nat} {cs:List Value} {w:World} (hB:B≤w.heap.size) (hwf:PD.wfL (Ty.pd t)) (hp:t.parts≤4194304) (h:jq w B (Ty.pd t) cs):
  Calls Tryz.prog 25 #[.agg cs.toArray] w fun e w'=>e=.returned (.bool (acp t))∧Below w.heap.size w w':=by
 obtain⟨kind,name,labels,kids⟩:=t;obtain⟨iy,iw,rfl,dh,dn⟩:=Ty.open_ h;have pz:=zqd dh;clear dh;have pq:=zqd dn;clear dn;have HWF:=zqd hwf;have HP:=zqd hp;clear h hwf hp;have HD:Hid (min (Ty.mk kind name labels kids).height (4+1)≤5):=Nat.min_le_right _ _;have HDD:Hid ((Ty.mk kind name labels kids).height≤4↔min (Ty.mk kind name labels kids).height (4+1)≤4):=by show _↔_;omega
 obtain⟨D,hD⟩:∃ D,D=min (Ty.mk kind name labels kids).height (4+1):=⟨_,rfl⟩;obtain⟨Q,hQ⟩:∃ Q,Q=(Ty.mk kind name labels kids).parts:=⟨_,rfl⟩;have HDE:=zqd hD;have HQE:=zqd hQ;have h5:D≤5:=by rw[hD];exact HD.out
 have h4:Q≤4194304:=by rw[hQ];exact HP.out
 have HF:Hid (acp ⟨kind,name,labels,kids⟩=(decide (D≤4) && decide (Q≤24) && (Ty.mk kind name labels kids).shapes)):=by
  show _=_;rw[acp,hQ,decide_eq_decide.2 (show(Ty.mk kind name labels kids).height≤4↔D≤4 by rw[hD];exact HDD.out)]
 clear hD hQ HD HDD;by_cases hd4:D≤4
 ·by_cases hq:Q≤24
  ·have HG:Hid (acp ⟨kind,name,labels,kids⟩=(Ty.mk kind name labels kids).shapes):=by show _=_;rw[HF.out,decide_eq_true hd4,decide_eq_true hq];rfl
   go_enter Tryz.func25,Tryz.ntmps25
   go_wp2_with fail
   obtain⟨w0,hw0⟩:=zqe w 39 #[.int .i64 kind,.string name,iy,iw];rw[← hw0];have bA:=zqn hw0;have hB0:=zqb hw0;clear hw0;have RC:Hid (jq w0 B (Ty.pd ⟨kind,name,labels,kids⟩) [.int .i64 kind,.string name,iy,iw]):=Ty.close_ (pz.out.below (hB0.mono hB)) (pq.out.below (hB0.mono hB));have hBs:=Nat.le_trans hB hB0.size;have H1:=zqd (anh ⟨kind,name,labels,kids⟩ B [.int .i64 kind,.string name,iy,iw] w0 4 (by omega) hBs RC.out);rw[← HDE.out] at H1;refine H1.out.mono ?_;rintro e w1 ⟨rfl,hb1⟩;have hB1:=hB0.trans (hb1.mono hB0.size);have bA1:=bA.step hb1;clear bA;obtain⟨aap,aaq⟩:=zc2 bA1;have aar:w1.cell? ⟨w.heap.size,2,none⟩=some iy:=bA1.cell 2;have aan:w1.cell? ⟨w.heap.size,3,none⟩=some iw:=bA1.cell 3;go_wp2_with fail
   have H2:=zqd (ap1 ⟨kind,name,labels,kids⟩ B [.int .i64 kind,.string name,iy,iw] w1 HP.out (Nat.le_trans hBs hb1.size) (RC.out.below (hb1.mono hBs)));rw[← HQE.out] at H2;refine H2.out.mono ?_;rintro e w2 ⟨rfl,hb2⟩;have hB2:=hB1.trans (hb2.mono hB1.size);have bA2:=bA1.step hb2;clear bA1;obtain⟨aen,aeo⟩:=zc2 bA2;have aep:w2.cell? ⟨w.heap.size,2,none⟩=some iy:=bA2.cell 2;have aer:w2.cell? ⟨w.heap.size,3,none⟩=some iw:=bA2.cell 3;go_wp2_with fail
   refine(axx ⟨kind,name,labels,kids⟩ B [.int .i64 kind,.string name,iy,iw] w2 (Nat.le_trans hBs (Nat.le_trans hb1.size hb2.size)) HWF.out ((RC.out.below (hb1.mono hBs)).below (hb2.mono (Nat.le_trans hBs hb1.size)))).mono ?_;rintro e w3 ⟨rfl,hb3⟩;go_wp2_with fail
   go_ret
   exact⟨au HG.out.symm,hB2.trans (hb3.mono hB2.size)⟩
  ·have HG:Hid (acp ⟨kind,name,labels,kids⟩=false):=by show _=_;rw[HF.out,decide_eq_true hd4,decide_eq_false hq];rfl
   go_enter Tryz.func25,Tryz.ntmps25
   go_wp2_with fail
   obtain⟨w0,hw0⟩:=zqe w 39 #[.int .i64 kind,.string name,iy,iw];rw[← hw0];have bA:=zqn hw0;have hB0:=zqb hw0;clear hw0;have RC:Hid (jq w0 B (Ty.pd ⟨kind,name,labels,kids⟩) [.int .i64 kind,.string name,iy,iw]):=Ty.close_ (pz.out.below (hB0.mono hB)) (pq.out.below (hB0.mono hB));have hBs:=Nat.le_trans hB hB0.size;have H1:=zqd (anh ⟨kind,name,labels,kids⟩ B [.int .i64 kind,.string name,iy,iw] w0 4 (by omega) hBs RC.out);rw[← HDE.out] at H1;refine H1.out.mono ?_;rintro e w1 ⟨rfl,hb1⟩;have hB1:=hB0.trans (hb1.mono hB0.size);have bA1:=bA.step hb1;clear bA;obtain⟨aap,aaq⟩:=zc2 bA1;have aar:w1.cell? ⟨w.heap.size,2,none⟩=some iy:=bA1.cell 2;have aan:w1.cell? ⟨w.heap.size,3,none⟩=some iw:=bA1.cell 3;go_wp2_with fail
   have H2:=zqd (ap1 ⟨kind,name,labels,kids⟩ B [.int .i64 kind,.string name,iy,iw] w1 HP.out (Nat.le_trans hBs hb1.size) (RC.out.below (hb1.mono hBs)));rw[← HQE.out] at H2;refine H2.out.mono ?_;rintro e w2 ⟨rfl,hb2⟩;have hB2:=hB1.trans (hb2.mono hB1.size);have bA2:=bA1.step hb2;clear bA1;obtain⟨aen,aeo⟩:=zc2 bA2;have aep:w2.cell? ⟨w.heap.size,2,none⟩=some iy:=bA2.cell 2;have aer:w2.cell? ⟨w.heap.size,3,none⟩=some iw:=bA2.cell 3;go_wp2_with fail
   go_ret
   exact⟨au HG.out.symm,hB2⟩
 ·have HG:Hid (acp ⟨kind,name,labels,kids⟩=false):=by show _=_;rw[HF.out,decide_eq_false hd4];rfl
  go_enter Tryz.func25,Tryz.ntmps25
  go_wp2_with fail
  obtain⟨w0,hw0⟩:=zqe w 39 #[.int .i64 kind,.string name,iy,iw];rw[← hw0];have bA:=zqn hw0;have hB0:=zqb hw0;clear hw0;have RC:Hid (jq w0 B (Ty.pd ⟨kind,name,labels,kids⟩) [.int .i64 kind,.string name,iy,iw]):=Ty.close_ (pz.out.below (hB0.mono hB)) (pq.out.below (hB0.mono hB));have hBs:=Nat.le_trans hB hB0.size;have H1:=zqd (anh ⟨kind,name,labels,kids⟩ B [.int .i64 kind,.string name,iy,iw] w0 4 (by omega) hBs RC.out);rw[← HDE.out] at H1;refine H1.out.mono ?_;rintro e w1 ⟨rfl,hb1⟩;have hB1:=hB0.trans (hb1.mono hB0.size);have bA1:=bA.step hb1;clear bA;obtain⟨aap,aaq⟩:=zc2 bA1;have aar:w1.cell? ⟨w.heap.size,2,none⟩=some iy:=bA1.cell 2;have aan:w1.cell? ⟨w.heap.size,3,none⟩=some iw:=bA1.cell 3;go_wp2_with fail
  go_ret
  exact⟨au HG.out.symm,hB1⟩
section
variable {n:Nat} {ak bk:Int} {an bn:ByteArray} {al bl:List ByteArray} {aks bks:List Ty} {vk vn:Int} {vt:ByteArray} {vks:List Val}
structure abd (n:Nat) (ak:Int) (an:ByteArray) (al:List ByteArray) (aks:List Ty) (bk:Int) (bn:ByteArray) (bl:List ByteArray) (bks:List Ty) (vn:Int) (vks:List Val):Prop where
 sa:Ty.shapes ⟨ak,an,al,aks⟩=true
 sb:Ty.shapes ⟨bk,bn,bl,bks⟩=true
 ka:∀ t ∈ aks,OkT n t
 kb:∀ t ∈ bks,OkT n t
 num:adu ak al.length vn=true
 kids:xw (uq n) vks (og ak vn vks.length aks)=true
 may:agr (n+1) ⟨ak,an,al,aks⟩ ⟨bk,bn,bl,bks⟩
theorem abd.pos (h:abd n ak an al aks bk bn bl bks vn vks) {t:Ty} (ht:t ∈ aks):∃ m,n=m+1:=by
 have h1:=(h.ka t ht).1;have h2:=agi t;exact⟨n - 1,by omega⟩
theorem abd.unit (h:abd n ak an al aks bk bn bl bks vn vks) {s t:Ty} (hs:s ∈ aks) (hm:agr n s t):s.kind=1↔t.kind=1:=by
 obtain⟨m,rfl⟩:=h.pos hs;exact bdh hm
theorem agb {k:Int} (h:¬ (k=17∨k=18)) (h2:¬ k=19) (al bl:List ByteArray) (num:Int):aah k al bl num=num:=by rw[aah,if_neg h,if_neg h2]
theorem abd.a5o (h:abd n 17 an al aks 17 bn bl bks vn vks) (hw:abj (aew n) 17 an al aks bn bl bks ⟨#[]⟩=none):
  ∃ (k i:Nat) (l:ByteArray) (s t:Ty),vn=(k:Int)∧al[k]?=some l∧aav (strEq l) bl=(i:Int)∧i < bl.length∧aah 17 al bl vn=(i:Int)∧aks[k]?=some s∧bks[i]?=some t∧agr n s t:=by
 have hb:=abm.1 ((aie (.inl rfl) _ _).symm.trans h.num);have la:=afz (.inr rfl) (shF h.sa).right;have lb:=afz (.inr rfl) (shF h.sb).right;obtain⟨k,rfl⟩:∃ k:Nat,vn=(k:Int):=⟨vn.toNat,by omega⟩;have hk:k < al.length:=by omega
 have hl:al[k]?=some al[k]:=List.getElem?_eq_getElem hk;obtain⟨i,hi,hil⟩:=avy (.inl rfl) hw k _ hl;have hs:aks[k]?=some aks[k]:=List.getElem?_eq_getElem (by omega);have ht:bks[i]?=some bks[i]:=List.getElem?_eq_getElem (by omega);refine⟨k,i,_,_,_,rfl,hl,hi,hil,?_,hs,ht,bs2 hw hl hi hs ht⟩;rw[aah,if_pos (.inl rfl),a2i,Int.toNat_natCast,hl];exact hi
theorem abd.adu (h:abd n ak an al aks bk bn bl bks vn vks) (hk:bk=13∨bk=14∨bk=17):adu bk bl.length (aah ak al bl vn)=true:=by
 rcases ai8 h.may with ⟨h1,h2⟩|⟨rfl,_,hw⟩
 ·rcases hk with rfl|rfl|rfl<;>exact absurd h2 (by decide)
 ·rcases hk with rfl|rfl|rfl
  ·rw[agb (by omega) (by omega),afc (by omega),← afc (k:=13) (by omega) al.length];exact h.num
  ·rw[agb (by omega) (by omega),afc (by omega),← afc (k:=14) (by omega) al.length];exact h.num
  ·obtain⟨k,i,l,s,t,rfl,_,_,hil,hnn,_⟩:=h.a5o hw
   rw[hnn,aie (by omega),abm];omega
theorem abd.cs (h:abd n ak an al aks bk bn bl bks vn vks) (hk:bk=13∨bk=14∨bk=17):(0≤aah ak al bl vn∧aah ak al bl vn≤4611686018427387904)∧∃ s,caseT bk (aah ak al bl vn) bks=some s:=akt h.sb (h.adu hk) hk
def Pairs (n:Nat) (L M:List Ty):Prop:=M.length=L.length∧∀ (k:Nat) (s t:Ty),L[k]?=some s→M[k]?=some t→agr n s t
theorem pairs_nil:Pairs n [] []:=⟨rfl,fun k s t hs=>by simp at hs⟩
theorem a5p {s t:Ty} (h:agr n s t):Pairs n [s] [t]:=⟨rfl,fun k s' t' hs ht=>by
 match k with
 | 0=>simp at hs ht;subst hs ht;exact h
 | k+1=>simp at hs⟩
theorem apk {s t:Ty} (h:agr n s t) (hu:s.kind=1↔t.kind=1):Pairs n (if s.kind=1 then [] else [s]) (if t.kind=1 then [] else [t]):=by
 by_cases e:s.kind=1
 ·rw[if_pos e,if_pos (hu.1 e)];exact pairs_nil
 ·rw[if_neg e,if_neg (fun q=>e (hu.2 q))];exact a5p h
theorem aoy {L:List Ty} (h:L.length=1):∃ s,L=[s]:=by match L,h with|[x],_=>exact⟨x,rfl⟩
theorem abd.pairs (h:abd n ak an al aks bk bn bl bks vn vks) (h16:¬ ak=16):Pairs n (og ak vn vks.length aks) (og bk (aah ak al bl vn) vks.length bks):=by
 rcases ai8 h.may with ⟨h1,h2⟩|⟨rfl,hn,hw⟩
 ·have e1:3≤ak∧ak≤9:=abm.1 h1
  have e2:3≤bk∧bk≤9:=abm.1 h2;rw[aiy (by omega),aiy (by omega)];exact pairs_nil
 ·by_cases h12:ak=12
  ·subst h12
   obtain⟨s,rfl⟩:=aoy (ade (.inl rfl) (shF h.sa).right);obtain⟨t,rfl⟩:=aoy (ade (.inl rfl) (shF h.sb).right);rw[amb,amb];refine⟨by simp,fun k s' t' hs ht=>?_⟩;rw[List.getElem?_replicate] at hs ht;split at hs
   ·next hk=>rw[if_pos hk] at ht;cases hs;cases ht;exact bsx hw rfl rfl
   ·cases hs
  by_cases h13:ak=13
  ·subst h13
   have s13:=(shF h.sa).right;have t13:=(shF h.sb).right;obtain⟨s,rfl⟩:=aoy (ade (.inr (.inl rfl)) s13);obtain⟨t,rfl⟩:=aoy (ade (.inr (.inl rfl)) t13);rw[agb (by omega) (by omega)];have hb:=abm.1 ((afc (by omega) al.length vn).symm.trans h.num);have hms:agr n s t:=bsy hw rfl rfl;have hu:=h.unit (by simp) hms;by_cases e:vn=0
   ·subst e;exact pairs_nil
   ·obtain rfl:vn=1:=by omega
    exact apk hms hu
  by_cases h14:ak=14
  ·subst h14
   have la:=ai7 (shF h.sa).right;have lb:=ai7 (shF h.sb).right;rw[agb (by omega) (by omega)];have hb:=abm.1 ((afc (by omega) al.length vn).symm.trans h.num);obtain⟨k,rfl⟩:∃ k:Nat,vn=(k:Int):=⟨vn.toNat,by omega⟩;have hs:aks[k]?=some aks[k]:=List.getElem?_eq_getElem (by omega);have ht:bks[k]?=some bks[k]:=List.getElem?_eq_getElem (by omega);rw[ajy (.inl rfl) (by omega) _ aks (by rw[Int.toNat_natCast];exact hs),ajy (.inl rfl) (by omega) _ bks (by rw[Int.toNat_natCast];exact ht)];have hms:=bsz hw (by omega) hs ht;exact apk hms (h.unit (List.mem_of_getElem? hs) hms)
  by_cases h17:ak=17
  ·subst h17
   obtain⟨k,i,l,s,t,rfl,_,_,hil,hnn,hs,ht,hms⟩:=h.a5o hw;rw[hnn,ajy (.inr rfl) (by omega) _ aks (by rw[Int.toNat_natCast];exact hs),ajy (.inr rfl) (by omega) _ bks (by rw[Int.toNat_natCast];exact ht)];exact apk hms (h.unit (List.mem_of_getElem? hs) hms)
  by_cases h15:ak=15
  ·subst h15
   rw[agz (.inl rfl),agz (.inl rfl)];have hm:=bs0 hw;exact⟨hm.1.symm,hm.2⟩
  ·rw[aiy (by omega),aiy (by omega)]
   exact pairs_nil
theorem abd.as4 (h:abd n 16 an al aks bk bn bl bks vn vks):bk=16∧abj (aew n) 16 an al aks bn bl bks ⟨#[]⟩=none:=by
 rcases ai8 h.may with ⟨h1,h2⟩|⟨rfl,_,hw⟩
 ·exact absurd h1 (by decide)
 ·exact⟨rfl,hw⟩
theorem abd.bdv (h:abd n 16 an al aks 16 bn bl bks vn vks) {k:Nat} {l:ByteArray} (hl:bl[k]?=some l):
  ∃ (i:Nat) (s t:Ty) (v:Val),aav (strEq l) al=(i:Int)∧i < aks.length∧i < vks.length∧k < bks.length∧aks[i]?=some s∧bks[k]?=some t∧vks[i]?=some v∧agr n s t∧uq n v s=true:=by
 have la:=afz (.inl rfl) (shF h.sa).right;have lb:=afz (.inl rfl) (shF h.sb).right;obtain⟨i,s,t,hi,hil,hs,ht,hm⟩:=bs1 h.as4.2 lb la k l hl;have hkn:=aic h.kids;rw[agz (.inr rfl)] at hkn;have hk:=(List.getElem?_eq_some_iff.1 hl).1;have hv:vks[i]?=some vks[i]:=List.getElem?_eq_getElem (by omega);refine⟨i,s,t,_,hi,by omega,by omega,by omega,hs,ht,hv,hm,?_⟩;have hkk:=h.kids;rw[agz (.inr rfl)] at hkk;exact ajn hkk hv hs
theorem as5 {rec:Ty→Ty→Val→Val} {k i:Nat} {l:ByteArray} {s t:Ty} {v:Val} (hl:bl[k]?=some l) (hi:aav (strEq l) al=(i:Int)) (hs:aks[i]?=some s) (ht:bks[k]?=some t) (hv:vks[i]?=some v):recAt rec al aks bl bks vks k=rec s t v:=by
 rw[recAt,hl,ht];simp only[hi,Int.toNat_natCast,hv,hs]
theorem ani {rec:Ty→Ty→Val→Val} {ss ts:List Ty} {k:Nat} {s t:Ty} {v:Val} (hs:ss[k]?=some s) (ht:ts[k]?=some t) (hv:vks[k]?=some v):ae0 rec vks ss ts k=rec s t v:=by
 rw[ae0,hv,hs,ht]
end
theorem ad8 {α:Type} (f:Nat→α) (k:Nat):(List.range (k+1)).map f=(List.range k).map f ++[f k]:=by rw[List.range_succ,List.map_append];rfl
theorem axz {P:Program} (w:World) (dT sT ty elem:TypeId) (g o dLen dCap:Nat) (a:Addr) (sLen sCap sz m:Nat) (cur:Array Value) (t:TypeId) (cs:List Value)
  (hu:P.underlying dT=some (.slice elem)) (hs:(P.info? elem).map (·.size)=some sz)
  (hg:w.heap[g]?=some (.cells cur t (0,0))) (hm:m=Nat.min sLen dLen) (hn:cs.length=m * sz)
  (hsrc:∀ j v,cs[j]?=some v→w.cell? (a.add j)=some v) (hfit:o+cs.length≤cur.size) (h1:∀ v ∈ cs,v.oneCell'=true):
  (Builtin.copy_ #[dT,sT] ty #[.slice (some ⟨g,o,none⟩) dLen dCap,.slice (some a) sLen sCap]).run P w=
   .ok (goInt m) (w.setRow g (cur.toList.take o ++cs ++cur.toList.drop (o+cs.length)).toArray):=by
 have hl:=run_loadCells_list (P:=P) w a cs hsrc;have hst:=run_storeCells_at P g o t cs 0 cur w hg (by simpa using hfit) h1;cases hq:P.info? elem with
 | none=>simp[hq] at hs
 | some i=>
  have hi:i.size=sz:=by simpa [hq] using hs
  simp[Builtin.copy_,run_underlying hu,Builtin.lenOf,Builtin.firstCells,sizeOf,typeInfo,hq,hi,← hm,← hn,hl,hst]
end Go.Proofs.YtfpannkadjdnaaaGreatDoor
