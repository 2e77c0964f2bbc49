/-
  Numbers that fit a type: impl.numOk (by program: gen_tkk.py) (by program: gen_why.py).
-/
import Derived.Test.YtfpannkadjdnaaaGreatDoorTa27
namespace Go.Proofs.YtfpannkadjdnaaaGreatDoor
open Go.RowKit
set_option linter.all false
set_option maxRecDepth 16000
theorem bpe {ts:List ByteArray} {v:Value} {B n:Nat} {w:World} (hn:n=ts.length) (h:Rep w B (.row 1 (ts.flatMap aam)) v):
  Calls Tryz.prog 72 #[v] w fun e w'=>e=.returned (.int .i64 n)∧w'=w:=by
 rw[hn];exact(ai9 h).mono fun e w' q=>⟨q.1,q.2.symm⟩
set_option maxHeartbeats 12800000 in
theorem a5v (vk vn:Int) (vt:ByteArray) (vks:List Val) (kind:Int) (name:ByteArray) (labels:List ByteArray) (kids:List Ty) (hok:Ty.shapes ⟨kind,name,labels,kids⟩=true)
  {B:Nat} {cs ds:List Value} {w:World} (hB:B≤w.heap.size) (hv:jq w B (Val.pd ⟨vk,vn,vt,vks⟩) cs) (h:jq w B (Ty.pd ⟨kind,name,labels,kids⟩) ds):
  Calls Tryz.prog 43 #[.agg cs.toArray,.agg ds.toArray] w fun e w'=>e=.returned (.bool (adu kind labels.length vn))∧Below w.heap.size w w':=by
 obtain⟨R,hR⟩:∃ R:Bool,adu kind labels.length vn=R:=⟨_,rfl⟩;rw[hR];have HR:=zqd hR;obtain⟨hi1,hi2⟩:=av1 hok;have adk:=ab7 hok;clear hR hok;obtain⟨adx,rfl,r_v⟩:=Val.open_ hv;obtain⟨vA,vN,vC,rfl⟩:=r_v.form;obtain⟨iy,iw,rfl,r_l,r_k⟩:=Ty.open_ h;obtain⟨lA,lN,lC,rfl⟩:=r_l.form;obtain⟨kA,kN,kC,rfl⟩:=r_k.form;have hvl:vN=vks.length:=by obtain⟨A',n',c',he,hnl,_⟩:=bf Val.ay (by decide) r_v;injection he with e1 e2 e3;omega
 have hvm:vN≤maxLen:=by obtain⟨A',n',c',he,_,hm,_⟩:=bf Val.ay (by decide) r_v;injection he with e1 e2 e3;omega
 have hll:lN=labels.length:=by obtain⟨A',n',c',he,hnl,_⟩:=bf jo (by decide) r_l;injection he with e1 e2 e3;omega
 have hkl:kN=kids.length:=by obtain⟨A',n',c',he,hnl,_⟩:=bf Ty.ay (by decide) r_k;injection he with e1 e2 e3;omega
 unfold maxLen at hvm;have RV:=zqd r_v;have RL:=zqd r_l;have RK:=zqd r_k;have HVL:=zqd hvl;have HLL:=zqd hll;have HKL:=zqd hkl;clear hv h r_v r_l r_k hvl hll hkl;obtain⟨w0,hw0⟩:∃ V,V=(w.alloc (.cells #[.int .i64 vk,.int .i64 vn,.string vt,.slice vA vN vC] 33)).alloc (.cells #[.int .i64 kind,.string name,.slice lA lN lC,.slice kA kN kC] 39):=⟨_,rfl⟩;have bV:Blk w0 w.heap.size 33 #[.int .i64 vk,.int .i64 vn,.string vt,.slice vA vN vC]:=by rw[hw0];exact(Blk.new w _ _).alloc _
 have bT:=zn21 hw0;have hB0:Below w.heap.size w w0:=by rw[hw0];exact((zqf _ _).alloc (zql _) _).alloc (by simp) _
 have HW0:=zqd hw0;clear hw0;obtain⟨v0,v1,v2,v3⟩:=zc4 bV;obtain⟨t0,t1,t2,t3⟩:=zc4 bT;have hl:lN≤16:=by have:=HLL.out;omega
 clear adk;have HSS:=zqd (bpe HLL.out (RL.out.below (hB0.mono hB)));have hcase:kind=1∨kind=2∨kind=3∨kind=4∨kind=5∨kind=6∨kind=7∨kind=8∨kind=9∨kind=10∨kind=11∨kind=12∨kind=13∨kind=14∨kind=15∨kind=16∨kind=17∨kind=18∨kind=19∨kind=20∨kind=21∨kind=22∨kind=23:=by omega
 clear hi1 hi2;rcases hcase with rfl|rfl|rfl|rfl|rfl|rfl|rfl|rfl|rfl|rfl|rfl|rfl|rfl|rfl|rfl|rfl|rfl|rfl|rfl|rfl|rfl|rfl|rfl
 ·have hv:inB vn 0 0=R:=(ahm (by omega) labels.length vn).symm.trans HR.out
  go_enter Tryz.func43,Tryz.ntmps43
  go_wp2_with fail
  rw[← HW0.out];refine(acn hv).mono ?_;rintro e w1 ⟨rfl,hq⟩;replace hq:=hq.symm;subst hq;go_wp2_with fail
  go_ret
  exact⟨rfl,hB0⟩
 ·have hv:inB vn 0 1=R:=(afc (by omega) labels.length vn).symm.trans HR.out
  go_enter Tryz.func43,Tryz.ntmps43
  go_wp2_with fail
  rw[← HW0.out];refine(acn hv).mono ?_;rintro e w1 ⟨rfl,hq⟩;replace hq:=hq.symm;subst hq;go_wp2_with fail
  go_ret
  exact⟨rfl,hB0⟩
 ·have hv:inB vn (zu 3) (zx 3)=R:=(af0 (by rfl) labels.length vn).symm.trans HR.out
  go_enter Tryz.func43,Tryz.ntmps43
  go_wp2_with fail
  rw[← HW0.out];refine(qm 3 (lo:=zu 3) (hi:=zx 3) w0 rfl rfl (v:=true) rfl).mono ?_;rintro e w1 ⟨rfl,hq⟩;replace hq:=hq.symm;subst hq;obtain⟨lo,hlo⟩:∃ lo,zu 3=lo:=⟨_,rfl⟩;obtain⟨hi,hhi⟩:∃ hi,zx 3=hi:=⟨_,rfl⟩;rw[hlo,hhi] at hv ⊢;clear hlo hhi;go_wp2_with fail
  refine(acn hv).mono ?_;rintro e w1 ⟨rfl,hq⟩;replace hq:=hq.symm;subst hq;go_wp2_with fail
  go_ret
  exact⟨rfl,hB0⟩
 ·have hv:inB vn (zu 4) (zx 4)=R:=(af0 (by rfl) labels.length vn).symm.trans HR.out
  go_enter Tryz.func43,Tryz.ntmps43
  go_wp2_with fail
  rw[← HW0.out];refine(qm 4 (lo:=zu 4) (hi:=zx 4) w0 rfl rfl (v:=true) rfl).mono ?_;rintro e w1 ⟨rfl,hq⟩;replace hq:=hq.symm;subst hq;obtain⟨lo,hlo⟩:∃ lo,zu 4=lo:=⟨_,rfl⟩;obtain⟨hi,hhi⟩:∃ hi,zx 4=hi:=⟨_,rfl⟩;rw[hlo,hhi] at hv ⊢;clear hlo hhi;go_wp2_with fail
  refine(acn hv).mono ?_;rintro e w1 ⟨rfl,hq⟩;replace hq:=hq.symm;subst hq;go_wp2_with fail
  go_ret
  exact⟨rfl,hB0⟩
 ·have hv:inB vn (zu 5) (zx 5)=R:=(af0 (by rfl) labels.length vn).symm.trans HR.out
  go_enter Tryz.func43,Tryz.ntmps43
  go_wp2_with fail
  rw[← HW0.out];refine(qm 5 (lo:=zu 5) (hi:=zx 5) w0 rfl rfl (v:=true) rfl).mono ?_;rintro e w1 ⟨rfl,hq⟩;replace hq:=hq.symm;subst hq;obtain⟨lo,hlo⟩:∃ lo,zu 5=lo:=⟨_,rfl⟩;obtain⟨hi,hhi⟩:∃ hi,zx 5=hi:=⟨_,rfl⟩;rw[hlo,hhi] at hv ⊢;clear hlo hhi;go_wp2_with fail
  refine(acn hv).mono ?_;rintro e w1 ⟨rfl,hq⟩;replace hq:=hq.symm;subst hq;go_wp2_with fail
  go_ret
  exact⟨rfl,hB0⟩
 ·have hv:inB vn (zu 6) (zx 6)=R:=(af0 (by rfl) labels.length vn).symm.trans HR.out
  go_enter Tryz.func43,Tryz.ntmps43
  go_wp2_with fail
  rw[← HW0.out];refine(qm 6 (lo:=zu 6) (hi:=zx 6) w0 rfl rfl (v:=true) rfl).mono ?_;rintro e w1 ⟨rfl,hq⟩;replace hq:=hq.symm;subst hq;obtain⟨lo,hlo⟩:∃ lo,zu 6=lo:=⟨_,rfl⟩;obtain⟨hi,hhi⟩:∃ hi,zx 6=hi:=⟨_,rfl⟩;rw[hlo,hhi] at hv ⊢;clear hlo hhi;go_wp2_with fail
  refine(acn hv).mono ?_;rintro e w1 ⟨rfl,hq⟩;replace hq:=hq.symm;subst hq;go_wp2_with fail
  go_ret
  exact⟨rfl,hB0⟩
 ·have hv:inB vn (zu 7) (zx 7)=R:=(af0 (by rfl) labels.length vn).symm.trans HR.out
  go_enter Tryz.func43,Tryz.ntmps43
  go_wp2_with fail
  rw[← HW0.out];refine(qm 7 (lo:=zu 7) (hi:=zx 7) w0 rfl rfl (v:=true) rfl).mono ?_;rintro e w1 ⟨rfl,hq⟩;replace hq:=hq.symm;subst hq;obtain⟨lo,hlo⟩:∃ lo,zu 7=lo:=⟨_,rfl⟩;obtain⟨hi,hhi⟩:∃ hi,zx 7=hi:=⟨_,rfl⟩;rw[hlo,hhi] at hv ⊢;clear hlo hhi;go_wp2_with fail
  refine(acn hv).mono ?_;rintro e w1 ⟨rfl,hq⟩;replace hq:=hq.symm;subst hq;go_wp2_with fail
  go_ret
  exact⟨rfl,hB0⟩
 ·have hv:inB vn (zu 8) (zx 8)=R:=(af0 (by rfl) labels.length vn).symm.trans HR.out
  go_enter Tryz.func43,Tryz.ntmps43
  go_wp2_with fail
  rw[← HW0.out];refine(qm 8 (lo:=zu 8) (hi:=zx 8) w0 rfl rfl (v:=true) rfl).mono ?_;rintro e w1 ⟨rfl,hq⟩;replace hq:=hq.symm;subst hq;obtain⟨lo,hlo⟩:∃ lo,zu 8=lo:=⟨_,rfl⟩;obtain⟨hi,hhi⟩:∃ hi,zx 8=hi:=⟨_,rfl⟩;rw[hlo,hhi] at hv ⊢;clear hlo hhi;go_wp2_with fail
  refine(acn hv).mono ?_;rintro e w1 ⟨rfl,hq⟩;replace hq:=hq.symm;subst hq;go_wp2_with fail
  go_ret
  exact⟨rfl,hB0⟩
 ·have hv:inB vn (zu 9) (zx 9)=R:=(af0 (by rfl) labels.length vn).symm.trans HR.out
  go_enter Tryz.func43,Tryz.ntmps43
  go_wp2_with fail
  rw[← HW0.out];refine(qm 9 (lo:=zu 9) (hi:=zx 9) w0 rfl rfl (v:=true) rfl).mono ?_;rintro e w1 ⟨rfl,hq⟩;replace hq:=hq.symm;subst hq;obtain⟨lo,hlo⟩:∃ lo,zu 9=lo:=⟨_,rfl⟩;obtain⟨hi,hhi⟩:∃ hi,zx 9=hi:=⟨_,rfl⟩;rw[hlo,hhi] at hv ⊢;clear hlo hhi;go_wp2_with fail
  refine(acn hv).mono ?_;rintro e w1 ⟨rfl,hq⟩;replace hq:=hq.symm;subst hq;go_wp2_with fail
  go_ret
  exact⟨rfl,hB0⟩
 ·have hv:ad7 vn=R:=HR.out
  go_enter Tryz.func43,Tryz.ntmps43
  go_wp2_with fail
  rw[← HW0.out];refine(av9 vn w0).mono ?_;rintro e w1 ⟨rfl,rfl⟩;go_wp2_with fail
  go_ret
  exact⟨by first|rfl|exact au hv,hB0⟩
 ·have hv:inB vn 0 0=R:=(ahm (by omega) labels.length vn).symm.trans HR.out
  go_enter Tryz.func43,Tryz.ntmps43
  go_wp2_with fail
  rw[← HW0.out];refine(acn hv).mono ?_;rintro e w1 ⟨rfl,hq⟩;replace hq:=hq.symm;subst hq;go_wp2_with fail
  go_ret
  exact⟨rfl,hB0⟩
 ·have hv:inB vn 0 0=R:=(ahm (by omega) labels.length vn).symm.trans HR.out
  go_enter Tryz.func43,Tryz.ntmps43
  go_wp2_with fail
  rw[← HW0.out];refine(acn hv).mono ?_;rintro e w1 ⟨rfl,hq⟩;replace hq:=hq.symm;subst hq;go_wp2_with fail
  go_ret
  exact⟨rfl,hB0⟩
 ·have hv:inB vn 0 1=R:=(afc (by omega) labels.length vn).symm.trans HR.out
  go_enter Tryz.func43,Tryz.ntmps43
  go_wp2_with fail
  rw[← HW0.out];refine(acn hv).mono ?_;rintro e w1 ⟨rfl,hq⟩;replace hq:=hq.symm;subst hq;go_wp2_with fail
  go_ret
  exact⟨rfl,hB0⟩
 ·have hv:inB vn 0 1=R:=(afc (by omega) labels.length vn).symm.trans HR.out
  go_enter Tryz.func43,Tryz.ntmps43
  go_wp2_with fail
  rw[← HW0.out];refine(acn hv).mono ?_;rintro e w1 ⟨rfl,hq⟩;replace hq:=hq.symm;subst hq;go_wp2_with fail
  go_ret
  exact⟨rfl,hB0⟩
 ·have hv:inB vn 0 0=R:=(ahm (by omega) labels.length vn).symm.trans HR.out
  go_enter Tryz.func43,Tryz.ntmps43
  go_wp2_with fail
  rw[← HW0.out];refine(acn hv).mono ?_;rintro e w1 ⟨rfl,hq⟩;replace hq:=hq.symm;subst hq;go_wp2_with fail
  go_ret
  exact⟨rfl,hB0⟩
 ·have hv:inB vn 0 0=R:=(ahm (by omega) labels.length vn).symm.trans HR.out
  go_enter Tryz.func43,Tryz.ntmps43
  go_wp2_with fail
  rw[← HW0.out];refine(acn hv).mono ?_;rintro e w1 ⟨rfl,hq⟩;replace hq:=hq.symm;subst hq;go_wp2_with fail
  go_ret
  exact⟨rfl,hB0⟩
 ·have hv:inB vn 0 ((lN:Int) - 1)=R:=by rw[HLL.out];exact(aie (by omega) labels.length vn).symm.trans HR.out
  have hwr:IntKind.i64.wrap ((lN:Int) - 1)=(lN:Int) - 1:=IntWalk.i64_in _ (by omega);go_enter Tryz.func43,Tryz.ntmps43
  go_wp2_with fail
  rw[← HW0.out];refine HSS.out.mono ?_;rintro e w1 ⟨rfl,hq⟩;replace hq:=hq.symm;subst hq;go_wp2_with fail
  refine(acn hv).mono ?_;rintro e w1 ⟨rfl,hq⟩;replace hq:=hq.symm;subst hq;go_wp2_with fail
  go_ret
  exact⟨rfl,hB0⟩
 ·have hv:inB vn 0 ((lN:Int) - 1)=R:=by rw[HLL.out];exact(aie (by omega) labels.length vn).symm.trans HR.out
  have hwr:IntKind.i64.wrap ((lN:Int) - 1)=(lN:Int) - 1:=IntWalk.i64_in _ (by omega);go_enter Tryz.func43,Tryz.ntmps43
  go_wp2_with fail
  rw[← HW0.out];refine HSS.out.mono ?_;rintro e w1 ⟨rfl,hq⟩;replace hq:=hq.symm;subst hq;go_wp2_with fail
  refine(acn hv).mono ?_;rintro e w1 ⟨rfl,hq⟩;replace hq:=hq.symm;subst hq;go_wp2_with fail
  go_ret
  exact⟨rfl,hB0⟩
 ·have hv:inB vn 0 (2 ^ lN - 1)=R:=by rw[HLL.out];exact(am0 labels.length vn).symm.trans HR.out
  have h17:lN=0∨lN=1∨lN=2∨lN=3∨lN=4∨lN=5∨lN=6∨lN=7∨lN=8∨lN=9∨lN=10∨lN=11∨lN=12∨lN=13∨lN=14∨lN=15∨lN=16:=by omega
  clear hl HSS;rcases h17 with rfl|rfl|rfl|rfl|rfl|rfl|rfl|rfl|rfl|rfl|rfl|rfl|rfl|rfl|rfl|rfl|rfl
  all_goals
   simp only[Int.reducePow,Int.reduceSub] at hv;go_enter Tryz.func43,Tryz.ntmps43
   go_wp2_with fail
   rw[← HW0.out];refine(acn hv).mono ?_;rintro e w1 ⟨rfl,hq⟩;replace hq:=hq.symm;subst hq;go_wp2_with fail
   go_ret
   exact⟨rfl,hB0⟩
 ·have hv:inB vn 0 2147483647=R:=(aif (by omega) labels.length vn).symm.trans HR.out
  go_enter Tryz.func43,Tryz.ntmps43
  go_wp2_with fail
  rw[← HW0.out];refine(acn hv).mono ?_;rintro e w1 ⟨rfl,hq⟩;replace hq:=hq.symm;subst hq;go_wp2_with fail
  go_ret
  exact⟨rfl,hB0⟩
 ·have hv:inB vn 0 2147483647=R:=(aif (by omega) labels.length vn).symm.trans HR.out
  go_enter Tryz.func43,Tryz.ntmps43
  go_wp2_with fail
  rw[← HW0.out];refine(acn hv).mono ?_;rintro e w1 ⟨rfl,hq⟩;replace hq:=hq.symm;subst hq;go_wp2_with fail
  go_ret
  exact⟨rfl,hB0⟩
 ·have hv:inB vn 0 2147483647=R:=(aif (by omega) labels.length vn).symm.trans HR.out
  go_enter Tryz.func43,Tryz.ntmps43
  go_wp2_with fail
  rw[← HW0.out];refine(acn hv).mono ?_;rintro e w1 ⟨rfl,hq⟩;replace hq:=hq.symm;subst hq;go_wp2_with fail
  go_ret
  exact⟨rfl,hB0⟩
 ·have hv:inB vn 0 2147483647=R:=(aif (by omega) labels.length vn).symm.trans HR.out
  go_enter Tryz.func43,Tryz.ntmps43
  go_wp2_with fail
  rw[← HW0.out];refine(acn hv).mono ?_;rintro e w1 ⟨rfl,hq⟩;replace hq:=hq.symm;subst hq;go_wp2_with fail
  go_ret
  exact⟨rfl,hB0⟩
end Go.Proofs.YtfpannkadjdnaaaGreatDoor
