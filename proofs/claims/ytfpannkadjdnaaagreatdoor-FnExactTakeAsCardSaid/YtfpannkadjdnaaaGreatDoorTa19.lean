/-
  implnamed (by program: gen_shape.py).
-/
import Derived.Test.YtfpannkadjdnaaaGreatDoorTa16
namespace Go.Proofs.YtfpannkadjdnaaaGreatDoor
open Go.RowKit
set_option linter.all false
set_option maxHeartbeats 4000000 in
theorem auu {kind:Int} {name:ByteArray} {labels:List ByteArray} {kids:List Ty} {B n n' c c':Nat} {A A':Option Addr} {w:World} (HT:Hid (aja B n n' c c' A A' name labels kids w)) (HI:Hid (∀ t ∈ kids,aku t)) (HW:Hid (∀ t ∈ kids,PD.wfL (Ty.pd t))) (HK:Hid ((kids.any fun t=>!t.shapes)=false)) (hk:kind=20∨kind=21) (hz:¬ name.size=0∨True):Calls Tryz.prog 42 #[.agg #[.int .i64 kind,.string name,.slice A' n' c',.slice A n c]] w fun e w'=>e=.returned (.bool (Ty.shapes ⟨kind,name,labels,kids⟩))∧Below w.heap.size w w':=by
 have hn:=HT.out.hn;have hn':=HT.out.hn';have H16:Hid (inB kind 16 19=false):=aec.2 (by omega);have H23:Hid (inB kind 1 23=true):=afp (by omega) (by omega);clear hz;rcases hk with rfl|rfl
 ·by_cases hz:name.size=0
  ·have e0:=am2 hz
   have HF:Hid (Ty.shapes ⟨20,name,labels,kids⟩=false):=by
    show _=_;have g1:=HT.out.HN;have g2:=HT.out.HN';rw[Ty.shapes,uw HK.out,Bool.and_true];rw[lu]
    simp_all [named,inB,jk]
   have HO:=zqd e0;clear e0 hz;by_cases hl:n'=0
   ·subst hl
    go_enter Tryz.func42,Tryz.ntmps42
    go_wp2_with fail
    obtain⟨w0,hw0⟩:=zqe w 39 #[.int .i64 20,.string name,.slice A' 0 c',.slice A n c];rw[← hw0];have bA:=zqn hw0;have hB0:=zqb hw0;clear hw0;refine(ql 0 HT HI HW hB0).mono ?_;rintro e w1 ⟨rfl,hb1⟩;rw[HK.out];have hB1:=hB0.trans (hb1.mono hB0.size);replace bA:=bA.step hb1;obtain⟨aap,aaq,aar,aan⟩:=zc4 bA;go_wp2_with fail
    refine(ny _ _ _ _).mono ?_;rintro e w' ⟨rfl,rfl⟩;rw[H16.out];go_wp2_with fail
    refine(af4 _ HT.out.HS1 _).mono ?_;rintro e w2 ⟨rfl,hb2⟩;rw[HO.out];have hB2:=hB1.trans (hb2.mono hB1.size);replace bA:=bA.step hb2;obtain⟨aen,aeo,aep,aer⟩:=zc4 bA;go_wp2_with fail
    go_ret
    exact⟨au HF.out.symm,hB2⟩
   ·have hl1:0 < n':=by omega
    go_enter Tryz.func42,Tryz.ntmps42
    go_wp2_with fail
    obtain⟨w0,hw0⟩:=zqe w 39 #[.int .i64 20,.string name,.slice A' n' c',.slice A n c];rw[← hw0];have bA:=zqn hw0;have hB0:=zqb hw0;clear hw0;refine(ql 0 HT HI HW hB0).mono ?_;rintro e w1 ⟨rfl,hb1⟩;rw[HK.out];have hB1:=hB0.trans (hb1.mono hB0.size);replace bA:=bA.step hb1;obtain⟨aap,aaq,aar,aan⟩:=zc4 bA;go_wp2_with fail
    refine(ny _ _ _ _).mono ?_;rintro e w' ⟨rfl,rfl⟩;rw[H16.out];go_wp2_with fail
    go_ret
    exact⟨au HF.out.symm,hB1⟩
  ·have hE:=adw hz
   have hE2:=adl hz;cases hok:abh name
   ·have hx0:=True.intro
    have HF:Hid (Ty.shapes ⟨20,name,labels,kids⟩=false):=by
     show _=_;have g1:=HT.out.HN;have g2:=HT.out.HN';rw[Ty.shapes,uw HK.out,Bool.and_true];rw[lu]
     simp_all [named,inB,jk]
    have HO:=zqd hok;clear hok hz hx0;by_cases hl:n'=0
    ·subst hl
     go_enter Tryz.func42,Tryz.ntmps42
     go_wp2_with fail
     obtain⟨w0,hw0⟩:=zqe w 39 #[.int .i64 20,.string name,.slice A' 0 c',.slice A n c];rw[← hw0];have bA:=zqn hw0;have hB0:=zqb hw0;clear hw0;refine(ql 0 HT HI HW hB0).mono ?_;rintro e w1 ⟨rfl,hb1⟩;rw[HK.out];have hB1:=hB0.trans (hb1.mono hB0.size);replace bA:=bA.step hb1;obtain⟨aap,aaq,aar,aan⟩:=zc4 bA;go_wp2_with fail
     refine(ny _ _ _ _).mono ?_;rintro e w' ⟨rfl,rfl⟩;rw[H16.out];go_wp2_with fail
     refine(af4 _ HT.out.HS1 _).mono ?_;rintro e w2 ⟨rfl,hb2⟩;rw[HO.out];have hB2:=hB1.trans (hb2.mono hB1.size);replace bA:=bA.step hb2;obtain⟨aen,aeo,aep,aer⟩:=zc4 bA;go_wp2_with fail
     go_ret
     exact⟨au HF.out.symm,hB2⟩
    ·have hl1:0 < n':=by omega
     go_enter Tryz.func42,Tryz.ntmps42
     go_wp2_with fail
     obtain⟨w0,hw0⟩:=zqe w 39 #[.int .i64 20,.string name,.slice A' n' c',.slice A n c];rw[← hw0];have bA:=zqn hw0;have hB0:=zqb hw0;clear hw0;refine(ql 0 HT HI HW hB0).mono ?_;rintro e w1 ⟨rfl,hb1⟩;rw[HK.out];have hB1:=hB0.trans (hb1.mono hB0.size);replace bA:=bA.step hb1;obtain⟨aap,aaq,aar,aan⟩:=zc4 bA;go_wp2_with fail
     refine(ny _ _ _ _).mono ?_;rintro e w' ⟨rfl,rfl⟩;rw[H16.out];go_wp2_with fail
     go_ret
     exact⟨au HF.out.symm,hB1⟩
   ·by_cases hl:n'=0
    ·by_cases hk0:n=0
     ·have hkk:((n:Int) ==0)=true:=by simp;omega
      have HF:Hid (Ty.shapes ⟨20,name,labels,kids⟩=true):=by
       show _=_;have g1:=HT.out.HN;have g2:=HT.out.HN';rw[Ty.shapes,uw HK.out,Bool.and_true];rw[lu]
       simp_all [named,inB,jk]
      have HO:=zqd hok;clear hok hz hk0;subst hl;go_enter Tryz.func42,Tryz.ntmps42
      go_wp2_with fail
      obtain⟨w0,hw0⟩:=zqe w 39 #[.int .i64 20,.string name,.slice A' 0 c',.slice A n c];rw[← hw0];have bA:=zqn hw0;have hB0:=zqb hw0;clear hw0;refine(ql 0 HT HI HW hB0).mono ?_;rintro e w1 ⟨rfl,hb1⟩;rw[HK.out];have hB1:=hB0.trans (hb1.mono hB0.size);replace bA:=bA.step hb1;obtain⟨aap,aaq,aar,aan⟩:=zc4 bA;go_wp2_with fail
      refine(ny _ _ _ _).mono ?_;rintro e w' ⟨rfl,rfl⟩;rw[H16.out];go_wp2_with fail
      refine(af4 _ HT.out.HS1 _).mono ?_;rintro e w2 ⟨rfl,hb2⟩;rw[HO.out];have hB2:=hB1.trans (hb2.mono hB1.size);replace bA:=bA.step hb2;obtain⟨aen,aeo,aep,aer⟩:=zc4 bA;go_wp2_with fail
      refine(ny _ _ _ _).mono ?_;rintro e w' ⟨rfl,rfl⟩;rw[H23.out];go_wp2_with fail
      go_ret
      exact⟨au HF.out.symm,hB2⟩
     ·have hkk:((n:Int) ==0)=false:=by simp;omega
      have HF:Hid (Ty.shapes ⟨20,name,labels,kids⟩=false):=by
       show _=_;have g1:=HT.out.HN;have g2:=HT.out.HN';rw[Ty.shapes,uw HK.out,Bool.and_true];rw[lu]
       simp_all [named,inB,jk]
      have HO:=zqd hok;clear hok hz hk0;subst hl;go_enter Tryz.func42,Tryz.ntmps42
      go_wp2_with fail
      obtain⟨w0,hw0⟩:=zqe w 39 #[.int .i64 20,.string name,.slice A' 0 c',.slice A n c];rw[← hw0];have bA:=zqn hw0;have hB0:=zqb hw0;clear hw0;refine(ql 0 HT HI HW hB0).mono ?_;rintro e w1 ⟨rfl,hb1⟩;rw[HK.out];have hB1:=hB0.trans (hb1.mono hB0.size);replace bA:=bA.step hb1;obtain⟨aap,aaq,aar,aan⟩:=zc4 bA;go_wp2_with fail
      refine(ny _ _ _ _).mono ?_;rintro e w' ⟨rfl,rfl⟩;rw[H16.out];go_wp2_with fail
      refine(af4 _ HT.out.HS1 _).mono ?_;rintro e w2 ⟨rfl,hb2⟩;rw[HO.out];have hB2:=hB1.trans (hb2.mono hB1.size);replace bA:=bA.step hb2;obtain⟨aen,aeo,aep,aer⟩:=zc4 bA;go_wp2_with fail
      refine(ny _ _ _ _).mono ?_;rintro e w' ⟨rfl,rfl⟩;rw[H23.out];go_wp2_with fail
      go_ret
      exact⟨au HF.out.symm,hB2⟩
    ·have hl1:0 < n':=by omega
     have HF:Hid (Ty.shapes ⟨20,name,labels,kids⟩=false):=by
      show _=_;have g1:=HT.out.HN;have g2:=HT.out.HN';rw[Ty.shapes,uw HK.out,Bool.and_true];rw[lu];have g3:¬ labels=[]:=fun e=>by rw[e] at g2;exact hl g2
      simp_all [named,inB,jk]
     have HO:=zqd hok;clear hok hz hl;go_enter Tryz.func42,Tryz.ntmps42
     go_wp2_with fail
     obtain⟨w0,hw0⟩:=zqe w 39 #[.int .i64 20,.string name,.slice A' n' c',.slice A n c];rw[← hw0];have bA:=zqn hw0;have hB0:=zqb hw0;clear hw0;refine(ql 0 HT HI HW hB0).mono ?_;rintro e w1 ⟨rfl,hb1⟩;rw[HK.out];have hB1:=hB0.trans (hb1.mono hB0.size);replace bA:=bA.step hb1;obtain⟨aap,aaq,aar,aan⟩:=zc4 bA;go_wp2_with fail
     refine(ny _ _ _ _).mono ?_;rintro e w' ⟨rfl,rfl⟩;rw[H16.out];go_wp2_with fail
     go_ret
     exact⟨au HF.out.symm,hB1⟩
 ·by_cases hz:name.size=0
  ·have e0:=am2 hz
   have HF:Hid (Ty.shapes ⟨21,name,labels,kids⟩=false):=by
    show _=_;have g1:=HT.out.HN;have g2:=HT.out.HN';rw[Ty.shapes,uw HK.out,Bool.and_true];rw[lu]
    simp_all [named,inB,jk]
   have HO:=zqd e0;clear e0 hz;by_cases hl:n'=0
   ·subst hl
    go_enter Tryz.func42,Tryz.ntmps42
    go_wp2_with fail
    obtain⟨w0,hw0⟩:=zqe w 39 #[.int .i64 21,.string name,.slice A' 0 c',.slice A n c];rw[← hw0];have bA:=zqn hw0;have hB0:=zqb hw0;clear hw0;refine(ql 0 HT HI HW hB0).mono ?_;rintro e w1 ⟨rfl,hb1⟩;rw[HK.out];have hB1:=hB0.trans (hb1.mono hB0.size);replace bA:=bA.step hb1;obtain⟨aap,aaq,aar,aan⟩:=zc4 bA;go_wp2_with fail
    refine(ny _ _ _ _).mono ?_;rintro e w' ⟨rfl,rfl⟩;rw[H16.out];go_wp2_with fail
    refine(af4 _ HT.out.HS1 _).mono ?_;rintro e w2 ⟨rfl,hb2⟩;rw[HO.out];have hB2:=hB1.trans (hb2.mono hB1.size);replace bA:=bA.step hb2;obtain⟨aen,aeo,aep,aer⟩:=zc4 bA;go_wp2_with fail
    go_ret
    exact⟨au HF.out.symm,hB2⟩
   ·have hl1:0 < n':=by omega
    go_enter Tryz.func42,Tryz.ntmps42
    go_wp2_with fail
    obtain⟨w0,hw0⟩:=zqe w 39 #[.int .i64 21,.string name,.slice A' n' c',.slice A n c];rw[← hw0];have bA:=zqn hw0;have hB0:=zqb hw0;clear hw0;refine(ql 0 HT HI HW hB0).mono ?_;rintro e w1 ⟨rfl,hb1⟩;rw[HK.out];have hB1:=hB0.trans (hb1.mono hB0.size);replace bA:=bA.step hb1;obtain⟨aap,aaq,aar,aan⟩:=zc4 bA;go_wp2_with fail
    refine(ny _ _ _ _).mono ?_;rintro e w' ⟨rfl,rfl⟩;rw[H16.out];go_wp2_with fail
    go_ret
    exact⟨au HF.out.symm,hB1⟩
  ·have hE:=adw hz
   have hE2:=adl hz;cases hok:abh name
   ·have hx0:=True.intro
    have HF:Hid (Ty.shapes ⟨21,name,labels,kids⟩=false):=by
     show _=_;have g1:=HT.out.HN;have g2:=HT.out.HN';rw[Ty.shapes,uw HK.out,Bool.and_true];rw[lu]
     simp_all [named,inB,jk]
    have HO:=zqd hok;clear hok hz hx0;by_cases hl:n'=0
    ·subst hl
     go_enter Tryz.func42,Tryz.ntmps42
     go_wp2_with fail
     obtain⟨w0,hw0⟩:=zqe w 39 #[.int .i64 21,.string name,.slice A' 0 c',.slice A n c];rw[← hw0];have bA:=zqn hw0;have hB0:=zqb hw0;clear hw0;refine(ql 0 HT HI HW hB0).mono ?_;rintro e w1 ⟨rfl,hb1⟩;rw[HK.out];have hB1:=hB0.trans (hb1.mono hB0.size);replace bA:=bA.step hb1;obtain⟨aap,aaq,aar,aan⟩:=zc4 bA;go_wp2_with fail
     refine(ny _ _ _ _).mono ?_;rintro e w' ⟨rfl,rfl⟩;rw[H16.out];go_wp2_with fail
     refine(af4 _ HT.out.HS1 _).mono ?_;rintro e w2 ⟨rfl,hb2⟩;rw[HO.out];have hB2:=hB1.trans (hb2.mono hB1.size);replace bA:=bA.step hb2;obtain⟨aen,aeo,aep,aer⟩:=zc4 bA;go_wp2_with fail
     go_ret
     exact⟨au HF.out.symm,hB2⟩
    ·have hl1:0 < n':=by omega
     go_enter Tryz.func42,Tryz.ntmps42
     go_wp2_with fail
     obtain⟨w0,hw0⟩:=zqe w 39 #[.int .i64 21,.string name,.slice A' n' c',.slice A n c];rw[← hw0];have bA:=zqn hw0;have hB0:=zqb hw0;clear hw0;refine(ql 0 HT HI HW hB0).mono ?_;rintro e w1 ⟨rfl,hb1⟩;rw[HK.out];have hB1:=hB0.trans (hb1.mono hB0.size);replace bA:=bA.step hb1;obtain⟨aap,aaq,aar,aan⟩:=zc4 bA;go_wp2_with fail
     refine(ny _ _ _ _).mono ?_;rintro e w' ⟨rfl,rfl⟩;rw[H16.out];go_wp2_with fail
     go_ret
     exact⟨au HF.out.symm,hB1⟩
   ·by_cases hl:n'=0
    ·by_cases hk0:n=0
     ·have hkk:((n:Int) ==0)=true:=by simp;omega
      have HF:Hid (Ty.shapes ⟨21,name,labels,kids⟩=true):=by
       show _=_;have g1:=HT.out.HN;have g2:=HT.out.HN';rw[Ty.shapes,uw HK.out,Bool.and_true];rw[lu]
       simp_all [named,inB,jk]
      have HO:=zqd hok;clear hok hz hk0;subst hl;go_enter Tryz.func42,Tryz.ntmps42
      go_wp2_with fail
      obtain⟨w0,hw0⟩:=zqe w 39 #[.int .i64 21,.string name,.slice A' 0 c',.slice A n c];rw[← hw0];have bA:=zqn hw0;have hB0:=zqb hw0;clear hw0;refine(ql 0 HT HI HW hB0).mono ?_;rintro e w1 ⟨rfl,hb1⟩;rw[HK.out];have hB1:=hB0.trans (hb1.mono hB0.size);replace bA:=bA.step hb1;obtain⟨aap,aaq,aar,aan⟩:=zc4 bA;go_wp2_with fail
      refine(ny _ _ _ _).mono ?_;rintro e w' ⟨rfl,rfl⟩;rw[H16.out];go_wp2_with fail
      refine(af4 _ HT.out.HS1 _).mono ?_;rintro e w2 ⟨rfl,hb2⟩;rw[HO.out];have hB2:=hB1.trans (hb2.mono hB1.size);replace bA:=bA.step hb2;obtain⟨aen,aeo,aep,aer⟩:=zc4 bA;go_wp2_with fail
      refine(ny _ _ _ _).mono ?_;rintro e w' ⟨rfl,rfl⟩;rw[H23.out];go_wp2_with fail
      go_ret
      exact⟨au HF.out.symm,hB2⟩
     ·have hkk:((n:Int) ==0)=false:=by simp;omega
      have HF:Hid (Ty.shapes ⟨21,name,labels,kids⟩=false):=by
       show _=_;have g1:=HT.out.HN;have g2:=HT.out.HN';rw[Ty.shapes,uw HK.out,Bool.and_true];rw[lu]
       simp_all [named,inB,jk]
      have HO:=zqd hok;clear hok hz hk0;subst hl;go_enter Tryz.func42,Tryz.ntmps42
      go_wp2_with fail
      obtain⟨w0,hw0⟩:=zqe w 39 #[.int .i64 21,.string name,.slice A' 0 c',.slice A n c];rw[← hw0];have bA:=zqn hw0;have hB0:=zqb hw0;clear hw0;refine(ql 0 HT HI HW hB0).mono ?_;rintro e w1 ⟨rfl,hb1⟩;rw[HK.out];have hB1:=hB0.trans (hb1.mono hB0.size);replace bA:=bA.step hb1;obtain⟨aap,aaq,aar,aan⟩:=zc4 bA;go_wp2_with fail
      refine(ny _ _ _ _).mono ?_;rintro e w' ⟨rfl,rfl⟩;rw[H16.out];go_wp2_with fail
      refine(af4 _ HT.out.HS1 _).mono ?_;rintro e w2 ⟨rfl,hb2⟩;rw[HO.out];have hB2:=hB1.trans (hb2.mono hB1.size);replace bA:=bA.step hb2;obtain⟨aen,aeo,aep,aer⟩:=zc4 bA;go_wp2_with fail
      refine(ny _ _ _ _).mono ?_;rintro e w' ⟨rfl,rfl⟩;rw[H23.out];go_wp2_with fail
      go_ret
      exact⟨au HF.out.symm,hB2⟩
    ·have hl1:0 < n':=by omega
     have HF:Hid (Ty.shapes ⟨21,name,labels,kids⟩=false):=by
      show _=_;have g1:=HT.out.HN;have g2:=HT.out.HN';rw[Ty.shapes,uw HK.out,Bool.and_true];rw[lu];have g3:¬ labels=[]:=fun e=>by rw[e] at g2;exact hl g2
      simp_all [named,inB,jk]
     have HO:=zqd hok;clear hok hz hl;go_enter Tryz.func42,Tryz.ntmps42
     go_wp2_with fail
     obtain⟨w0,hw0⟩:=zqe w 39 #[.int .i64 21,.string name,.slice A' n' c',.slice A n c];rw[← hw0];have bA:=zqn hw0;have hB0:=zqb hw0;clear hw0;refine(ql 0 HT HI HW hB0).mono ?_;rintro e w1 ⟨rfl,hb1⟩;rw[HK.out];have hB1:=hB0.trans (hb1.mono hB0.size);replace bA:=bA.step hb1;obtain⟨aap,aaq,aar,aan⟩:=zc4 bA;go_wp2_with fail
     refine(ny _ _ _ _).mono ?_;rintro e w' ⟨rfl,rfl⟩;rw[H16.out];go_wp2_with fail
     go_ret
     exact⟨au HF.out.symm,hB1⟩
end Go.Proofs.YtfpannkadjdnaaaGreatDoor
