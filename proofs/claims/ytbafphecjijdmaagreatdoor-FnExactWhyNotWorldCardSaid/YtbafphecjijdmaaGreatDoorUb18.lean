/-
  implnamed (by program: gen_shape.py).
-/
import Derived.Test.YtbafphecjijdmaaGreatDoorUb15
namespace Go.Proofs.YtbafphecjijdmaaGreatDoor
open Go.RowKit
set_option linter.all false
set_option maxHeartbeats 4000000 in
theorem a0k {kind:Int} {name:ByteArray} {labels:List ByteArray} {kids:List Ty} {B n n' c c':Nat} {A A':Option Addr} {w:World} (HT:Hid (alk B n n' c c' A A' name labels kids w)) (HI:Hid (∀ t ∈ kids,anb t)) (HW:Hid (∀ t ∈ kids,PD.wfL (Ty.pd t))) (HK:Hid ((kids.any fun t=>!t.shapes)=false)) (hk:kind=20∨kind=21) (hz:¬ name.size=0∨True):Calls Tryz.prog 113 #[.agg #[.int .i64 kind,.string name,.slice A' n' c',.slice A n c]] w fun e w'=>e=.returned (.bool (Ty.shapes ⟨kind,name,labels,kids⟩))∧Below w.heap.size w w':=by
 have hn:=HT.out.hn
 have hn':=HT.out.hn'
 have H16:Hid (inB kind 16 19=false):=agq.2 (by omega)
 have H23:Hid (inB kind 1 23=true):=ag6 (by omega) (by omega)
 clear hz
 rcases hk with rfl|rfl
 ·by_cases hz:name.size=0
  ·have e0:=ap0 hz
   have HF:Hid (Ty.shapes ⟨20,name,labels,kids⟩=false):=by
    show _=_
    have g1:=HT.out.HN
    have g2:=HT.out.HN'
    rw[Ty.shapes,zk HK.out,Bool.and_true]
    rw[l7]
    simp_all [named,inB,jv]
   have HO:=zqd e0
   clear e0 hz
   by_cases hl:n'=0
   ·subst hl
    go_enter Tryz.func113,Tryz.ntmps113
    go_wp2_with fail
    obtain⟨w0,hw0⟩:=zqe w 60 #[.int .i64 20,.string name,.slice A' 0 c',.slice A n c]
    rw[← hw0]
    have bA:=zqn hw0
    have hB0:=zqb hw0
    clear hw0
    refine(uz 0 HT HI HW hB0).mono ?_
    rintro e w1 ⟨rfl,hb1⟩
    rw[HK.out]
    have hB1:=hB0.trans (hb1.mono hB0.size)
    replace bA:=bA.step hb1
    obtain⟨abq,abm,abn,abg⟩:=zc4 bA
    go_wp2_with fail
    refine(og _ _ _ _).mono ?_
    rintro e w' ⟨rfl,rfl⟩
    rw[H16.out]
    go_wp2_with fail
    refine(aem _ HT.out.HS1 _).mono ?_
    rintro e w2 ⟨rfl,hb2⟩
    rw[HO.out]
    have hB2:=hB1.trans (hb2.mono hB1.size)
    replace bA:=bA.step hb2
    obtain⟨af4,af5,af6,af7⟩:=zc4 bA
    go_wp2_with fail
    go_ret
    exact⟨ah HF.out.symm,hB2⟩
   ·have hl1:0 < n':=by omega
    go_enter Tryz.func113,Tryz.ntmps113
    go_wp2_with fail
    obtain⟨w0,hw0⟩:=zqe w 60 #[.int .i64 20,.string name,.slice A' n' c',.slice A n c]
    rw[← hw0]
    have bA:=zqn hw0
    have hB0:=zqb hw0
    clear hw0
    refine(uz 0 HT HI HW hB0).mono ?_
    rintro e w1 ⟨rfl,hb1⟩
    rw[HK.out]
    have hB1:=hB0.trans (hb1.mono hB0.size)
    replace bA:=bA.step hb1
    obtain⟨abq,abm,abn,abg⟩:=zc4 bA
    go_wp2_with fail
    refine(og _ _ _ _).mono ?_
    rintro e w' ⟨rfl,rfl⟩
    rw[H16.out]
    go_wp2_with fail
    go_ret
    exact⟨ah HF.out.symm,hB1⟩
  ·have hE:=ae9 hz
   have hE2:=ae3 hz
   cases hok:zn name
   ·have hx0:=True.intro
    have HF:Hid (Ty.shapes ⟨20,name,labels,kids⟩=false):=by
     show _=_
     have g1:=HT.out.HN
     have g2:=HT.out.HN'
     rw[Ty.shapes,zk HK.out,Bool.and_true]
     rw[l7]
     simp_all [named,inB,jv]
    have HO:=zqd hok
    clear hok hz hx0
    by_cases hl:n'=0
    ·subst hl
     go_enter Tryz.func113,Tryz.ntmps113
     go_wp2_with fail
     obtain⟨w0,hw0⟩:=zqe w 60 #[.int .i64 20,.string name,.slice A' 0 c',.slice A n c]
     rw[← hw0]
     have bA:=zqn hw0
     have hB0:=zqb hw0
     clear hw0
     refine(uz 0 HT HI HW hB0).mono ?_
     rintro e w1 ⟨rfl,hb1⟩
     rw[HK.out]
     have hB1:=hB0.trans (hb1.mono hB0.size)
     replace bA:=bA.step hb1
     obtain⟨abq,abm,abn,abg⟩:=zc4 bA
     go_wp2_with fail
     refine(og _ _ _ _).mono ?_
     rintro e w' ⟨rfl,rfl⟩
     rw[H16.out]
     go_wp2_with fail
     refine(aem _ HT.out.HS1 _).mono ?_
     rintro e w2 ⟨rfl,hb2⟩
     rw[HO.out]
     have hB2:=hB1.trans (hb2.mono hB1.size)
     replace bA:=bA.step hb2
     obtain⟨af4,af5,af6,af7⟩:=zc4 bA
     go_wp2_with fail
     go_ret
     exact⟨ah HF.out.symm,hB2⟩
    ·have hl1:0 < n':=by omega
     go_enter Tryz.func113,Tryz.ntmps113
     go_wp2_with fail
     obtain⟨w0,hw0⟩:=zqe w 60 #[.int .i64 20,.string name,.slice A' n' c',.slice A n c]
     rw[← hw0]
     have bA:=zqn hw0
     have hB0:=zqb hw0
     clear hw0
     refine(uz 0 HT HI HW hB0).mono ?_
     rintro e w1 ⟨rfl,hb1⟩
     rw[HK.out]
     have hB1:=hB0.trans (hb1.mono hB0.size)
     replace bA:=bA.step hb1
     obtain⟨abq,abm,abn,abg⟩:=zc4 bA
     go_wp2_with fail
     refine(og _ _ _ _).mono ?_
     rintro e w' ⟨rfl,rfl⟩
     rw[H16.out]
     go_wp2_with fail
     go_ret
     exact⟨ah HF.out.symm,hB1⟩
   ·by_cases hl:n'=0
    ·by_cases hk0:n=0
     ·have hkk:((n:Int) ==0)=true:=by simp;omega
      have HF:Hid (Ty.shapes ⟨20,name,labels,kids⟩=true):=by
       show _=_
       have g1:=HT.out.HN
       have g2:=HT.out.HN'
       rw[Ty.shapes,zk HK.out,Bool.and_true]
       rw[l7]
       simp_all [named,inB,jv]
      have HO:=zqd hok
      clear hok hz hk0
      subst hl
      go_enter Tryz.func113,Tryz.ntmps113
      go_wp2_with fail
      obtain⟨w0,hw0⟩:=zqe w 60 #[.int .i64 20,.string name,.slice A' 0 c',.slice A n c]
      rw[← hw0]
      have bA:=zqn hw0
      have hB0:=zqb hw0
      clear hw0
      refine(uz 0 HT HI HW hB0).mono ?_
      rintro e w1 ⟨rfl,hb1⟩
      rw[HK.out]
      have hB1:=hB0.trans (hb1.mono hB0.size)
      replace bA:=bA.step hb1
      obtain⟨abq,abm,abn,abg⟩:=zc4 bA
      go_wp2_with fail
      refine(og _ _ _ _).mono ?_
      rintro e w' ⟨rfl,rfl⟩
      rw[H16.out]
      go_wp2_with fail
      refine(aem _ HT.out.HS1 _).mono ?_
      rintro e w2 ⟨rfl,hb2⟩
      rw[HO.out]
      have hB2:=hB1.trans (hb2.mono hB1.size)
      replace bA:=bA.step hb2
      obtain⟨af4,af5,af6,af7⟩:=zc4 bA
      go_wp2_with fail
      refine(og _ _ _ _).mono ?_
      rintro e w' ⟨rfl,rfl⟩
      rw[H23.out]
      go_wp2_with fail
      go_ret
      exact⟨ah HF.out.symm,hB2⟩
     ·have hkk:((n:Int) ==0)=false:=by simp;omega
      have HF:Hid (Ty.shapes ⟨20,name,labels,kids⟩=false):=by
       show _=_
       have g1:=HT.out.HN
       have g2:=HT.out.HN'
       rw[Ty.shapes,zk HK.out,Bool.and_true]
       rw[l7]
       simp_all [named,inB,jv]
      have HO:=zqd hok
      clear hok hz hk0
      subst hl
      go_enter Tryz.func113,Tryz.ntmps113
      go_wp2_with fail
      obtain⟨w0,hw0⟩:=zqe w 60 #[.int .i64 20,.string name,.slice A' 0 c',.slice A n c]
      rw[← hw0]
      have bA:=zqn hw0
      have hB0:=zqb hw0
      clear hw0
      refine(uz 0 HT HI HW hB0).mono ?_
      rintro e w1 ⟨rfl,hb1⟩
      rw[HK.out]
      have hB1:=hB0.trans (hb1.mono hB0.size)
      replace bA:=bA.step hb1
      obtain⟨abq,abm,abn,abg⟩:=zc4 bA
      go_wp2_with fail
      refine(og _ _ _ _).mono ?_
      rintro e w' ⟨rfl,rfl⟩
      rw[H16.out]
      go_wp2_with fail
      refine(aem _ HT.out.HS1 _).mono ?_
      rintro e w2 ⟨rfl,hb2⟩
      rw[HO.out]
      have hB2:=hB1.trans (hb2.mono hB1.size)
      replace bA:=bA.step hb2
      obtain⟨af4,af5,af6,af7⟩:=zc4 bA
      go_wp2_with fail
      refine(og _ _ _ _).mono ?_
      rintro e w' ⟨rfl,rfl⟩
      rw[H23.out]
      go_wp2_with fail
      go_ret
      exact⟨ah HF.out.symm,hB2⟩
    ·have hl1:0 < n':=by omega
     have HF:Hid (Ty.shapes ⟨20,name,labels,kids⟩=false):=by
      show _=_
      have g1:=HT.out.HN
      have g2:=HT.out.HN'
      rw[Ty.shapes,zk HK.out,Bool.and_true]
      rw[l7]
      have g3:¬ labels=[]:=fun e=>by rw[e] at g2;exact hl g2
      simp_all [named,inB,jv]
     have HO:=zqd hok
     clear hok hz hl
     go_enter Tryz.func113,Tryz.ntmps113
     go_wp2_with fail
     obtain⟨w0,hw0⟩:=zqe w 60 #[.int .i64 20,.string name,.slice A' n' c',.slice A n c]
     rw[← hw0]
     have bA:=zqn hw0
     have hB0:=zqb hw0
     clear hw0
     refine(uz 0 HT HI HW hB0).mono ?_
     rintro e w1 ⟨rfl,hb1⟩
     rw[HK.out]
     have hB1:=hB0.trans (hb1.mono hB0.size)
     replace bA:=bA.step hb1
     obtain⟨abq,abm,abn,abg⟩:=zc4 bA
     go_wp2_with fail
     refine(og _ _ _ _).mono ?_
     rintro e w' ⟨rfl,rfl⟩
     rw[H16.out]
     go_wp2_with fail
     go_ret
     exact⟨ah HF.out.symm,hB1⟩
 ·by_cases hz:name.size=0
  ·have e0:=ap0 hz
   have HF:Hid (Ty.shapes ⟨21,name,labels,kids⟩=false):=by
    show _=_
    have g1:=HT.out.HN
    have g2:=HT.out.HN'
    rw[Ty.shapes,zk HK.out,Bool.and_true]
    rw[l7]
    simp_all [named,inB,jv]
   have HO:=zqd e0
   clear e0 hz
   by_cases hl:n'=0
   ·subst hl
    go_enter Tryz.func113,Tryz.ntmps113
    go_wp2_with fail
    obtain⟨w0,hw0⟩:=zqe w 60 #[.int .i64 21,.string name,.slice A' 0 c',.slice A n c]
    rw[← hw0]
    have bA:=zqn hw0
    have hB0:=zqb hw0
    clear hw0
    refine(uz 0 HT HI HW hB0).mono ?_
    rintro e w1 ⟨rfl,hb1⟩
    rw[HK.out]
    have hB1:=hB0.trans (hb1.mono hB0.size)
    replace bA:=bA.step hb1
    obtain⟨abq,abm,abn,abg⟩:=zc4 bA
    go_wp2_with fail
    refine(og _ _ _ _).mono ?_
    rintro e w' ⟨rfl,rfl⟩
    rw[H16.out]
    go_wp2_with fail
    refine(aem _ HT.out.HS1 _).mono ?_
    rintro e w2 ⟨rfl,hb2⟩
    rw[HO.out]
    have hB2:=hB1.trans (hb2.mono hB1.size)
    replace bA:=bA.step hb2
    obtain⟨af4,af5,af6,af7⟩:=zc4 bA
    go_wp2_with fail
    go_ret
    exact⟨ah HF.out.symm,hB2⟩
   ·have hl1:0 < n':=by omega
    go_enter Tryz.func113,Tryz.ntmps113
    go_wp2_with fail
    obtain⟨w0,hw0⟩:=zqe w 60 #[.int .i64 21,.string name,.slice A' n' c',.slice A n c]
    rw[← hw0]
    have bA:=zqn hw0
    have hB0:=zqb hw0
    clear hw0
    refine(uz 0 HT HI HW hB0).mono ?_
    rintro e w1 ⟨rfl,hb1⟩
    rw[HK.out]
    have hB1:=hB0.trans (hb1.mono hB0.size)
    replace bA:=bA.step hb1
    obtain⟨abq,abm,abn,abg⟩:=zc4 bA
    go_wp2_with fail
    refine(og _ _ _ _).mono ?_
    rintro e w' ⟨rfl,rfl⟩
    rw[H16.out]
    go_wp2_with fail
    go_ret
    exact⟨ah HF.out.symm,hB1⟩
  ·have hE:=ae9 hz
   have hE2:=ae3 hz
   cases hok:zn name
   ·have hx0:=True.intro
    have HF:Hid (Ty.shapes ⟨21,name,labels,kids⟩=false):=by
     show _=_
     have g1:=HT.out.HN
     have g2:=HT.out.HN'
     rw[Ty.shapes,zk HK.out,Bool.and_true]
     rw[l7]
     simp_all [named,inB,jv]
    have HO:=zqd hok
    clear hok hz hx0
    by_cases hl:n'=0
    ·subst hl
     go_enter Tryz.func113,Tryz.ntmps113
     go_wp2_with fail
     obtain⟨w0,hw0⟩:=zqe w 60 #[.int .i64 21,.string name,.slice A' 0 c',.slice A n c]
     rw[← hw0]
     have bA:=zqn hw0
     have hB0:=zqb hw0
     clear hw0
     refine(uz 0 HT HI HW hB0).mono ?_
     rintro e w1 ⟨rfl,hb1⟩
     rw[HK.out]
     have hB1:=hB0.trans (hb1.mono hB0.size)
     replace bA:=bA.step hb1
     obtain⟨abq,abm,abn,abg⟩:=zc4 bA
     go_wp2_with fail
     refine(og _ _ _ _).mono ?_
     rintro e w' ⟨rfl,rfl⟩
     rw[H16.out]
     go_wp2_with fail
     refine(aem _ HT.out.HS1 _).mono ?_
     rintro e w2 ⟨rfl,hb2⟩
     rw[HO.out]
     have hB2:=hB1.trans (hb2.mono hB1.size)
     replace bA:=bA.step hb2
     obtain⟨af4,af5,af6,af7⟩:=zc4 bA
     go_wp2_with fail
     go_ret
     exact⟨ah HF.out.symm,hB2⟩
    ·have hl1:0 < n':=by omega
     go_enter Tryz.func113,Tryz.ntmps113
     go_wp2_with fail
     obtain⟨w0,hw0⟩:=zqe w 60 #[.int .i64 21,.string name,.slice A' n' c',.slice A n c]
     rw[← hw0]
     have bA:=zqn hw0
     have hB0:=zqb hw0
     clear hw0
     refine(uz 0 HT HI HW hB0).mono ?_
     rintro e w1 ⟨rfl,hb1⟩
     rw[HK.out]
     have hB1:=hB0.trans (hb1.mono hB0.size)
     replace bA:=bA.step hb1
     obtain⟨abq,abm,abn,abg⟩:=zc4 bA
     go_wp2_with fail
     refine(og _ _ _ _).mono ?_
     rintro e w' ⟨rfl,rfl⟩
     rw[H16.out]
     go_wp2_with fail
     go_ret
     exact⟨ah HF.out.symm,hB1⟩
   ·by_cases hl:n'=0
    ·by_cases hk0:n=0
     ·have hkk:((n:Int) ==0)=true:=by simp;omega
      have HF:Hid (Ty.shapes ⟨21,name,labels,kids⟩=true):=by
       show _=_
       have g1:=HT.out.HN
       have g2:=HT.out.HN'
       rw[Ty.shapes,zk HK.out,Bool.and_true]
       rw[l7]
       simp_all [named,inB,jv]
      have HO:=zqd hok
      clear hok hz hk0
      subst hl
      go_enter Tryz.func113,Tryz.ntmps113
      go_wp2_with fail
      obtain⟨w0,hw0⟩:=zqe w 60 #[.int .i64 21,.string name,.slice A' 0 c',.slice A n c]
      rw[← hw0]
      have bA:=zqn hw0
      have hB0:=zqb hw0
      clear hw0
      refine(uz 0 HT HI HW hB0).mono ?_
      rintro e w1 ⟨rfl,hb1⟩
      rw[HK.out]
      have hB1:=hB0.trans (hb1.mono hB0.size)
      replace bA:=bA.step hb1
      obtain⟨abq,abm,abn,abg⟩:=zc4 bA
      go_wp2_with fail
      refine(og _ _ _ _).mono ?_
      rintro e w' ⟨rfl,rfl⟩
      rw[H16.out]
      go_wp2_with fail
      refine(aem _ HT.out.HS1 _).mono ?_
      rintro e w2 ⟨rfl,hb2⟩
      rw[HO.out]
      have hB2:=hB1.trans (hb2.mono hB1.size)
      replace bA:=bA.step hb2
      obtain⟨af4,af5,af6,af7⟩:=zc4 bA
      go_wp2_with fail
      refine(og _ _ _ _).mono ?_
      rintro e w' ⟨rfl,rfl⟩
      rw[H23.out]
      go_wp2_with fail
      go_ret
      exact⟨ah HF.out.symm,hB2⟩
     ·have hkk:((n:Int) ==0)=false:=by simp;omega
      have HF:Hid (Ty.shapes ⟨21,name,labels,kids⟩=false):=by
       show _=_
       have g1:=HT.out.HN
       have g2:=HT.out.HN'
       rw[Ty.shapes,zk HK.out,Bool.and_true]
       rw[l7]
       simp_all [named,inB,jv]
      have HO:=zqd hok
      clear hok hz hk0
      subst hl
      go_enter Tryz.func113,Tryz.ntmps113
      go_wp2_with fail
      obtain⟨w0,hw0⟩:=zqe w 60 #[.int .i64 21,.string name,.slice A' 0 c',.slice A n c]
      rw[← hw0]
      have bA:=zqn hw0
      have hB0:=zqb hw0
      clear hw0
      refine(uz 0 HT HI HW hB0).mono ?_
      rintro e w1 ⟨rfl,hb1⟩
      rw[HK.out]
      have hB1:=hB0.trans (hb1.mono hB0.size)
      replace bA:=bA.step hb1
      obtain⟨abq,abm,abn,abg⟩:=zc4 bA
      go_wp2_with fail
      refine(og _ _ _ _).mono ?_
      rintro e w' ⟨rfl,rfl⟩
      rw[H16.out]
      go_wp2_with fail
      refine(aem _ HT.out.HS1 _).mono ?_
      rintro e w2 ⟨rfl,hb2⟩
      rw[HO.out]
      have hB2:=hB1.trans (hb2.mono hB1.size)
      replace bA:=bA.step hb2
      obtain⟨af4,af5,af6,af7⟩:=zc4 bA
      go_wp2_with fail
      refine(og _ _ _ _).mono ?_
      rintro e w' ⟨rfl,rfl⟩
      rw[H23.out]
      go_wp2_with fail
      go_ret
      exact⟨ah HF.out.symm,hB2⟩
    ·have hl1:0 < n':=by omega
     have HF:Hid (Ty.shapes ⟨21,name,labels,kids⟩=false):=by
      show _=_
      have g1:=HT.out.HN
      have g2:=HT.out.HN'
      rw[Ty.shapes,zk HK.out,Bool.and_true]
      rw[l7]
      have g3:¬ labels=[]:=fun e=>by rw[e] at g2;exact hl g2
      simp_all [named,inB,jv]
     have HO:=zqd hok
     clear hok hz hl
     go_enter Tryz.func113,Tryz.ntmps113
     go_wp2_with fail
     obtain⟨w0,hw0⟩:=zqe w 60 #[.int .i64 21,.string name,.slice A' n' c',.slice A n c]
     rw[← hw0]
     have bA:=zqn hw0
     have hB0:=zqb hw0
     clear hw0
     refine(uz 0 HT HI HW hB0).mono ?_
     rintro e w1 ⟨rfl,hb1⟩
     rw[HK.out]
     have hB1:=hB0.trans (hb1.mono hB0.size)
     replace bA:=bA.step hb1
     obtain⟨abq,abm,abn,abg⟩:=zc4 bA
     go_wp2_with fail
     refine(og _ _ _ _).mono ?_
     rintro e w' ⟨rfl,rfl⟩
     rw[H16.out]
     go_wp2_with fail
     go_ret
     exact⟨ah HF.out.symm,hB1⟩
end Go.Proofs.YtbafphecjijdmaaGreatDoor
