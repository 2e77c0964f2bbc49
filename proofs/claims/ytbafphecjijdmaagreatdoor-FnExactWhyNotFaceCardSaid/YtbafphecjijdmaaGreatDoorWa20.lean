/-
  implnamed (by program: gen_shape.py).
-/
import Derived.Test.YtbafphecjijdmaaGreatDoorWa16
namespace Go.Proofs.YtbafphecjijdmaaGreatDoor
open Go.RowKit
set_option linter.unusedVariables false
set_option linter.unusedSimpArgs false
set_option linter.unnecessarySimpa false
set_option maxHeartbeats 4000000 in
theorem axb {kind:Int} {name:ByteArray} {labels:List ByteArray} {kids:List Ty} {B n n' c c':Nat} {A A':Option Addr} {w:World} (HT:Hid (ale B n n' c c' A A' name labels kids w)) (HI:Hid (∀ t ∈ kids,ane t)) (HW:Hid (∀ t ∈ kids,PD.wfL (Ty.pd t))) (HK:Hid ((kids.any fun t=>!t.shapes)=false)) (hk:kind=20∨kind=21) (hz:¬ name.size=0∨True):Calls Tryz.prog 113 #[.agg #[.int .i64 kind,.string name,.slice A' n' c',.slice A n c]] w fun e w'=>e=.returned (.bool (Ty.shapes ⟨kind,name,labels,kids⟩))∧Below w.heap.size w w':=by
 have hn:=HT.out.hn
 have hn':=HT.out.hn'
 have H16:Hid (inB kind 16 19=false):=af4.2 (by omega)
 have H23:Hid (inB kind 1 23=true):=agi (by omega) (by omega)
 clear hz
 rcases hk with rfl|rfl
 ·by_cases hz:name.size=0
  ·have e0:=aom hz
   have HF:Hid (Ty.shapes ⟨20,name,labels,kids⟩=false):=by
    show _=_
    have g1:=HT.out.HN
    have g2:=HT.out.HN'
    rw[Ty.shapes,y9 HK.out,Bool.and_true]
    rw[lq]
    simp_all [named,inB,jo]
   have HO:=Lib.hid e0
   clear e0 hz
   by_cases hl:n'=0
   ·subst hl
    go_enter Tryz.func113,Tryz.ntmps113
    go_wp2_with fail
    obtain⟨w0,hw0⟩:∃ W,W=w.alloc (.cells #[.int .i64 20,.string name,.slice A' 0 c',.slice A n c] 60):=⟨_,rfl⟩
    rw[← hw0]
    have bA:Blk w0 w.heap.size 60 #[.int .i64 20,.string name,.slice A' 0 c',.slice A n c]:=by rw[hw0];exact Blk.new w _ _
    have hB0:Below w.heap.size w w0:=by rw[hw0];exact(Below.refl _ _).alloc (Nat.le_refl _) _
    clear hw0
    refine(ou 139 #[] (fun t=>!t.shapes) (HT.out.c (kind:=0) hB0).1 (HT.out.k hB0) pz (fun t ht cs W hW hr=>su (HI.out t ht) (B:=W.heap.size) (Nat.le_refl _) (HW.out t ht) (hr.more (by have h1:=(HT.out.c (kind:=0) hB0).1;have:=hW.size;omega)))).mono ?_
    rintro e w1 ⟨rfl,hb1⟩
    rw[HK.out]
    have hB1:=hB0.trans (hb1.mono hB0.size)
    replace bA:=bA.step hb1
    have abg:w1.cell? ⟨w.heap.size,0,none⟩=some (.int .i64 20):=bA.cell 0
    have aa9:w1.cell? ⟨w.heap.size,1,none⟩=some (.string name):=bA.cell 1
    have abb:w1.cell? ⟨w.heap.size,2,none⟩=some (.slice A' 0 c'):=bA.cell 2
    have aa1:w1.cell? ⟨w.heap.size,3,none⟩=some (.slice A n c):=bA.cell 3
    go_wp2_with fail
    refine(ng _ _ _ _).mono ?_
    rintro e w' ⟨rfl,rfl⟩
    rw[H16.out]
    go_wp2_with fail
    refine(aeo _ HT.out.HS1 _).mono ?_
    rintro e w2 ⟨rfl,hb2⟩
    rw[HO.out]
    have hB2:=hB1.trans (hb2.mono hB1.size)
    replace bA:=bA.step hb2
    have afh:w2.cell? ⟨w.heap.size,0,none⟩=some (.int .i64 20):=bA.cell 0
    have afi:w2.cell? ⟨w.heap.size,1,none⟩=some (.string name):=bA.cell 1
    have afj:w2.cell? ⟨w.heap.size,2,none⟩=some (.slice A' 0 c'):=bA.cell 2
    have afk:w2.cell? ⟨w.heap.size,3,none⟩=some (.slice A n c):=bA.cell 3
    go_wp2_with fail
    go_ret
    exact⟨ah HF.out.symm,hB2⟩
   ·have hl1:0 < n':=by omega
    go_enter Tryz.func113,Tryz.ntmps113
    go_wp2_with fail
    obtain⟨w0,hw0⟩:∃ W,W=w.alloc (.cells #[.int .i64 20,.string name,.slice A' n' c',.slice A n c] 60):=⟨_,rfl⟩
    rw[← hw0]
    have bA:Blk w0 w.heap.size 60 #[.int .i64 20,.string name,.slice A' n' c',.slice A n c]:=by rw[hw0];exact Blk.new w _ _
    have hB0:Below w.heap.size w w0:=by rw[hw0];exact(Below.refl _ _).alloc (Nat.le_refl _) _
    clear hw0
    refine(ou 139 #[] (fun t=>!t.shapes) (HT.out.c (kind:=0) hB0).1 (HT.out.k hB0) pz (fun t ht cs W hW hr=>su (HI.out t ht) (B:=W.heap.size) (Nat.le_refl _) (HW.out t ht) (hr.more (by have h1:=(HT.out.c (kind:=0) hB0).1;have:=hW.size;omega)))).mono ?_
    rintro e w1 ⟨rfl,hb1⟩
    rw[HK.out]
    have hB1:=hB0.trans (hb1.mono hB0.size)
    replace bA:=bA.step hb1
    have abg:w1.cell? ⟨w.heap.size,0,none⟩=some (.int .i64 20):=bA.cell 0
    have aa9:w1.cell? ⟨w.heap.size,1,none⟩=some (.string name):=bA.cell 1
    have abb:w1.cell? ⟨w.heap.size,2,none⟩=some (.slice A' n' c'):=bA.cell 2
    have aa1:w1.cell? ⟨w.heap.size,3,none⟩=some (.slice A n c):=bA.cell 3
    go_wp2_with fail
    refine(ng _ _ _ _).mono ?_
    rintro e w' ⟨rfl,rfl⟩
    rw[H16.out]
    go_wp2_with fail
    go_ret
    exact⟨ah HF.out.symm,hB1⟩
  ·have hE:=aer hz
   have hE2:=aem hz
   cases hok:aag name
   ·have hx0:=True.intro
    have HF:Hid (Ty.shapes ⟨20,name,labels,kids⟩=false):=by
     show _=_
     have g1:=HT.out.HN
     have g2:=HT.out.HN'
     rw[Ty.shapes,y9 HK.out,Bool.and_true]
     rw[lq]
     simp_all [named,inB,jo]
    have HO:=Lib.hid hok
    clear hok hz hx0
    by_cases hl:n'=0
    ·subst hl
     go_enter Tryz.func113,Tryz.ntmps113
     go_wp2_with fail
     obtain⟨w0,hw0⟩:∃ W,W=w.alloc (.cells #[.int .i64 20,.string name,.slice A' 0 c',.slice A n c] 60):=⟨_,rfl⟩
     rw[← hw0]
     have bA:Blk w0 w.heap.size 60 #[.int .i64 20,.string name,.slice A' 0 c',.slice A n c]:=by rw[hw0];exact Blk.new w _ _
     have hB0:Below w.heap.size w w0:=by rw[hw0];exact(Below.refl _ _).alloc (Nat.le_refl _) _
     clear hw0
     refine(ou 139 #[] (fun t=>!t.shapes) (HT.out.c (kind:=0) hB0).1 (HT.out.k hB0) pz (fun t ht cs W hW hr=>su (HI.out t ht) (B:=W.heap.size) (Nat.le_refl _) (HW.out t ht) (hr.more (by have h1:=(HT.out.c (kind:=0) hB0).1;have:=hW.size;omega)))).mono ?_
     rintro e w1 ⟨rfl,hb1⟩
     rw[HK.out]
     have hB1:=hB0.trans (hb1.mono hB0.size)
     replace bA:=bA.step hb1
     have abg:w1.cell? ⟨w.heap.size,0,none⟩=some (.int .i64 20):=bA.cell 0
     have aa9:w1.cell? ⟨w.heap.size,1,none⟩=some (.string name):=bA.cell 1
     have abb:w1.cell? ⟨w.heap.size,2,none⟩=some (.slice A' 0 c'):=bA.cell 2
     have aa1:w1.cell? ⟨w.heap.size,3,none⟩=some (.slice A n c):=bA.cell 3
     go_wp2_with fail
     refine(ng _ _ _ _).mono ?_
     rintro e w' ⟨rfl,rfl⟩
     rw[H16.out]
     go_wp2_with fail
     refine(aeo _ HT.out.HS1 _).mono ?_
     rintro e w2 ⟨rfl,hb2⟩
     rw[HO.out]
     have hB2:=hB1.trans (hb2.mono hB1.size)
     replace bA:=bA.step hb2
     have afh:w2.cell? ⟨w.heap.size,0,none⟩=some (.int .i64 20):=bA.cell 0
     have afi:w2.cell? ⟨w.heap.size,1,none⟩=some (.string name):=bA.cell 1
     have afj:w2.cell? ⟨w.heap.size,2,none⟩=some (.slice A' 0 c'):=bA.cell 2
     have afk:w2.cell? ⟨w.heap.size,3,none⟩=some (.slice A n c):=bA.cell 3
     go_wp2_with fail
     go_ret
     exact⟨ah HF.out.symm,hB2⟩
    ·have hl1:0 < n':=by omega
     go_enter Tryz.func113,Tryz.ntmps113
     go_wp2_with fail
     obtain⟨w0,hw0⟩:∃ W,W=w.alloc (.cells #[.int .i64 20,.string name,.slice A' n' c',.slice A n c] 60):=⟨_,rfl⟩
     rw[← hw0]
     have bA:Blk w0 w.heap.size 60 #[.int .i64 20,.string name,.slice A' n' c',.slice A n c]:=by rw[hw0];exact Blk.new w _ _
     have hB0:Below w.heap.size w w0:=by rw[hw0];exact(Below.refl _ _).alloc (Nat.le_refl _) _
     clear hw0
     refine(ou 139 #[] (fun t=>!t.shapes) (HT.out.c (kind:=0) hB0).1 (HT.out.k hB0) pz (fun t ht cs W hW hr=>su (HI.out t ht) (B:=W.heap.size) (Nat.le_refl _) (HW.out t ht) (hr.more (by have h1:=(HT.out.c (kind:=0) hB0).1;have:=hW.size;omega)))).mono ?_
     rintro e w1 ⟨rfl,hb1⟩
     rw[HK.out]
     have hB1:=hB0.trans (hb1.mono hB0.size)
     replace bA:=bA.step hb1
     have abg:w1.cell? ⟨w.heap.size,0,none⟩=some (.int .i64 20):=bA.cell 0
     have aa9:w1.cell? ⟨w.heap.size,1,none⟩=some (.string name):=bA.cell 1
     have abb:w1.cell? ⟨w.heap.size,2,none⟩=some (.slice A' n' c'):=bA.cell 2
     have aa1:w1.cell? ⟨w.heap.size,3,none⟩=some (.slice A n c):=bA.cell 3
     go_wp2_with fail
     refine(ng _ _ _ _).mono ?_
     rintro e w' ⟨rfl,rfl⟩
     rw[H16.out]
     go_wp2_with fail
     go_ret
     exact⟨ah HF.out.symm,hB1⟩
   ·by_cases hl:n'=0
    ·by_cases hk0:n=0
     ·have hkk:((n:Int) ==0)=true:=by simp;omega
      have HF:Hid (Ty.shapes ⟨20,name,labels,kids⟩=true):=by
       show _=_
       have g1:=HT.out.HN
       have g2:=HT.out.HN'
       rw[Ty.shapes,y9 HK.out,Bool.and_true]
       rw[lq]
       simp_all [named,inB,jo]
      have HO:=Lib.hid hok
      clear hok hz hk0
      subst hl
      go_enter Tryz.func113,Tryz.ntmps113
      go_wp2_with fail
      obtain⟨w0,hw0⟩:∃ W,W=w.alloc (.cells #[.int .i64 20,.string name,.slice A' 0 c',.slice A n c] 60):=⟨_,rfl⟩
      rw[← hw0]
      have bA:Blk w0 w.heap.size 60 #[.int .i64 20,.string name,.slice A' 0 c',.slice A n c]:=by rw[hw0];exact Blk.new w _ _
      have hB0:Below w.heap.size w w0:=by rw[hw0];exact(Below.refl _ _).alloc (Nat.le_refl _) _
      clear hw0
      refine(ou 139 #[] (fun t=>!t.shapes) (HT.out.c (kind:=0) hB0).1 (HT.out.k hB0) pz (fun t ht cs W hW hr=>su (HI.out t ht) (B:=W.heap.size) (Nat.le_refl _) (HW.out t ht) (hr.more (by have h1:=(HT.out.c (kind:=0) hB0).1;have:=hW.size;omega)))).mono ?_
      rintro e w1 ⟨rfl,hb1⟩
      rw[HK.out]
      have hB1:=hB0.trans (hb1.mono hB0.size)
      replace bA:=bA.step hb1
      have abg:w1.cell? ⟨w.heap.size,0,none⟩=some (.int .i64 20):=bA.cell 0
      have aa9:w1.cell? ⟨w.heap.size,1,none⟩=some (.string name):=bA.cell 1
      have abb:w1.cell? ⟨w.heap.size,2,none⟩=some (.slice A' 0 c'):=bA.cell 2
      have aa1:w1.cell? ⟨w.heap.size,3,none⟩=some (.slice A n c):=bA.cell 3
      go_wp2_with fail
      refine(ng _ _ _ _).mono ?_
      rintro e w' ⟨rfl,rfl⟩
      rw[H16.out]
      go_wp2_with fail
      refine(aeo _ HT.out.HS1 _).mono ?_
      rintro e w2 ⟨rfl,hb2⟩
      rw[HO.out]
      have hB2:=hB1.trans (hb2.mono hB1.size)
      replace bA:=bA.step hb2
      have afh:w2.cell? ⟨w.heap.size,0,none⟩=some (.int .i64 20):=bA.cell 0
      have afi:w2.cell? ⟨w.heap.size,1,none⟩=some (.string name):=bA.cell 1
      have afj:w2.cell? ⟨w.heap.size,2,none⟩=some (.slice A' 0 c'):=bA.cell 2
      have afk:w2.cell? ⟨w.heap.size,3,none⟩=some (.slice A n c):=bA.cell 3
      go_wp2_with fail
      refine(ng _ _ _ _).mono ?_
      rintro e w' ⟨rfl,rfl⟩
      rw[H23.out]
      go_wp2_with fail
      go_ret
      exact⟨ah HF.out.symm,hB2⟩
     ·have hkk:((n:Int) ==0)=false:=by simp;omega
      have HF:Hid (Ty.shapes ⟨20,name,labels,kids⟩=false):=by
       show _=_
       have g1:=HT.out.HN
       have g2:=HT.out.HN'
       rw[Ty.shapes,y9 HK.out,Bool.and_true]
       rw[lq]
       simp_all [named,inB,jo]
      have HO:=Lib.hid hok
      clear hok hz hk0
      subst hl
      go_enter Tryz.func113,Tryz.ntmps113
      go_wp2_with fail
      obtain⟨w0,hw0⟩:∃ W,W=w.alloc (.cells #[.int .i64 20,.string name,.slice A' 0 c',.slice A n c] 60):=⟨_,rfl⟩
      rw[← hw0]
      have bA:Blk w0 w.heap.size 60 #[.int .i64 20,.string name,.slice A' 0 c',.slice A n c]:=by rw[hw0];exact Blk.new w _ _
      have hB0:Below w.heap.size w w0:=by rw[hw0];exact(Below.refl _ _).alloc (Nat.le_refl _) _
      clear hw0
      refine(ou 139 #[] (fun t=>!t.shapes) (HT.out.c (kind:=0) hB0).1 (HT.out.k hB0) pz (fun t ht cs W hW hr=>su (HI.out t ht) (B:=W.heap.size) (Nat.le_refl _) (HW.out t ht) (hr.more (by have h1:=(HT.out.c (kind:=0) hB0).1;have:=hW.size;omega)))).mono ?_
      rintro e w1 ⟨rfl,hb1⟩
      rw[HK.out]
      have hB1:=hB0.trans (hb1.mono hB0.size)
      replace bA:=bA.step hb1
      have abg:w1.cell? ⟨w.heap.size,0,none⟩=some (.int .i64 20):=bA.cell 0
      have aa9:w1.cell? ⟨w.heap.size,1,none⟩=some (.string name):=bA.cell 1
      have abb:w1.cell? ⟨w.heap.size,2,none⟩=some (.slice A' 0 c'):=bA.cell 2
      have aa1:w1.cell? ⟨w.heap.size,3,none⟩=some (.slice A n c):=bA.cell 3
      go_wp2_with fail
      refine(ng _ _ _ _).mono ?_
      rintro e w' ⟨rfl,rfl⟩
      rw[H16.out]
      go_wp2_with fail
      refine(aeo _ HT.out.HS1 _).mono ?_
      rintro e w2 ⟨rfl,hb2⟩
      rw[HO.out]
      have hB2:=hB1.trans (hb2.mono hB1.size)
      replace bA:=bA.step hb2
      have afh:w2.cell? ⟨w.heap.size,0,none⟩=some (.int .i64 20):=bA.cell 0
      have afi:w2.cell? ⟨w.heap.size,1,none⟩=some (.string name):=bA.cell 1
      have afj:w2.cell? ⟨w.heap.size,2,none⟩=some (.slice A' 0 c'):=bA.cell 2
      have afk:w2.cell? ⟨w.heap.size,3,none⟩=some (.slice A n c):=bA.cell 3
      go_wp2_with fail
      refine(ng _ _ _ _).mono ?_
      rintro e w' ⟨rfl,rfl⟩
      rw[H23.out]
      go_wp2_with fail
      go_ret
      exact⟨ah HF.out.symm,hB2⟩
    ·have hl1:0 < n':=by omega
     have HF:Hid (Ty.shapes ⟨20,name,labels,kids⟩=false):=by
      show _=_
      have g1:=HT.out.HN
      have g2:=HT.out.HN'
      rw[Ty.shapes,y9 HK.out,Bool.and_true]
      rw[lq]
      have g3:¬ labels=[]:=fun e=>by rw[e] at g2;exact hl g2
      simp_all [named,inB,jo]
     have HO:=Lib.hid hok
     clear hok hz hl
     go_enter Tryz.func113,Tryz.ntmps113
     go_wp2_with fail
     obtain⟨w0,hw0⟩:∃ W,W=w.alloc (.cells #[.int .i64 20,.string name,.slice A' n' c',.slice A n c] 60):=⟨_,rfl⟩
     rw[← hw0]
     have bA:Blk w0 w.heap.size 60 #[.int .i64 20,.string name,.slice A' n' c',.slice A n c]:=by rw[hw0];exact Blk.new w _ _
     have hB0:Below w.heap.size w w0:=by rw[hw0];exact(Below.refl _ _).alloc (Nat.le_refl _) _
     clear hw0
     refine(ou 139 #[] (fun t=>!t.shapes) (HT.out.c (kind:=0) hB0).1 (HT.out.k hB0) pz (fun t ht cs W hW hr=>su (HI.out t ht) (B:=W.heap.size) (Nat.le_refl _) (HW.out t ht) (hr.more (by have h1:=(HT.out.c (kind:=0) hB0).1;have:=hW.size;omega)))).mono ?_
     rintro e w1 ⟨rfl,hb1⟩
     rw[HK.out]
     have hB1:=hB0.trans (hb1.mono hB0.size)
     replace bA:=bA.step hb1
     have abg:w1.cell? ⟨w.heap.size,0,none⟩=some (.int .i64 20):=bA.cell 0
     have aa9:w1.cell? ⟨w.heap.size,1,none⟩=some (.string name):=bA.cell 1
     have abb:w1.cell? ⟨w.heap.size,2,none⟩=some (.slice A' n' c'):=bA.cell 2
     have aa1:w1.cell? ⟨w.heap.size,3,none⟩=some (.slice A n c):=bA.cell 3
     go_wp2_with fail
     refine(ng _ _ _ _).mono ?_
     rintro e w' ⟨rfl,rfl⟩
     rw[H16.out]
     go_wp2_with fail
     go_ret
     exact⟨ah HF.out.symm,hB1⟩
 ·by_cases hz:name.size=0
  ·have e0:=aom hz
   have HF:Hid (Ty.shapes ⟨21,name,labels,kids⟩=false):=by
    show _=_
    have g1:=HT.out.HN
    have g2:=HT.out.HN'
    rw[Ty.shapes,y9 HK.out,Bool.and_true]
    rw[lq]
    simp_all [named,inB,jo]
   have HO:=Lib.hid e0
   clear e0 hz
   by_cases hl:n'=0
   ·subst hl
    go_enter Tryz.func113,Tryz.ntmps113
    go_wp2_with fail
    obtain⟨w0,hw0⟩:∃ W,W=w.alloc (.cells #[.int .i64 21,.string name,.slice A' 0 c',.slice A n c] 60):=⟨_,rfl⟩
    rw[← hw0]
    have bA:Blk w0 w.heap.size 60 #[.int .i64 21,.string name,.slice A' 0 c',.slice A n c]:=by rw[hw0];exact Blk.new w _ _
    have hB0:Below w.heap.size w w0:=by rw[hw0];exact(Below.refl _ _).alloc (Nat.le_refl _) _
    clear hw0
    refine(ou 139 #[] (fun t=>!t.shapes) (HT.out.c (kind:=0) hB0).1 (HT.out.k hB0) pz (fun t ht cs W hW hr=>su (HI.out t ht) (B:=W.heap.size) (Nat.le_refl _) (HW.out t ht) (hr.more (by have h1:=(HT.out.c (kind:=0) hB0).1;have:=hW.size;omega)))).mono ?_
    rintro e w1 ⟨rfl,hb1⟩
    rw[HK.out]
    have hB1:=hB0.trans (hb1.mono hB0.size)
    replace bA:=bA.step hb1
    have abg:w1.cell? ⟨w.heap.size,0,none⟩=some (.int .i64 21):=bA.cell 0
    have aa9:w1.cell? ⟨w.heap.size,1,none⟩=some (.string name):=bA.cell 1
    have abb:w1.cell? ⟨w.heap.size,2,none⟩=some (.slice A' 0 c'):=bA.cell 2
    have aa1:w1.cell? ⟨w.heap.size,3,none⟩=some (.slice A n c):=bA.cell 3
    go_wp2_with fail
    refine(ng _ _ _ _).mono ?_
    rintro e w' ⟨rfl,rfl⟩
    rw[H16.out]
    go_wp2_with fail
    refine(aeo _ HT.out.HS1 _).mono ?_
    rintro e w2 ⟨rfl,hb2⟩
    rw[HO.out]
    have hB2:=hB1.trans (hb2.mono hB1.size)
    replace bA:=bA.step hb2
    have afh:w2.cell? ⟨w.heap.size,0,none⟩=some (.int .i64 21):=bA.cell 0
    have afi:w2.cell? ⟨w.heap.size,1,none⟩=some (.string name):=bA.cell 1
    have afj:w2.cell? ⟨w.heap.size,2,none⟩=some (.slice A' 0 c'):=bA.cell 2
    have afk:w2.cell? ⟨w.heap.size,3,none⟩=some (.slice A n c):=bA.cell 3
    go_wp2_with fail
    go_ret
    exact⟨ah HF.out.symm,hB2⟩
   ·have hl1:0 < n':=by omega
    go_enter Tryz.func113,Tryz.ntmps113
    go_wp2_with fail
    obtain⟨w0,hw0⟩:∃ W,W=w.alloc (.cells #[.int .i64 21,.string name,.slice A' n' c',.slice A n c] 60):=⟨_,rfl⟩
    rw[← hw0]
    have bA:Blk w0 w.heap.size 60 #[.int .i64 21,.string name,.slice A' n' c',.slice A n c]:=by rw[hw0];exact Blk.new w _ _
    have hB0:Below w.heap.size w w0:=by rw[hw0];exact(Below.refl _ _).alloc (Nat.le_refl _) _
    clear hw0
    refine(ou 139 #[] (fun t=>!t.shapes) (HT.out.c (kind:=0) hB0).1 (HT.out.k hB0) pz (fun t ht cs W hW hr=>su (HI.out t ht) (B:=W.heap.size) (Nat.le_refl _) (HW.out t ht) (hr.more (by have h1:=(HT.out.c (kind:=0) hB0).1;have:=hW.size;omega)))).mono ?_
    rintro e w1 ⟨rfl,hb1⟩
    rw[HK.out]
    have hB1:=hB0.trans (hb1.mono hB0.size)
    replace bA:=bA.step hb1
    have abg:w1.cell? ⟨w.heap.size,0,none⟩=some (.int .i64 21):=bA.cell 0
    have aa9:w1.cell? ⟨w.heap.size,1,none⟩=some (.string name):=bA.cell 1
    have abb:w1.cell? ⟨w.heap.size,2,none⟩=some (.slice A' n' c'):=bA.cell 2
    have aa1:w1.cell? ⟨w.heap.size,3,none⟩=some (.slice A n c):=bA.cell 3
    go_wp2_with fail
    refine(ng _ _ _ _).mono ?_
    rintro e w' ⟨rfl,rfl⟩
    rw[H16.out]
    go_wp2_with fail
    go_ret
    exact⟨ah HF.out.symm,hB1⟩
  ·have hE:=aer hz
   have hE2:=aem hz
   cases hok:aag name
   ·have hx0:=True.intro
    have HF:Hid (Ty.shapes ⟨21,name,labels,kids⟩=false):=by
     show _=_
     have g1:=HT.out.HN
     have g2:=HT.out.HN'
     rw[Ty.shapes,y9 HK.out,Bool.and_true]
     rw[lq]
     simp_all [named,inB,jo]
    have HO:=Lib.hid hok
    clear hok hz hx0
    by_cases hl:n'=0
    ·subst hl
     go_enter Tryz.func113,Tryz.ntmps113
     go_wp2_with fail
     obtain⟨w0,hw0⟩:∃ W,W=w.alloc (.cells #[.int .i64 21,.string name,.slice A' 0 c',.slice A n c] 60):=⟨_,rfl⟩
     rw[← hw0]
     have bA:Blk w0 w.heap.size 60 #[.int .i64 21,.string name,.slice A' 0 c',.slice A n c]:=by rw[hw0];exact Blk.new w _ _
     have hB0:Below w.heap.size w w0:=by rw[hw0];exact(Below.refl _ _).alloc (Nat.le_refl _) _
     clear hw0
     refine(ou 139 #[] (fun t=>!t.shapes) (HT.out.c (kind:=0) hB0).1 (HT.out.k hB0) pz (fun t ht cs W hW hr=>su (HI.out t ht) (B:=W.heap.size) (Nat.le_refl _) (HW.out t ht) (hr.more (by have h1:=(HT.out.c (kind:=0) hB0).1;have:=hW.size;omega)))).mono ?_
     rintro e w1 ⟨rfl,hb1⟩
     rw[HK.out]
     have hB1:=hB0.trans (hb1.mono hB0.size)
     replace bA:=bA.step hb1
     have abg:w1.cell? ⟨w.heap.size,0,none⟩=some (.int .i64 21):=bA.cell 0
     have aa9:w1.cell? ⟨w.heap.size,1,none⟩=some (.string name):=bA.cell 1
     have abb:w1.cell? ⟨w.heap.size,2,none⟩=some (.slice A' 0 c'):=bA.cell 2
     have aa1:w1.cell? ⟨w.heap.size,3,none⟩=some (.slice A n c):=bA.cell 3
     go_wp2_with fail
     refine(ng _ _ _ _).mono ?_
     rintro e w' ⟨rfl,rfl⟩
     rw[H16.out]
     go_wp2_with fail
     refine(aeo _ HT.out.HS1 _).mono ?_
     rintro e w2 ⟨rfl,hb2⟩
     rw[HO.out]
     have hB2:=hB1.trans (hb2.mono hB1.size)
     replace bA:=bA.step hb2
     have afh:w2.cell? ⟨w.heap.size,0,none⟩=some (.int .i64 21):=bA.cell 0
     have afi:w2.cell? ⟨w.heap.size,1,none⟩=some (.string name):=bA.cell 1
     have afj:w2.cell? ⟨w.heap.size,2,none⟩=some (.slice A' 0 c'):=bA.cell 2
     have afk:w2.cell? ⟨w.heap.size,3,none⟩=some (.slice A n c):=bA.cell 3
     go_wp2_with fail
     go_ret
     exact⟨ah HF.out.symm,hB2⟩
    ·have hl1:0 < n':=by omega
     go_enter Tryz.func113,Tryz.ntmps113
     go_wp2_with fail
     obtain⟨w0,hw0⟩:∃ W,W=w.alloc (.cells #[.int .i64 21,.string name,.slice A' n' c',.slice A n c] 60):=⟨_,rfl⟩
     rw[← hw0]
     have bA:Blk w0 w.heap.size 60 #[.int .i64 21,.string name,.slice A' n' c',.slice A n c]:=by rw[hw0];exact Blk.new w _ _
     have hB0:Below w.heap.size w w0:=by rw[hw0];exact(Below.refl _ _).alloc (Nat.le_refl _) _
     clear hw0
     refine(ou 139 #[] (fun t=>!t.shapes) (HT.out.c (kind:=0) hB0).1 (HT.out.k hB0) pz (fun t ht cs W hW hr=>su (HI.out t ht) (B:=W.heap.size) (Nat.le_refl _) (HW.out t ht) (hr.more (by have h1:=(HT.out.c (kind:=0) hB0).1;have:=hW.size;omega)))).mono ?_
     rintro e w1 ⟨rfl,hb1⟩
     rw[HK.out]
     have hB1:=hB0.trans (hb1.mono hB0.size)
     replace bA:=bA.step hb1
     have abg:w1.cell? ⟨w.heap.size,0,none⟩=some (.int .i64 21):=bA.cell 0
     have aa9:w1.cell? ⟨w.heap.size,1,none⟩=some (.string name):=bA.cell 1
     have abb:w1.cell? ⟨w.heap.size,2,none⟩=some (.slice A' n' c'):=bA.cell 2
     have aa1:w1.cell? ⟨w.heap.size,3,none⟩=some (.slice A n c):=bA.cell 3
     go_wp2_with fail
     refine(ng _ _ _ _).mono ?_
     rintro e w' ⟨rfl,rfl⟩
     rw[H16.out]
     go_wp2_with fail
     go_ret
     exact⟨ah HF.out.symm,hB1⟩
   ·by_cases hl:n'=0
    ·by_cases hk0:n=0
     ·have hkk:((n:Int) ==0)=true:=by simp;omega
      have HF:Hid (Ty.shapes ⟨21,name,labels,kids⟩=true):=by
       show _=_
       have g1:=HT.out.HN
       have g2:=HT.out.HN'
       rw[Ty.shapes,y9 HK.out,Bool.and_true]
       rw[lq]
       simp_all [named,inB,jo]
      have HO:=Lib.hid hok
      clear hok hz hk0
      subst hl
      go_enter Tryz.func113,Tryz.ntmps113
      go_wp2_with fail
      obtain⟨w0,hw0⟩:∃ W,W=w.alloc (.cells #[.int .i64 21,.string name,.slice A' 0 c',.slice A n c] 60):=⟨_,rfl⟩
      rw[← hw0]
      have bA:Blk w0 w.heap.size 60 #[.int .i64 21,.string name,.slice A' 0 c',.slice A n c]:=by rw[hw0];exact Blk.new w _ _
      have hB0:Below w.heap.size w w0:=by rw[hw0];exact(Below.refl _ _).alloc (Nat.le_refl _) _
      clear hw0
      refine(ou 139 #[] (fun t=>!t.shapes) (HT.out.c (kind:=0) hB0).1 (HT.out.k hB0) pz (fun t ht cs W hW hr=>su (HI.out t ht) (B:=W.heap.size) (Nat.le_refl _) (HW.out t ht) (hr.more (by have h1:=(HT.out.c (kind:=0) hB0).1;have:=hW.size;omega)))).mono ?_
      rintro e w1 ⟨rfl,hb1⟩
      rw[HK.out]
      have hB1:=hB0.trans (hb1.mono hB0.size)
      replace bA:=bA.step hb1
      have abg:w1.cell? ⟨w.heap.size,0,none⟩=some (.int .i64 21):=bA.cell 0
      have aa9:w1.cell? ⟨w.heap.size,1,none⟩=some (.string name):=bA.cell 1
      have abb:w1.cell? ⟨w.heap.size,2,none⟩=some (.slice A' 0 c'):=bA.cell 2
      have aa1:w1.cell? ⟨w.heap.size,3,none⟩=some (.slice A n c):=bA.cell 3
      go_wp2_with fail
      refine(ng _ _ _ _).mono ?_
      rintro e w' ⟨rfl,rfl⟩
      rw[H16.out]
      go_wp2_with fail
      refine(aeo _ HT.out.HS1 _).mono ?_
      rintro e w2 ⟨rfl,hb2⟩
      rw[HO.out]
      have hB2:=hB1.trans (hb2.mono hB1.size)
      replace bA:=bA.step hb2
      have afh:w2.cell? ⟨w.heap.size,0,none⟩=some (.int .i64 21):=bA.cell 0
      have afi:w2.cell? ⟨w.heap.size,1,none⟩=some (.string name):=bA.cell 1
      have afj:w2.cell? ⟨w.heap.size,2,none⟩=some (.slice A' 0 c'):=bA.cell 2
      have afk:w2.cell? ⟨w.heap.size,3,none⟩=some (.slice A n c):=bA.cell 3
      go_wp2_with fail
      refine(ng _ _ _ _).mono ?_
      rintro e w' ⟨rfl,rfl⟩
      rw[H23.out]
      go_wp2_with fail
      go_ret
      exact⟨ah HF.out.symm,hB2⟩
     ·have hkk:((n:Int) ==0)=false:=by simp;omega
      have HF:Hid (Ty.shapes ⟨21,name,labels,kids⟩=false):=by
       show _=_
       have g1:=HT.out.HN
       have g2:=HT.out.HN'
       rw[Ty.shapes,y9 HK.out,Bool.and_true]
       rw[lq]
       simp_all [named,inB,jo]
      have HO:=Lib.hid hok
      clear hok hz hk0
      subst hl
      go_enter Tryz.func113,Tryz.ntmps113
      go_wp2_with fail
      obtain⟨w0,hw0⟩:∃ W,W=w.alloc (.cells #[.int .i64 21,.string name,.slice A' 0 c',.slice A n c] 60):=⟨_,rfl⟩
      rw[← hw0]
      have bA:Blk w0 w.heap.size 60 #[.int .i64 21,.string name,.slice A' 0 c',.slice A n c]:=by rw[hw0];exact Blk.new w _ _
      have hB0:Below w.heap.size w w0:=by rw[hw0];exact(Below.refl _ _).alloc (Nat.le_refl _) _
      clear hw0
      refine(ou 139 #[] (fun t=>!t.shapes) (HT.out.c (kind:=0) hB0).1 (HT.out.k hB0) pz (fun t ht cs W hW hr=>su (HI.out t ht) (B:=W.heap.size) (Nat.le_refl _) (HW.out t ht) (hr.more (by have h1:=(HT.out.c (kind:=0) hB0).1;have:=hW.size;omega)))).mono ?_
      rintro e w1 ⟨rfl,hb1⟩
      rw[HK.out]
      have hB1:=hB0.trans (hb1.mono hB0.size)
      replace bA:=bA.step hb1
      have abg:w1.cell? ⟨w.heap.size,0,none⟩=some (.int .i64 21):=bA.cell 0
      have aa9:w1.cell? ⟨w.heap.size,1,none⟩=some (.string name):=bA.cell 1
      have abb:w1.cell? ⟨w.heap.size,2,none⟩=some (.slice A' 0 c'):=bA.cell 2
      have aa1:w1.cell? ⟨w.heap.size,3,none⟩=some (.slice A n c):=bA.cell 3
      go_wp2_with fail
      refine(ng _ _ _ _).mono ?_
      rintro e w' ⟨rfl,rfl⟩
      rw[H16.out]
      go_wp2_with fail
      refine(aeo _ HT.out.HS1 _).mono ?_
      rintro e w2 ⟨rfl,hb2⟩
      rw[HO.out]
      have hB2:=hB1.trans (hb2.mono hB1.size)
      replace bA:=bA.step hb2
      have afh:w2.cell? ⟨w.heap.size,0,none⟩=some (.int .i64 21):=bA.cell 0
      have afi:w2.cell? ⟨w.heap.size,1,none⟩=some (.string name):=bA.cell 1
      have afj:w2.cell? ⟨w.heap.size,2,none⟩=some (.slice A' 0 c'):=bA.cell 2
      have afk:w2.cell? ⟨w.heap.size,3,none⟩=some (.slice A n c):=bA.cell 3
      go_wp2_with fail
      refine(ng _ _ _ _).mono ?_
      rintro e w' ⟨rfl,rfl⟩
      rw[H23.out]
      go_wp2_with fail
      go_ret
      exact⟨ah HF.out.symm,hB2⟩
    ·have hl1:0 < n':=by omega
     have HF:Hid (Ty.shapes ⟨21,name,labels,kids⟩=false):=by
      show _=_
      have g1:=HT.out.HN
      have g2:=HT.out.HN'
      rw[Ty.shapes,y9 HK.out,Bool.and_true]
      rw[lq]
      have g3:¬ labels=[]:=fun e=>by rw[e] at g2;exact hl g2
      simp_all [named,inB,jo]
     have HO:=Lib.hid hok
     clear hok hz hl
     go_enter Tryz.func113,Tryz.ntmps113
     go_wp2_with fail
     obtain⟨w0,hw0⟩:∃ W,W=w.alloc (.cells #[.int .i64 21,.string name,.slice A' n' c',.slice A n c] 60):=⟨_,rfl⟩
     rw[← hw0]
     have bA:Blk w0 w.heap.size 60 #[.int .i64 21,.string name,.slice A' n' c',.slice A n c]:=by rw[hw0];exact Blk.new w _ _
     have hB0:Below w.heap.size w w0:=by rw[hw0];exact(Below.refl _ _).alloc (Nat.le_refl _) _
     clear hw0
     refine(ou 139 #[] (fun t=>!t.shapes) (HT.out.c (kind:=0) hB0).1 (HT.out.k hB0) pz (fun t ht cs W hW hr=>su (HI.out t ht) (B:=W.heap.size) (Nat.le_refl _) (HW.out t ht) (hr.more (by have h1:=(HT.out.c (kind:=0) hB0).1;have:=hW.size;omega)))).mono ?_
     rintro e w1 ⟨rfl,hb1⟩
     rw[HK.out]
     have hB1:=hB0.trans (hb1.mono hB0.size)
     replace bA:=bA.step hb1
     have abg:w1.cell? ⟨w.heap.size,0,none⟩=some (.int .i64 21):=bA.cell 0
     have aa9:w1.cell? ⟨w.heap.size,1,none⟩=some (.string name):=bA.cell 1
     have abb:w1.cell? ⟨w.heap.size,2,none⟩=some (.slice A' n' c'):=bA.cell 2
     have aa1:w1.cell? ⟨w.heap.size,3,none⟩=some (.slice A n c):=bA.cell 3
     go_wp2_with fail
     refine(ng _ _ _ _).mono ?_
     rintro e w' ⟨rfl,rfl⟩
     rw[H16.out]
     go_wp2_with fail
     go_ret
     exact⟨ah HF.out.symm,hB1⟩
end Go.Proofs.YtbafphecjijdmaaGreatDoor
