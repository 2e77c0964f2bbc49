/-
  specnamed (by program: gen_shape.py).
-/
import Derived.Test.YtbafphecjijdmaaGreatDoorWa16
namespace Go.Proofs.YtbafphecjijdmaaGreatDoor
open Go.RowKit
set_option linter.unusedVariables false
set_option linter.unusedSimpArgs false
set_option linter.unnecessarySimpa false
set_option maxHeartbeats 4000000 in
theorem axa {kind:Int} {name:ByteArray} {labels:List ByteArray} {kids:List Ty} {B n n' c c':Nat} {A A':Option Addr} {w:World} (HT:Hid (ale B n n' c c' A A' name labels kids w)) (hk:kind=20∨kind=21) (hz:¬ name.size=0∨True):Calls Tryz.prog 154 #[.agg #[.int .i64 kind,.string name,.slice A' n' c',.slice A n c]] w fun e w'=>e=.returned (.bool (aay ⟨kind,name,labels,kids⟩))∧Below w.heap.size w w':=by
 have hn:=HT.out.hn
 have hn':=HT.out.hn'
 have H16:Hid (inB kind 16 19=false):=af4.2 (by omega)
 have H23:Hid (inB kind 1 23=true):=agi (by omega) (by omega)
 clear hz
 rcases hk with rfl|rfl
 ·by_cases hz:name.size=0
  ·obtain rfl:=aev hz
   have e0:=aom hz
   have HF:Hid (aay ⟨20,{data:=#[]},labels,kids⟩=false):=by
    show _=_
    have g1:=HT.out.HN
    have g2:=HT.out.HN'
    rw[lq]
    have e1:=e0
    simp_all [named,inB,jo]
   clear e0 hz
   go_enter Tryz.func154,Tryz.ntmps154
   go_wp2_with fail
   obtain⟨w0,hw0⟩:∃ W,W=w.alloc (.cells #[.int .i64 20,.string {data:=#[]},.slice A' n' c',.slice A n c] 60):=⟨_,rfl⟩
   rw[← hw0]
   have bA:Blk w0 w.heap.size 60 #[.int .i64 20,.string {data:=#[]},.slice A' n' c',.slice A n c]:=by rw[hw0];exact Blk.new w _ _
   have hB0:Below w.heap.size w w0:=by rw[hw0];exact(Below.refl _ _).alloc (Nat.le_refl _) _
   clear hw0
   have adf:w0.cell? ⟨w.heap.size,0,none⟩=some (.int .i64 20):=bA.cell 0
   have adg:w0.cell? ⟨w.heap.size,1,none⟩=some (.string {data:=#[]}):=bA.cell 1
   have adh:w0.cell? ⟨w.heap.size,2,none⟩=some (.slice A' n' c'):=bA.cell 2
   have adi:w0.cell? ⟨w.heap.size,3,none⟩=some (.slice A n c):=bA.cell 3
   refine(oh _ _ _ _).mono ?_
   rintro e w' ⟨rfl,rfl⟩
   rw[H16.out]
   go_wp2_with fail
   go_ret
   exact⟨ah HF.out.symm,hB0⟩
  ·have hE:=aer hz
   have hE2:=aem hz
   cases hok:aag name
   ·have hx0:=True.intro
    have HF:Hid (aay ⟨20,name,labels,kids⟩=false):=by
     show _=_
     have g1:=HT.out.HN
     have g2:=HT.out.HN'
     rw[lq]
     simp_all [named,inB,jo]
    have HO:=Lib.hid hok
    clear hok hz hx0
    go_enter Tryz.func154,Tryz.ntmps154
    go_wp2_with fail
    obtain⟨w0,hw0⟩:∃ W,W=w.alloc (.cells #[.int .i64 20,.string name,.slice A' n' c',.slice A n c] 60):=⟨_,rfl⟩
    rw[← hw0]
    have bA:Blk w0 w.heap.size 60 #[.int .i64 20,.string name,.slice A' n' c',.slice A n c]:=by rw[hw0];exact Blk.new w _ _
    have hB0:Below w.heap.size w w0:=by rw[hw0];exact(Below.refl _ _).alloc (Nat.le_refl _) _
    clear hw0
    have adf:w0.cell? ⟨w.heap.size,0,none⟩=some (.int .i64 20):=bA.cell 0
    have adg:w0.cell? ⟨w.heap.size,1,none⟩=some (.string name):=bA.cell 1
    have adh:w0.cell? ⟨w.heap.size,2,none⟩=some (.slice A' n' c'):=bA.cell 2
    have adi:w0.cell? ⟨w.heap.size,3,none⟩=some (.slice A n c):=bA.cell 3
    refine(oh _ _ _ _).mono ?_
    rintro e w' ⟨rfl,rfl⟩
    rw[H16.out]
    go_wp2_with fail
    refine(afs _ HT.out.HS1 _).mono ?_
    rintro e w' ⟨rfl,rfl⟩
    rw[HO.out]
    go_wp2_with fail
    go_ret
    exact⟨ah HF.out.symm,hB0⟩
   ·by_cases hl:n'=0
    ·by_cases hk0:n=0
     ·have hkk:((n:Int) ==0)=true:=by simp;omega
      have HF:Hid (aay ⟨20,name,labels,kids⟩=true):=by
       show _=_
       have g1:=HT.out.HN
       have g2:=HT.out.HN'
       rw[lq]
       simp_all [named,inB,jo]
      have HO:=Lib.hid hok
      clear hok hz hk0
      subst hl
      go_enter Tryz.func154,Tryz.ntmps154
      go_wp2_with fail
      obtain⟨w0,hw0⟩:∃ W,W=w.alloc (.cells #[.int .i64 20,.string name,.slice A' 0 c',.slice A n c] 60):=⟨_,rfl⟩
      rw[← hw0]
      have bA:Blk w0 w.heap.size 60 #[.int .i64 20,.string name,.slice A' 0 c',.slice A n c]:=by rw[hw0];exact Blk.new w _ _
      have hB0:Below w.heap.size w w0:=by rw[hw0];exact(Below.refl _ _).alloc (Nat.le_refl _) _
      clear hw0
      have adf:w0.cell? ⟨w.heap.size,0,none⟩=some (.int .i64 20):=bA.cell 0
      have adg:w0.cell? ⟨w.heap.size,1,none⟩=some (.string name):=bA.cell 1
      have adh:w0.cell? ⟨w.heap.size,2,none⟩=some (.slice A' 0 c'):=bA.cell 2
      have adi:w0.cell? ⟨w.heap.size,3,none⟩=some (.slice A n c):=bA.cell 3
      refine(oh _ _ _ _).mono ?_
      rintro e w' ⟨rfl,rfl⟩
      rw[H16.out]
      go_wp2_with fail
      refine(afs _ HT.out.HS1 _).mono ?_
      rintro e w' ⟨rfl,rfl⟩
      rw[HO.out]
      go_wp2_with fail
      refine(oh _ _ _ _).mono ?_
      rintro e w' ⟨rfl,rfl⟩
      rw[H23.out]
      go_wp2_with fail
      go_ret
      exact⟨ah HF.out.symm,hB0⟩
     ·have hkk:((n:Int) ==0)=false:=by simp;omega
      have HF:Hid (aay ⟨20,name,labels,kids⟩=false):=by
       show _=_
       have g1:=HT.out.HN
       have g2:=HT.out.HN'
       rw[lq]
       simp_all [named,inB,jo]
      have HO:=Lib.hid hok
      clear hok hz hk0
      subst hl
      go_enter Tryz.func154,Tryz.ntmps154
      go_wp2_with fail
      obtain⟨w0,hw0⟩:∃ W,W=w.alloc (.cells #[.int .i64 20,.string name,.slice A' 0 c',.slice A n c] 60):=⟨_,rfl⟩
      rw[← hw0]
      have bA:Blk w0 w.heap.size 60 #[.int .i64 20,.string name,.slice A' 0 c',.slice A n c]:=by rw[hw0];exact Blk.new w _ _
      have hB0:Below w.heap.size w w0:=by rw[hw0];exact(Below.refl _ _).alloc (Nat.le_refl _) _
      clear hw0
      have adf:w0.cell? ⟨w.heap.size,0,none⟩=some (.int .i64 20):=bA.cell 0
      have adg:w0.cell? ⟨w.heap.size,1,none⟩=some (.string name):=bA.cell 1
      have adh:w0.cell? ⟨w.heap.size,2,none⟩=some (.slice A' 0 c'):=bA.cell 2
      have adi:w0.cell? ⟨w.heap.size,3,none⟩=some (.slice A n c):=bA.cell 3
      refine(oh _ _ _ _).mono ?_
      rintro e w' ⟨rfl,rfl⟩
      rw[H16.out]
      go_wp2_with fail
      refine(afs _ HT.out.HS1 _).mono ?_
      rintro e w' ⟨rfl,rfl⟩
      rw[HO.out]
      go_wp2_with fail
      refine(oh _ _ _ _).mono ?_
      rintro e w' ⟨rfl,rfl⟩
      rw[H23.out]
      go_wp2_with fail
      go_ret
      exact⟨ah HF.out.symm,hB0⟩
    ·have hl1:0 < n':=by omega
     have HF:Hid (aay ⟨20,name,labels,kids⟩=false):=by
      show _=_
      have g1:=HT.out.HN
      have g2:=HT.out.HN'
      rw[lq]
      have g3:¬ labels=[]:=fun e=>by rw[e] at g2;exact hl g2
      simp_all [named,inB,jo]
     have HO:=Lib.hid hok
     clear hok hz hl
     go_enter Tryz.func154,Tryz.ntmps154
     go_wp2_with fail
     obtain⟨w0,hw0⟩:∃ W,W=w.alloc (.cells #[.int .i64 20,.string name,.slice A' n' c',.slice A n c] 60):=⟨_,rfl⟩
     rw[← hw0]
     have bA:Blk w0 w.heap.size 60 #[.int .i64 20,.string name,.slice A' n' c',.slice A n c]:=by rw[hw0];exact Blk.new w _ _
     have hB0:Below w.heap.size w w0:=by rw[hw0];exact(Below.refl _ _).alloc (Nat.le_refl _) _
     clear hw0
     have adf:w0.cell? ⟨w.heap.size,0,none⟩=some (.int .i64 20):=bA.cell 0
     have adg:w0.cell? ⟨w.heap.size,1,none⟩=some (.string name):=bA.cell 1
     have adh:w0.cell? ⟨w.heap.size,2,none⟩=some (.slice A' n' c'):=bA.cell 2
     have adi:w0.cell? ⟨w.heap.size,3,none⟩=some (.slice A n c):=bA.cell 3
     refine(oh _ _ _ _).mono ?_
     rintro e w' ⟨rfl,rfl⟩
     rw[H16.out]
     go_wp2_with fail
     refine(afs _ HT.out.HS1 _).mono ?_
     rintro e w' ⟨rfl,rfl⟩
     rw[HO.out]
     go_wp2_with fail
     go_ret
     exact⟨ah HF.out.symm,hB0⟩
 ·by_cases hz:name.size=0
  ·obtain rfl:=aev hz
   have e0:=aom hz
   have HF:Hid (aay ⟨21,{data:=#[]},labels,kids⟩=false):=by
    show _=_
    have g1:=HT.out.HN
    have g2:=HT.out.HN'
    rw[lq]
    have e1:=e0
    simp_all [named,inB,jo]
   clear e0 hz
   go_enter Tryz.func154,Tryz.ntmps154
   go_wp2_with fail
   obtain⟨w0,hw0⟩:∃ W,W=w.alloc (.cells #[.int .i64 21,.string {data:=#[]},.slice A' n' c',.slice A n c] 60):=⟨_,rfl⟩
   rw[← hw0]
   have bA:Blk w0 w.heap.size 60 #[.int .i64 21,.string {data:=#[]},.slice A' n' c',.slice A n c]:=by rw[hw0];exact Blk.new w _ _
   have hB0:Below w.heap.size w w0:=by rw[hw0];exact(Below.refl _ _).alloc (Nat.le_refl _) _
   clear hw0
   have adf:w0.cell? ⟨w.heap.size,0,none⟩=some (.int .i64 21):=bA.cell 0
   have adg:w0.cell? ⟨w.heap.size,1,none⟩=some (.string {data:=#[]}):=bA.cell 1
   have adh:w0.cell? ⟨w.heap.size,2,none⟩=some (.slice A' n' c'):=bA.cell 2
   have adi:w0.cell? ⟨w.heap.size,3,none⟩=some (.slice A n c):=bA.cell 3
   refine(oh _ _ _ _).mono ?_
   rintro e w' ⟨rfl,rfl⟩
   rw[H16.out]
   go_wp2_with fail
   go_ret
   exact⟨ah HF.out.symm,hB0⟩
  ·have hE:=aer hz
   have hE2:=aem hz
   cases hok:aag name
   ·have hx0:=True.intro
    have HF:Hid (aay ⟨21,name,labels,kids⟩=false):=by
     show _=_
     have g1:=HT.out.HN
     have g2:=HT.out.HN'
     rw[lq]
     simp_all [named,inB,jo]
    have HO:=Lib.hid hok
    clear hok hz hx0
    go_enter Tryz.func154,Tryz.ntmps154
    go_wp2_with fail
    obtain⟨w0,hw0⟩:∃ W,W=w.alloc (.cells #[.int .i64 21,.string name,.slice A' n' c',.slice A n c] 60):=⟨_,rfl⟩
    rw[← hw0]
    have bA:Blk w0 w.heap.size 60 #[.int .i64 21,.string name,.slice A' n' c',.slice A n c]:=by rw[hw0];exact Blk.new w _ _
    have hB0:Below w.heap.size w w0:=by rw[hw0];exact(Below.refl _ _).alloc (Nat.le_refl _) _
    clear hw0
    have adf:w0.cell? ⟨w.heap.size,0,none⟩=some (.int .i64 21):=bA.cell 0
    have adg:w0.cell? ⟨w.heap.size,1,none⟩=some (.string name):=bA.cell 1
    have adh:w0.cell? ⟨w.heap.size,2,none⟩=some (.slice A' n' c'):=bA.cell 2
    have adi:w0.cell? ⟨w.heap.size,3,none⟩=some (.slice A n c):=bA.cell 3
    refine(oh _ _ _ _).mono ?_
    rintro e w' ⟨rfl,rfl⟩
    rw[H16.out]
    go_wp2_with fail
    refine(afs _ HT.out.HS1 _).mono ?_
    rintro e w' ⟨rfl,rfl⟩
    rw[HO.out]
    go_wp2_with fail
    go_ret
    exact⟨ah HF.out.symm,hB0⟩
   ·by_cases hl:n'=0
    ·by_cases hk0:n=0
     ·have hkk:((n:Int) ==0)=true:=by simp;omega
      have HF:Hid (aay ⟨21,name,labels,kids⟩=true):=by
       show _=_
       have g1:=HT.out.HN
       have g2:=HT.out.HN'
       rw[lq]
       simp_all [named,inB,jo]
      have HO:=Lib.hid hok
      clear hok hz hk0
      subst hl
      go_enter Tryz.func154,Tryz.ntmps154
      go_wp2_with fail
      obtain⟨w0,hw0⟩:∃ W,W=w.alloc (.cells #[.int .i64 21,.string name,.slice A' 0 c',.slice A n c] 60):=⟨_,rfl⟩
      rw[← hw0]
      have bA:Blk w0 w.heap.size 60 #[.int .i64 21,.string name,.slice A' 0 c',.slice A n c]:=by rw[hw0];exact Blk.new w _ _
      have hB0:Below w.heap.size w w0:=by rw[hw0];exact(Below.refl _ _).alloc (Nat.le_refl _) _
      clear hw0
      have adf:w0.cell? ⟨w.heap.size,0,none⟩=some (.int .i64 21):=bA.cell 0
      have adg:w0.cell? ⟨w.heap.size,1,none⟩=some (.string name):=bA.cell 1
      have adh:w0.cell? ⟨w.heap.size,2,none⟩=some (.slice A' 0 c'):=bA.cell 2
      have adi:w0.cell? ⟨w.heap.size,3,none⟩=some (.slice A n c):=bA.cell 3
      refine(oh _ _ _ _).mono ?_
      rintro e w' ⟨rfl,rfl⟩
      rw[H16.out]
      go_wp2_with fail
      refine(afs _ HT.out.HS1 _).mono ?_
      rintro e w' ⟨rfl,rfl⟩
      rw[HO.out]
      go_wp2_with fail
      refine(oh _ _ _ _).mono ?_
      rintro e w' ⟨rfl,rfl⟩
      rw[H23.out]
      go_wp2_with fail
      go_ret
      exact⟨ah HF.out.symm,hB0⟩
     ·have hkk:((n:Int) ==0)=false:=by simp;omega
      have HF:Hid (aay ⟨21,name,labels,kids⟩=false):=by
       show _=_
       have g1:=HT.out.HN
       have g2:=HT.out.HN'
       rw[lq]
       simp_all [named,inB,jo]
      have HO:=Lib.hid hok
      clear hok hz hk0
      subst hl
      go_enter Tryz.func154,Tryz.ntmps154
      go_wp2_with fail
      obtain⟨w0,hw0⟩:∃ W,W=w.alloc (.cells #[.int .i64 21,.string name,.slice A' 0 c',.slice A n c] 60):=⟨_,rfl⟩
      rw[← hw0]
      have bA:Blk w0 w.heap.size 60 #[.int .i64 21,.string name,.slice A' 0 c',.slice A n c]:=by rw[hw0];exact Blk.new w _ _
      have hB0:Below w.heap.size w w0:=by rw[hw0];exact(Below.refl _ _).alloc (Nat.le_refl _) _
      clear hw0
      have adf:w0.cell? ⟨w.heap.size,0,none⟩=some (.int .i64 21):=bA.cell 0
      have adg:w0.cell? ⟨w.heap.size,1,none⟩=some (.string name):=bA.cell 1
      have adh:w0.cell? ⟨w.heap.size,2,none⟩=some (.slice A' 0 c'):=bA.cell 2
      have adi:w0.cell? ⟨w.heap.size,3,none⟩=some (.slice A n c):=bA.cell 3
      refine(oh _ _ _ _).mono ?_
      rintro e w' ⟨rfl,rfl⟩
      rw[H16.out]
      go_wp2_with fail
      refine(afs _ HT.out.HS1 _).mono ?_
      rintro e w' ⟨rfl,rfl⟩
      rw[HO.out]
      go_wp2_with fail
      refine(oh _ _ _ _).mono ?_
      rintro e w' ⟨rfl,rfl⟩
      rw[H23.out]
      go_wp2_with fail
      go_ret
      exact⟨ah HF.out.symm,hB0⟩
    ·have hl1:0 < n':=by omega
     have HF:Hid (aay ⟨21,name,labels,kids⟩=false):=by
      show _=_
      have g1:=HT.out.HN
      have g2:=HT.out.HN'
      rw[lq]
      have g3:¬ labels=[]:=fun e=>by rw[e] at g2;exact hl g2
      simp_all [named,inB,jo]
     have HO:=Lib.hid hok
     clear hok hz hl
     go_enter Tryz.func154,Tryz.ntmps154
     go_wp2_with fail
     obtain⟨w0,hw0⟩:∃ W,W=w.alloc (.cells #[.int .i64 21,.string name,.slice A' n' c',.slice A n c] 60):=⟨_,rfl⟩
     rw[← hw0]
     have bA:Blk w0 w.heap.size 60 #[.int .i64 21,.string name,.slice A' n' c',.slice A n c]:=by rw[hw0];exact Blk.new w _ _
     have hB0:Below w.heap.size w w0:=by rw[hw0];exact(Below.refl _ _).alloc (Nat.le_refl _) _
     clear hw0
     have adf:w0.cell? ⟨w.heap.size,0,none⟩=some (.int .i64 21):=bA.cell 0
     have adg:w0.cell? ⟨w.heap.size,1,none⟩=some (.string name):=bA.cell 1
     have adh:w0.cell? ⟨w.heap.size,2,none⟩=some (.slice A' n' c'):=bA.cell 2
     have adi:w0.cell? ⟨w.heap.size,3,none⟩=some (.slice A n c):=bA.cell 3
     refine(oh _ _ _ _).mono ?_
     rintro e w' ⟨rfl,rfl⟩
     rw[H16.out]
     go_wp2_with fail
     refine(afs _ HT.out.HS1 _).mono ?_
     rintro e w' ⟨rfl,rfl⟩
     rw[HO.out]
     go_wp2_with fail
     go_ret
     exact⟨ah HF.out.symm,hB0⟩
end Go.Proofs.YtbafphecjijdmaaGreatDoor
