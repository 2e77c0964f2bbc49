/-
  speclab (by program: gen_shape.py).
-/
import Derived.Test.YtbafphecjijdmaaGreatDoorWa16
namespace Go.Proofs.YtbafphecjijdmaaGreatDoor
open Go.RowKit
set_option linter.unusedVariables false
set_option linter.unusedSimpArgs false
set_option linter.unnecessarySimpa false
set_option maxHeartbeats 4000000 in
theorem as4 {kind:Int} {name:ByteArray} {labels:List ByteArray} {kids:List Ty} {B n n' c c':Nat} {A A':Option Addr} {w:World} (HT:Hid (ale B n n' c c' A A' name labels kids w)) (hk:kind=16∨kind=17∨kind=18∨kind=19):Calls Tryz.prog 154 #[.agg #[.int .i64 kind,.string name,.slice A' n' c',.slice A n c]] w fun e w'=>e=.returned (.bool (aay ⟨kind,name,labels,kids⟩))∧Below w.heap.size w w':=by
 have hn:=HT.out.hn
 have hn':=HT.out.hn'
 have H16:Hid (inB kind 16 19=true):=agi (by omega) (by omega)
 have H23:Hid (inB kind 1 23=true):=agi (by omega) (by omega)
 rcases hk with rfl|rfl|rfl|rfl
 ·cases hlo:abn labels
  ·have hx0:=True.intro
   have HF:Hid (aay ⟨16,name,labels,kids⟩=false):=by
    show _=_
    have g1:=HT.out.HN
    have g2:=HT.out.HN'
    rw[lq]
    simp_all [named,inB,jo]
   have HLO:=Lib.hid hlo
   clear hlo hx0
   by_cases hz:name.size=0
   ·obtain rfl:=aev hz
    clear hz
    by_cases hl:n'=0
    ·subst hl
     go_enter Tryz.func154,Tryz.ntmps154
     go_wp2_with fail
     obtain⟨w0,hw0⟩:∃ W,W=w.alloc (.cells #[.int .i64 16,.string {data:=#[]},.slice A' 0 c',.slice A n c] 60):=⟨_,rfl⟩
     rw[← hw0]
     have bA:Blk w0 w.heap.size 60 #[.int .i64 16,.string {data:=#[]},.slice A' 0 c',.slice A n c]:=by rw[hw0];exact Blk.new w _ _
     have hB0:Below w.heap.size w w0:=by rw[hw0];exact(Below.refl _ _).alloc (Nat.le_refl _) _
     clear hw0
     have adf:w0.cell? ⟨w.heap.size,0,none⟩=some (.int .i64 16):=bA.cell 0
     have adg:w0.cell? ⟨w.heap.size,1,none⟩=some (.string {data:=#[]}):=bA.cell 1
     have adh:w0.cell? ⟨w.heap.size,2,none⟩=some (.slice A' 0 c'):=bA.cell 2
     have adi:w0.cell? ⟨w.heap.size,3,none⟩=some (.slice A n c):=bA.cell 3
     refine(oh _ _ _ _).mono ?_
     rintro e w' ⟨rfl,rfl⟩
     rw[H16.out]
     go_wp2_with fail
     go_ret
     exact⟨ah HF.out.symm,hB0⟩
    ·have hl1:0 < n':=by omega
     clear hl
     go_enter Tryz.func154,Tryz.ntmps154
     go_wp2_with fail
     obtain⟨w0,hw0⟩:∃ W,W=w.alloc (.cells #[.int .i64 16,.string {data:=#[]},.slice A' n' c',.slice A n c] 60):=⟨_,rfl⟩
     rw[← hw0]
     have bA:Blk w0 w.heap.size 60 #[.int .i64 16,.string {data:=#[]},.slice A' n' c',.slice A n c]:=by rw[hw0];exact Blk.new w _ _
     have hB0:Below w.heap.size w w0:=by rw[hw0];exact(Below.refl _ _).alloc (Nat.le_refl _) _
     clear hw0
     have adf:w0.cell? ⟨w.heap.size,0,none⟩=some (.int .i64 16):=bA.cell 0
     have adg:w0.cell? ⟨w.heap.size,1,none⟩=some (.string {data:=#[]}):=bA.cell 1
     have adh:w0.cell? ⟨w.heap.size,2,none⟩=some (.slice A' n' c'):=bA.cell 2
     have adi:w0.cell? ⟨w.heap.size,3,none⟩=some (.slice A n c):=bA.cell 3
     refine(oh _ _ _ _).mono ?_
     rintro e w' ⟨rfl,rfl⟩
     rw[H16.out]
     go_wp2_with fail
     refine(aef (HT.out.c (kind:=0) hB0).1 HT.out.HS2 (HT.out.l hB0)).mono ?_
     rintro e w1 ⟨rfl,hb1⟩
     rw[HLO.out]
     have hB1:=hB0.trans (hb1.mono hB0.size)
     replace bA:=bA.step hb1
     have abg:w1.cell? ⟨w.heap.size,0,none⟩=some (.int .i64 16):=bA.cell 0
     have aa9:w1.cell? ⟨w.heap.size,1,none⟩=some (.string {data:=#[]}):=bA.cell 1
     have abb:w1.cell? ⟨w.heap.size,2,none⟩=some (.slice A' n' c'):=bA.cell 2
     have aa1:w1.cell? ⟨w.heap.size,3,none⟩=some (.slice A n c):=bA.cell 3
     go_wp2_with fail
     go_ret
     exact⟨ah HF.out.symm,hB1⟩
   ·have hE:=aer hz
    have hE2:=aem hz
    clear hz
    go_enter Tryz.func154,Tryz.ntmps154
    go_wp2_with fail
    obtain⟨w0,hw0⟩:∃ W,W=w.alloc (.cells #[.int .i64 16,.string name,.slice A' n' c',.slice A n c] 60):=⟨_,rfl⟩
    rw[← hw0]
    have bA:Blk w0 w.heap.size 60 #[.int .i64 16,.string name,.slice A' n' c',.slice A n c]:=by rw[hw0];exact Blk.new w _ _
    have hB0:Below w.heap.size w w0:=by rw[hw0];exact(Below.refl _ _).alloc (Nat.le_refl _) _
    clear hw0
    have adf:w0.cell? ⟨w.heap.size,0,none⟩=some (.int .i64 16):=bA.cell 0
    have adg:w0.cell? ⟨w.heap.size,1,none⟩=some (.string name):=bA.cell 1
    have adh:w0.cell? ⟨w.heap.size,2,none⟩=some (.slice A' n' c'):=bA.cell 2
    have adi:w0.cell? ⟨w.heap.size,3,none⟩=some (.slice A n c):=bA.cell 3
    refine(oh _ _ _ _).mono ?_
    rintro e w' ⟨rfl,rfl⟩
    rw[H16.out]
    go_wp2_with fail
    go_ret
    exact⟨ah HF.out.symm,hB0⟩
  ·have hl1:0 < n':=by have g2:=HT.out.HN';have h2:=hlo;simp only[abn,Bool.and_eq_true,af9] at h2;omega
   by_cases hz:name.size=0
   case neg=>
    have hE:=aer hz
    have hE2:=aem hz
    have HF:Hid (aay ⟨16,name,labels,kids⟩=false):=by
     show _=_
     have g1:=HT.out.HN
     have g2:=HT.out.HN'
     rw[lq]
     simp_all [named,inB,jo]
    have HLO:=Lib.hid hlo
    clear hlo hz
    go_enter Tryz.func154,Tryz.ntmps154
    go_wp2_with fail
    obtain⟨w0,hw0⟩:∃ W,W=w.alloc (.cells #[.int .i64 16,.string name,.slice A' n' c',.slice A n c] 60):=⟨_,rfl⟩
    rw[← hw0]
    have bA:Blk w0 w.heap.size 60 #[.int .i64 16,.string name,.slice A' n' c',.slice A n c]:=by rw[hw0];exact Blk.new w _ _
    have hB0:Below w.heap.size w w0:=by rw[hw0];exact(Below.refl _ _).alloc (Nat.le_refl _) _
    clear hw0
    have adf:w0.cell? ⟨w.heap.size,0,none⟩=some (.int .i64 16):=bA.cell 0
    have adg:w0.cell? ⟨w.heap.size,1,none⟩=some (.string name):=bA.cell 1
    have adh:w0.cell? ⟨w.heap.size,2,none⟩=some (.slice A' n' c'):=bA.cell 2
    have adi:w0.cell? ⟨w.heap.size,3,none⟩=some (.slice A n c):=bA.cell 3
    refine(oh _ _ _ _).mono ?_
    rintro e w' ⟨rfl,rfl⟩
    rw[H16.out]
    go_wp2_with fail
    go_ret
    exact⟨ah HF.out.symm,hB0⟩
   obtain rfl:=aev hz
   clear hz
   by_cases hk0:n=n'
   ·have hkk:((n:Int) ==(n':Int))=true:=by rw[beq_iff_eq];omega
    cases hu:acd kids
    ·have hx0:=True.intro
     have HF:Hid (aay ⟨16,{data:=#[]},labels,kids⟩=false):=by
      show _=_
      have g1:=HT.out.HN
      have g2:=HT.out.HN'
      rw[lq]
      have g0:({data:=#[]}:ByteArray).size=0:=rfl
      simp_all [named,inB,jo]
     have HLO:=Lib.hid hlo
     have HU:=Lib.hid hu
     clear hlo hu hk0 hx0
     go_enter Tryz.func154,Tryz.ntmps154
     go_wp2_with fail
     obtain⟨w0,hw0⟩:∃ W,W=w.alloc (.cells #[.int .i64 16,.string {data:=#[]},.slice A' n' c',.slice A n c] 60):=⟨_,rfl⟩
     rw[← hw0]
     have bA:Blk w0 w.heap.size 60 #[.int .i64 16,.string {data:=#[]},.slice A' n' c',.slice A n c]:=by rw[hw0];exact Blk.new w _ _
     have hB0:Below w.heap.size w w0:=by rw[hw0];exact(Below.refl _ _).alloc (Nat.le_refl _) _
     clear hw0
     have adf:w0.cell? ⟨w.heap.size,0,none⟩=some (.int .i64 16):=bA.cell 0
     have adg:w0.cell? ⟨w.heap.size,1,none⟩=some (.string {data:=#[]}):=bA.cell 1
     have adh:w0.cell? ⟨w.heap.size,2,none⟩=some (.slice A' n' c'):=bA.cell 2
     have adi:w0.cell? ⟨w.heap.size,3,none⟩=some (.slice A n c):=bA.cell 3
     refine(oh _ _ _ _).mono ?_
     rintro e w' ⟨rfl,rfl⟩
     rw[H16.out]
     go_wp2_with fail
     refine(aef (HT.out.c (kind:=0) hB0).1 HT.out.HS2 (HT.out.l hB0)).mono ?_
     rintro e w1 ⟨rfl,hb1⟩
     rw[HLO.out]
     have hB1:=hB0.trans (hb1.mono hB0.size)
     replace bA:=bA.step hb1
     have abg:w1.cell? ⟨w.heap.size,0,none⟩=some (.int .i64 16):=bA.cell 0
     have aa9:w1.cell? ⟨w.heap.size,1,none⟩=some (.string {data:=#[]}):=bA.cell 1
     have abb:w1.cell? ⟨w.heap.size,2,none⟩=some (.slice A' n' c'):=bA.cell 2
     have aa1:w1.cell? ⟨w.heap.size,3,none⟩=some (.slice A n c):=bA.cell 3
     go_wp2_with fail
     refine(ag4 ⟨16,{data:=#[]},labels,kids⟩ (HT.out.c (kind:=0) hB1).1 (HT.out.c hB1).2).mono ?_
     rintro e w2 ⟨rfl,hb2⟩
     rw[show acd (Ty.kids ⟨16,{data:=#[]},labels,kids⟩)=_ from HU.out]
     have hB2:=hB1.trans (hb2.mono hB1.size)
     replace bA:=bA.step hb2
     have afh:w2.cell? ⟨w.heap.size,0,none⟩=some (.int .i64 16):=bA.cell 0
     have afi:w2.cell? ⟨w.heap.size,1,none⟩=some (.string {data:=#[]}):=bA.cell 1
     have afj:w2.cell? ⟨w.heap.size,2,none⟩=some (.slice A' n' c'):=bA.cell 2
     have afk:w2.cell? ⟨w.heap.size,3,none⟩=some (.slice A n c):=bA.cell 3
     go_wp2_with fail
     go_ret
     exact⟨ah HF.out.symm,hB2⟩
    ·have hx0:=True.intro
     have HF:Hid (aay ⟨16,{data:=#[]},labels,kids⟩=true):=by
      show _=_
      have g1:=HT.out.HN
      have g2:=HT.out.HN'
      rw[lq]
      have g0:({data:=#[]}:ByteArray).size=0:=rfl
      simp_all [named,inB,jo]
     have HLO:=Lib.hid hlo
     have HU:=Lib.hid hu
     clear hlo hu hk0 hx0
     go_enter Tryz.func154,Tryz.ntmps154
     go_wp2_with fail
     obtain⟨w0,hw0⟩:∃ W,W=w.alloc (.cells #[.int .i64 16,.string {data:=#[]},.slice A' n' c',.slice A n c] 60):=⟨_,rfl⟩
     rw[← hw0]
     have bA:Blk w0 w.heap.size 60 #[.int .i64 16,.string {data:=#[]},.slice A' n' c',.slice A n c]:=by rw[hw0];exact Blk.new w _ _
     have hB0:Below w.heap.size w w0:=by rw[hw0];exact(Below.refl _ _).alloc (Nat.le_refl _) _
     clear hw0
     have adf:w0.cell? ⟨w.heap.size,0,none⟩=some (.int .i64 16):=bA.cell 0
     have adg:w0.cell? ⟨w.heap.size,1,none⟩=some (.string {data:=#[]}):=bA.cell 1
     have adh:w0.cell? ⟨w.heap.size,2,none⟩=some (.slice A' n' c'):=bA.cell 2
     have adi:w0.cell? ⟨w.heap.size,3,none⟩=some (.slice A n c):=bA.cell 3
     refine(oh _ _ _ _).mono ?_
     rintro e w' ⟨rfl,rfl⟩
     rw[H16.out]
     go_wp2_with fail
     refine(aef (HT.out.c (kind:=0) hB0).1 HT.out.HS2 (HT.out.l hB0)).mono ?_
     rintro e w1 ⟨rfl,hb1⟩
     rw[HLO.out]
     have hB1:=hB0.trans (hb1.mono hB0.size)
     replace bA:=bA.step hb1
     have abg:w1.cell? ⟨w.heap.size,0,none⟩=some (.int .i64 16):=bA.cell 0
     have aa9:w1.cell? ⟨w.heap.size,1,none⟩=some (.string {data:=#[]}):=bA.cell 1
     have abb:w1.cell? ⟨w.heap.size,2,none⟩=some (.slice A' n' c'):=bA.cell 2
     have aa1:w1.cell? ⟨w.heap.size,3,none⟩=some (.slice A n c):=bA.cell 3
     go_wp2_with fail
     refine(ag4 ⟨16,{data:=#[]},labels,kids⟩ (HT.out.c (kind:=0) hB1).1 (HT.out.c hB1).2).mono ?_
     rintro e w2 ⟨rfl,hb2⟩
     rw[show acd (Ty.kids ⟨16,{data:=#[]},labels,kids⟩)=_ from HU.out]
     have hB2:=hB1.trans (hb2.mono hB1.size)
     replace bA:=bA.step hb2
     have afh:w2.cell? ⟨w.heap.size,0,none⟩=some (.int .i64 16):=bA.cell 0
     have afi:w2.cell? ⟨w.heap.size,1,none⟩=some (.string {data:=#[]}):=bA.cell 1
     have afj:w2.cell? ⟨w.heap.size,2,none⟩=some (.slice A' n' c'):=bA.cell 2
     have afk:w2.cell? ⟨w.heap.size,3,none⟩=some (.slice A n c):=bA.cell 3
     go_wp2_with fail
     go_ret
     exact⟨ah HF.out.symm,hB2⟩
   ·have hkk:((n:Int) ==(n':Int))=false:=by rw[beq_eq_false_iff_ne];omega
    have HF:Hid (aay ⟨16,{data:=#[]},labels,kids⟩=false):=by
     show _=_
     have g1:=HT.out.HN
     have g2:=HT.out.HN'
     rw[lq]
     have g0:({data:=#[]}:ByteArray).size=0:=rfl
     simp_all [named,inB,jo]
    have HLO:=Lib.hid hlo
    clear hlo hk0
    go_enter Tryz.func154,Tryz.ntmps154
    go_wp2_with fail
    obtain⟨w0,hw0⟩:∃ W,W=w.alloc (.cells #[.int .i64 16,.string {data:=#[]},.slice A' n' c',.slice A n c] 60):=⟨_,rfl⟩
    rw[← hw0]
    have bA:Blk w0 w.heap.size 60 #[.int .i64 16,.string {data:=#[]},.slice A' n' c',.slice A n c]:=by rw[hw0];exact Blk.new w _ _
    have hB0:Below w.heap.size w w0:=by rw[hw0];exact(Below.refl _ _).alloc (Nat.le_refl _) _
    clear hw0
    have adf:w0.cell? ⟨w.heap.size,0,none⟩=some (.int .i64 16):=bA.cell 0
    have adg:w0.cell? ⟨w.heap.size,1,none⟩=some (.string {data:=#[]}):=bA.cell 1
    have adh:w0.cell? ⟨w.heap.size,2,none⟩=some (.slice A' n' c'):=bA.cell 2
    have adi:w0.cell? ⟨w.heap.size,3,none⟩=some (.slice A n c):=bA.cell 3
    refine(oh _ _ _ _).mono ?_
    rintro e w' ⟨rfl,rfl⟩
    rw[H16.out]
    go_wp2_with fail
    refine(aef (HT.out.c (kind:=0) hB0).1 HT.out.HS2 (HT.out.l hB0)).mono ?_
    rintro e w1 ⟨rfl,hb1⟩
    rw[HLO.out]
    have hB1:=hB0.trans (hb1.mono hB0.size)
    replace bA:=bA.step hb1
    have abg:w1.cell? ⟨w.heap.size,0,none⟩=some (.int .i64 16):=bA.cell 0
    have aa9:w1.cell? ⟨w.heap.size,1,none⟩=some (.string {data:=#[]}):=bA.cell 1
    have abb:w1.cell? ⟨w.heap.size,2,none⟩=some (.slice A' n' c'):=bA.cell 2
    have aa1:w1.cell? ⟨w.heap.size,3,none⟩=some (.slice A n c):=bA.cell 3
    go_wp2_with fail
    go_ret
    exact⟨ah HF.out.symm,hB1⟩
 ·cases hlo:abn labels
  ·have hx0:=True.intro
   have HF:Hid (aay ⟨17,name,labels,kids⟩=false):=by
    show _=_
    have g1:=HT.out.HN
    have g2:=HT.out.HN'
    rw[lq]
    simp_all [named,inB,jo]
   have HLO:=Lib.hid hlo
   clear hlo hx0
   by_cases hz:name.size=0
   ·obtain rfl:=aev hz
    clear hz
    by_cases hl:n'=0
    ·subst hl
     go_enter Tryz.func154,Tryz.ntmps154
     go_wp2_with fail
     obtain⟨w0,hw0⟩:∃ W,W=w.alloc (.cells #[.int .i64 17,.string {data:=#[]},.slice A' 0 c',.slice A n c] 60):=⟨_,rfl⟩
     rw[← hw0]
     have bA:Blk w0 w.heap.size 60 #[.int .i64 17,.string {data:=#[]},.slice A' 0 c',.slice A n c]:=by rw[hw0];exact Blk.new w _ _
     have hB0:Below w.heap.size w w0:=by rw[hw0];exact(Below.refl _ _).alloc (Nat.le_refl _) _
     clear hw0
     have adf:w0.cell? ⟨w.heap.size,0,none⟩=some (.int .i64 17):=bA.cell 0
     have adg:w0.cell? ⟨w.heap.size,1,none⟩=some (.string {data:=#[]}):=bA.cell 1
     have adh:w0.cell? ⟨w.heap.size,2,none⟩=some (.slice A' 0 c'):=bA.cell 2
     have adi:w0.cell? ⟨w.heap.size,3,none⟩=some (.slice A n c):=bA.cell 3
     refine(oh _ _ _ _).mono ?_
     rintro e w' ⟨rfl,rfl⟩
     rw[H16.out]
     go_wp2_with fail
     go_ret
     exact⟨ah HF.out.symm,hB0⟩
    ·have hl1:0 < n':=by omega
     clear hl
     go_enter Tryz.func154,Tryz.ntmps154
     go_wp2_with fail
     obtain⟨w0,hw0⟩:∃ W,W=w.alloc (.cells #[.int .i64 17,.string {data:=#[]},.slice A' n' c',.slice A n c] 60):=⟨_,rfl⟩
     rw[← hw0]
     have bA:Blk w0 w.heap.size 60 #[.int .i64 17,.string {data:=#[]},.slice A' n' c',.slice A n c]:=by rw[hw0];exact Blk.new w _ _
     have hB0:Below w.heap.size w w0:=by rw[hw0];exact(Below.refl _ _).alloc (Nat.le_refl _) _
     clear hw0
     have adf:w0.cell? ⟨w.heap.size,0,none⟩=some (.int .i64 17):=bA.cell 0
     have adg:w0.cell? ⟨w.heap.size,1,none⟩=some (.string {data:=#[]}):=bA.cell 1
     have adh:w0.cell? ⟨w.heap.size,2,none⟩=some (.slice A' n' c'):=bA.cell 2
     have adi:w0.cell? ⟨w.heap.size,3,none⟩=some (.slice A n c):=bA.cell 3
     refine(oh _ _ _ _).mono ?_
     rintro e w' ⟨rfl,rfl⟩
     rw[H16.out]
     go_wp2_with fail
     refine(aef (HT.out.c (kind:=0) hB0).1 HT.out.HS2 (HT.out.l hB0)).mono ?_
     rintro e w1 ⟨rfl,hb1⟩
     rw[HLO.out]
     have hB1:=hB0.trans (hb1.mono hB0.size)
     replace bA:=bA.step hb1
     have abg:w1.cell? ⟨w.heap.size,0,none⟩=some (.int .i64 17):=bA.cell 0
     have aa9:w1.cell? ⟨w.heap.size,1,none⟩=some (.string {data:=#[]}):=bA.cell 1
     have abb:w1.cell? ⟨w.heap.size,2,none⟩=some (.slice A' n' c'):=bA.cell 2
     have aa1:w1.cell? ⟨w.heap.size,3,none⟩=some (.slice A n c):=bA.cell 3
     go_wp2_with fail
     go_ret
     exact⟨ah HF.out.symm,hB1⟩
   ·have hE:=aer hz
    have hE2:=aem hz
    clear hz
    go_enter Tryz.func154,Tryz.ntmps154
    go_wp2_with fail
    obtain⟨w0,hw0⟩:∃ W,W=w.alloc (.cells #[.int .i64 17,.string name,.slice A' n' c',.slice A n c] 60):=⟨_,rfl⟩
    rw[← hw0]
    have bA:Blk w0 w.heap.size 60 #[.int .i64 17,.string name,.slice A' n' c',.slice A n c]:=by rw[hw0];exact Blk.new w _ _
    have hB0:Below w.heap.size w w0:=by rw[hw0];exact(Below.refl _ _).alloc (Nat.le_refl _) _
    clear hw0
    have adf:w0.cell? ⟨w.heap.size,0,none⟩=some (.int .i64 17):=bA.cell 0
    have adg:w0.cell? ⟨w.heap.size,1,none⟩=some (.string name):=bA.cell 1
    have adh:w0.cell? ⟨w.heap.size,2,none⟩=some (.slice A' n' c'):=bA.cell 2
    have adi:w0.cell? ⟨w.heap.size,3,none⟩=some (.slice A n c):=bA.cell 3
    refine(oh _ _ _ _).mono ?_
    rintro e w' ⟨rfl,rfl⟩
    rw[H16.out]
    go_wp2_with fail
    go_ret
    exact⟨ah HF.out.symm,hB0⟩
  ·have hl1:0 < n':=by have g2:=HT.out.HN';have h2:=hlo;simp only[abn,Bool.and_eq_true,af9] at h2;omega
   by_cases hz:name.size=0
   case neg=>
    have hE:=aer hz
    have hE2:=aem hz
    have HF:Hid (aay ⟨17,name,labels,kids⟩=false):=by
     show _=_
     have g1:=HT.out.HN
     have g2:=HT.out.HN'
     rw[lq]
     simp_all [named,inB,jo]
    have HLO:=Lib.hid hlo
    clear hlo hz
    go_enter Tryz.func154,Tryz.ntmps154
    go_wp2_with fail
    obtain⟨w0,hw0⟩:∃ W,W=w.alloc (.cells #[.int .i64 17,.string name,.slice A' n' c',.slice A n c] 60):=⟨_,rfl⟩
    rw[← hw0]
    have bA:Blk w0 w.heap.size 60 #[.int .i64 17,.string name,.slice A' n' c',.slice A n c]:=by rw[hw0];exact Blk.new w _ _
    have hB0:Below w.heap.size w w0:=by rw[hw0];exact(Below.refl _ _).alloc (Nat.le_refl _) _
    clear hw0
    have adf:w0.cell? ⟨w.heap.size,0,none⟩=some (.int .i64 17):=bA.cell 0
    have adg:w0.cell? ⟨w.heap.size,1,none⟩=some (.string name):=bA.cell 1
    have adh:w0.cell? ⟨w.heap.size,2,none⟩=some (.slice A' n' c'):=bA.cell 2
    have adi:w0.cell? ⟨w.heap.size,3,none⟩=some (.slice A n c):=bA.cell 3
    refine(oh _ _ _ _).mono ?_
    rintro e w' ⟨rfl,rfl⟩
    rw[H16.out]
    go_wp2_with fail
    go_ret
    exact⟨ah HF.out.symm,hB0⟩
   obtain rfl:=aev hz
   clear hz
   by_cases hk0:n=n'
   ·have hkk:((n:Int) ==(n':Int))=true:=by rw[beq_iff_eq];omega
    have HF:Hid (aay ⟨17,{data:=#[]},labels,kids⟩=true):=by
     show _=_
     have g1:=HT.out.HN
     have g2:=HT.out.HN'
     rw[lq]
     have g0:({data:=#[]}:ByteArray).size=0:=rfl
     simp_all [named,inB,jo]
    have HLO:=Lib.hid hlo
    clear hlo hk0
    go_enter Tryz.func154,Tryz.ntmps154
    go_wp2_with fail
    obtain⟨w0,hw0⟩:∃ W,W=w.alloc (.cells #[.int .i64 17,.string {data:=#[]},.slice A' n' c',.slice A n c] 60):=⟨_,rfl⟩
    rw[← hw0]
    have bA:Blk w0 w.heap.size 60 #[.int .i64 17,.string {data:=#[]},.slice A' n' c',.slice A n c]:=by rw[hw0];exact Blk.new w _ _
    have hB0:Below w.heap.size w w0:=by rw[hw0];exact(Below.refl _ _).alloc (Nat.le_refl _) _
    clear hw0
    have adf:w0.cell? ⟨w.heap.size,0,none⟩=some (.int .i64 17):=bA.cell 0
    have adg:w0.cell? ⟨w.heap.size,1,none⟩=some (.string {data:=#[]}):=bA.cell 1
    have adh:w0.cell? ⟨w.heap.size,2,none⟩=some (.slice A' n' c'):=bA.cell 2
    have adi:w0.cell? ⟨w.heap.size,3,none⟩=some (.slice A n c):=bA.cell 3
    refine(oh _ _ _ _).mono ?_
    rintro e w' ⟨rfl,rfl⟩
    rw[H16.out]
    go_wp2_with fail
    refine(aef (HT.out.c (kind:=0) hB0).1 HT.out.HS2 (HT.out.l hB0)).mono ?_
    rintro e w1 ⟨rfl,hb1⟩
    rw[HLO.out]
    have hB1:=hB0.trans (hb1.mono hB0.size)
    replace bA:=bA.step hb1
    have abg:w1.cell? ⟨w.heap.size,0,none⟩=some (.int .i64 17):=bA.cell 0
    have aa9:w1.cell? ⟨w.heap.size,1,none⟩=some (.string {data:=#[]}):=bA.cell 1
    have abb:w1.cell? ⟨w.heap.size,2,none⟩=some (.slice A' n' c'):=bA.cell 2
    have aa1:w1.cell? ⟨w.heap.size,3,none⟩=some (.slice A n c):=bA.cell 3
    go_wp2_with fail
    go_ret
    exact⟨ah HF.out.symm,hB1⟩
   ·have hkk:((n:Int) ==(n':Int))=false:=by rw[beq_eq_false_iff_ne];omega
    have HF:Hid (aay ⟨17,{data:=#[]},labels,kids⟩=false):=by
     show _=_
     have g1:=HT.out.HN
     have g2:=HT.out.HN'
     rw[lq]
     have g0:({data:=#[]}:ByteArray).size=0:=rfl
     simp_all [named,inB,jo]
    have HLO:=Lib.hid hlo
    clear hlo hk0
    go_enter Tryz.func154,Tryz.ntmps154
    go_wp2_with fail
    obtain⟨w0,hw0⟩:∃ W,W=w.alloc (.cells #[.int .i64 17,.string {data:=#[]},.slice A' n' c',.slice A n c] 60):=⟨_,rfl⟩
    rw[← hw0]
    have bA:Blk w0 w.heap.size 60 #[.int .i64 17,.string {data:=#[]},.slice A' n' c',.slice A n c]:=by rw[hw0];exact Blk.new w _ _
    have hB0:Below w.heap.size w w0:=by rw[hw0];exact(Below.refl _ _).alloc (Nat.le_refl _) _
    clear hw0
    have adf:w0.cell? ⟨w.heap.size,0,none⟩=some (.int .i64 17):=bA.cell 0
    have adg:w0.cell? ⟨w.heap.size,1,none⟩=some (.string {data:=#[]}):=bA.cell 1
    have adh:w0.cell? ⟨w.heap.size,2,none⟩=some (.slice A' n' c'):=bA.cell 2
    have adi:w0.cell? ⟨w.heap.size,3,none⟩=some (.slice A n c):=bA.cell 3
    refine(oh _ _ _ _).mono ?_
    rintro e w' ⟨rfl,rfl⟩
    rw[H16.out]
    go_wp2_with fail
    refine(aef (HT.out.c (kind:=0) hB0).1 HT.out.HS2 (HT.out.l hB0)).mono ?_
    rintro e w1 ⟨rfl,hb1⟩
    rw[HLO.out]
    have hB1:=hB0.trans (hb1.mono hB0.size)
    replace bA:=bA.step hb1
    have abg:w1.cell? ⟨w.heap.size,0,none⟩=some (.int .i64 17):=bA.cell 0
    have aa9:w1.cell? ⟨w.heap.size,1,none⟩=some (.string {data:=#[]}):=bA.cell 1
    have abb:w1.cell? ⟨w.heap.size,2,none⟩=some (.slice A' n' c'):=bA.cell 2
    have aa1:w1.cell? ⟨w.heap.size,3,none⟩=some (.slice A n c):=bA.cell 3
    go_wp2_with fail
    go_ret
    exact⟨ah HF.out.symm,hB1⟩
 ·cases hlo:abn labels
  ·have hx0:=True.intro
   have HF:Hid (aay ⟨18,name,labels,kids⟩=false):=by
    show _=_
    have g1:=HT.out.HN
    have g2:=HT.out.HN'
    rw[lq]
    simp_all [named,inB,jo]
   have HLO:=Lib.hid hlo
   clear hlo hx0
   by_cases hz:name.size=0
   ·obtain rfl:=aev hz
    clear hz
    by_cases hl:n'=0
    ·subst hl
     go_enter Tryz.func154,Tryz.ntmps154
     go_wp2_with fail
     obtain⟨w0,hw0⟩:∃ W,W=w.alloc (.cells #[.int .i64 18,.string {data:=#[]},.slice A' 0 c',.slice A n c] 60):=⟨_,rfl⟩
     rw[← hw0]
     have bA:Blk w0 w.heap.size 60 #[.int .i64 18,.string {data:=#[]},.slice A' 0 c',.slice A n c]:=by rw[hw0];exact Blk.new w _ _
     have hB0:Below w.heap.size w w0:=by rw[hw0];exact(Below.refl _ _).alloc (Nat.le_refl _) _
     clear hw0
     have adf:w0.cell? ⟨w.heap.size,0,none⟩=some (.int .i64 18):=bA.cell 0
     have adg:w0.cell? ⟨w.heap.size,1,none⟩=some (.string {data:=#[]}):=bA.cell 1
     have adh:w0.cell? ⟨w.heap.size,2,none⟩=some (.slice A' 0 c'):=bA.cell 2
     have adi:w0.cell? ⟨w.heap.size,3,none⟩=some (.slice A n c):=bA.cell 3
     refine(oh _ _ _ _).mono ?_
     rintro e w' ⟨rfl,rfl⟩
     rw[H16.out]
     go_wp2_with fail
     go_ret
     exact⟨ah HF.out.symm,hB0⟩
    ·have hl1:0 < n':=by omega
     clear hl
     go_enter Tryz.func154,Tryz.ntmps154
     go_wp2_with fail
     obtain⟨w0,hw0⟩:∃ W,W=w.alloc (.cells #[.int .i64 18,.string {data:=#[]},.slice A' n' c',.slice A n c] 60):=⟨_,rfl⟩
     rw[← hw0]
     have bA:Blk w0 w.heap.size 60 #[.int .i64 18,.string {data:=#[]},.slice A' n' c',.slice A n c]:=by rw[hw0];exact Blk.new w _ _
     have hB0:Below w.heap.size w w0:=by rw[hw0];exact(Below.refl _ _).alloc (Nat.le_refl _) _
     clear hw0
     have adf:w0.cell? ⟨w.heap.size,0,none⟩=some (.int .i64 18):=bA.cell 0
     have adg:w0.cell? ⟨w.heap.size,1,none⟩=some (.string {data:=#[]}):=bA.cell 1
     have adh:w0.cell? ⟨w.heap.size,2,none⟩=some (.slice A' n' c'):=bA.cell 2
     have adi:w0.cell? ⟨w.heap.size,3,none⟩=some (.slice A n c):=bA.cell 3
     refine(oh _ _ _ _).mono ?_
     rintro e w' ⟨rfl,rfl⟩
     rw[H16.out]
     go_wp2_with fail
     refine(aef (HT.out.c (kind:=0) hB0).1 HT.out.HS2 (HT.out.l hB0)).mono ?_
     rintro e w1 ⟨rfl,hb1⟩
     rw[HLO.out]
     have hB1:=hB0.trans (hb1.mono hB0.size)
     replace bA:=bA.step hb1
     have abg:w1.cell? ⟨w.heap.size,0,none⟩=some (.int .i64 18):=bA.cell 0
     have aa9:w1.cell? ⟨w.heap.size,1,none⟩=some (.string {data:=#[]}):=bA.cell 1
     have abb:w1.cell? ⟨w.heap.size,2,none⟩=some (.slice A' n' c'):=bA.cell 2
     have aa1:w1.cell? ⟨w.heap.size,3,none⟩=some (.slice A n c):=bA.cell 3
     go_wp2_with fail
     go_ret
     exact⟨ah HF.out.symm,hB1⟩
   ·have hE:=aer hz
    have hE2:=aem hz
    clear hz
    go_enter Tryz.func154,Tryz.ntmps154
    go_wp2_with fail
    obtain⟨w0,hw0⟩:∃ W,W=w.alloc (.cells #[.int .i64 18,.string name,.slice A' n' c',.slice A n c] 60):=⟨_,rfl⟩
    rw[← hw0]
    have bA:Blk w0 w.heap.size 60 #[.int .i64 18,.string name,.slice A' n' c',.slice A n c]:=by rw[hw0];exact Blk.new w _ _
    have hB0:Below w.heap.size w w0:=by rw[hw0];exact(Below.refl _ _).alloc (Nat.le_refl _) _
    clear hw0
    have adf:w0.cell? ⟨w.heap.size,0,none⟩=some (.int .i64 18):=bA.cell 0
    have adg:w0.cell? ⟨w.heap.size,1,none⟩=some (.string name):=bA.cell 1
    have adh:w0.cell? ⟨w.heap.size,2,none⟩=some (.slice A' n' c'):=bA.cell 2
    have adi:w0.cell? ⟨w.heap.size,3,none⟩=some (.slice A n c):=bA.cell 3
    refine(oh _ _ _ _).mono ?_
    rintro e w' ⟨rfl,rfl⟩
    rw[H16.out]
    go_wp2_with fail
    go_ret
    exact⟨ah HF.out.symm,hB0⟩
  ·have hl1:0 < n':=by have g2:=HT.out.HN';have h2:=hlo;simp only[abn,Bool.and_eq_true,af9] at h2;omega
   by_cases hz:name.size=0
   case neg=>
    have hE:=aer hz
    have hE2:=aem hz
    have HF:Hid (aay ⟨18,name,labels,kids⟩=false):=by
     show _=_
     have g1:=HT.out.HN
     have g2:=HT.out.HN'
     rw[lq]
     simp_all [named,inB,jo]
    have HLO:=Lib.hid hlo
    clear hlo hz
    go_enter Tryz.func154,Tryz.ntmps154
    go_wp2_with fail
    obtain⟨w0,hw0⟩:∃ W,W=w.alloc (.cells #[.int .i64 18,.string name,.slice A' n' c',.slice A n c] 60):=⟨_,rfl⟩
    rw[← hw0]
    have bA:Blk w0 w.heap.size 60 #[.int .i64 18,.string name,.slice A' n' c',.slice A n c]:=by rw[hw0];exact Blk.new w _ _
    have hB0:Below w.heap.size w w0:=by rw[hw0];exact(Below.refl _ _).alloc (Nat.le_refl _) _
    clear hw0
    have adf:w0.cell? ⟨w.heap.size,0,none⟩=some (.int .i64 18):=bA.cell 0
    have adg:w0.cell? ⟨w.heap.size,1,none⟩=some (.string name):=bA.cell 1
    have adh:w0.cell? ⟨w.heap.size,2,none⟩=some (.slice A' n' c'):=bA.cell 2
    have adi:w0.cell? ⟨w.heap.size,3,none⟩=some (.slice A n c):=bA.cell 3
    refine(oh _ _ _ _).mono ?_
    rintro e w' ⟨rfl,rfl⟩
    rw[H16.out]
    go_wp2_with fail
    go_ret
    exact⟨ah HF.out.symm,hB0⟩
   obtain rfl:=aev hz
   clear hz
   by_cases hk0:n=0
   ·have hkk:((n:Int) ==0)=true:=by simp;omega
    have HF:Hid (aay ⟨18,{data:=#[]},labels,kids⟩=true):=by
     show _=_
     have g1:=HT.out.HN
     have g2:=HT.out.HN'
     rw[lq]
     have g0:({data:=#[]}:ByteArray).size=0:=rfl
     simp_all [named,inB,jo]
    have HLO:=Lib.hid hlo
    clear hlo hk0
    go_enter Tryz.func154,Tryz.ntmps154
    go_wp2_with fail
    obtain⟨w0,hw0⟩:∃ W,W=w.alloc (.cells #[.int .i64 18,.string {data:=#[]},.slice A' n' c',.slice A n c] 60):=⟨_,rfl⟩
    rw[← hw0]
    have bA:Blk w0 w.heap.size 60 #[.int .i64 18,.string {data:=#[]},.slice A' n' c',.slice A n c]:=by rw[hw0];exact Blk.new w _ _
    have hB0:Below w.heap.size w w0:=by rw[hw0];exact(Below.refl _ _).alloc (Nat.le_refl _) _
    clear hw0
    have adf:w0.cell? ⟨w.heap.size,0,none⟩=some (.int .i64 18):=bA.cell 0
    have adg:w0.cell? ⟨w.heap.size,1,none⟩=some (.string {data:=#[]}):=bA.cell 1
    have adh:w0.cell? ⟨w.heap.size,2,none⟩=some (.slice A' n' c'):=bA.cell 2
    have adi:w0.cell? ⟨w.heap.size,3,none⟩=some (.slice A n c):=bA.cell 3
    refine(oh _ _ _ _).mono ?_
    rintro e w' ⟨rfl,rfl⟩
    rw[H16.out]
    go_wp2_with fail
    refine(aef (HT.out.c (kind:=0) hB0).1 HT.out.HS2 (HT.out.l hB0)).mono ?_
    rintro e w1 ⟨rfl,hb1⟩
    rw[HLO.out]
    have hB1:=hB0.trans (hb1.mono hB0.size)
    replace bA:=bA.step hb1
    have abg:w1.cell? ⟨w.heap.size,0,none⟩=some (.int .i64 18):=bA.cell 0
    have aa9:w1.cell? ⟨w.heap.size,1,none⟩=some (.string {data:=#[]}):=bA.cell 1
    have abb:w1.cell? ⟨w.heap.size,2,none⟩=some (.slice A' n' c'):=bA.cell 2
    have aa1:w1.cell? ⟨w.heap.size,3,none⟩=some (.slice A n c):=bA.cell 3
    go_wp2_with fail
    refine(oh _ _ _ _).mono ?_
    rintro e w' ⟨rfl,rfl⟩
    rw[H23.out]
    go_wp2_with fail
    go_ret
    exact⟨ah HF.out.symm,hB1⟩
   ·have hkk:((n:Int) ==0)=false:=by simp;omega
    have HF:Hid (aay ⟨18,{data:=#[]},labels,kids⟩=false):=by
     show _=_
     have g1:=HT.out.HN
     have g2:=HT.out.HN'
     rw[lq]
     have g0:({data:=#[]}:ByteArray).size=0:=rfl
     simp_all [named,inB,jo]
    have HLO:=Lib.hid hlo
    clear hlo hk0
    go_enter Tryz.func154,Tryz.ntmps154
    go_wp2_with fail
    obtain⟨w0,hw0⟩:∃ W,W=w.alloc (.cells #[.int .i64 18,.string {data:=#[]},.slice A' n' c',.slice A n c] 60):=⟨_,rfl⟩
    rw[← hw0]
    have bA:Blk w0 w.heap.size 60 #[.int .i64 18,.string {data:=#[]},.slice A' n' c',.slice A n c]:=by rw[hw0];exact Blk.new w _ _
    have hB0:Below w.heap.size w w0:=by rw[hw0];exact(Below.refl _ _).alloc (Nat.le_refl _) _
    clear hw0
    have adf:w0.cell? ⟨w.heap.size,0,none⟩=some (.int .i64 18):=bA.cell 0
    have adg:w0.cell? ⟨w.heap.size,1,none⟩=some (.string {data:=#[]}):=bA.cell 1
    have adh:w0.cell? ⟨w.heap.size,2,none⟩=some (.slice A' n' c'):=bA.cell 2
    have adi:w0.cell? ⟨w.heap.size,3,none⟩=some (.slice A n c):=bA.cell 3
    refine(oh _ _ _ _).mono ?_
    rintro e w' ⟨rfl,rfl⟩
    rw[H16.out]
    go_wp2_with fail
    refine(aef (HT.out.c (kind:=0) hB0).1 HT.out.HS2 (HT.out.l hB0)).mono ?_
    rintro e w1 ⟨rfl,hb1⟩
    rw[HLO.out]
    have hB1:=hB0.trans (hb1.mono hB0.size)
    replace bA:=bA.step hb1
    have abg:w1.cell? ⟨w.heap.size,0,none⟩=some (.int .i64 18):=bA.cell 0
    have aa9:w1.cell? ⟨w.heap.size,1,none⟩=some (.string {data:=#[]}):=bA.cell 1
    have abb:w1.cell? ⟨w.heap.size,2,none⟩=some (.slice A' n' c'):=bA.cell 2
    have aa1:w1.cell? ⟨w.heap.size,3,none⟩=some (.slice A n c):=bA.cell 3
    go_wp2_with fail
    refine(oh _ _ _ _).mono ?_
    rintro e w' ⟨rfl,rfl⟩
    rw[H23.out]
    go_wp2_with fail
    go_ret
    exact⟨ah HF.out.symm,hB1⟩
 ·cases hlo:abn labels
  ·have hx0:=True.intro
   have HF:Hid (aay ⟨19,name,labels,kids⟩=false):=by
    show _=_
    have g1:=HT.out.HN
    have g2:=HT.out.HN'
    rw[lq]
    simp_all [named,inB,jo]
   have HLO:=Lib.hid hlo
   clear hlo hx0
   by_cases hz:name.size=0
   ·obtain rfl:=aev hz
    clear hz
    by_cases hl:n'=0
    ·subst hl
     go_enter Tryz.func154,Tryz.ntmps154
     go_wp2_with fail
     obtain⟨w0,hw0⟩:∃ W,W=w.alloc (.cells #[.int .i64 19,.string {data:=#[]},.slice A' 0 c',.slice A n c] 60):=⟨_,rfl⟩
     rw[← hw0]
     have bA:Blk w0 w.heap.size 60 #[.int .i64 19,.string {data:=#[]},.slice A' 0 c',.slice A n c]:=by rw[hw0];exact Blk.new w _ _
     have hB0:Below w.heap.size w w0:=by rw[hw0];exact(Below.refl _ _).alloc (Nat.le_refl _) _
     clear hw0
     have adf:w0.cell? ⟨w.heap.size,0,none⟩=some (.int .i64 19):=bA.cell 0
     have adg:w0.cell? ⟨w.heap.size,1,none⟩=some (.string {data:=#[]}):=bA.cell 1
     have adh:w0.cell? ⟨w.heap.size,2,none⟩=some (.slice A' 0 c'):=bA.cell 2
     have adi:w0.cell? ⟨w.heap.size,3,none⟩=some (.slice A n c):=bA.cell 3
     refine(oh _ _ _ _).mono ?_
     rintro e w' ⟨rfl,rfl⟩
     rw[H16.out]
     go_wp2_with fail
     go_ret
     exact⟨ah HF.out.symm,hB0⟩
    ·have hl1:0 < n':=by omega
     clear hl
     go_enter Tryz.func154,Tryz.ntmps154
     go_wp2_with fail
     obtain⟨w0,hw0⟩:∃ W,W=w.alloc (.cells #[.int .i64 19,.string {data:=#[]},.slice A' n' c',.slice A n c] 60):=⟨_,rfl⟩
     rw[← hw0]
     have bA:Blk w0 w.heap.size 60 #[.int .i64 19,.string {data:=#[]},.slice A' n' c',.slice A n c]:=by rw[hw0];exact Blk.new w _ _
     have hB0:Below w.heap.size w w0:=by rw[hw0];exact(Below.refl _ _).alloc (Nat.le_refl _) _
     clear hw0
     have adf:w0.cell? ⟨w.heap.size,0,none⟩=some (.int .i64 19):=bA.cell 0
     have adg:w0.cell? ⟨w.heap.size,1,none⟩=some (.string {data:=#[]}):=bA.cell 1
     have adh:w0.cell? ⟨w.heap.size,2,none⟩=some (.slice A' n' c'):=bA.cell 2
     have adi:w0.cell? ⟨w.heap.size,3,none⟩=some (.slice A n c):=bA.cell 3
     refine(oh _ _ _ _).mono ?_
     rintro e w' ⟨rfl,rfl⟩
     rw[H16.out]
     go_wp2_with fail
     refine(aef (HT.out.c (kind:=0) hB0).1 HT.out.HS2 (HT.out.l hB0)).mono ?_
     rintro e w1 ⟨rfl,hb1⟩
     rw[HLO.out]
     have hB1:=hB0.trans (hb1.mono hB0.size)
     replace bA:=bA.step hb1
     have abg:w1.cell? ⟨w.heap.size,0,none⟩=some (.int .i64 19):=bA.cell 0
     have aa9:w1.cell? ⟨w.heap.size,1,none⟩=some (.string {data:=#[]}):=bA.cell 1
     have abb:w1.cell? ⟨w.heap.size,2,none⟩=some (.slice A' n' c'):=bA.cell 2
     have aa1:w1.cell? ⟨w.heap.size,3,none⟩=some (.slice A n c):=bA.cell 3
     go_wp2_with fail
     go_ret
     exact⟨ah HF.out.symm,hB1⟩
   ·have hE:=aer hz
    have hE2:=aem hz
    clear hz
    go_enter Tryz.func154,Tryz.ntmps154
    go_wp2_with fail
    obtain⟨w0,hw0⟩:∃ W,W=w.alloc (.cells #[.int .i64 19,.string name,.slice A' n' c',.slice A n c] 60):=⟨_,rfl⟩
    rw[← hw0]
    have bA:Blk w0 w.heap.size 60 #[.int .i64 19,.string name,.slice A' n' c',.slice A n c]:=by rw[hw0];exact Blk.new w _ _
    have hB0:Below w.heap.size w w0:=by rw[hw0];exact(Below.refl _ _).alloc (Nat.le_refl _) _
    clear hw0
    have adf:w0.cell? ⟨w.heap.size,0,none⟩=some (.int .i64 19):=bA.cell 0
    have adg:w0.cell? ⟨w.heap.size,1,none⟩=some (.string name):=bA.cell 1
    have adh:w0.cell? ⟨w.heap.size,2,none⟩=some (.slice A' n' c'):=bA.cell 2
    have adi:w0.cell? ⟨w.heap.size,3,none⟩=some (.slice A n c):=bA.cell 3
    refine(oh _ _ _ _).mono ?_
    rintro e w' ⟨rfl,rfl⟩
    rw[H16.out]
    go_wp2_with fail
    go_ret
    exact⟨ah HF.out.symm,hB0⟩
  ·have hl1:0 < n':=by have g2:=HT.out.HN';have h2:=hlo;simp only[abn,Bool.and_eq_true,af9] at h2;omega
   by_cases hz:name.size=0
   case neg=>
    have hE:=aer hz
    have hE2:=aem hz
    have HF:Hid (aay ⟨19,name,labels,kids⟩=false):=by
     show _=_
     have g1:=HT.out.HN
     have g2:=HT.out.HN'
     rw[lq]
     simp_all [named,inB,jo]
    have HLO:=Lib.hid hlo
    clear hlo hz
    go_enter Tryz.func154,Tryz.ntmps154
    go_wp2_with fail
    obtain⟨w0,hw0⟩:∃ W,W=w.alloc (.cells #[.int .i64 19,.string name,.slice A' n' c',.slice A n c] 60):=⟨_,rfl⟩
    rw[← hw0]
    have bA:Blk w0 w.heap.size 60 #[.int .i64 19,.string name,.slice A' n' c',.slice A n c]:=by rw[hw0];exact Blk.new w _ _
    have hB0:Below w.heap.size w w0:=by rw[hw0];exact(Below.refl _ _).alloc (Nat.le_refl _) _
    clear hw0
    have adf:w0.cell? ⟨w.heap.size,0,none⟩=some (.int .i64 19):=bA.cell 0
    have adg:w0.cell? ⟨w.heap.size,1,none⟩=some (.string name):=bA.cell 1
    have adh:w0.cell? ⟨w.heap.size,2,none⟩=some (.slice A' n' c'):=bA.cell 2
    have adi:w0.cell? ⟨w.heap.size,3,none⟩=some (.slice A n c):=bA.cell 3
    refine(oh _ _ _ _).mono ?_
    rintro e w' ⟨rfl,rfl⟩
    rw[H16.out]
    go_wp2_with fail
    go_ret
    exact⟨ah HF.out.symm,hB0⟩
   obtain rfl:=aev hz
   clear hz
   by_cases hk0:n=0
   ·have hkk:((n:Int) ==0)=true:=by simp;omega
    have HF:Hid (aay ⟨19,{data:=#[]},labels,kids⟩=true):=by
     show _=_
     have g1:=HT.out.HN
     have g2:=HT.out.HN'
     rw[lq]
     have g0:({data:=#[]}:ByteArray).size=0:=rfl
     simp_all [named,inB,jo]
    have HLO:=Lib.hid hlo
    clear hlo hk0
    go_enter Tryz.func154,Tryz.ntmps154
    go_wp2_with fail
    obtain⟨w0,hw0⟩:∃ W,W=w.alloc (.cells #[.int .i64 19,.string {data:=#[]},.slice A' n' c',.slice A n c] 60):=⟨_,rfl⟩
    rw[← hw0]
    have bA:Blk w0 w.heap.size 60 #[.int .i64 19,.string {data:=#[]},.slice A' n' c',.slice A n c]:=by rw[hw0];exact Blk.new w _ _
    have hB0:Below w.heap.size w w0:=by rw[hw0];exact(Below.refl _ _).alloc (Nat.le_refl _) _
    clear hw0
    have adf:w0.cell? ⟨w.heap.size,0,none⟩=some (.int .i64 19):=bA.cell 0
    have adg:w0.cell? ⟨w.heap.size,1,none⟩=some (.string {data:=#[]}):=bA.cell 1
    have adh:w0.cell? ⟨w.heap.size,2,none⟩=some (.slice A' n' c'):=bA.cell 2
    have adi:w0.cell? ⟨w.heap.size,3,none⟩=some (.slice A n c):=bA.cell 3
    refine(oh _ _ _ _).mono ?_
    rintro e w' ⟨rfl,rfl⟩
    rw[H16.out]
    go_wp2_with fail
    refine(aef (HT.out.c (kind:=0) hB0).1 HT.out.HS2 (HT.out.l hB0)).mono ?_
    rintro e w1 ⟨rfl,hb1⟩
    rw[HLO.out]
    have hB1:=hB0.trans (hb1.mono hB0.size)
    replace bA:=bA.step hb1
    have abg:w1.cell? ⟨w.heap.size,0,none⟩=some (.int .i64 19):=bA.cell 0
    have aa9:w1.cell? ⟨w.heap.size,1,none⟩=some (.string {data:=#[]}):=bA.cell 1
    have abb:w1.cell? ⟨w.heap.size,2,none⟩=some (.slice A' n' c'):=bA.cell 2
    have aa1:w1.cell? ⟨w.heap.size,3,none⟩=some (.slice A n c):=bA.cell 3
    go_wp2_with fail
    refine(oh _ _ _ _).mono ?_
    rintro e w' ⟨rfl,rfl⟩
    rw[H23.out]
    go_wp2_with fail
    go_ret
    exact⟨ah HF.out.symm,hB1⟩
   ·have hkk:((n:Int) ==0)=false:=by simp;omega
    have HF:Hid (aay ⟨19,{data:=#[]},labels,kids⟩=false):=by
     show _=_
     have g1:=HT.out.HN
     have g2:=HT.out.HN'
     rw[lq]
     have g0:({data:=#[]}:ByteArray).size=0:=rfl
     simp_all [named,inB,jo]
    have HLO:=Lib.hid hlo
    clear hlo hk0
    go_enter Tryz.func154,Tryz.ntmps154
    go_wp2_with fail
    obtain⟨w0,hw0⟩:∃ W,W=w.alloc (.cells #[.int .i64 19,.string {data:=#[]},.slice A' n' c',.slice A n c] 60):=⟨_,rfl⟩
    rw[← hw0]
    have bA:Blk w0 w.heap.size 60 #[.int .i64 19,.string {data:=#[]},.slice A' n' c',.slice A n c]:=by rw[hw0];exact Blk.new w _ _
    have hB0:Below w.heap.size w w0:=by rw[hw0];exact(Below.refl _ _).alloc (Nat.le_refl _) _
    clear hw0
    have adf:w0.cell? ⟨w.heap.size,0,none⟩=some (.int .i64 19):=bA.cell 0
    have adg:w0.cell? ⟨w.heap.size,1,none⟩=some (.string {data:=#[]}):=bA.cell 1
    have adh:w0.cell? ⟨w.heap.size,2,none⟩=some (.slice A' n' c'):=bA.cell 2
    have adi:w0.cell? ⟨w.heap.size,3,none⟩=some (.slice A n c):=bA.cell 3
    refine(oh _ _ _ _).mono ?_
    rintro e w' ⟨rfl,rfl⟩
    rw[H16.out]
    go_wp2_with fail
    refine(aef (HT.out.c (kind:=0) hB0).1 HT.out.HS2 (HT.out.l hB0)).mono ?_
    rintro e w1 ⟨rfl,hb1⟩
    rw[HLO.out]
    have hB1:=hB0.trans (hb1.mono hB0.size)
    replace bA:=bA.step hb1
    have abg:w1.cell? ⟨w.heap.size,0,none⟩=some (.int .i64 19):=bA.cell 0
    have aa9:w1.cell? ⟨w.heap.size,1,none⟩=some (.string {data:=#[]}):=bA.cell 1
    have abb:w1.cell? ⟨w.heap.size,2,none⟩=some (.slice A' n' c'):=bA.cell 2
    have aa1:w1.cell? ⟨w.heap.size,3,none⟩=some (.slice A n c):=bA.cell 3
    go_wp2_with fail
    refine(oh _ _ _ _).mono ?_
    rintro e w' ⟨rfl,rfl⟩
    rw[H23.out]
    go_wp2_with fail
    go_ret
    exact⟨ah HF.out.symm,hB1⟩
end Go.Proofs.YtbafphecjijdmaaGreatDoor
