/-
  spec.GrowMem of what is right.
-/
import Derived.Test.YtlppngpafjfjeaaGrowS
import Derived.Deep.RegionWith
namespace Go.Proofs.Ytlppngpafjfjeaa
open Go.RowKit
set_option linter.unusedVariables false
set_option linter.unusedSimpArgs false
set_option linter.unnecessarySimpa false
set_option maxRecDepth 16000

theorem own_at {w : World} {base g c : Nat} {e : TypeId} {bs : List Block} (h : w.ownsRow base e 2 (.slice (some ⟨g, 0, none⟩) bs.length c) bs.length (bvals bs)) : AtB w g 0 bs ∧ bs.length ≤ c ∧ g < w.heap.size ∧ base ≤ g := by
  have h0 := h
  rcases h.2 with ⟨e1, _⟩ | ⟨g', cap, cur, hv, hb, hh, hc, _⟩
  · cases e1
  · cases hv
    refine ⟨?_, hc, (Array.getElem?_eq_some_iff.1 hh).1, hb⟩
    rcases Nat.eq_zero_or_pos bs.length with hz | hp
    · have : bs = [] := List.eq_nil_of_length_eq_zero hz
      subst this
      intro k x hk
      simp at hk
    · exact (at_rep (lv_blk h0).is hp).1
theorem lv_far {w : World} {D : PD} {fv u : Value} {r : Nat} {p : Addr} (h : Lv w r w.heap.size D fv) (hp : p.block < r) : Lv (w.setCell p u) r (w.setCell p u).heap.size D fv := by
  obtain ⟨F, a1, a2, a3⟩ := h
  exact ⟨F, Hold.keep _ _ F a1 fun g hg => Below.heap_setCell w p u g (by have := a2.2 g hg; omega), ⟨a2.1, fun g hg => by have := a2.2 g hg; simp; omega⟩, by simp⟩
set_option maxHeartbeats 3200000 in
theorem specGrow_yes {s : ByteArray} {bs : List Block} {n : Nat} {fv : Value} {w : World} (hm : memOk s bs = true) (R : Rep w w.heap.size (blocks bs) fv) (hw : ∀ b ∈ bs, b.wf) (hn : s.size + n ≤ 4096) :
    Calls Try.prog 27 #[.agg #[.string s, fv], .int .i64 n] w fun e w' => MemR w (memGrow ⟨s, bs⟩ n) e w' := by
  have HM := Lib.hid (memF hm)
  have HR := Lib.hid R
  have hs4 := (memF hm).size
  have hl4 := (memF hm).len
  obtain ⟨A2, n2, c2, rfl⟩ := R.form
  clear R
  obtain ⟨w0, hw0⟩ : ∃ W, W = ((w.alloc (.cells #[.string s, .slice A2 n2 c2] 29)).alloc (.cells #[.string ⟨#[]⟩, .slice none 0 0] 29)) := ⟨_, rfl⟩
  have bP : Blk w0 w.heap.size 29 #[.string s, .slice A2 n2 c2] := by rw [hw0]; exact (Blk.new w _ _).alloc _
  have bR : Blk w0 (w.heap.size + 1) 29 #[.string ⟨#[]⟩, .slice none 0 0] := by rw [hw0]; have := Blk.new (w.alloc (.cells #[.string s, .slice A2 n2 c2] 29)) 29 #[.string ⟨#[]⟩, .slice none 0 0]; simpa using this
  have hB : Below w.heap.size w w0 := by rw [hw0]; exact ((Below.refl _ _).alloc (Nat.le_refl _) _).alloc (by simp) _
  have hs0 : w0.heap.size = w.heap.size + 2 := by rw [hw0]; simp
  have HW := Lib.hid hw0
  have HF := Lib.hid (grow_fine (bs := bs) hm hn)
  clear hw0
  go_enter Try.func27, Try.ntmps27
  go_wp2_with fail
  rw [← HW.out]
  refine (specMemoryOk_any (by unfold maxLen; omega) hB.size (HR.out.below hB) hw).mono ?_
  rintro e w1 ⟨rfl, hb1⟩
  rw [hm]
  have bP1 := bP.step hb1
  have bR1 := bR.step hb1
  have hB1 := hB.trans (hb1.mono hB.size)
  have hs1 := hb1.size
  have HR1 := Lib.hid (Rep.more (B' := w1.heap.size) hB1.size _ _ (HR.out.below hB1))
  have p0 : w1.cell? ⟨w.heap.size, 0, none⟩ = some (.string s) := bP1.cell 0
  have p1 : w1.cell? ⟨w.heap.size, 1, none⟩ = some (.slice A2 n2 c2) := bP1.cell 1
  have hs4' : ¬ 4096 - (s.size : Int) < (n : Int) := by omega
  clear hb1 hm
  go_wp2_with fail
  refine (l10Own_any (s := s) (bs := bs) HR1.out (by omega)).mono ?_
  rintro e w2 ⟨g, c, rfl, hown, hb2⟩
  have bR2 := bR1.step hb2
  have bP2 := bP1.step hb2
  have hB2 := hB1.trans (hb2.mono hB1.size)
  have HO := Lib.hid hown
  have hs2 := hb2.size
  clear p0 p1 bP1 bR1 bR bP hown
  have p0 : w2.cell? ⟨w.heap.size, 0, none⟩ = some (.string s) := bP2.cell 0
  obtain ⟨wo, hwo⟩ : ∃ W, W = w2.alloc (.cells #[.string s, .slice (some ⟨g, 0, none⟩) bs.length c] 29) := ⟨_, rfl⟩
  have bO : Blk wo w2.heap.size 29 #[.string s, .slice (some ⟨g, 0, none⟩) bs.length c] := by rw [hwo]; exact Blk.new w2 _ _
  have hbo : Below w2.heap.size w2 wo := by rw [hwo]; exact (Below.refl _ _).alloc (Nat.le_refl _) _
  have hso : wo.heap.size = w2.heap.size + 1 := by rw [hwo]; simp
  have HWO := Lib.hid hwo
  have HSO := Lib.hid hso
  clear hso
  have bRo := bR2.step hbo
  have bPo := bP2.step hbo
  have hBo := hB2.trans (hbo.mono hB2.size)
  have q0 : wo.cell? ⟨w.heap.size, 0, none⟩ = some (.string s) := bPo.cell 0
  have q1 : wo.cell? ⟨w2.heap.size, 0, none⟩ = some (.string s) := bO.cell 0
  clear hwo bR2 bP2
  go_wp2_with fail
  rw [← HWO.out]
  obtain ⟨i0, hi, hz0, hz1, hz2⟩ := info_parts byte_info
  have hmk := run_make_rowN (P := Try.prog) 45 5 i0 _ Try.underlying45 hi hz0 .i64 .i64 n n (Nat.le_refl _) (by rw [hz2]; omega) (by omega) wo.drew
  rw [hz1, Nat.mul_one, show (Value.int .u8 0).cells = #[Value.int .u8 0] from rfl] at hmk
  have hml : (madeCells #[Value.int .u8 0] n).toList = List.replicate n (.int .u8 0) := toList_madeCells_one _ _
  have hx := RowX.zeros (B := w.heap.size) (w := wo.drew) (cur := madeCells #[Value.int .u8 0] n) (n := n) (cap := n) (by have := hBo.size; simpa using this) (Nat.le_refl _) (by simp only [maxLen]; omega) (by simp [size_madeCells]) (by rw [hml, List.take_replicate, Nat.min_self])
  obtain ⟨mc, hmc⟩ : ∃ M, M = madeCells #[Value.int .u8 0] n := ⟨_, rfl⟩
  rw [← hmc] at hmk hx
  have cv : (convert 45 9 (.slice (some ⟨wo.heap.size, 0, none⟩) n n)).run Try.prog ((wo.alloc (.cells mc 5)).drew) = .ok (.string (zerosB n)) ((wo.alloc (.cells mc 5)).drew) := hx.str
  have bO2 := (bO.alloc (.cells mc 5)).drew
  have bP2 := (bPo.alloc (.cells mc 5)).drew
  have k0 : ((wo.alloc (.cells mc 5)).drew).cell? ⟨w2.heap.size, 0, none⟩ = some (.string s) := bO2.cell 0
  have k1 : ((wo.alloc (.cells mc 5)).drew).frozen? ⟨w2.heap.size, 0, none⟩ = false := bO2.frozen 0
  have k2 : ((wo.alloc (.cells mc 5)).drew).cell? ⟨w.heap.size, 0, none⟩ = some (.string s) := bP2.cell 0
  have g0 : wo.frozen? ⟨w2.heap.size, 0, none⟩ = false := bO.frozen 0
  clear hmc hml hx hi hz0 hz1 hz2
  have hlim : ¬ 9223372036854775807 < s.size + (zerosB n).size := by rw [zerosB_size]; omega
  go_region
  obtain ⟨wx, hwx⟩ : ∃ W, W = ((wo.alloc (.cells mc 5)).setCell ⟨w2.heap.size, 0, none⟩ (.string (s ++ zerosB n))).drew := ⟨_, rfl⟩
  rw [← hwx]
  have bX : Blk wx w2.heap.size 29 #[.string (s ++ zerosB n), .slice (some ⟨g, 0, none⟩) bs.length c] := by
    rw [hwx]
    have := ((bO.alloc (.cells mc 5)).set_ 0 (.string (s ++ zerosB n))).drew
    simpa using this
  have bRx : Blk wx (w.heap.size + 1) 29 #[.string ⟨#[]⟩, .slice none 0 0] := by
    rw [hwx]
    exact ((bRo.alloc (.cells mc 5)).far (p := ⟨w2.heap.size, 0, none⟩) (by show w.heap.size + 1 ≠ w2.heap.size; omega) _).drew
  have hbx : Below w2.heap.size w2 wx := by
    rw [hwx]
    exact ((hbo.alloc hbo.size _).setCell (p := ⟨w2.heap.size, 0, none⟩) (Nat.le_refl _) _).drew
  have hsx : w2.heap.size + 1 ≤ wx.heap.size := by
    rw [hwx]
    have := HSO.out
    simp; omega
  have hBx := hB2.trans (hbx.mono hB2.size)
  obtain ⟨hat, hcc, hgl, hgb⟩ := own_at HO.out
  have HAT := Lib.hid (hat.below hbx hgl)
  have HLX : Hid (Lv wx (w.heap.size + 2) wx.heap.size (blocks bs) (.slice (some ⟨g, 0, none⟩) bs.length c)) := by
    show Lv _ _ _ _ _
    obtain ⟨F, a1, a2, a3⟩ := (lv_blk HO.out).step hbx
    exact ⟨F, a1, ⟨a2.1, fun q hq => by have := a2.2 q hq; omega⟩, by omega⟩
  have HBX := Lib.hid bX
  have HBR := Lib.hid bRx
  have hgx : g < wx.heap.size := by omega
  clear hwx bO bRo bPo hbo q0 q1 bO2 bP2 k0 k1 k2 g0 hlim hmk cv p0 hat hbx
  have x0 := bX.cell 0
  have x1 := bX.cell 1
  have y0 := bRx.cell 0
  have y1 := bRx.cell 1
  have fx0 := bX.frozen 0
  have fx1 := bX.frozen 1
  have fy0 := bRx.frozen 0
  have fy1 := bRx.frozen 1
  clear bX bRx
  go_wp2_with fail
  refine (l00Max_g _ _ _).mono ?_
  rintro e w' ⟨rfl, rfl⟩
  by_cases hgt : max s.size 8 < s.size + n
  · have hgt' : max (s.size : Int) 8 < (s.size : Int) + (n : Int) := by omega
    have HG := Lib.hid (growL_yes (bs := bs) (ba := max (s.size : Int) 8) (bz := (s.size : Int) + (n : Int) - max (s.size : Int) 8) hgt (by omega) (by push_cast; omega))
    clear hgt
    go_wp2_with fail
    refine (l10Give_end rfl hcc HAT.out hgx HM.out.fits (by omega) HM.out.ord (fun x hx => by have := HM.out.all_ x hx; omega)).mono ?_
    rintro e w3 ⟨u, rfl, hL, hb3⟩
    obtain ⟨A3, n3, c3, rfl⟩ := hL.form
    have HL := Lib.hid hL
    have bX3 := HBX.out.step hb3
    have bR3 := HBR.out.step hb3
    have hB3 := hBx.trans (hb3.mono hBx.size)
    have hs3 := hb3.size
    have hsb := hBx.size
    clear x0 x1 y0 y1 fx0 fx1 fy0 fy1 hL
    have x0 := bX3.cell 0
    have x1 := bX3.cell 1
    have y0 := bR3.cell 0
    have y1 := bR3.cell 1
    have fx0 := bX3.frozen 0
    have fx1 := bX3.frozen 1
    have fy0 := bR3.frozen 0
    have fy1 := bR3.frozen 1
    clear bX3 bR3
    go_wp2_with fail
    rw [HF.out, HG.out]
    refine bodyPost_ret (v := .tuple #[.agg #[.string (s ++ zerosB n), .slice A3 n3 c3], .int .i64 0]) (by simp [results, Try.results27, go_sem, x0, x1, y0, y1]) rfl ⟨[.string (s ++ zerosB n), .slice A3 n3 c3], rfl, lvC_mem (hold_keep3 (lv_far HL.out (p := ⟨w2.heap.size, 1, none⟩) (by show w2.heap.size < wx.heap.size; omega)) (q := w.heap.size + 1) (by omega) (by omega)) _, ?_⟩
    repeat (first | exact hB3 | refine Below.setCell ?_ (by simp; try omega) _)
  · have hgt' : ¬ max (s.size : Int) 8 < (s.size : Int) + (n : Int) := by omega
    have HG := Lib.hid (growL_no (bs := bs) hgt)
    clear hgt
    go_wp2_with fail
    rw [HF.out, HG.out]
    refine bodyPost_ret (v := .tuple #[.agg #[.string (s ++ zerosB n), .slice (some ⟨g, 0, none⟩) bs.length c], .int .i64 0]) (by simp [results, Try.results27, go_sem, x0, x1, y0, y1]) rfl ⟨[.string (s ++ zerosB n), .slice (some ⟨g, 0, none⟩) bs.length c], rfl, lvC_mem (hold_keep3 HLX.out (q := w.heap.size + 1) (by omega) (by omega)) _, ?_⟩
    repeat (first | exact hBx | refine Below.setCell ?_ (by simp; try omega) _)
end Go.Proofs.Ytlppngpafjfjeaa

