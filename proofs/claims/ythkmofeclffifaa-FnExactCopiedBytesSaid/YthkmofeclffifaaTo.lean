/-
  The laws' own helpers 'to..' over the program's types (by program: tygen2.py, tyfam.py).
-/
import Derived.Test.YthkmofeclffifaaFam
import Derived.Test.YthkmofeclffifaaTy
namespace Go.Proofs.Ythkmofeclffifaa
open Go.RowKit
set_option linter.unusedVariables false
set_option linter.unusedSimpArgs false
set_option linter.unnecessarySimpa false
set_option maxRecDepth 100000























theorem toMoveS_info : (Try.prog.info? 36).map (fun i => (i.zero, i.size, i.bytes)) = some (some (.agg #[.int .i64 0, .int .i64 0, .int .i64 0, .int .i64 0, .int .i64 0, .int .i64 0, .string { data := #[] }, .slice none 0 0]), 8, 88) := by kernel_rfl
set_option maxHeartbeats 1600000 in
theorem toMoveS_step {ts : List Move} (ih : ∀ t ∈ ts, ToC 11 (Move.pd t)) : ToR 6 (.row 8 (ts.flatMap Move.pd)) := by
  intro B v w hB hsz h
  rw [sz_row Move.pd_length (by decide)] at hsz
  obtain ⟨A, n, c, rfl, hnl, hm, hat⟩ := rep_row Move.pd_length (by decide) h
  obtain ⟨i0, hi, hz0, hz1, hz2⟩ := info_parts toMoveS_info
  have hmk := fun W => run_make_rowN (P := Try.prog) 25 36 i0 _ Try.underlying25 hi hz0 .i64 .i64 n n (Nat.le_refl _) (by rw [hz2]; omega) (by omega) W
  rw [hz1] at hmk
  have hnn : n ≤ 1048576 := by omega
  have HN := Lib.hid hnl
  have HS := Lib.hid hsz
  have HI := Lib.hid ih
  clear ih
  clear h hnl hz0 hz1 hz2 hi hm hsz
  go_enter Try.func6, Try.ntmps6
  go_wp2
  clear hmk
  obtain ⟨W1, hW1⟩ : ∃ W1, W1 = w.alloc (.cells (madeCells #[.int .i64 0, .int .i64 0, .int .i64 0, .int .i64 0, .int .i64 0, .int .i64 0, .string { data := #[] }, .slice none 0 0] (n * 8)) 36) := ⟨_, rfl⟩
  rw [← hW1]
  have hF : Fills w W1 w.heap.size n 8 ((ts.take 0).flatMap Move.pd) 0 := by
    rw [hW1]
    exact Fills.start (cs := (madeCells #[.int .i64 0, .int .i64 0, .int .i64 0, .int .i64 0, .int .i64 0, .int .i64 0, .string { data := #[] }, .slice none 0 0] (n * 8)).toList) (OwAt.new w _ _) (by simp [size_madeCells]) ((Below.refl _ _).alloc (Nat.le_refl _) _) (by simp)
  clear hW1
  go_loopw [4] (fun i wr => ∃ k : Nat, k ≤ n ∧ i = .int .i64 k ∧ Fills w wr w.heap.size n 8 ((ts.take k).flatMap Move.pd) k) (fun i _ => n - (intOf i).toNat)
  case atStart => exact ⟨0, Nat.zero_le _, rfl, hF⟩
  case round =>
    obtain ⟨k, hk, rfl, hf⟩ := hrel
    clear hF
    by_cases hlt : k < n
    · obtain ⟨g, off, rfl, hg, hcell⟩ := hat (by omega)
      obtain ⟨t, hx, hmem⟩ := at_lt HN.out hlt
      obtain ⟨hbr, hg0⟩ := hf.under
      have hle := szL_get_le (f := Move.pd) hx
      obtain ⟨kind, at_, size, align, typ, most, name, kids⟩ := t
      have c0 : wr.cell? ⟨g, off + k * 8, none⟩ = some (.int .i64 kind) := cell_lit hbr (by omega) (hcell k 0 _ _ hx (by rw [Move.pd_mk]; rfl))
      have c1 : wr.cell? ⟨g, off + k * 8 + 1, none⟩ = some (.int .i64 at_) := cell_lit hbr (by omega) (hcell k 1 _ _ hx (by rw [Move.pd_mk]; rfl))
      have c2 : wr.cell? ⟨g, off + k * 8 + 2, none⟩ = some (.int .i64 size) := cell_lit hbr (by omega) (hcell k 2 _ _ hx (by rw [Move.pd_mk]; rfl))
      have c3 : wr.cell? ⟨g, off + k * 8 + 3, none⟩ = some (.int .i64 align) := cell_lit hbr (by omega) (hcell k 3 _ _ hx (by rw [Move.pd_mk]; rfl))
      have c4 : wr.cell? ⟨g, off + k * 8 + 4, none⟩ = some (.int .i64 typ) := cell_lit hbr (by omega) (hcell k 4 _ _ hx (by rw [Move.pd_mk]; rfl))
      have c5 : wr.cell? ⟨g, off + k * 8 + 5, none⟩ = some (.int .i64 most) := cell_lit hbr (by omega) (hcell k 5 _ _ hx (by rw [Move.pd_mk]; rfl))
      have c6 : wr.cell? ⟨g, off + k * 8 + 6, none⟩ = some (.string name) := cell_lit hbr (by omega) (hcell k 6 _ _ hx (by rw [Move.pd_mk]; rfl))
      obtain ⟨kidsV, c7, hr7⟩ : ∃ u, wr.cell? ⟨g, off + k * 8 + 7, none⟩ = some u ∧ Rep wr B (.row 1 (kids.flatMap rowCMoveS)) u := cell_rep hbr (by omega) hB (hcell k 7 _ _ hx (by rw [Move.pd_mk]; rfl))
      have HR7 := Lib.hid hr7
      clear hr7
      have HX := Lib.hid hx
      have HL := Lib.hid hle
      have HM := Lib.hid hmem
      clear hx hcell hle hmem
      go_wp2_with fail
      refine (HI.out _ HM.out B [.int .i64 kind, .int .i64 at_, .int .i64 size, .int .i64 align, .int .i64 typ, .int .i64 most, .string name, kidsV] _ (by omega) (by have := HS.out; have := HL.out; omega) (Move.close_ HR7.out)).mono ?_
      rintro e wq ⟨us, rfl, hl, hbq⟩
      obtain ⟨kidsA, kidsN, kidsC, rfl⟩ := Move.lopen hl
      have hlen := hl.len
      obtain ⟨F2, hh, hi2, _⟩ := hl
      obtain ⟨⟨u0, d0⟩, f0⟩ := hf.cell hbq hlt 0 (by decide)
      rw [Nat.add_zero] at d0 f0
      obtain ⟨⟨u1, d1⟩, f1⟩ := hf.cell hbq hlt 1 (by decide)
      obtain ⟨⟨u2, d2⟩, f2⟩ := hf.cell hbq hlt 2 (by decide)
      obtain ⟨⟨u3, d3⟩, f3⟩ := hf.cell hbq hlt 3 (by decide)
      obtain ⟨⟨u4, d4⟩, f4⟩ := hf.cell hbq hlt 4 (by decide)
      obtain ⟨⟨u5, d5⟩, f5⟩ := hf.cell hbq hlt 5 (by decide)
      obtain ⟨⟨u6, d6⟩, f6⟩ := hf.cell hbq hlt 6 (by decide)
      obtain ⟨⟨u7, d7⟩, f7⟩ := hf.cell hbq hlt 7 (by decide)
      have hnx := hf.next hbq (es := Move.pd ⟨kind, at_, size, align, typ, most, name, kids⟩) hh hi2 (hlen.trans (Move.pd_length _)) hlt
      have HF := Lib.hid hnx
      clear hnx hf hh hi2 hlen
      go_wp2_with fail
      go_roundw
      case rel => exact ⟨k + 1, by omega, by go_num, by rw [List.take_add_one, HX.out, List.flatMap_append, opt_flat]; exact HF.out⟩
      case measure => simp [intOf]; omega
    · have hkn : k = n := by omega
      subst hkn
      have hfin : Lv wr w.heap.size wr.heap.size (.row 8 (ts.flatMap Move.pd)) (.slice (some ⟨w.heap.size, 0, none⟩) k k) := by
        rw [List.take_of_length_le (by have := HN.out; omega)] at hf
        exact hf.done (by rw [flatMap_length Move.pd_length]; rw [HN.out]) (Nat.le_refl _) (by simp only [maxLen]; omega)
      have hbr := hf.under.1
      clear hf
      go_wp2_with fail
      go_ret
      exact ⟨_, rfl, hfin, hbr⟩
theorem toMoveSS_info : (Try.prog.info? 25).map (fun i => (i.zero, i.size, i.bytes)) = some (some (.slice none 0 0), 1, 24) := by kernel_rfl
set_option maxHeartbeats 1600000 in
theorem toMoveSS_step {ts : List (List Move)} (ih : ∀ t ∈ ts, ToR 6 (.row 8 (t.flatMap Move.pd))) : ToR 15 (.row 1 (ts.flatMap rowCMoveS)) := by
  intro B v w hB hsz h
  rw [sz_row rowCMoveS_length (by decide)] at hsz
  obtain ⟨A, n, c, rfl, hnl, hm, hat⟩ := rep_row rowCMoveS_length (by decide) h
  obtain ⟨i0, hi, hz0, hz1, hz2⟩ := info_parts toMoveSS_info
  have hmk := fun W => run_make_rowN (P := Try.prog) 34 25 i0 _ Try.underlying34 hi hz0 .i64 .i64 n n (Nat.le_refl _) (by rw [hz2]; omega) (by omega) W
  rw [hz1, Nat.mul_one] at hmk
  have hnn : n ≤ 1048576 := by omega
  have HN := Lib.hid hnl
  have HS := Lib.hid hsz
  have HI := Lib.hid ih
  clear ih
  clear h hnl hz0 hz1 hz2 hi hm hsz
  go_enter Try.func15, Try.ntmps15
  go_wp2
  clear hmk
  obtain ⟨W1, hW1⟩ : ∃ W1, W1 = w.alloc (.cells (madeCells #[.slice none 0 0] (n)) 25) := ⟨_, rfl⟩
  rw [← hW1]
  have hF : Fills w W1 w.heap.size n 1 ((ts.take 0).flatMap rowCMoveS) 0 := by
    rw [hW1]
    exact Fills.start (cs := (madeCells #[.slice none 0 0] (n)).toList) (OwAt.new w _ _) (by simp [size_madeCells]) ((Below.refl _ _).alloc (Nat.le_refl _) _) (by simp)
  clear hW1
  go_loopw [4] (fun i wr => ∃ k : Nat, k ≤ n ∧ i = .int .i64 k ∧ Fills w wr w.heap.size n 1 ((ts.take k).flatMap rowCMoveS) k) (fun i _ => n - (intOf i).toNat)
  case atStart => exact ⟨0, Nat.zero_le _, rfl, hF⟩
  case round =>
    obtain ⟨k, hk, rfl, hf⟩ := hrel
    clear hF
    by_cases hlt : k < n
    · obtain ⟨g, off, rfl, hg, hcell⟩ := hat (by omega)
      obtain ⟨t, hx, hmem⟩ := at_lt HN.out hlt
      obtain ⟨hbr, hg0⟩ := hf.under
      have hle := szL_get_le (f := rowCMoveS) hx
      obtain ⟨tV, c0, hr0⟩ : ∃ u, wr.cell? ⟨g, off + k, none⟩ = some u ∧ Rep wr B (.row 8 (t.flatMap Move.pd)) u := cell_rep hbr (by omega) hB (by have := hcell k 0 _ _ hx rfl; simpa using this)
      have HR0 := Lib.hid hr0
      clear hr0
      have HX := Lib.hid hx
      have HL := Lib.hid hle
      have HM := Lib.hid hmem
      clear hx hcell hle hmem
      go_wp2_with fail
      refine (HI.out _ HM.out B tV _ (by omega) (by have := HS.out; have := HL.out; simp only [rowCMoveS, PD.szL] at this; omega) HR0.out).mono ?_
      rintro e wq ⟨us, rfl, hl, hbq⟩
      obtain ⟨uA, uN, uC, rfl⟩ := hl.form
      obtain ⟨F2, hh, hi2, _⟩ := hl
      obtain ⟨⟨u0, d0⟩, f0⟩ := hf.cell hbq hlt 0 (by decide)
      rw [Nat.add_zero, Nat.mul_one] at d0 f0
      have hnx := hf.next hbq (es := rowCMoveS t) (by have := HoldL.cons hh (HoldL.nil _); simpa [rowCMoveS] using this) hi2 (rfl) hlt
      rw [Nat.mul_one] at hnx
      have HF := Lib.hid hnx
      clear hnx hf hh hi2
      go_wp2_with fail
      go_roundw
      case rel => exact ⟨k + 1, by omega, by go_num, by rw [List.take_add_one, HX.out, List.flatMap_append, opt_flat]; exact HF.out⟩
      case measure => simp [intOf]; omega
    · have hkn : k = n := by omega
      subst hkn
      have hfin : Lv wr w.heap.size wr.heap.size (.row 1 (ts.flatMap rowCMoveS)) (.slice (some ⟨w.heap.size, 0, none⟩) k k) := by
        rw [List.take_of_length_le (by have := HN.out; omega)] at hf
        exact hf.done (by rw [flatMap_length rowCMoveS_length]; rw [HN.out]) (Nat.le_refl _) (by simp only [maxLen]; omega)
      have hbr := hf.under.1
      clear hf
      go_wp2_with fail
      go_ret
      exact ⟨_, rfl, hfin, hbr⟩
set_option maxHeartbeats 1600000 in
theorem toMove_step {kind : Int} {at_ : Int} {size : Int} {align : Int} {typ : Int} {most : Int} {name : ByteArray} {kids : List (List Move)} (ih_kids : ToR 15 (.row 1 (kids.flatMap rowCMoveS))) : ToC 11 (Move.pd ⟨kind, at_, size, align, typ, most, name, kids⟩) := by
  intro B cs w hB hsz h
  obtain ⟨kidsV, rfl, r_kids⟩ := Move.open_ h
  have R_kids := Lib.hid r_kids
  clear r_kids
  simp only [Move.pd_mk, PD.szL] at hsz
  have HS := Lib.hid hsz
  clear hsz
  go_enter Try.func11, Try.ntmps11
  go_wp2_with fail
  obtain ⟨w0, hw0⟩ : ∃ w0, w0 = ((w.alloc (.cells #[.int .i64 kind, .int .i64 at_, .int .i64 size, .int .i64 align, .int .i64 typ, .int .i64 most, .string name, kidsV] 32)).alloc (.cells #[.int .i64 0, .int .i64 0, .int .i64 0, .int .i64 0, .int .i64 0, .int .i64 0, .string { data := #[] }, .slice none 0 0] 36)).alloc (.cells #[.int .i64 kind, .int .i64 at_, .int .i64 size, .int .i64 align, .int .i64 typ, .int .i64 most, .string name, .slice none 0 0] 36) := ⟨_, rfl⟩
  rw [← hw0]
  have bP : Blk w0 w.heap.size 32 #[.int .i64 kind, .int .i64 at_, .int .i64 size, .int .i64 align, .int .i64 typ, .int .i64 most, .string name, kidsV] := by rw [hw0]; exact ((Blk.new w _ _).alloc _).alloc _
  have bR : Blk w0 (w.heap.size + 1) 36 #[.int .i64 0, .int .i64 0, .int .i64 0, .int .i64 0, .int .i64 0, .int .i64 0, .string { data := #[] }, .slice none 0 0] := by rw [hw0]; have := (Blk.new (w.alloc (.cells #[.int .i64 kind, .int .i64 at_, .int .i64 size, .int .i64 align, .int .i64 typ, .int .i64 most, .string name, kidsV] 32)) 36 #[.int .i64 0, .int .i64 0, .int .i64 0, .int .i64 0, .int .i64 0, .int .i64 0, .string { data := #[] }, .slice none 0 0]).alloc (.cells #[.int .i64 kind, .int .i64 at_, .int .i64 size, .int .i64 align, .int .i64 typ, .int .i64 most, .string name, .slice none 0 0] 36); simpa using this
  have bO : Blk w0 (w.heap.size + 1 + 1) 36 #[.int .i64 kind, .int .i64 at_, .int .i64 size, .int .i64 align, .int .i64 typ, .int .i64 most, .string name, .slice none 0 0] := by rw [hw0]; have := Blk.new ((w.alloc (.cells #[.int .i64 kind, .int .i64 at_, .int .i64 size, .int .i64 align, .int .i64 typ, .int .i64 most, .string name, kidsV] 32)).alloc (.cells #[.int .i64 0, .int .i64 0, .int .i64 0, .int .i64 0, .int .i64 0, .int .i64 0, .string { data := #[] }, .slice none 0 0] 36)) 36 #[.int .i64 kind, .int .i64 at_, .int .i64 size, .int .i64 align, .int .i64 typ, .int .i64 most, .string name, .slice none 0 0]; simpa using this
  have hB0 : Below w.heap.size w w0 := by rw [hw0]; exact (((Below.refl _ _).alloc (Nat.le_refl _) _).alloc (by simp) _).alloc (by simp; omega) _
  have hs0 : w.heap.size + 3 ≤ w0.heap.size := by rw [hw0]; simp
  clear hw0
  refine (ih_kids B kidsV _ (by have := hB0.size; omega) (by have := HS.out; omega) (R_kids.out.below (hB0.mono hB))).mono ?_
  rintro e w1 ⟨u_kids, rfl, l_kids, hb1⟩
  obtain ⟨kidsA, kidsN, kidsC, rfl⟩ := l_kids.form
  have hB1 := hB0.trans (hb1.mono hB0.size)
  have hs1 := hb1.size
  replace bP := bP.step hb1
  replace bR := bR.step hb1
  replace bO := bO.step hb1
  have fO1_7 := bO.frozen 7
  have cO1_7 : w1.cell? ⟨w.heap.size + 1 + 1, 7, none⟩ = some (.slice none 0 0) := bO.cell 7
  have fR0 := bR.frozen 0
  have cR0 : w1.cell? ⟨w.heap.size + 1, 0, none⟩ = some (.int .i64 0) := bR.cell 0
  have fR1 := bR.frozen 1
  have cR1 : w1.cell? ⟨w.heap.size + 1, 1, none⟩ = some (.int .i64 0) := bR.cell 1
  have fR2 := bR.frozen 2
  have cR2 : w1.cell? ⟨w.heap.size + 1, 2, none⟩ = some (.int .i64 0) := bR.cell 2
  have fR3 := bR.frozen 3
  have cR3 : w1.cell? ⟨w.heap.size + 1, 3, none⟩ = some (.int .i64 0) := bR.cell 3
  have fR4 := bR.frozen 4
  have cR4 : w1.cell? ⟨w.heap.size + 1, 4, none⟩ = some (.int .i64 0) := bR.cell 4
  have fR5 := bR.frozen 5
  have cR5 : w1.cell? ⟨w.heap.size + 1, 5, none⟩ = some (.int .i64 0) := bR.cell 5
  have fR6 := bR.frozen 6
  have cR6 : w1.cell? ⟨w.heap.size + 1, 6, none⟩ = some (.string { data := #[] }) := bR.cell 6
  have fR7 := bR.frozen 7
  have cR7 : w1.cell? ⟨w.heap.size + 1, 7, none⟩ = some (.slice none 0 0) := bR.cell 7
  have cO1_0 : w1.cell? ⟨w.heap.size + 1 + 1, 0, none⟩ = some (.int .i64 kind) := bO.cell 0
  have cO1_1 : w1.cell? ⟨w.heap.size + 1 + 1, 1, none⟩ = some (.int .i64 at_) := bO.cell 1
  have cO1_2 : w1.cell? ⟨w.heap.size + 1 + 1, 2, none⟩ = some (.int .i64 size) := bO.cell 2
  have cO1_3 : w1.cell? ⟨w.heap.size + 1 + 1, 3, none⟩ = some (.int .i64 align) := bO.cell 3
  have cO1_4 : w1.cell? ⟨w.heap.size + 1 + 1, 4, none⟩ = some (.int .i64 typ) := bO.cell 4
  have cO1_5 : w1.cell? ⟨w.heap.size + 1 + 1, 5, none⟩ = some (.int .i64 most) := bO.cell 5
  have cO1_6 : w1.cell? ⟨w.heap.size + 1 + 1, 6, none⟩ = some (.string name) := bO.cell 6
  go_wp2_with fail
  clear bP bR bO
  refine bodyPost_ret (v := .agg #[.int .i64 kind, .int .i64 at_, .int .i64 size, .int .i64 align, .int .i64 typ, .int .i64 most, .string name, .slice kidsA kidsN kidsC]) (by simp [results, Try.results11, go_sem, cR0, cR1, cR2, cR3, cR4, cR5, cR6, cR7]) rfl ⟨[.int .i64 kind, .int .i64 at_, .int .i64 size, .int .i64 align, .int .i64 typ, .int .i64 most, .string name, .slice kidsA kidsN kidsC], rfl, ?_, ?_⟩
  · have base : LvC w1 w0.heap.size w1.heap.size [.lit (.int .i64 kind), .lit (.int .i64 at_), .lit (.int .i64 size), .lit (.int .i64 align), .lit (.int .i64 typ), .lit (.int .i64 most), .lit (.string name), .row 1 (kids.flatMap rowCMoveS)] [.int .i64 kind, .int .i64 at_, .int .i64 size, .int .i64 align, .int .i64 typ, .int .i64 most, .string name, .slice kidsA kidsN kidsC] := by
      have := LvC.lit (LvC.lit (LvC.lit (LvC.lit (LvC.lit (LvC.lit (LvC.lit (LvC.cons l_kids (LvC.nil0 _) (by first | omega | (simp; omega)) (by first | omega | (simp; omega)) (by first | omega | (simp; omega))) (.string name)) (.int .i64 most)) (.int .i64 typ)) (.int .i64 align)) (.int .i64 size)) (.int .i64 at_)) (.int .i64 kind)
      exact this
    rw [Move.pd_mk]
    refine LvC.low (lo2 := w0.heap.size) ?_ (by omega)
    refine LvC.more (hi := w1.heap.size) ?_ (Nat.le_refl _) (by simp [World.setCell]) (Nat.le_refl _)
    iterate 9 (refine LvC.setCell ?_ (.inl (by simp; omega)) _)
    exact base
  · iterate 9 (refine Below.setCell ?_ (by simp; try omega) _)
    exact hB1
mutual
theorem toMove_all : ∀ t : Move, ToC 11 (Move.pd t)
  | .mk kind at_ size align typ most name kids => toMove_step (toMoveSS_step (toMove_memS kids))
theorem toMove_mem : ∀ ts : List Move, ∀ t ∈ ts, ToC 11 (Move.pd t)
  | [], x, hx => absurd hx (by simp)
  | t :: r, x, hx => (List.mem_cons.1 hx).elim (fun e => e ▸ toMove_all t) (fun h => toMove_mem r x h)
theorem toMove_memS : ∀ ts : List (List Move), ∀ t ∈ ts, ToR 6 (.row 8 (t.flatMap Move.pd))
  | [], x, hx => absurd hx (by simp)
  | t :: r, x, hx => (List.mem_cons.1 hx).elim (fun e => e ▸ toMoveS_step (toMove_mem t)) (fun h => toMove_memS r x h)
end
theorem toMoveS_all (ts : List Move) : ToR 6 (.row 8 (ts.flatMap Move.pd)) := toMoveS_step fun t _ => toMove_all t
theorem toMoveSS_all (ts : List (List Move)) : ToR 15 (.row 1 (ts.flatMap rowCMoveS)) := toMoveSS_step fun t _ => toMoveS_all t




end Go.Proofs.Ythkmofeclffifaa
