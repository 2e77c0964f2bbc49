/-
  The laws' own helpers 'to..' over the program's types (by program: tygen2.py, tyfam.py).
-/
import Derived.Test.YtnedcpoengcbaaaFam
import Derived.Test.YtnedcpoengcbaaaTy
namespace Go.Proofs.Ytnedcpoengcbaaa
open Go.RowKit
set_option linter.unusedVariables false
set_option linter.unusedSimpArgs false
set_option linter.unnecessarySimpa false
set_option maxRecDepth 100000


theorem toStringS_info : (Try.prog.info? 9).map (fun i => (i.zero, i.size, i.bytes)) = some (some (.string { data := #[] }), 1, 16) := by kernel_rfl
set_option maxHeartbeats 1600000 in
theorem toStringS_step {ts : List ByteArray} : ToR 91 (.row 1 (ts.flatMap strC)) := by
  intro B v w hB hsz h
  rw [sz_row strC_length (by decide)] at hsz
  obtain ⟨A, n, c, rfl, hnl, hm, hat⟩ := rep_row strC_length (by decide) h
  obtain ⟨i0, hi, hz0, hz1, hz2⟩ := info_parts toStringS_info
  have hmk := fun W => run_make_rowN (P := Try.prog) 74 9 i0 _ Try.underlying74 hi hz0 .i64 .i64 n n (Nat.le_refl _) (by rw [hz2]; omega) (by omega) W
  rw [hz1, Nat.mul_one] at hmk
  have hnn : n ≤ 1048576 := by omega
  have HN := Lib.hid hnl
  clear h hnl hz0 hz1 hz2 hi hm hsz
  go_enter Try.func91, Try.ntmps91
  go_wp2
  clear hmk
  obtain ⟨W1, hW1⟩ : ∃ W1, W1 = w.alloc (.cells (madeCells #[.string { data := #[] }] (n)) 9) := ⟨_, rfl⟩
  rw [← hW1]
  have hF : Fills w W1 w.heap.size n 1 ((ts.take 0).flatMap strC) 0 := by
    rw [hW1]
    exact Fills.start (cs := (madeCells #[.string { data := #[] }] (n)).toList) (OwAt.new w _ _) (by simp [size_madeCells]) ((Below.refl _ _).alloc (Nat.le_refl _) _) (by simp)
  clear hW1
  go_loopw [4] (fun i wr => ∃ k : Nat, k ≤ n ∧ i = .int .i64 k ∧ Fills w wr w.heap.size n 1 ((ts.take k).flatMap strC) k) (fun i _ => n - (intOf i).toNat)
  case atStart => exact ⟨0, Nat.zero_le _, rfl, hF⟩
  case round =>
    obtain ⟨k, hk, rfl, hf⟩ := hrel
    clear hF
    by_cases hlt : k < n
    · obtain ⟨g, off, rfl, hg, hcell⟩ := hat (by omega)
      obtain ⟨t, hx, hmem⟩ := at_lt HN.out hlt
      obtain ⟨hbr, hg0⟩ := hf.under
      have c0 : wr.cell? ⟨g, off + k, none⟩ = some (.string t) := cell_lit hbr (by omega) (by have := hcell k 0 _ _ hx rfl; simpa using this)
      have HX := Lib.hid hx
      clear hx hcell
      obtain ⟨⟨u0, d0⟩, f0⟩ := hf.cell (Below.refl _ _) hlt 0 (by decide)
      rw [Nat.add_zero, Nat.mul_one] at d0 f0
      have hnx := hf.next (Below.refl _ _) (es := strC t) (HoldL.cons (Hold.lit_ wr (.string t)) (HoldL.nil wr)) (In.nil _ _) (rfl) hlt
      rw [Nat.mul_one] at hnx
      have HF := Lib.hid hnx
      clear hnx hf
      go_wp2_with fail
      go_roundw
      case rel => exact ⟨k + 1, by omega, by go_num, by rw [List.take_add_one, HX.out, List.flatMap_append, opt_flat]; exact HF.out⟩
      case measure => simp [intOf]; omega
    · have hkn : k = n := by omega
      subst hkn
      have hfin : Lv wr w.heap.size wr.heap.size (.row 1 (ts.flatMap strC)) (.slice (some ⟨w.heap.size, 0, none⟩) k k) := by
        rw [List.take_of_length_le (by have := HN.out; omega)] at hf
        exact hf.done (by rw [flatMap_length strC_length]; rw [HN.out]) (Nat.le_refl _) (by simp only [maxLen]; omega)
      have hbr := hf.under.1
      clear hf
      go_wp2_with fail
      go_ret
      exact ⟨_, rfl, hfin, hbr⟩
theorem toStringS_all (ts : List ByteArray) : ToR 91 (.row 1 (ts.flatMap strC)) := toStringS_step




theorem toTypeS_info : (Try.prog.info? 76).map (fun i => (i.zero, i.size, i.bytes)) = some (some (.agg #[.int .i64 0, .string { data := #[] }, .slice none 0 0, .slice none 0 0]), 4, 72) := by kernel_rfl
set_option maxHeartbeats 1600000 in
theorem toTypeS_step {ts : List Ty} (ih : ∀ t ∈ ts, ToC 63 (Ty.pd t)) : ToR 39 (.row 4 (ts.flatMap Ty.pd)) := by
  intro B v w hB hsz h
  rw [sz_row Ty.pd_length (by decide)] at hsz
  obtain ⟨A, n, c, rfl, hnl, hm, hat⟩ := rep_row Ty.pd_length (by decide) h
  obtain ⟨i0, hi, hz0, hz1, hz2⟩ := info_parts toTypeS_info
  have hmk := fun W => run_make_rowN (P := Try.prog) 40 76 i0 _ Try.underlying40 hi hz0 .i64 .i64 n n (Nat.le_refl _) (by rw [hz2]; omega) (by omega) W
  rw [hz1] at hmk
  have hnn : n ≤ 1048576 := by omega
  have HN := Lib.hid hnl
  have HS := Lib.hid hsz
  have HI := Lib.hid ih
  clear ih
  clear h hnl hz0 hz1 hz2 hi hm hsz
  go_enter Try.func39, Try.ntmps39
  go_wp2
  clear hmk
  obtain ⟨W1, hW1⟩ : ∃ W1, W1 = w.alloc (.cells (madeCells #[.int .i64 0, .string { data := #[] }, .slice none 0 0, .slice none 0 0] (n * 4)) 76) := ⟨_, rfl⟩
  rw [← hW1]
  have hF : Fills w W1 w.heap.size n 4 ((ts.take 0).flatMap Ty.pd) 0 := by
    rw [hW1]
    exact Fills.start (cs := (madeCells #[.int .i64 0, .string { data := #[] }, .slice none 0 0, .slice none 0 0] (n * 4)).toList) (OwAt.new w _ _) (by simp [size_madeCells]) ((Below.refl _ _).alloc (Nat.le_refl _) _) (by simp)
  clear hW1
  go_loopw [4] (fun i wr => ∃ k : Nat, k ≤ n ∧ i = .int .i64 k ∧ Fills w wr w.heap.size n 4 ((ts.take k).flatMap Ty.pd) k) (fun i _ => n - (intOf i).toNat)
  case atStart => exact ⟨0, Nat.zero_le _, rfl, hF⟩
  case round =>
    obtain ⟨k, hk, rfl, hf⟩ := hrel
    clear hF
    by_cases hlt : k < n
    · obtain ⟨g, off, rfl, hg, hcell⟩ := hat (by omega)
      obtain ⟨t, hx, hmem⟩ := at_lt HN.out hlt
      obtain ⟨hbr, hg0⟩ := hf.under
      have hle := szL_get_le (f := Ty.pd) hx
      obtain ⟨kind, name, labels, kids⟩ := t
      have c0 : wr.cell? ⟨g, off + k * 4, none⟩ = some (.int .i64 kind) := cell_lit hbr (by omega) (hcell k 0 _ _ hx (by rw [Ty.pd_mk]; rfl))
      have c1 : wr.cell? ⟨g, off + k * 4 + 1, none⟩ = some (.string name) := cell_lit hbr (by omega) (hcell k 1 _ _ hx (by rw [Ty.pd_mk]; rfl))
      obtain ⟨labelsV, c2, hr2⟩ : ∃ u, wr.cell? ⟨g, off + k * 4 + 2, none⟩ = some u ∧ Rep wr B (.row 1 (labels.flatMap strC)) u := cell_rep hbr (by omega) hB (hcell k 2 _ _ hx (by rw [Ty.pd_mk]; rfl))
      have HR2 := Lib.hid hr2
      clear hr2
      obtain ⟨kidsV, c3, hr3⟩ : ∃ u, wr.cell? ⟨g, off + k * 4 + 3, none⟩ = some u ∧ Rep wr B (.row 4 (kids.flatMap Ty.pd)) u := cell_rep hbr (by omega) hB (hcell k 3 _ _ hx (by rw [Ty.pd_mk]; rfl))
      have HR3 := Lib.hid hr3
      clear hr3
      have HX := Lib.hid hx
      have HL := Lib.hid hle
      have HM := Lib.hid hmem
      clear hx hcell hle hmem
      go_wp2_with fail
      refine (HI.out _ HM.out B [.int .i64 kind, .string name, labelsV, kidsV] _ (by omega) (by have := HS.out; have := HL.out; omega) (Ty.close_ HR2.out HR3.out)).mono ?_
      rintro e wq ⟨us, rfl, hl, hbq⟩
      obtain ⟨labelsA, labelsN, labelsC, kidsA, kidsN, kidsC, rfl⟩ := Ty.lopen hl
      have hlen := hl.len
      obtain ⟨F2, hh, hi2, _⟩ := hl
      obtain ⟨⟨u0, d0⟩, f0⟩ := hf.cell hbq hlt 0 (by decide)
      rw [Nat.add_zero] at d0 f0
      obtain ⟨⟨u1, d1⟩, f1⟩ := hf.cell hbq hlt 1 (by decide)
      obtain ⟨⟨u2, d2⟩, f2⟩ := hf.cell hbq hlt 2 (by decide)
      obtain ⟨⟨u3, d3⟩, f3⟩ := hf.cell hbq hlt 3 (by decide)
      have hnx := hf.next hbq (es := Ty.pd ⟨kind, name, labels, kids⟩) hh hi2 (hlen.trans (Ty.pd_length _)) hlt
      have HF := Lib.hid hnx
      clear hnx hf hh hi2 hlen
      go_wp2_with fail
      go_roundw
      case rel => exact ⟨k + 1, by omega, by go_num, by rw [List.take_add_one, HX.out, List.flatMap_append, opt_flat]; exact HF.out⟩
      case measure => simp [intOf]; omega
    · have hkn : k = n := by omega
      subst hkn
      have hfin : Lv wr w.heap.size wr.heap.size (.row 4 (ts.flatMap Ty.pd)) (.slice (some ⟨w.heap.size, 0, none⟩) k k) := by
        rw [List.take_of_length_le (by have := HN.out; omega)] at hf
        exact hf.done (by rw [flatMap_length Ty.pd_length]; rw [HN.out]) (Nat.le_refl _) (by simp only [maxLen]; omega)
      have hbr := hf.under.1
      clear hf
      go_wp2_with fail
      go_ret
      exact ⟨_, rfl, hfin, hbr⟩
set_option maxHeartbeats 1600000 in
theorem toType_step {kind : Int} {name : ByteArray} {labels : List ByteArray} {kids : List Ty} (ih_labels : ToR 91 (.row 1 (labels.flatMap strC))) (ih_kids : ToR 39 (.row 4 (kids.flatMap Ty.pd))) : ToC 63 (Ty.pd ⟨kind, name, labels, kids⟩) := by
  intro B cs w hB hsz h
  obtain ⟨labelsV, kidsV, rfl, r_labels, r_kids⟩ := Ty.open_ h
  have R_labels := Lib.hid r_labels
  clear r_labels
  have R_kids := Lib.hid r_kids
  clear r_kids
  simp only [Ty.pd_mk, PD.szL] at hsz
  have HS := Lib.hid hsz
  clear hsz
  go_enter Try.func63, Try.ntmps63
  go_wp2_with fail
  obtain ⟨w0, hw0⟩ : ∃ w0, w0 = ((w.alloc (.cells #[.int .i64 kind, .string name, labelsV, kidsV] 100)).alloc (.cells #[.int .i64 0, .string { data := #[] }, .slice none 0 0, .slice none 0 0] 76)).alloc (.cells #[.int .i64 kind, .string name, .slice none 0 0, .slice none 0 0] 76) := ⟨_, rfl⟩
  rw [← hw0]
  have bP : Blk w0 w.heap.size 100 #[.int .i64 kind, .string name, labelsV, kidsV] := by rw [hw0]; exact ((Blk.new w _ _).alloc _).alloc _
  have bR : Blk w0 (w.heap.size + 1) 76 #[.int .i64 0, .string { data := #[] }, .slice none 0 0, .slice none 0 0] := by rw [hw0]; have := (Blk.new (w.alloc (.cells #[.int .i64 kind, .string name, labelsV, kidsV] 100)) 76 #[.int .i64 0, .string { data := #[] }, .slice none 0 0, .slice none 0 0]).alloc (.cells #[.int .i64 kind, .string name, .slice none 0 0, .slice none 0 0] 76); simpa using this
  have bO : Blk w0 (w.heap.size + 1 + 1) 76 #[.int .i64 kind, .string name, .slice none 0 0, .slice none 0 0] := by rw [hw0]; have := Blk.new ((w.alloc (.cells #[.int .i64 kind, .string name, labelsV, kidsV] 100)).alloc (.cells #[.int .i64 0, .string { data := #[] }, .slice none 0 0, .slice none 0 0] 76)) 76 #[.int .i64 kind, .string name, .slice none 0 0, .slice none 0 0]; simpa using this
  have hB0 : Below w.heap.size w w0 := by rw [hw0]; exact (((Below.refl _ _).alloc (Nat.le_refl _) _).alloc (by simp) _).alloc (by simp; omega) _
  have hs0 : w.heap.size + 3 ≤ w0.heap.size := by rw [hw0]; simp
  clear hw0
  refine (ih_labels B labelsV _ (by have := hB0.size; omega) (by have := HS.out; omega) (R_labels.out.below (hB0.mono hB))).mono ?_
  rintro e w1 ⟨u_labels, rfl, l_labels, hb1⟩
  obtain ⟨labelsA, labelsN, labelsC, rfl⟩ := l_labels.form
  have hB1 := hB0.trans (hb1.mono hB0.size)
  have hs1 := hb1.size
  replace bP := bP.step hb1
  replace bR := bR.step hb1
  replace bO := bO.step hb1
  have fO1_2 := bO.frozen 2
  have cO1_2 : w1.cell? ⟨w.heap.size + 1 + 1, 2, none⟩ = some (.slice none 0 0) := bO.cell 2
  have cP1_3 : w1.cell? ⟨w.heap.size, 3, none⟩ = some (kidsV) := bP.cell 3
  go_wp2_with fail
  clear fO1_2 cO1_2 cP1_3
  obtain ⟨w2, hw2⟩ : ∃ W, W = (w1.setCell ⟨w.heap.size + 1 + 1, 2, none⟩ (.slice labelsA labelsN labelsC)) := ⟨_, rfl⟩
  rw [← hw2]
  replace bP : Blk w2 w.heap.size 100 #[.int .i64 kind, .string name, labelsV, kidsV] := by rw [hw2]; exact (bP.far (by simp; try omega) _)
  replace bR : Blk w2 (w.heap.size + 1) 76 #[.int .i64 0, .string { data := #[] }, .slice none 0 0, .slice none 0 0] := by rw [hw2]; exact (bR.far (by simp; try omega) _)
  replace bO : Blk w2 (w.heap.size + 1 + 1) 76 #[.int .i64 kind, .string name, .slice labelsA labelsN labelsC, .slice none 0 0] := by rw [hw2]; have := (bO.set_ 2 (.slice labelsA labelsN labelsC)); simpa using this
  have hB2 : Below w.heap.size w w2 := by rw [hw2]; exact (hB1.setCell (by simp; try omega) _)
  have hs2 : w1.heap.size ≤ w2.heap.size := by rw [hw2]; simp [World.setCell]
  replace l_labels := (l_labels.setCell (p := ⟨w.heap.size + 1 + 1, 2, none⟩) (.inl (by simp; omega)) (.slice labelsA labelsN labelsC))
  rw [← hw2] at l_labels
  clear hw2
  refine (ih_kids B kidsV _ (by have := hB2.size; omega) (by have := HS.out; omega) (R_kids.out.below (hB2.mono hB))).mono ?_
  rintro e w3 ⟨u_kids, rfl, l_kids, hb3⟩
  obtain ⟨kidsA, kidsN, kidsC, rfl⟩ := l_kids.form
  have hB3 := hB2.trans (hb3.mono hB2.size)
  have hs3 := hb3.size
  replace bP := bP.step hb3
  replace bR := bR.step hb3
  replace bO := bO.step hb3
  replace l_labels := l_labels.step hb3
  have fO3_3 := bO.frozen 3
  have cO3_3 : w3.cell? ⟨w.heap.size + 1 + 1, 3, none⟩ = some (.slice none 0 0) := bO.cell 3
  have fR0 := bR.frozen 0
  have cR0 : w3.cell? ⟨w.heap.size + 1, 0, none⟩ = some (.int .i64 0) := bR.cell 0
  have fR1 := bR.frozen 1
  have cR1 : w3.cell? ⟨w.heap.size + 1, 1, none⟩ = some (.string { data := #[] }) := bR.cell 1
  have fR2 := bR.frozen 2
  have cR2 : w3.cell? ⟨w.heap.size + 1, 2, none⟩ = some (.slice none 0 0) := bR.cell 2
  have fR3 := bR.frozen 3
  have cR3 : w3.cell? ⟨w.heap.size + 1, 3, none⟩ = some (.slice none 0 0) := bR.cell 3
  have cO3_0 : w3.cell? ⟨w.heap.size + 1 + 1, 0, none⟩ = some (.int .i64 kind) := bO.cell 0
  have cO3_1 : w3.cell? ⟨w.heap.size + 1 + 1, 1, none⟩ = some (.string name) := bO.cell 1
  have cO3_2 : w3.cell? ⟨w.heap.size + 1 + 1, 2, none⟩ = some (.slice labelsA labelsN labelsC) := bO.cell 2
  go_wp2_with fail
  clear bP bR bO
  refine bodyPost_ret (v := .agg #[.int .i64 kind, .string name, .slice labelsA labelsN labelsC, .slice kidsA kidsN kidsC]) (by simp [results, Try.results63, go_sem, cR0, cR1, cR2, cR3]) rfl ⟨[.int .i64 kind, .string name, .slice labelsA labelsN labelsC, .slice kidsA kidsN kidsC], rfl, ?_, ?_⟩
  · have base : LvC w3 w0.heap.size w3.heap.size [.lit (.int .i64 kind), .lit (.string name), .row 1 (labels.flatMap strC), .row 4 (kids.flatMap Ty.pd)] [.int .i64 kind, .string name, .slice labelsA labelsN labelsC, .slice kidsA kidsN kidsC] := by
      have := LvC.lit (LvC.lit (LvC.cons l_labels (LvC.cons l_kids (LvC.nil0 _) (by first | omega | (simp; omega)) (by first | omega | (simp; omega)) (by first | omega | (simp; omega))) (by first | omega | (simp; omega)) (by first | omega | (simp; omega)) (by first | omega | (simp; omega))) (.string name)) (.int .i64 kind)
      exact this
    rw [Ty.pd_mk]
    refine LvC.low (lo2 := w0.heap.size) ?_ (by omega)
    refine LvC.more (hi := w3.heap.size) ?_ (Nat.le_refl _) (by simp [World.setCell]) (Nat.le_refl _)
    iterate 5 (refine LvC.setCell ?_ (.inl (by simp; omega)) _)
    exact base
  · iterate 5 (refine Below.setCell ?_ (by simp; try omega) _)
    exact hB3
mutual
theorem toType_all : ∀ t : Ty, ToC 63 (Ty.pd t)
  | .mk kind name labels kids => toType_step toStringS_step (toTypeS_step (toType_mem kids))
theorem toType_mem : ∀ ts : List Ty, ∀ t ∈ ts, ToC 63 (Ty.pd t)
  | [], x, hx => absurd hx (by simp)
  | t :: r, x, hx => (List.mem_cons.1 hx).elim (fun e => e ▸ toType_all t) (fun h => toType_mem r x h)
end
theorem toTypeS_all (ts : List Ty) : ToR 39 (.row 4 (ts.flatMap Ty.pd)) := toTypeS_step fun t _ => toType_all t









set_option maxHeartbeats 1600000 in
theorem toIns_step {op : Int} {a : Int} : ToC 76 (Ins.pd ⟨op, a⟩) := by
  intro B cs w hB hsz h
  obtain rfl := Ins.open_ h
  clear hsz
  go_enter Try.func76, Try.ntmps76
  go_wp2
  refine bodyPost_ret (v := .agg #[.int .i64 op, .int .i64 a]) (by simp [results, Try.results76, go_sem]) rfl ⟨[.int .i64 op, .int .i64 a], rfl, ?_, ?_⟩
  · rw [Ins.pd_mk]
    exact ((LvC.nil _ _ _ (Nat.le_refl _)).lit _).lit _
  · repeat (first | exact Below.refl _ _ | refine Below.setCell ?_ (by simp) _ | refine Below.alloc ?_ (by simp; try omega) _)
theorem toIns_all (t : Ins) : ToC 76 (Ins.pd t) := by obtain ⟨op, a⟩ := t; exact toIns_step 

set_option maxHeartbeats 1600000 in
theorem toImport_step {name : ByteArray} {params : Int} {result : Bool} : ToC 57 (Imp.pd ⟨name, params, result⟩) := by
  intro B cs w hB hsz h
  obtain rfl := Imp.open_ h
  clear hsz
  go_enter Try.func57, Try.ntmps57
  go_wp2
  refine bodyPost_ret (v := .agg #[.string name, .int .i64 params, .bool result]) (by simp [results, Try.results57, go_sem]) rfl ⟨[.string name, .int .i64 params, .bool result], rfl, ?_, ?_⟩
  · rw [Imp.pd_mk]
    exact (((LvC.nil _ _ _ (Nat.le_refl _)).lit _).lit _).lit _
  · repeat (first | exact Below.refl _ _ | refine Below.setCell ?_ (by simp) _ | refine Below.alloc ?_ (by simp; try omega) _)
theorem toImport_all (t : Imp) : ToC 57 (Imp.pd t) := by obtain ⟨name, params, result⟩ := t; exact toImport_step 

theorem toInsS_info : (Try.prog.info? 95).map (fun i => (i.zero, i.size, i.bytes)) = some (some (.agg #[.int .i64 0, .int .i64 0]), 2, 16) := by kernel_rfl
set_option maxHeartbeats 1600000 in
theorem toInsS_step {ts : List Ins} (ih : ∀ t ∈ ts, ToC 76 (Ins.pd t)) : ToR 49 (.row 2 (ts.flatMap Ins.pd)) := by
  intro B v w hB hsz h
  rw [sz_row Ins.pd_length (by decide)] at hsz
  obtain ⟨A, n, c, rfl, hnl, hm, hat⟩ := rep_row Ins.pd_length (by decide) h
  obtain ⟨i0, hi, hz0, hz1, hz2⟩ := info_parts toInsS_info
  have hmk := fun W => run_make_rowN (P := Try.prog) 53 95 i0 _ Try.underlying53 hi hz0 .i64 .i64 n n (Nat.le_refl _) (by rw [hz2]; omega) (by omega) W
  rw [hz1] at hmk
  have hnn : n ≤ 1048576 := by omega
  have HN := Lib.hid hnl
  have HS := Lib.hid hsz
  have HI := Lib.hid ih
  clear ih
  clear h hnl hz0 hz1 hz2 hi hm hsz
  go_enter Try.func49, Try.ntmps49
  go_wp2
  clear hmk
  obtain ⟨W1, hW1⟩ : ∃ W1, W1 = w.alloc (.cells (madeCells #[.int .i64 0, .int .i64 0] (n * 2)) 95) := ⟨_, rfl⟩
  rw [← hW1]
  have hF : Fills w W1 w.heap.size n 2 ((ts.take 0).flatMap Ins.pd) 0 := by
    rw [hW1]
    exact Fills.start (cs := (madeCells #[.int .i64 0, .int .i64 0] (n * 2)).toList) (OwAt.new w _ _) (by simp [size_madeCells]) ((Below.refl _ _).alloc (Nat.le_refl _) _) (by simp)
  clear hW1
  go_loopw [4] (fun i wr => ∃ k : Nat, k ≤ n ∧ i = .int .i64 k ∧ Fills w wr w.heap.size n 2 ((ts.take k).flatMap Ins.pd) k) (fun i _ => n - (intOf i).toNat)
  case atStart => exact ⟨0, Nat.zero_le _, rfl, hF⟩
  case round =>
    obtain ⟨k, hk, rfl, hf⟩ := hrel
    clear hF
    by_cases hlt : k < n
    · obtain ⟨g, off, rfl, hg, hcell⟩ := hat (by omega)
      obtain ⟨t, hx, hmem⟩ := at_lt HN.out hlt
      obtain ⟨hbr, hg0⟩ := hf.under
      have hle := szL_get_le (f := Ins.pd) hx
      obtain ⟨op, a⟩ := t
      have c0 : wr.cell? ⟨g, off + k * 2, none⟩ = some (.int .i64 op) := cell_lit hbr (by omega) (hcell k 0 _ _ hx (by rw [Ins.pd_mk]; rfl))
      have c1 : wr.cell? ⟨g, off + k * 2 + 1, none⟩ = some (.int .i64 a) := cell_lit hbr (by omega) (hcell k 1 _ _ hx (by rw [Ins.pd_mk]; rfl))
      have HX := Lib.hid hx
      have HL := Lib.hid hle
      have HM := Lib.hid hmem
      clear hx hcell hle hmem
      go_wp2_with fail
      refine (HI.out _ HM.out B [.int .i64 op, .int .i64 a] _ (by omega) (by have := HS.out; have := HL.out; omega) (Ins.close_)).mono ?_
      rintro e wq ⟨us, rfl, hl, hbq⟩
      obtain rfl := Ins.lopen hl
      have hlen := hl.len
      obtain ⟨F2, hh, hi2, _⟩ := hl
      obtain ⟨⟨u0, d0⟩, f0⟩ := hf.cell hbq hlt 0 (by decide)
      rw [Nat.add_zero] at d0 f0
      obtain ⟨⟨u1, d1⟩, f1⟩ := hf.cell hbq hlt 1 (by decide)
      have hnx := hf.next hbq (es := Ins.pd ⟨op, a⟩) hh hi2 (hlen.trans (Ins.pd_length _)) hlt
      have HF := Lib.hid hnx
      clear hnx hf hh hi2 hlen
      go_wp2_with fail
      go_roundw
      case rel => exact ⟨k + 1, by omega, by go_num, by rw [List.take_add_one, HX.out, List.flatMap_append, opt_flat]; exact HF.out⟩
      case measure => simp [intOf]; omega
    · have hkn : k = n := by omega
      subst hkn
      have hfin : Lv wr w.heap.size wr.heap.size (.row 2 (ts.flatMap Ins.pd)) (.slice (some ⟨w.heap.size, 0, none⟩) k k) := by
        rw [List.take_of_length_le (by have := HN.out; omega)] at hf
        exact hf.done (by rw [flatMap_length Ins.pd_length]; rw [HN.out]) (Nat.le_refl _) (by simp only [maxLen]; omega)
      have hbr := hf.under.1
      clear hf
      go_wp2_with fail
      go_ret
      exact ⟨_, rfl, hfin, hbr⟩
theorem toInsS_all (ts : List Ins) : ToR 49 (.row 2 (ts.flatMap Ins.pd)) := toInsS_step fun t _ => toIns_all t

set_option maxHeartbeats 1600000 in
theorem toCore_step {name : ByteArray} {params : Int} {locals : Int} {result : Bool} {code : List Ins} (ih_code : ToR 49 (.row 2 (code.flatMap Ins.pd))) : ToC 18 (Core.pd ⟨name, params, locals, result, code⟩) := by
  intro B cs w hB hsz h
  obtain ⟨codeV, rfl, r_code⟩ := Core.open_ h
  have R_code := Lib.hid r_code
  clear r_code
  simp only [Core.pd_mk, PD.szL] at hsz
  have HS := Lib.hid hsz
  clear hsz
  go_enter Try.func18, Try.ntmps18
  go_wp2_with fail
  obtain ⟨w0, hw0⟩ : ∃ w0, w0 = ((w.alloc (.cells #[.string name, .int .i64 params, .int .i64 locals, .bool result, codeV] 48)).alloc (.cells #[.string { data := #[] }, .int .i64 0, .int .i64 0, .bool false, .slice none 0 0] 55)).alloc (.cells #[.string name, .int .i64 params, .int .i64 locals, .bool result, .slice none 0 0] 55) := ⟨_, rfl⟩
  rw [← hw0]
  have bP : Blk w0 w.heap.size 48 #[.string name, .int .i64 params, .int .i64 locals, .bool result, codeV] := by rw [hw0]; exact ((Blk.new w _ _).alloc _).alloc _
  have bR : Blk w0 (w.heap.size + 1) 55 #[.string { data := #[] }, .int .i64 0, .int .i64 0, .bool false, .slice none 0 0] := by rw [hw0]; have := (Blk.new (w.alloc (.cells #[.string name, .int .i64 params, .int .i64 locals, .bool result, codeV] 48)) 55 #[.string { data := #[] }, .int .i64 0, .int .i64 0, .bool false, .slice none 0 0]).alloc (.cells #[.string name, .int .i64 params, .int .i64 locals, .bool result, .slice none 0 0] 55); simpa using this
  have bO : Blk w0 (w.heap.size + 1 + 1) 55 #[.string name, .int .i64 params, .int .i64 locals, .bool result, .slice none 0 0] := by rw [hw0]; have := Blk.new ((w.alloc (.cells #[.string name, .int .i64 params, .int .i64 locals, .bool result, codeV] 48)).alloc (.cells #[.string { data := #[] }, .int .i64 0, .int .i64 0, .bool false, .slice none 0 0] 55)) 55 #[.string name, .int .i64 params, .int .i64 locals, .bool result, .slice none 0 0]; simpa using this
  have hB0 : Below w.heap.size w w0 := by rw [hw0]; exact (((Below.refl _ _).alloc (Nat.le_refl _) _).alloc (by simp) _).alloc (by simp; omega) _
  have hs0 : w.heap.size + 3 ≤ w0.heap.size := by rw [hw0]; simp
  clear hw0
  refine (ih_code B codeV _ (by have := hB0.size; omega) (by have := HS.out; omega) (R_code.out.below (hB0.mono hB))).mono ?_
  rintro e w1 ⟨u_code, rfl, l_code, hb1⟩
  obtain ⟨codeA, codeN, codeC, rfl⟩ := l_code.form
  have hB1 := hB0.trans (hb1.mono hB0.size)
  have hs1 := hb1.size
  replace bP := bP.step hb1
  replace bR := bR.step hb1
  replace bO := bO.step hb1
  have fO1_4 := bO.frozen 4
  have cO1_4 : w1.cell? ⟨w.heap.size + 1 + 1, 4, none⟩ = some (.slice none 0 0) := bO.cell 4
  have fR0 := bR.frozen 0
  have cR0 : w1.cell? ⟨w.heap.size + 1, 0, none⟩ = some (.string { data := #[] }) := bR.cell 0
  have fR1 := bR.frozen 1
  have cR1 : w1.cell? ⟨w.heap.size + 1, 1, none⟩ = some (.int .i64 0) := bR.cell 1
  have fR2 := bR.frozen 2
  have cR2 : w1.cell? ⟨w.heap.size + 1, 2, none⟩ = some (.int .i64 0) := bR.cell 2
  have fR3 := bR.frozen 3
  have cR3 : w1.cell? ⟨w.heap.size + 1, 3, none⟩ = some (.bool false) := bR.cell 3
  have fR4 := bR.frozen 4
  have cR4 : w1.cell? ⟨w.heap.size + 1, 4, none⟩ = some (.slice none 0 0) := bR.cell 4
  have cO1_0 : w1.cell? ⟨w.heap.size + 1 + 1, 0, none⟩ = some (.string name) := bO.cell 0
  have cO1_1 : w1.cell? ⟨w.heap.size + 1 + 1, 1, none⟩ = some (.int .i64 params) := bO.cell 1
  have cO1_2 : w1.cell? ⟨w.heap.size + 1 + 1, 2, none⟩ = some (.int .i64 locals) := bO.cell 2
  have cO1_3 : w1.cell? ⟨w.heap.size + 1 + 1, 3, none⟩ = some (.bool result) := bO.cell 3
  go_wp2_with fail
  clear bP bR bO
  refine bodyPost_ret (v := .agg #[.string name, .int .i64 params, .int .i64 locals, .bool result, .slice codeA codeN codeC]) (by simp [results, Try.results18, go_sem, cR0, cR1, cR2, cR3, cR4]) rfl ⟨[.string name, .int .i64 params, .int .i64 locals, .bool result, .slice codeA codeN codeC], rfl, ?_, ?_⟩
  · have base : LvC w1 w0.heap.size w1.heap.size [.lit (.string name), .lit (.int .i64 params), .lit (.int .i64 locals), .lit (.bool result), .row 2 (code.flatMap Ins.pd)] [.string name, .int .i64 params, .int .i64 locals, .bool result, .slice codeA codeN codeC] := by
      have := LvC.lit (LvC.lit (LvC.lit (LvC.lit (LvC.cons l_code (LvC.nil0 _) (by first | omega | (simp; omega)) (by first | omega | (simp; omega)) (by first | omega | (simp; omega))) (.bool result)) (.int .i64 locals)) (.int .i64 params)) (.string name)
      exact this
    rw [Core.pd_mk]
    refine LvC.low (lo2 := w0.heap.size) ?_ (by omega)
    refine LvC.more (hi := w1.heap.size) ?_ (Nat.le_refl _) (by simp [World.setCell]) (Nat.le_refl _)
    iterate 6 (refine LvC.setCell ?_ (.inl (by simp; omega)) _)
    exact base
  · iterate 6 (refine Below.setCell ?_ (by simp; try omega) _)
    exact hB1
theorem toCore_all (t : Core) : ToC 18 (Core.pd t) := by obtain ⟨name, params, locals, result, code⟩ := t; exact toCore_step (toInsS_all code)

theorem toImportS_info : (Try.prog.info? 65).map (fun i => (i.zero, i.size, i.bytes)) = some (some (.agg #[.string { data := #[] }, .int .i64 0, .bool false]), 3, 32) := by kernel_rfl
set_option maxHeartbeats 1600000 in
theorem toImportS_step {ts : List Imp} (ih : ∀ t ∈ ts, ToC 57 (Imp.pd t)) : ToR 28 (.row 3 (ts.flatMap Imp.pd)) := by
  intro B v w hB hsz h
  rw [sz_row Imp.pd_length (by decide)] at hsz
  obtain ⟨A, n, c, rfl, hnl, hm, hat⟩ := rep_row Imp.pd_length (by decide) h
  obtain ⟨i0, hi, hz0, hz1, hz2⟩ := info_parts toImportS_info
  have hmk := fun W => run_make_rowN (P := Try.prog) 28 65 i0 _ Try.underlying28 hi hz0 .i64 .i64 n n (Nat.le_refl _) (by rw [hz2]; omega) (by omega) W
  rw [hz1] at hmk
  have hnn : n ≤ 1048576 := by omega
  have HN := Lib.hid hnl
  have HS := Lib.hid hsz
  have HI := Lib.hid ih
  clear ih
  clear h hnl hz0 hz1 hz2 hi hm hsz
  go_enter Try.func28, Try.ntmps28
  go_wp2
  clear hmk
  obtain ⟨W1, hW1⟩ : ∃ W1, W1 = w.alloc (.cells (madeCells #[.string { data := #[] }, .int .i64 0, .bool false] (n * 3)) 65) := ⟨_, rfl⟩
  rw [← hW1]
  have hF : Fills w W1 w.heap.size n 3 ((ts.take 0).flatMap Imp.pd) 0 := by
    rw [hW1]
    exact Fills.start (cs := (madeCells #[.string { data := #[] }, .int .i64 0, .bool false] (n * 3)).toList) (OwAt.new w _ _) (by simp [size_madeCells]) ((Below.refl _ _).alloc (Nat.le_refl _) _) (by simp)
  clear hW1
  go_loopw [4] (fun i wr => ∃ k : Nat, k ≤ n ∧ i = .int .i64 k ∧ Fills w wr w.heap.size n 3 ((ts.take k).flatMap Imp.pd) k) (fun i _ => n - (intOf i).toNat)
  case atStart => exact ⟨0, Nat.zero_le _, rfl, hF⟩
  case round =>
    obtain ⟨k, hk, rfl, hf⟩ := hrel
    clear hF
    by_cases hlt : k < n
    · obtain ⟨g, off, rfl, hg, hcell⟩ := hat (by omega)
      obtain ⟨t, hx, hmem⟩ := at_lt HN.out hlt
      obtain ⟨hbr, hg0⟩ := hf.under
      have hle := szL_get_le (f := Imp.pd) hx
      obtain ⟨name, params, result⟩ := t
      have c0 : wr.cell? ⟨g, off + k * 3, none⟩ = some (.string name) := cell_lit hbr (by omega) (hcell k 0 _ _ hx (by rw [Imp.pd_mk]; rfl))
      have c1 : wr.cell? ⟨g, off + k * 3 + 1, none⟩ = some (.int .i64 params) := cell_lit hbr (by omega) (hcell k 1 _ _ hx (by rw [Imp.pd_mk]; rfl))
      have c2 : wr.cell? ⟨g, off + k * 3 + 2, none⟩ = some (.bool result) := cell_lit hbr (by omega) (hcell k 2 _ _ hx (by rw [Imp.pd_mk]; rfl))
      have HX := Lib.hid hx
      have HL := Lib.hid hle
      have HM := Lib.hid hmem
      clear hx hcell hle hmem
      go_wp2_with fail
      refine (HI.out _ HM.out B [.string name, .int .i64 params, .bool result] _ (by omega) (by have := HS.out; have := HL.out; omega) (Imp.close_)).mono ?_
      rintro e wq ⟨us, rfl, hl, hbq⟩
      obtain rfl := Imp.lopen hl
      have hlen := hl.len
      obtain ⟨F2, hh, hi2, _⟩ := hl
      obtain ⟨⟨u0, d0⟩, f0⟩ := hf.cell hbq hlt 0 (by decide)
      rw [Nat.add_zero] at d0 f0
      obtain ⟨⟨u1, d1⟩, f1⟩ := hf.cell hbq hlt 1 (by decide)
      obtain ⟨⟨u2, d2⟩, f2⟩ := hf.cell hbq hlt 2 (by decide)
      have hnx := hf.next hbq (es := Imp.pd ⟨name, params, result⟩) hh hi2 (hlen.trans (Imp.pd_length _)) hlt
      have HF := Lib.hid hnx
      clear hnx hf hh hi2 hlen
      go_wp2_with fail
      go_roundw
      case rel => exact ⟨k + 1, by omega, by go_num, by rw [List.take_add_one, HX.out, List.flatMap_append, opt_flat]; exact HF.out⟩
      case measure => simp [intOf]; omega
    · have hkn : k = n := by omega
      subst hkn
      have hfin : Lv wr w.heap.size wr.heap.size (.row 3 (ts.flatMap Imp.pd)) (.slice (some ⟨w.heap.size, 0, none⟩) k k) := by
        rw [List.take_of_length_le (by have := HN.out; omega)] at hf
        exact hf.done (by rw [flatMap_length Imp.pd_length]; rw [HN.out]) (Nat.le_refl _) (by simp only [maxLen]; omega)
      have hbr := hf.under.1
      clear hf
      go_wp2_with fail
      go_ret
      exact ⟨_, rfl, hfin, hbr⟩
theorem toImportS_all (ts : List Imp) : ToR 28 (.row 3 (ts.flatMap Imp.pd)) := toImportS_step fun t _ => toImport_all t

theorem toCoreS_info : (Try.prog.info? 55).map (fun i => (i.zero, i.size, i.bytes)) = some (some (.agg #[.string { data := #[] }, .int .i64 0, .int .i64 0, .bool false, .slice none 0 0]), 5, 64) := by kernel_rfl
set_option maxHeartbeats 1600000 in
theorem toCoreS_step {ts : List Core} (ih : ∀ t ∈ ts, ToC 18 (Core.pd t)) : ToR 29 (.row 5 (ts.flatMap Core.pd)) := by
  intro B v w hB hsz h
  rw [sz_row Core.pd_length (by decide)] at hsz
  obtain ⟨A, n, c, rfl, hnl, hm, hat⟩ := rep_row Core.pd_length (by decide) h
  obtain ⟨i0, hi, hz0, hz1, hz2⟩ := info_parts toCoreS_info
  have hmk := fun W => run_make_rowN (P := Try.prog) 29 55 i0 _ Try.underlying29 hi hz0 .i64 .i64 n n (Nat.le_refl _) (by rw [hz2]; omega) (by omega) W
  rw [hz1] at hmk
  have hnn : n ≤ 1048576 := by omega
  have HN := Lib.hid hnl
  have HS := Lib.hid hsz
  have HI := Lib.hid ih
  clear ih
  clear h hnl hz0 hz1 hz2 hi hm hsz
  go_enter Try.func29, Try.ntmps29
  go_wp2
  clear hmk
  obtain ⟨W1, hW1⟩ : ∃ W1, W1 = w.alloc (.cells (madeCells #[.string { data := #[] }, .int .i64 0, .int .i64 0, .bool false, .slice none 0 0] (n * 5)) 55) := ⟨_, rfl⟩
  rw [← hW1]
  have hF : Fills w W1 w.heap.size n 5 ((ts.take 0).flatMap Core.pd) 0 := by
    rw [hW1]
    exact Fills.start (cs := (madeCells #[.string { data := #[] }, .int .i64 0, .int .i64 0, .bool false, .slice none 0 0] (n * 5)).toList) (OwAt.new w _ _) (by simp [size_madeCells]) ((Below.refl _ _).alloc (Nat.le_refl _) _) (by simp)
  clear hW1
  go_loopw [4] (fun i wr => ∃ k : Nat, k ≤ n ∧ i = .int .i64 k ∧ Fills w wr w.heap.size n 5 ((ts.take k).flatMap Core.pd) k) (fun i _ => n - (intOf i).toNat)
  case atStart => exact ⟨0, Nat.zero_le _, rfl, hF⟩
  case round =>
    obtain ⟨k, hk, rfl, hf⟩ := hrel
    clear hF
    by_cases hlt : k < n
    · obtain ⟨g, off, rfl, hg, hcell⟩ := hat (by omega)
      obtain ⟨t, hx, hmem⟩ := at_lt HN.out hlt
      obtain ⟨hbr, hg0⟩ := hf.under
      have hle := szL_get_le (f := Core.pd) hx
      obtain ⟨name, params, locals, result, code⟩ := t
      have c0 : wr.cell? ⟨g, off + k * 5, none⟩ = some (.string name) := cell_lit hbr (by omega) (hcell k 0 _ _ hx (by rw [Core.pd_mk]; rfl))
      have c1 : wr.cell? ⟨g, off + k * 5 + 1, none⟩ = some (.int .i64 params) := cell_lit hbr (by omega) (hcell k 1 _ _ hx (by rw [Core.pd_mk]; rfl))
      have c2 : wr.cell? ⟨g, off + k * 5 + 2, none⟩ = some (.int .i64 locals) := cell_lit hbr (by omega) (hcell k 2 _ _ hx (by rw [Core.pd_mk]; rfl))
      have c3 : wr.cell? ⟨g, off + k * 5 + 3, none⟩ = some (.bool result) := cell_lit hbr (by omega) (hcell k 3 _ _ hx (by rw [Core.pd_mk]; rfl))
      obtain ⟨codeV, c4, hr4⟩ : ∃ u, wr.cell? ⟨g, off + k * 5 + 4, none⟩ = some u ∧ Rep wr B (.row 2 (code.flatMap Ins.pd)) u := cell_rep hbr (by omega) hB (hcell k 4 _ _ hx (by rw [Core.pd_mk]; rfl))
      have HR4 := Lib.hid hr4
      clear hr4
      have HX := Lib.hid hx
      have HL := Lib.hid hle
      have HM := Lib.hid hmem
      clear hx hcell hle hmem
      go_wp2_with fail
      refine (HI.out _ HM.out B [.string name, .int .i64 params, .int .i64 locals, .bool result, codeV] _ (by omega) (by have := HS.out; have := HL.out; omega) (Core.close_ HR4.out)).mono ?_
      rintro e wq ⟨us, rfl, hl, hbq⟩
      obtain ⟨codeA, codeN, codeC, rfl⟩ := Core.lopen hl
      have hlen := hl.len
      obtain ⟨F2, hh, hi2, _⟩ := hl
      obtain ⟨⟨u0, d0⟩, f0⟩ := hf.cell hbq hlt 0 (by decide)
      rw [Nat.add_zero] at d0 f0
      obtain ⟨⟨u1, d1⟩, f1⟩ := hf.cell hbq hlt 1 (by decide)
      obtain ⟨⟨u2, d2⟩, f2⟩ := hf.cell hbq hlt 2 (by decide)
      obtain ⟨⟨u3, d3⟩, f3⟩ := hf.cell hbq hlt 3 (by decide)
      obtain ⟨⟨u4, d4⟩, f4⟩ := hf.cell hbq hlt 4 (by decide)
      have hnx := hf.next hbq (es := Core.pd ⟨name, params, locals, result, code⟩) hh hi2 (hlen.trans (Core.pd_length _)) hlt
      have HF := Lib.hid hnx
      clear hnx hf hh hi2 hlen
      go_wp2_with fail
      go_roundw
      case rel => exact ⟨k + 1, by omega, by go_num, by rw [List.take_add_one, HX.out, List.flatMap_append, opt_flat]; exact HF.out⟩
      case measure => simp [intOf]; omega
    · have hkn : k = n := by omega
      subst hkn
      have hfin : Lv wr w.heap.size wr.heap.size (.row 5 (ts.flatMap Core.pd)) (.slice (some ⟨w.heap.size, 0, none⟩) k k) := by
        rw [List.take_of_length_le (by have := HN.out; omega)] at hf
        exact hf.done (by rw [flatMap_length Core.pd_length]; rw [HN.out]) (Nat.le_refl _) (by simp only [maxLen]; omega)
      have hbr := hf.under.1
      clear hf
      go_wp2_with fail
      go_ret
      exact ⟨_, rfl, hfin, hbr⟩
theorem toCoreS_all (ts : List Core) : ToR 29 (.row 5 (ts.flatMap Core.pd)) := toCoreS_step fun t _ => toCore_all t

set_option maxHeartbeats 1600000 in
theorem toModule_step {pages : Int} {imports : List Imp} {cores : List Core} (ih_imports : ToR 28 (.row 3 (imports.flatMap Imp.pd))) (ih_cores : ToR 29 (.row 5 (cores.flatMap Core.pd))) : ToC 8 (Mod.pd ⟨pages, imports, cores⟩) := by
  intro B cs w hB hsz h
  obtain ⟨importsV, coresV, rfl, r_imports, r_cores⟩ := Mod.open_ h
  have R_imports := Lib.hid r_imports
  clear r_imports
  have R_cores := Lib.hid r_cores
  clear r_cores
  simp only [Mod.pd_mk, PD.szL] at hsz
  have HS := Lib.hid hsz
  clear hsz
  go_enter Try.func8, Try.ntmps8
  go_wp2_with fail
  obtain ⟨w0, hw0⟩ : ∃ w0, w0 = ((w.alloc (.cells #[.int .i64 pages, importsV, coresV] 25)).alloc (.cells #[.int .i64 0, .slice none 0 0, .slice none 0 0] 31)).alloc (.cells #[.int .i64 pages, .slice none 0 0, .slice none 0 0] 31) := ⟨_, rfl⟩
  rw [← hw0]
  have bP : Blk w0 w.heap.size 25 #[.int .i64 pages, importsV, coresV] := by rw [hw0]; exact ((Blk.new w _ _).alloc _).alloc _
  have bR : Blk w0 (w.heap.size + 1) 31 #[.int .i64 0, .slice none 0 0, .slice none 0 0] := by rw [hw0]; have := (Blk.new (w.alloc (.cells #[.int .i64 pages, importsV, coresV] 25)) 31 #[.int .i64 0, .slice none 0 0, .slice none 0 0]).alloc (.cells #[.int .i64 pages, .slice none 0 0, .slice none 0 0] 31); simpa using this
  have bO : Blk w0 (w.heap.size + 1 + 1) 31 #[.int .i64 pages, .slice none 0 0, .slice none 0 0] := by rw [hw0]; have := Blk.new ((w.alloc (.cells #[.int .i64 pages, importsV, coresV] 25)).alloc (.cells #[.int .i64 0, .slice none 0 0, .slice none 0 0] 31)) 31 #[.int .i64 pages, .slice none 0 0, .slice none 0 0]; simpa using this
  have hB0 : Below w.heap.size w w0 := by rw [hw0]; exact (((Below.refl _ _).alloc (Nat.le_refl _) _).alloc (by simp) _).alloc (by simp; omega) _
  have hs0 : w.heap.size + 3 ≤ w0.heap.size := by rw [hw0]; simp
  clear hw0
  refine (ih_imports B importsV _ (by have := hB0.size; omega) (by have := HS.out; omega) (R_imports.out.below (hB0.mono hB))).mono ?_
  rintro e w1 ⟨u_imports, rfl, l_imports, hb1⟩
  obtain ⟨importsA, importsN, importsC, rfl⟩ := l_imports.form
  have hB1 := hB0.trans (hb1.mono hB0.size)
  have hs1 := hb1.size
  replace bP := bP.step hb1
  replace bR := bR.step hb1
  replace bO := bO.step hb1
  have fO1_1 := bO.frozen 1
  have cO1_1 : w1.cell? ⟨w.heap.size + 1 + 1, 1, none⟩ = some (.slice none 0 0) := bO.cell 1
  have cP1_2 : w1.cell? ⟨w.heap.size, 2, none⟩ = some (coresV) := bP.cell 2
  go_wp2_with fail
  clear fO1_1 cO1_1 cP1_2
  obtain ⟨w2, hw2⟩ : ∃ W, W = (w1.setCell ⟨w.heap.size + 1 + 1, 1, none⟩ (.slice importsA importsN importsC)) := ⟨_, rfl⟩
  rw [← hw2]
  replace bP : Blk w2 w.heap.size 25 #[.int .i64 pages, importsV, coresV] := by rw [hw2]; exact (bP.far (by simp; try omega) _)
  replace bR : Blk w2 (w.heap.size + 1) 31 #[.int .i64 0, .slice none 0 0, .slice none 0 0] := by rw [hw2]; exact (bR.far (by simp; try omega) _)
  replace bO : Blk w2 (w.heap.size + 1 + 1) 31 #[.int .i64 pages, .slice importsA importsN importsC, .slice none 0 0] := by rw [hw2]; have := (bO.set_ 1 (.slice importsA importsN importsC)); simpa using this
  have hB2 : Below w.heap.size w w2 := by rw [hw2]; exact (hB1.setCell (by simp; try omega) _)
  have hs2 : w1.heap.size ≤ w2.heap.size := by rw [hw2]; simp [World.setCell]
  replace l_imports := (l_imports.setCell (p := ⟨w.heap.size + 1 + 1, 1, none⟩) (.inl (by simp; omega)) (.slice importsA importsN importsC))
  rw [← hw2] at l_imports
  clear hw2
  refine (ih_cores B coresV _ (by have := hB2.size; omega) (by have := HS.out; omega) (R_cores.out.below (hB2.mono hB))).mono ?_
  rintro e w3 ⟨u_cores, rfl, l_cores, hb3⟩
  obtain ⟨coresA, coresN, coresC, rfl⟩ := l_cores.form
  have hB3 := hB2.trans (hb3.mono hB2.size)
  have hs3 := hb3.size
  replace bP := bP.step hb3
  replace bR := bR.step hb3
  replace bO := bO.step hb3
  replace l_imports := l_imports.step hb3
  have fO3_2 := bO.frozen 2
  have cO3_2 : w3.cell? ⟨w.heap.size + 1 + 1, 2, none⟩ = some (.slice none 0 0) := bO.cell 2
  have fR0 := bR.frozen 0
  have cR0 : w3.cell? ⟨w.heap.size + 1, 0, none⟩ = some (.int .i64 0) := bR.cell 0
  have fR1 := bR.frozen 1
  have cR1 : w3.cell? ⟨w.heap.size + 1, 1, none⟩ = some (.slice none 0 0) := bR.cell 1
  have fR2 := bR.frozen 2
  have cR2 : w3.cell? ⟨w.heap.size + 1, 2, none⟩ = some (.slice none 0 0) := bR.cell 2
  have cO3_0 : w3.cell? ⟨w.heap.size + 1 + 1, 0, none⟩ = some (.int .i64 pages) := bO.cell 0
  have cO3_1 : w3.cell? ⟨w.heap.size + 1 + 1, 1, none⟩ = some (.slice importsA importsN importsC) := bO.cell 1
  go_wp2_with fail
  clear bP bR bO
  refine bodyPost_ret (v := .agg #[.int .i64 pages, .slice importsA importsN importsC, .slice coresA coresN coresC]) (by simp [results, Try.results8, go_sem, cR0, cR1, cR2]) rfl ⟨[.int .i64 pages, .slice importsA importsN importsC, .slice coresA coresN coresC], rfl, ?_, ?_⟩
  · have base : LvC w3 w0.heap.size w3.heap.size [.lit (.int .i64 pages), .row 3 (imports.flatMap Imp.pd), .row 5 (cores.flatMap Core.pd)] [.int .i64 pages, .slice importsA importsN importsC, .slice coresA coresN coresC] := by
      have := LvC.lit (LvC.cons l_imports (LvC.cons l_cores (LvC.nil0 _) (by first | omega | (simp; omega)) (by first | omega | (simp; omega)) (by first | omega | (simp; omega))) (by first | omega | (simp; omega)) (by first | omega | (simp; omega)) (by first | omega | (simp; omega))) (.int .i64 pages)
      exact this
    rw [Mod.pd_mk]
    refine LvC.low (lo2 := w0.heap.size) ?_ (by omega)
    refine LvC.more (hi := w3.heap.size) ?_ (Nat.le_refl _) (by simp [World.setCell]) (Nat.le_refl _)
    iterate 4 (refine LvC.setCell ?_ (.inl (by simp; omega)) _)
    exact base
  · iterate 4 (refine Below.setCell ?_ (by simp; try omega) _)
    exact hB3
theorem toModule_all (t : Mod) : ToC 8 (Mod.pd t) := by obtain ⟨pages, imports, cores⟩ := t; exact toModule_step (toImportS_all imports) (toCoreS_all cores)


theorem toMoveS_info : (Try.prog.info? 108).map (fun i => (i.zero, i.size, i.bytes)) = some (some (.agg #[.int .i64 0, .int .i64 0, .int .i64 0, .int .i64 0, .int .i64 0, .int .i64 0, .string { data := #[] }, .slice none 0 0]), 8, 88) := by kernel_rfl
set_option maxHeartbeats 1600000 in
theorem toMoveS_step {ts : List Move} (ih : ∀ t ∈ ts, ToC 64 (Move.pd t)) : ToR 40 (.row 8 (ts.flatMap Move.pd)) := by
  intro B v w hB hsz h
  rw [sz_row Move.pd_length (by decide)] at hsz
  obtain ⟨A, n, c, rfl, hnl, hm, hat⟩ := rep_row Move.pd_length (by decide) h
  obtain ⟨i0, hi, hz0, hz1, hz2⟩ := info_parts toMoveS_info
  have hmk := fun W => run_make_rowN (P := Try.prog) 41 108 i0 _ Try.underlying41 hi hz0 .i64 .i64 n n (Nat.le_refl _) (by rw [hz2]; omega) (by omega) W
  rw [hz1] at hmk
  have hnn : n ≤ 1048576 := by omega
  have HN := Lib.hid hnl
  have HS := Lib.hid hsz
  have HI := Lib.hid ih
  clear ih
  clear h hnl hz0 hz1 hz2 hi hm hsz
  go_enter Try.func40, Try.ntmps40
  go_wp2
  clear hmk
  obtain ⟨W1, hW1⟩ : ∃ W1, W1 = w.alloc (.cells (madeCells #[.int .i64 0, .int .i64 0, .int .i64 0, .int .i64 0, .int .i64 0, .int .i64 0, .string { data := #[] }, .slice none 0 0] (n * 8)) 108) := ⟨_, rfl⟩
  rw [← hW1]
  have hF : Fills w W1 w.heap.size n 8 ((ts.take 0).flatMap Move.pd) 0 := by
    rw [hW1]
    exact Fills.start (cs := (madeCells #[.int .i64 0, .int .i64 0, .int .i64 0, .int .i64 0, .int .i64 0, .int .i64 0, .string { data := #[] }, .slice none 0 0] (n * 8)).toList) (OwAt.new w _ _) (by simp [size_madeCells]) ((Below.refl _ _).alloc (Nat.le_refl _) _) (by simp)
  clear hW1
  go_loopw [4] (fun i wr => ∃ k : Nat, k ≤ n ∧ i = .int .i64 k ∧ Fills w wr w.heap.size n 8 ((ts.take k).flatMap Move.pd) k) (fun i _ => n - (intOf i).toNat)
  case atStart => exact ⟨0, Nat.zero_le _, rfl, hF⟩
  case round =>
    obtain ⟨k, hk, rfl, hf⟩ := hrel
    clear hF
    by_cases hlt : k < n
    · obtain ⟨g, off, rfl, hg, hcell⟩ := hat (by omega)
      obtain ⟨t, hx, hmem⟩ := at_lt HN.out hlt
      obtain ⟨hbr, hg0⟩ := hf.under
      have hle := szL_get_le (f := Move.pd) hx
      obtain ⟨kind, at_, size, align, typ, most, name, kids⟩ := t
      have c0 : wr.cell? ⟨g, off + k * 8, none⟩ = some (.int .i64 kind) := cell_lit hbr (by omega) (hcell k 0 _ _ hx (by rw [Move.pd_mk]; rfl))
      have c1 : wr.cell? ⟨g, off + k * 8 + 1, none⟩ = some (.int .i64 at_) := cell_lit hbr (by omega) (hcell k 1 _ _ hx (by rw [Move.pd_mk]; rfl))
      have c2 : wr.cell? ⟨g, off + k * 8 + 2, none⟩ = some (.int .i64 size) := cell_lit hbr (by omega) (hcell k 2 _ _ hx (by rw [Move.pd_mk]; rfl))
      have c3 : wr.cell? ⟨g, off + k * 8 + 3, none⟩ = some (.int .i64 align) := cell_lit hbr (by omega) (hcell k 3 _ _ hx (by rw [Move.pd_mk]; rfl))
      have c4 : wr.cell? ⟨g, off + k * 8 + 4, none⟩ = some (.int .i64 typ) := cell_lit hbr (by omega) (hcell k 4 _ _ hx (by rw [Move.pd_mk]; rfl))
      have c5 : wr.cell? ⟨g, off + k * 8 + 5, none⟩ = some (.int .i64 most) := cell_lit hbr (by omega) (hcell k 5 _ _ hx (by rw [Move.pd_mk]; rfl))
      have c6 : wr.cell? ⟨g, off + k * 8 + 6, none⟩ = some (.string name) := cell_lit hbr (by omega) (hcell k 6 _ _ hx (by rw [Move.pd_mk]; rfl))
      obtain ⟨kidsV, c7, hr7⟩ : ∃ u, wr.cell? ⟨g, off + k * 8 + 7, none⟩ = some u ∧ Rep wr B (.row 1 (kids.flatMap rowCMoveS)) u := cell_rep hbr (by omega) hB (hcell k 7 _ _ hx (by rw [Move.pd_mk]; rfl))
      have HR7 := Lib.hid hr7
      clear hr7
      have HX := Lib.hid hx
      have HL := Lib.hid hle
      have HM := Lib.hid hmem
      clear hx hcell hle hmem
      go_wp2_with fail
      refine (HI.out _ HM.out B [.int .i64 kind, .int .i64 at_, .int .i64 size, .int .i64 align, .int .i64 typ, .int .i64 most, .string name, kidsV] _ (by omega) (by have := HS.out; have := HL.out; omega) (Move.close_ HR7.out)).mono ?_
      rintro e wq ⟨us, rfl, hl, hbq⟩
      obtain ⟨kidsA, kidsN, kidsC, rfl⟩ := Move.lopen hl
      have hlen := hl.len
      obtain ⟨F2, hh, hi2, _⟩ := hl
      obtain ⟨⟨u0, d0⟩, f0⟩ := hf.cell hbq hlt 0 (by decide)
      rw [Nat.add_zero] at d0 f0
      obtain ⟨⟨u1, d1⟩, f1⟩ := hf.cell hbq hlt 1 (by decide)
      obtain ⟨⟨u2, d2⟩, f2⟩ := hf.cell hbq hlt 2 (by decide)
      obtain ⟨⟨u3, d3⟩, f3⟩ := hf.cell hbq hlt 3 (by decide)
      obtain ⟨⟨u4, d4⟩, f4⟩ := hf.cell hbq hlt 4 (by decide)
      obtain ⟨⟨u5, d5⟩, f5⟩ := hf.cell hbq hlt 5 (by decide)
      obtain ⟨⟨u6, d6⟩, f6⟩ := hf.cell hbq hlt 6 (by decide)
      obtain ⟨⟨u7, d7⟩, f7⟩ := hf.cell hbq hlt 7 (by decide)
      have hnx := hf.next hbq (es := Move.pd ⟨kind, at_, size, align, typ, most, name, kids⟩) hh hi2 (hlen.trans (Move.pd_length _)) hlt
      have HF := Lib.hid hnx
      clear hnx hf hh hi2 hlen
      go_wp2_with fail
      go_roundw
      case rel => exact ⟨k + 1, by omega, by go_num, by rw [List.take_add_one, HX.out, List.flatMap_append, opt_flat]; exact HF.out⟩
      case measure => simp [intOf]; omega
    · have hkn : k = n := by omega
      subst hkn
      have hfin : Lv wr w.heap.size wr.heap.size (.row 8 (ts.flatMap Move.pd)) (.slice (some ⟨w.heap.size, 0, none⟩) k k) := by
        rw [List.take_of_length_le (by have := HN.out; omega)] at hf
        exact hf.done (by rw [flatMap_length Move.pd_length]; rw [HN.out]) (Nat.le_refl _) (by simp only [maxLen]; omega)
      have hbr := hf.under.1
      clear hf
      go_wp2_with fail
      go_ret
      exact ⟨_, rfl, hfin, hbr⟩
theorem toMoveSS_info : (Try.prog.info? 41).map (fun i => (i.zero, i.size, i.bytes)) = some (some (.slice none 0 0), 1, 24) := by kernel_rfl
set_option maxHeartbeats 1600000 in
theorem toMoveSS_step {ts : List (List Move)} (ih : ∀ t ∈ ts, ToR 40 (.row 8 (t.flatMap Move.pd))) : ToR 92 (.row 1 (ts.flatMap rowCMoveS)) := by
  intro B v w hB hsz h
  rw [sz_row rowCMoveS_length (by decide)] at hsz
  obtain ⟨A, n, c, rfl, hnl, hm, hat⟩ := rep_row rowCMoveS_length (by decide) h
  obtain ⟨i0, hi, hz0, hz1, hz2⟩ := info_parts toMoveSS_info
  have hmk := fun W => run_make_rowN (P := Try.prog) 106 41 i0 _ Try.underlying106 hi hz0 .i64 .i64 n n (Nat.le_refl _) (by rw [hz2]; omega) (by omega) W
  rw [hz1, Nat.mul_one] at hmk
  have hnn : n ≤ 1048576 := by omega
  have HN := Lib.hid hnl
  have HS := Lib.hid hsz
  have HI := Lib.hid ih
  clear ih
  clear h hnl hz0 hz1 hz2 hi hm hsz
  go_enter Try.func92, Try.ntmps92
  go_wp2
  clear hmk
  obtain ⟨W1, hW1⟩ : ∃ W1, W1 = w.alloc (.cells (madeCells #[.slice none 0 0] (n)) 41) := ⟨_, rfl⟩
  rw [← hW1]
  have hF : Fills w W1 w.heap.size n 1 ((ts.take 0).flatMap rowCMoveS) 0 := by
    rw [hW1]
    exact Fills.start (cs := (madeCells #[.slice none 0 0] (n)).toList) (OwAt.new w _ _) (by simp [size_madeCells]) ((Below.refl _ _).alloc (Nat.le_refl _) _) (by simp)
  clear hW1
  go_loopw [4] (fun i wr => ∃ k : Nat, k ≤ n ∧ i = .int .i64 k ∧ Fills w wr w.heap.size n 1 ((ts.take k).flatMap rowCMoveS) k) (fun i _ => n - (intOf i).toNat)
  case atStart => exact ⟨0, Nat.zero_le _, rfl, hF⟩
  case round =>
    obtain ⟨k, hk, rfl, hf⟩ := hrel
    clear hF
    by_cases hlt : k < n
    · obtain ⟨g, off, rfl, hg, hcell⟩ := hat (by omega)
      obtain ⟨t, hx, hmem⟩ := at_lt HN.out hlt
      obtain ⟨hbr, hg0⟩ := hf.under
      have hle := szL_get_le (f := rowCMoveS) hx
      obtain ⟨tV, c0, hr0⟩ : ∃ u, wr.cell? ⟨g, off + k, none⟩ = some u ∧ Rep wr B (.row 8 (t.flatMap Move.pd)) u := cell_rep hbr (by omega) hB (by have := hcell k 0 _ _ hx rfl; simpa using this)
      have HR0 := Lib.hid hr0
      clear hr0
      have HX := Lib.hid hx
      have HL := Lib.hid hle
      have HM := Lib.hid hmem
      clear hx hcell hle hmem
      go_wp2_with fail
      refine (HI.out _ HM.out B tV _ (by omega) (by have := HS.out; have := HL.out; simp only [rowCMoveS, PD.szL] at this; omega) HR0.out).mono ?_
      rintro e wq ⟨us, rfl, hl, hbq⟩
      obtain ⟨uA, uN, uC, rfl⟩ := hl.form
      obtain ⟨F2, hh, hi2, _⟩ := hl
      obtain ⟨⟨u0, d0⟩, f0⟩ := hf.cell hbq hlt 0 (by decide)
      rw [Nat.add_zero, Nat.mul_one] at d0 f0
      have hnx := hf.next hbq (es := rowCMoveS t) (by have := HoldL.cons hh (HoldL.nil _); simpa [rowCMoveS] using this) hi2 (rfl) hlt
      rw [Nat.mul_one] at hnx
      have HF := Lib.hid hnx
      clear hnx hf hh hi2
      go_wp2_with fail
      go_roundw
      case rel => exact ⟨k + 1, by omega, by go_num, by rw [List.take_add_one, HX.out, List.flatMap_append, opt_flat]; exact HF.out⟩
      case measure => simp [intOf]; omega
    · have hkn : k = n := by omega
      subst hkn
      have hfin : Lv wr w.heap.size wr.heap.size (.row 1 (ts.flatMap rowCMoveS)) (.slice (some ⟨w.heap.size, 0, none⟩) k k) := by
        rw [List.take_of_length_le (by have := HN.out; omega)] at hf
        exact hf.done (by rw [flatMap_length rowCMoveS_length]; rw [HN.out]) (Nat.le_refl _) (by simp only [maxLen]; omega)
      have hbr := hf.under.1
      clear hf
      go_wp2_with fail
      go_ret
      exact ⟨_, rfl, hfin, hbr⟩
set_option maxHeartbeats 1600000 in
theorem toMove_step {kind : Int} {at_ : Int} {size : Int} {align : Int} {typ : Int} {most : Int} {name : ByteArray} {kids : List (List Move)} (ih_kids : ToR 92 (.row 1 (kids.flatMap rowCMoveS))) : ToC 64 (Move.pd ⟨kind, at_, size, align, typ, most, name, kids⟩) := by
  intro B cs w hB hsz h
  obtain ⟨kidsV, rfl, r_kids⟩ := Move.open_ h
  have R_kids := Lib.hid r_kids
  clear r_kids
  simp only [Move.pd_mk, PD.szL] at hsz
  have HS := Lib.hid hsz
  clear hsz
  go_enter Try.func64, Try.ntmps64
  go_wp2_with fail
  obtain ⟨w0, hw0⟩ : ∃ w0, w0 = ((w.alloc (.cells #[.int .i64 kind, .int .i64 at_, .int .i64 size, .int .i64 align, .int .i64 typ, .int .i64 most, .string name, kidsV] 104)).alloc (.cells #[.int .i64 0, .int .i64 0, .int .i64 0, .int .i64 0, .int .i64 0, .int .i64 0, .string { data := #[] }, .slice none 0 0] 108)).alloc (.cells #[.int .i64 kind, .int .i64 at_, .int .i64 size, .int .i64 align, .int .i64 typ, .int .i64 most, .string name, .slice none 0 0] 108) := ⟨_, rfl⟩
  rw [← hw0]
  have bP : Blk w0 w.heap.size 104 #[.int .i64 kind, .int .i64 at_, .int .i64 size, .int .i64 align, .int .i64 typ, .int .i64 most, .string name, kidsV] := by rw [hw0]; exact ((Blk.new w _ _).alloc _).alloc _
  have bR : Blk w0 (w.heap.size + 1) 108 #[.int .i64 0, .int .i64 0, .int .i64 0, .int .i64 0, .int .i64 0, .int .i64 0, .string { data := #[] }, .slice none 0 0] := by rw [hw0]; have := (Blk.new (w.alloc (.cells #[.int .i64 kind, .int .i64 at_, .int .i64 size, .int .i64 align, .int .i64 typ, .int .i64 most, .string name, kidsV] 104)) 108 #[.int .i64 0, .int .i64 0, .int .i64 0, .int .i64 0, .int .i64 0, .int .i64 0, .string { data := #[] }, .slice none 0 0]).alloc (.cells #[.int .i64 kind, .int .i64 at_, .int .i64 size, .int .i64 align, .int .i64 typ, .int .i64 most, .string name, .slice none 0 0] 108); simpa using this
  have bO : Blk w0 (w.heap.size + 1 + 1) 108 #[.int .i64 kind, .int .i64 at_, .int .i64 size, .int .i64 align, .int .i64 typ, .int .i64 most, .string name, .slice none 0 0] := by rw [hw0]; have := Blk.new ((w.alloc (.cells #[.int .i64 kind, .int .i64 at_, .int .i64 size, .int .i64 align, .int .i64 typ, .int .i64 most, .string name, kidsV] 104)).alloc (.cells #[.int .i64 0, .int .i64 0, .int .i64 0, .int .i64 0, .int .i64 0, .int .i64 0, .string { data := #[] }, .slice none 0 0] 108)) 108 #[.int .i64 kind, .int .i64 at_, .int .i64 size, .int .i64 align, .int .i64 typ, .int .i64 most, .string name, .slice none 0 0]; simpa using this
  have hB0 : Below w.heap.size w w0 := by rw [hw0]; exact (((Below.refl _ _).alloc (Nat.le_refl _) _).alloc (by simp) _).alloc (by simp; omega) _
  have hs0 : w.heap.size + 3 ≤ w0.heap.size := by rw [hw0]; simp
  clear hw0
  refine (ih_kids B kidsV _ (by have := hB0.size; omega) (by have := HS.out; omega) (R_kids.out.below (hB0.mono hB))).mono ?_
  rintro e w1 ⟨u_kids, rfl, l_kids, hb1⟩
  obtain ⟨kidsA, kidsN, kidsC, rfl⟩ := l_kids.form
  have hB1 := hB0.trans (hb1.mono hB0.size)
  have hs1 := hb1.size
  replace bP := bP.step hb1
  replace bR := bR.step hb1
  replace bO := bO.step hb1
  have fO1_7 := bO.frozen 7
  have cO1_7 : w1.cell? ⟨w.heap.size + 1 + 1, 7, none⟩ = some (.slice none 0 0) := bO.cell 7
  have fR0 := bR.frozen 0
  have cR0 : w1.cell? ⟨w.heap.size + 1, 0, none⟩ = some (.int .i64 0) := bR.cell 0
  have fR1 := bR.frozen 1
  have cR1 : w1.cell? ⟨w.heap.size + 1, 1, none⟩ = some (.int .i64 0) := bR.cell 1
  have fR2 := bR.frozen 2
  have cR2 : w1.cell? ⟨w.heap.size + 1, 2, none⟩ = some (.int .i64 0) := bR.cell 2
  have fR3 := bR.frozen 3
  have cR3 : w1.cell? ⟨w.heap.size + 1, 3, none⟩ = some (.int .i64 0) := bR.cell 3
  have fR4 := bR.frozen 4
  have cR4 : w1.cell? ⟨w.heap.size + 1, 4, none⟩ = some (.int .i64 0) := bR.cell 4
  have fR5 := bR.frozen 5
  have cR5 : w1.cell? ⟨w.heap.size + 1, 5, none⟩ = some (.int .i64 0) := bR.cell 5
  have fR6 := bR.frozen 6
  have cR6 : w1.cell? ⟨w.heap.size + 1, 6, none⟩ = some (.string { data := #[] }) := bR.cell 6
  have fR7 := bR.frozen 7
  have cR7 : w1.cell? ⟨w.heap.size + 1, 7, none⟩ = some (.slice none 0 0) := bR.cell 7
  have cO1_0 : w1.cell? ⟨w.heap.size + 1 + 1, 0, none⟩ = some (.int .i64 kind) := bO.cell 0
  have cO1_1 : w1.cell? ⟨w.heap.size + 1 + 1, 1, none⟩ = some (.int .i64 at_) := bO.cell 1
  have cO1_2 : w1.cell? ⟨w.heap.size + 1 + 1, 2, none⟩ = some (.int .i64 size) := bO.cell 2
  have cO1_3 : w1.cell? ⟨w.heap.size + 1 + 1, 3, none⟩ = some (.int .i64 align) := bO.cell 3
  have cO1_4 : w1.cell? ⟨w.heap.size + 1 + 1, 4, none⟩ = some (.int .i64 typ) := bO.cell 4
  have cO1_5 : w1.cell? ⟨w.heap.size + 1 + 1, 5, none⟩ = some (.int .i64 most) := bO.cell 5
  have cO1_6 : w1.cell? ⟨w.heap.size + 1 + 1, 6, none⟩ = some (.string name) := bO.cell 6
  go_wp2_with fail
  clear bP bR bO
  refine bodyPost_ret (v := .agg #[.int .i64 kind, .int .i64 at_, .int .i64 size, .int .i64 align, .int .i64 typ, .int .i64 most, .string name, .slice kidsA kidsN kidsC]) (by simp [results, Try.results64, go_sem, cR0, cR1, cR2, cR3, cR4, cR5, cR6, cR7]) rfl ⟨[.int .i64 kind, .int .i64 at_, .int .i64 size, .int .i64 align, .int .i64 typ, .int .i64 most, .string name, .slice kidsA kidsN kidsC], rfl, ?_, ?_⟩
  · have base : LvC w1 w0.heap.size w1.heap.size [.lit (.int .i64 kind), .lit (.int .i64 at_), .lit (.int .i64 size), .lit (.int .i64 align), .lit (.int .i64 typ), .lit (.int .i64 most), .lit (.string name), .row 1 (kids.flatMap rowCMoveS)] [.int .i64 kind, .int .i64 at_, .int .i64 size, .int .i64 align, .int .i64 typ, .int .i64 most, .string name, .slice kidsA kidsN kidsC] := by
      have := LvC.lit (LvC.lit (LvC.lit (LvC.lit (LvC.lit (LvC.lit (LvC.lit (LvC.cons l_kids (LvC.nil0 _) (by first | omega | (simp; omega)) (by first | omega | (simp; omega)) (by first | omega | (simp; omega))) (.string name)) (.int .i64 most)) (.int .i64 typ)) (.int .i64 align)) (.int .i64 size)) (.int .i64 at_)) (.int .i64 kind)
      exact this
    rw [Move.pd_mk]
    refine LvC.low (lo2 := w0.heap.size) ?_ (by omega)
    refine LvC.more (hi := w1.heap.size) ?_ (Nat.le_refl _) (by simp [World.setCell]) (Nat.le_refl _)
    iterate 9 (refine LvC.setCell ?_ (.inl (by simp; omega)) _)
    exact base
  · iterate 9 (refine Below.setCell ?_ (by simp; try omega) _)
    exact hB1
mutual
theorem toMove_all : ∀ t : Move, ToC 64 (Move.pd t)
  | .mk kind at_ size align typ most name kids => toMove_step (toMoveSS_step (toMove_memS kids))
theorem toMove_mem : ∀ ts : List Move, ∀ t ∈ ts, ToC 64 (Move.pd t)
  | [], x, hx => absurd hx (by simp)
  | t :: r, x, hx => (List.mem_cons.1 hx).elim (fun e => e ▸ toMove_all t) (fun h => toMove_mem r x h)
theorem toMove_memS : ∀ ts : List (List Move), ∀ t ∈ ts, ToR 40 (.row 8 (t.flatMap Move.pd))
  | [], x, hx => absurd hx (by simp)
  | t :: r, x, hx => (List.mem_cons.1 hx).elim (fun e => e ▸ toMoveS_step (toMove_mem t)) (fun h => toMove_memS r x h)
end
theorem toMoveS_all (ts : List Move) : ToR 40 (.row 8 (ts.flatMap Move.pd)) := toMoveS_step fun t _ => toMove_all t
theorem toMoveSS_all (ts : List (List Move)) : ToR 92 (.row 1 (ts.flatMap rowCMoveS)) := toMoveSS_step fun t _ => toMoveS_all t

set_option maxHeartbeats 1600000 in
theorem toPlan_step {types : List Ty} {from_ : Int} {to_ : Int} {flat : List Move} {mem : List Move} (ih_types : ToR 39 (.row 4 (types.flatMap Ty.pd))) (ih_flat : ToR 40 (.row 8 (flat.flatMap Move.pd))) (ih_mem : ToR 40 (.row 8 (mem.flatMap Move.pd))) : ToC 13 (Plan.pd ⟨types, from_, to_, flat, mem⟩) := by
  intro B cs w hB hsz h
  obtain ⟨typesV, flatV, memV, rfl, r_types, r_flat, r_mem⟩ := Plan.open_ h
  have R_types := Lib.hid r_types
  clear r_types
  have R_flat := Lib.hid r_flat
  clear r_flat
  have R_mem := Lib.hid r_mem
  clear r_mem
  simp only [Plan.pd_mk, PD.szL] at hsz
  have HS := Lib.hid hsz
  clear hsz
  go_enter Try.func13, Try.ntmps13
  go_wp2_with fail
  obtain ⟨w0, hw0⟩ : ∃ w0, w0 = ((w.alloc (.cells #[typesV, .int .i64 from_, .int .i64 to_, flatV, memV] 37)).alloc (.cells #[.slice none 0 0, .int .i64 0, .int .i64 0, .slice none 0 0, .slice none 0 0] 43)).alloc (.cells #[.slice none 0 0, .int .i64 0, .int .i64 0, .slice none 0 0, .slice none 0 0] 43) := ⟨_, rfl⟩
  rw [← hw0]
  have bP : Blk w0 w.heap.size 37 #[typesV, .int .i64 from_, .int .i64 to_, flatV, memV] := by rw [hw0]; exact ((Blk.new w _ _).alloc _).alloc _
  have bR : Blk w0 (w.heap.size + 1) 43 #[.slice none 0 0, .int .i64 0, .int .i64 0, .slice none 0 0, .slice none 0 0] := by rw [hw0]; have := (Blk.new (w.alloc (.cells #[typesV, .int .i64 from_, .int .i64 to_, flatV, memV] 37)) 43 #[.slice none 0 0, .int .i64 0, .int .i64 0, .slice none 0 0, .slice none 0 0]).alloc (.cells #[.slice none 0 0, .int .i64 0, .int .i64 0, .slice none 0 0, .slice none 0 0] 43); simpa using this
  have bO : Blk w0 (w.heap.size + 1 + 1) 43 #[.slice none 0 0, .int .i64 0, .int .i64 0, .slice none 0 0, .slice none 0 0] := by rw [hw0]; have := Blk.new ((w.alloc (.cells #[typesV, .int .i64 from_, .int .i64 to_, flatV, memV] 37)).alloc (.cells #[.slice none 0 0, .int .i64 0, .int .i64 0, .slice none 0 0, .slice none 0 0] 43)) 43 #[.slice none 0 0, .int .i64 0, .int .i64 0, .slice none 0 0, .slice none 0 0]; simpa using this
  have hB0 : Below w.heap.size w w0 := by rw [hw0]; exact (((Below.refl _ _).alloc (Nat.le_refl _) _).alloc (by simp) _).alloc (by simp; omega) _
  have hs0 : w.heap.size + 3 ≤ w0.heap.size := by rw [hw0]; simp
  clear hw0
  refine (ih_types B typesV _ (by have := hB0.size; omega) (by have := HS.out; omega) (R_types.out.below (hB0.mono hB))).mono ?_
  rintro e w1 ⟨u_types, rfl, l_types, hb1⟩
  obtain ⟨typesA, typesN, typesC, rfl⟩ := l_types.form
  have hB1 := hB0.trans (hb1.mono hB0.size)
  have hs1 := hb1.size
  replace bP := bP.step hb1
  replace bR := bR.step hb1
  replace bO := bO.step hb1
  have fO1_0 := bO.frozen 0
  have cO1_0 : w1.cell? ⟨w.heap.size + 1 + 1, 0, none⟩ = some (.slice none 0 0) := bO.cell 0
  have fO1_1 := bO.frozen 1
  have cO1_1 : w1.cell? ⟨w.heap.size + 1 + 1, 1, none⟩ = some (.int .i64 0) := bO.cell 1
  have fO1_2 := bO.frozen 2
  have cO1_2 : w1.cell? ⟨w.heap.size + 1 + 1, 2, none⟩ = some (.int .i64 0) := bO.cell 2
  have cP1_1 : w1.cell? ⟨w.heap.size, 1, none⟩ = some (.int .i64 from_) := bP.cell 1
  have cP1_2 : w1.cell? ⟨w.heap.size, 2, none⟩ = some (.int .i64 to_) := bP.cell 2
  have cP1_3 : w1.cell? ⟨w.heap.size, 3, none⟩ = some (flatV) := bP.cell 3
  go_wp2_with fail
  clear fO1_0 cO1_0 fO1_1 cO1_1 fO1_2 cO1_2 cP1_1 cP1_2 cP1_3
  obtain ⟨w2, hw2⟩ : ∃ W, W = (((w1.setCell ⟨w.heap.size + 1 + 1, 0, none⟩ (.slice typesA typesN typesC)).setCell ⟨w.heap.size + 1 + 1, 1, none⟩ (.int .i64 from_)).setCell ⟨w.heap.size + 1 + 1, 2, none⟩ (.int .i64 to_)) := ⟨_, rfl⟩
  rw [← hw2]
  replace bP : Blk w2 w.heap.size 37 #[typesV, .int .i64 from_, .int .i64 to_, flatV, memV] := by rw [hw2]; exact (((bP.far (by simp; try omega) _).far (by simp; try omega) _).far (by simp; try omega) _)
  replace bR : Blk w2 (w.heap.size + 1) 43 #[.slice none 0 0, .int .i64 0, .int .i64 0, .slice none 0 0, .slice none 0 0] := by rw [hw2]; exact (((bR.far (by simp; try omega) _).far (by simp; try omega) _).far (by simp; try omega) _)
  replace bO : Blk w2 (w.heap.size + 1 + 1) 43 #[.slice typesA typesN typesC, .int .i64 from_, .int .i64 to_, .slice none 0 0, .slice none 0 0] := by rw [hw2]; have := (((bO.set_ 0 (.slice typesA typesN typesC)).set_ 1 (.int .i64 from_)).set_ 2 (.int .i64 to_)); simpa using this
  have hB2 : Below w.heap.size w w2 := by rw [hw2]; exact (((hB1.setCell (by simp; try omega) _).setCell (by simp; try omega) _).setCell (by simp; try omega) _)
  have hs2 : w1.heap.size ≤ w2.heap.size := by rw [hw2]; simp [World.setCell]
  replace l_types := (((l_types.setCell (p := ⟨w.heap.size + 1 + 1, 0, none⟩) (.inl (by simp; omega)) (.slice typesA typesN typesC)).setCell (p := ⟨w.heap.size + 1 + 1, 1, none⟩) (.inl (by simp; omega)) (.int .i64 from_)).setCell (p := ⟨w.heap.size + 1 + 1, 2, none⟩) (.inl (by simp; omega)) (.int .i64 to_))
  rw [← hw2] at l_types
  clear hw2
  refine (ih_flat B flatV _ (by have := hB2.size; omega) (by have := HS.out; omega) (R_flat.out.below (hB2.mono hB))).mono ?_
  rintro e w3 ⟨u_flat, rfl, l_flat, hb3⟩
  obtain ⟨flatA, flatN, flatC, rfl⟩ := l_flat.form
  have hB3 := hB2.trans (hb3.mono hB2.size)
  have hs3 := hb3.size
  replace bP := bP.step hb3
  replace bR := bR.step hb3
  replace bO := bO.step hb3
  replace l_types := l_types.step hb3
  have fO3_3 := bO.frozen 3
  have cO3_3 : w3.cell? ⟨w.heap.size + 1 + 1, 3, none⟩ = some (.slice none 0 0) := bO.cell 3
  have cP3_4 : w3.cell? ⟨w.heap.size, 4, none⟩ = some (memV) := bP.cell 4
  go_wp2_with fail
  clear fO3_3 cO3_3 cP3_4
  obtain ⟨w4, hw4⟩ : ∃ W, W = (w3.setCell ⟨w.heap.size + 1 + 1, 3, none⟩ (.slice flatA flatN flatC)) := ⟨_, rfl⟩
  rw [← hw4]
  replace bP : Blk w4 w.heap.size 37 #[typesV, .int .i64 from_, .int .i64 to_, flatV, memV] := by rw [hw4]; exact (bP.far (by simp; try omega) _)
  replace bR : Blk w4 (w.heap.size + 1) 43 #[.slice none 0 0, .int .i64 0, .int .i64 0, .slice none 0 0, .slice none 0 0] := by rw [hw4]; exact (bR.far (by simp; try omega) _)
  replace bO : Blk w4 (w.heap.size + 1 + 1) 43 #[.slice typesA typesN typesC, .int .i64 from_, .int .i64 to_, .slice flatA flatN flatC, .slice none 0 0] := by rw [hw4]; have := (bO.set_ 3 (.slice flatA flatN flatC)); simpa using this
  have hB4 : Below w.heap.size w w4 := by rw [hw4]; exact (hB3.setCell (by simp; try omega) _)
  have hs4 : w3.heap.size ≤ w4.heap.size := by rw [hw4]; simp [World.setCell]
  replace l_types := (l_types.setCell (p := ⟨w.heap.size + 1 + 1, 3, none⟩) (.inl (by simp; omega)) (.slice flatA flatN flatC))
  rw [← hw4] at l_types
  replace l_flat := (l_flat.setCell (p := ⟨w.heap.size + 1 + 1, 3, none⟩) (.inl (by simp; omega)) (.slice flatA flatN flatC))
  rw [← hw4] at l_flat
  clear hw4
  refine (ih_mem B memV _ (by have := hB4.size; omega) (by have := HS.out; omega) (R_mem.out.below (hB4.mono hB))).mono ?_
  rintro e w5 ⟨u_mem, rfl, l_mem, hb5⟩
  obtain ⟨memA, memN, memC, rfl⟩ := l_mem.form
  have hB5 := hB4.trans (hb5.mono hB4.size)
  have hs5 := hb5.size
  replace bP := bP.step hb5
  replace bR := bR.step hb5
  replace bO := bO.step hb5
  replace l_types := l_types.step hb5
  replace l_flat := l_flat.step hb5
  have fO5_4 := bO.frozen 4
  have cO5_4 : w5.cell? ⟨w.heap.size + 1 + 1, 4, none⟩ = some (.slice none 0 0) := bO.cell 4
  have fR0 := bR.frozen 0
  have cR0 : w5.cell? ⟨w.heap.size + 1, 0, none⟩ = some (.slice none 0 0) := bR.cell 0
  have fR1 := bR.frozen 1
  have cR1 : w5.cell? ⟨w.heap.size + 1, 1, none⟩ = some (.int .i64 0) := bR.cell 1
  have fR2 := bR.frozen 2
  have cR2 : w5.cell? ⟨w.heap.size + 1, 2, none⟩ = some (.int .i64 0) := bR.cell 2
  have fR3 := bR.frozen 3
  have cR3 : w5.cell? ⟨w.heap.size + 1, 3, none⟩ = some (.slice none 0 0) := bR.cell 3
  have fR4 := bR.frozen 4
  have cR4 : w5.cell? ⟨w.heap.size + 1, 4, none⟩ = some (.slice none 0 0) := bR.cell 4
  have cO5_0 : w5.cell? ⟨w.heap.size + 1 + 1, 0, none⟩ = some (.slice typesA typesN typesC) := bO.cell 0
  have cO5_1 : w5.cell? ⟨w.heap.size + 1 + 1, 1, none⟩ = some (.int .i64 from_) := bO.cell 1
  have cO5_2 : w5.cell? ⟨w.heap.size + 1 + 1, 2, none⟩ = some (.int .i64 to_) := bO.cell 2
  have cO5_3 : w5.cell? ⟨w.heap.size + 1 + 1, 3, none⟩ = some (.slice flatA flatN flatC) := bO.cell 3
  go_wp2_with fail
  clear bP bR bO
  refine bodyPost_ret (v := .agg #[.slice typesA typesN typesC, .int .i64 from_, .int .i64 to_, .slice flatA flatN flatC, .slice memA memN memC]) (by simp [results, Try.results13, go_sem, cR0, cR1, cR2, cR3, cR4]) rfl ⟨[.slice typesA typesN typesC, .int .i64 from_, .int .i64 to_, .slice flatA flatN flatC, .slice memA memN memC], rfl, ?_, ?_⟩
  · have base : LvC w5 w0.heap.size w5.heap.size [.row 4 (types.flatMap Ty.pd), .lit (.int .i64 from_), .lit (.int .i64 to_), .row 8 (flat.flatMap Move.pd), .row 8 (mem.flatMap Move.pd)] [.slice typesA typesN typesC, .int .i64 from_, .int .i64 to_, .slice flatA flatN flatC, .slice memA memN memC] := by
      have := LvC.cons l_types (LvC.lit (LvC.lit (LvC.cons l_flat (LvC.cons l_mem (LvC.nil0 _) (by first | omega | (simp; omega)) (by first | omega | (simp; omega)) (by first | omega | (simp; omega))) (by first | omega | (simp; omega)) (by first | omega | (simp; omega)) (by first | omega | (simp; omega))) (.int .i64 to_)) (.int .i64 from_)) (by first | omega | (simp; omega)) (by first | omega | (simp; omega)) (by first | omega | (simp; omega))
      exact this
    rw [Plan.pd_mk]
    refine LvC.low (lo2 := w0.heap.size) ?_ (by omega)
    refine LvC.more (hi := w5.heap.size) ?_ (Nat.le_refl _) (by simp [World.setCell]) (Nat.le_refl _)
    iterate 6 (refine LvC.setCell ?_ (.inl (by simp; omega)) _)
    exact base
  · iterate 6 (refine Below.setCell ?_ (by simp; try omega) _)
    exact hB5
theorem toPlan_all (t : Plan) : ToC 13 (Plan.pd t) := by obtain ⟨types, from_, to_, flat, mem⟩ := t; exact toPlan_step (toTypeS_all types) (toMoveS_all flat) (toMoveS_all mem)








end Go.Proofs.Ytnedcpoengcbaaa
