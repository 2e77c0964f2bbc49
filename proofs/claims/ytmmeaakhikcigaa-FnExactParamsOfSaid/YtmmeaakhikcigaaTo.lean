/-
  The laws' own helpers 'to..' over the program's types (by program: tygen2.py, tyfam.py).
-/
import Derived.Test.YtmmeaakhikcigaaFam
import Derived.Test.YtmmeaakhikcigaaTy
namespace Go.Proofs.Ytmmeaakhikcigaa
open Go.RowKit
set_option linter.unusedVariables false
set_option linter.unusedSimpArgs false
set_option linter.unnecessarySimpa false
set_option maxRecDepth 100000


theorem toStringS_info : (Try.prog.info? 9).map (fun i => (i.zero, i.size, i.bytes)) = some (some (.string { data := #[] }), 1, 16) := by kernel_rfl
set_option maxHeartbeats 1600000 in
theorem toStringS_step {ts : List ByteArray} : ToR 87 (.row 1 (ts.flatMap strC)) := by
  intro B v w hB hsz h
  rw [sz_row strC_length (by decide)] at hsz
  obtain ⟨A, n, c, rfl, hnl, hm, hat⟩ := rep_row strC_length (by decide) h
  obtain ⟨i0, hi, hz0, hz1, hz2⟩ := info_parts toStringS_info
  have hmk := fun W => run_make_rowN (P := Try.prog) 45 9 i0 _ Try.underlying45 hi hz0 .i64 .i64 n n (Nat.le_refl _) (by rw [hz2]; omega) (by omega) W
  rw [hz1, Nat.mul_one] at hmk
  have hnn : n ≤ 1048576 := by omega
  have HN := Lib.hid hnl
  clear h hnl hz0 hz1 hz2 hi hm hsz
  go_enter Try.func87, Try.ntmps87
  go_wp2
  clear hmk
  obtain ⟨W1, hW1⟩ : ∃ W1, W1 = w.alloc (.cells (madeCells #[.string { data := #[] }] (n)) 9) := ⟨_, rfl⟩
  rw [← hW1]
  have hF : Fills w W1 w.heap.size n 1 ((ts.take 0).flatMap strC) 0 := by
    rw [hW1]
    exact Fills.start (cs := (madeCells #[.string { data := #[] }] (n)).toList) (OwAt.new w _ _) (by simp [size_madeCells]) ((Below.refl _ _).alloc (Nat.le_refl _) _) (by simp)
  clear hW1
  go_loopw [4] (fun i wr => ∃ k : Nat, k ≤ n ∧ i = .int .i64 k ∧ Fills w wr w.heap.size n 1 ((ts.take k).flatMap strC) k) (fun i _ => n - (intOf i).toNat)
  case atStart => exact ⟨0, Nat.zero_le _, rfl, hF⟩
  case round =>
    obtain ⟨k, hk, rfl, hf⟩ := hrel
    clear hF
    by_cases hlt : k < n
    · obtain ⟨g, off, rfl, hg, hcell⟩ := hat (by omega)
      obtain ⟨t, hx, hmem⟩ := at_lt HN.out hlt
      obtain ⟨hbr, hg0⟩ := hf.under
      have c0 : wr.cell? ⟨g, off + k, none⟩ = some (.string t) := cell_lit hbr (by omega) (by have := hcell k 0 _ _ hx rfl; simpa using this)
      have HX := Lib.hid hx
      clear hx hcell
      obtain ⟨⟨u0, d0⟩, f0⟩ := hf.cell (Below.refl _ _) hlt 0 (by decide)
      rw [Nat.add_zero, Nat.mul_one] at d0 f0
      have hnx := hf.next (Below.refl _ _) (es := strC t) (HoldL.cons (Hold.lit_ wr (.string t)) (HoldL.nil wr)) (In.nil _ _) (rfl) hlt
      rw [Nat.mul_one] at hnx
      have HF := Lib.hid hnx
      clear hnx hf
      go_wp2_with fail
      go_roundw
      case rel => exact ⟨k + 1, by omega, by go_num, by rw [List.take_add_one, HX.out, List.flatMap_append, opt_flat]; exact HF.out⟩
      case measure => simp [intOf]; omega
    · have hkn : k = n := by omega
      subst hkn
      have hfin : Lv wr w.heap.size wr.heap.size (.row 1 (ts.flatMap strC)) (.slice (some ⟨w.heap.size, 0, none⟩) k k) := by
        rw [List.take_of_length_le (by have := HN.out; omega)] at hf
        exact hf.done (by rw [flatMap_length strC_length]; rw [HN.out]) (Nat.le_refl _) (by simp only [maxLen]; omega)
      have hbr := hf.under.1
      clear hf
      go_wp2_with fail
      go_ret
      exact ⟨_, rfl, hfin, hbr⟩
theorem toStringS_all (ts : List ByteArray) : ToR 87 (.row 1 (ts.flatMap strC)) := toStringS_step




theorem toTypeS_info : (Try.prog.info? 51).map (fun i => (i.zero, i.size, i.bytes)) = some (some (.agg #[.int .i64 0, .string { data := #[] }, .slice none 0 0, .slice none 0 0]), 4, 72) := by kernel_rfl
set_option maxHeartbeats 1600000 in
theorem toTypeS_step {ts : List Ty} (ih : ∀ t ∈ ts, ToC 33 (Ty.pd t)) : ToR 28 (.row 4 (ts.flatMap Ty.pd)) := by
  intro B v w hB hsz h
  rw [sz_row Ty.pd_length (by decide)] at hsz
  obtain ⟨A, n, c, rfl, hnl, hm, hat⟩ := rep_row Ty.pd_length (by decide) h
  obtain ⟨i0, hi, hz0, hz1, hz2⟩ := info_parts toTypeS_info
  have hmk := fun W => run_make_rowN (P := Try.prog) 41 51 i0 _ Try.underlying41 hi hz0 .i64 .i64 n n (Nat.le_refl _) (by rw [hz2]; omega) (by omega) W
  rw [hz1] at hmk
  have hnn : n ≤ 1048576 := by omega
  have HN := Lib.hid hnl
  have HS := Lib.hid hsz
  have HI := Lib.hid ih
  clear ih
  clear h hnl hz0 hz1 hz2 hi hm hsz
  go_enter Try.func28, Try.ntmps28
  go_wp2
  clear hmk
  obtain ⟨W1, hW1⟩ : ∃ W1, W1 = w.alloc (.cells (madeCells #[.int .i64 0, .string { data := #[] }, .slice none 0 0, .slice none 0 0] (n * 4)) 51) := ⟨_, rfl⟩
  rw [← hW1]
  have hF : Fills w W1 w.heap.size n 4 ((ts.take 0).flatMap Ty.pd) 0 := by
    rw [hW1]
    exact Fills.start (cs := (madeCells #[.int .i64 0, .string { data := #[] }, .slice none 0 0, .slice none 0 0] (n * 4)).toList) (OwAt.new w _ _) (by simp [size_madeCells]) ((Below.refl _ _).alloc (Nat.le_refl _) _) (by simp)
  clear hW1
  go_loopw [4] (fun i wr => ∃ k : Nat, k ≤ n ∧ i = .int .i64 k ∧ Fills w wr w.heap.size n 4 ((ts.take k).flatMap Ty.pd) k) (fun i _ => n - (intOf i).toNat)
  case atStart => exact ⟨0, Nat.zero_le _, rfl, hF⟩
  case round =>
    obtain ⟨k, hk, rfl, hf⟩ := hrel
    clear hF
    by_cases hlt : k < n
    · obtain ⟨g, off, rfl, hg, hcell⟩ := hat (by omega)
      obtain ⟨t, hx, hmem⟩ := at_lt HN.out hlt
      obtain ⟨hbr, hg0⟩ := hf.under
      have hle := szL_get_le (f := Ty.pd) hx
      obtain ⟨kind, name, labels, kids⟩ := t
      have c0 : wr.cell? ⟨g, off + k * 4, none⟩ = some (.int .i64 kind) := cell_lit hbr (by omega) (hcell k 0 _ _ hx (by rw [Ty.pd_mk]; rfl))
      have c1 : wr.cell? ⟨g, off + k * 4 + 1, none⟩ = some (.string name) := cell_lit hbr (by omega) (hcell k 1 _ _ hx (by rw [Ty.pd_mk]; rfl))
      obtain ⟨labelsV, c2, hr2⟩ : ∃ u, wr.cell? ⟨g, off + k * 4 + 2, none⟩ = some u ∧ Rep wr B (.row 1 (labels.flatMap strC)) u := cell_rep hbr (by omega) hB (hcell k 2 _ _ hx (by rw [Ty.pd_mk]; rfl))
      have HR2 := Lib.hid hr2
      clear hr2
      obtain ⟨kidsV, c3, hr3⟩ : ∃ u, wr.cell? ⟨g, off + k * 4 + 3, none⟩ = some u ∧ Rep wr B (.row 4 (kids.flatMap Ty.pd)) u := cell_rep hbr (by omega) hB (hcell k 3 _ _ hx (by rw [Ty.pd_mk]; rfl))
      have HR3 := Lib.hid hr3
      clear hr3
      have HX := Lib.hid hx
      have HL := Lib.hid hle
      have HM := Lib.hid hmem
      clear hx hcell hle hmem
      go_wp2_with fail
      refine (HI.out _ HM.out B [.int .i64 kind, .string name, labelsV, kidsV] _ (by omega) (by have := HS.out; have := HL.out; omega) (Ty.close_ HR2.out HR3.out)).mono ?_
      rintro e wq ⟨us, rfl, hl, hbq⟩
      obtain ⟨labelsA, labelsN, labelsC, kidsA, kidsN, kidsC, rfl⟩ := Ty.lopen hl
      have hlen := hl.len
      obtain ⟨F2, hh, hi2, _⟩ := hl
      obtain ⟨⟨u0, d0⟩, f0⟩ := hf.cell hbq hlt 0 (by decide)
      rw [Nat.add_zero] at d0 f0
      obtain ⟨⟨u1, d1⟩, f1⟩ := hf.cell hbq hlt 1 (by decide)
      obtain ⟨⟨u2, d2⟩, f2⟩ := hf.cell hbq hlt 2 (by decide)
      obtain ⟨⟨u3, d3⟩, f3⟩ := hf.cell hbq hlt 3 (by decide)
      have hnx := hf.next hbq (es := Ty.pd ⟨kind, name, labels, kids⟩) hh hi2 (hlen.trans (Ty.pd_length _)) hlt
      have HF := Lib.hid hnx
      clear hnx hf hh hi2 hlen
      go_wp2_with fail
      go_roundw
      case rel => exact ⟨k + 1, by omega, by go_num, by rw [List.take_add_one, HX.out, List.flatMap_append, opt_flat]; exact HF.out⟩
      case measure => simp [intOf]; omega
    · have hkn : k = n := by omega
      subst hkn
      have hfin : Lv wr w.heap.size wr.heap.size (.row 4 (ts.flatMap Ty.pd)) (.slice (some ⟨w.heap.size, 0, none⟩) k k) := by
        rw [List.take_of_length_le (by have := HN.out; omega)] at hf
        exact hf.done (by rw [flatMap_length Ty.pd_length]; rw [HN.out]) (Nat.le_refl _) (by simp only [maxLen]; omega)
      have hbr := hf.under.1
      clear hf
      go_wp2_with fail
      go_ret
      exact ⟨_, rfl, hfin, hbr⟩
set_option maxHeartbeats 1600000 in
theorem toType_step {kind : Int} {name : ByteArray} {labels : List ByteArray} {kids : List Ty} (ih_labels : ToR 87 (.row 1 (labels.flatMap strC))) (ih_kids : ToR 28 (.row 4 (kids.flatMap Ty.pd))) : ToC 33 (Ty.pd ⟨kind, name, labels, kids⟩) := by
  intro B cs w hB hsz h
  obtain ⟨labelsV, kidsV, rfl, r_labels, r_kids⟩ := Ty.open_ h
  have R_labels := Lib.hid r_labels
  clear r_labels
  have R_kids := Lib.hid r_kids
  clear r_kids
  simp only [Ty.pd_mk, PD.szL] at hsz
  have HS := Lib.hid hsz
  clear hsz
  go_enter Try.func33, Try.ntmps33
  go_wp2_with fail
  obtain ⟨w0, hw0⟩ : ∃ w0, w0 = ((w.alloc (.cells #[.int .i64 kind, .string name, labelsV, kidsV] 47)).alloc (.cells #[.int .i64 0, .string { data := #[] }, .slice none 0 0, .slice none 0 0] 51)).alloc (.cells #[.int .i64 kind, .string name, .slice none 0 0, .slice none 0 0] 51) := ⟨_, rfl⟩
  rw [← hw0]
  have bP : Blk w0 w.heap.size 47 #[.int .i64 kind, .string name, labelsV, kidsV] := by rw [hw0]; exact ((Blk.new w _ _).alloc _).alloc _
  have bR : Blk w0 (w.heap.size + 1) 51 #[.int .i64 0, .string { data := #[] }, .slice none 0 0, .slice none 0 0] := by rw [hw0]; have := (Blk.new (w.alloc (.cells #[.int .i64 kind, .string name, labelsV, kidsV] 47)) 51 #[.int .i64 0, .string { data := #[] }, .slice none 0 0, .slice none 0 0]).alloc (.cells #[.int .i64 kind, .string name, .slice none 0 0, .slice none 0 0] 51); simpa using this
  have bO : Blk w0 (w.heap.size + 1 + 1) 51 #[.int .i64 kind, .string name, .slice none 0 0, .slice none 0 0] := by rw [hw0]; have := Blk.new ((w.alloc (.cells #[.int .i64 kind, .string name, labelsV, kidsV] 47)).alloc (.cells #[.int .i64 0, .string { data := #[] }, .slice none 0 0, .slice none 0 0] 51)) 51 #[.int .i64 kind, .string name, .slice none 0 0, .slice none 0 0]; simpa using this
  have hB0 : Below w.heap.size w w0 := by rw [hw0]; exact (((Below.refl _ _).alloc (Nat.le_refl _) _).alloc (by simp) _).alloc (by simp; omega) _
  have hs0 : w.heap.size + 3 ≤ w0.heap.size := by rw [hw0]; simp
  clear hw0
  refine (ih_labels B labelsV _ (by have := hB0.size; omega) (by have := HS.out; omega) (R_labels.out.below (hB0.mono hB))).mono ?_
  rintro e w1 ⟨u_labels, rfl, l_labels, hb1⟩
  obtain ⟨labelsA, labelsN, labelsC, rfl⟩ := l_labels.form
  have hB1 := hB0.trans (hb1.mono hB0.size)
  have hs1 := hb1.size
  replace bP := bP.step hb1
  replace bR := bR.step hb1
  replace bO := bO.step hb1
  have fO1_2 := bO.frozen 2
  have cO1_2 : w1.cell? ⟨w.heap.size + 1 + 1, 2, none⟩ = some (.slice none 0 0) := bO.cell 2
  have cP1_3 : w1.cell? ⟨w.heap.size, 3, none⟩ = some (kidsV) := bP.cell 3
  go_wp2_with fail
  clear fO1_2 cO1_2 cP1_3
  obtain ⟨w2, hw2⟩ : ∃ W, W = (w1.setCell ⟨w.heap.size + 1 + 1, 2, none⟩ (.slice labelsA labelsN labelsC)) := ⟨_, rfl⟩
  rw [← hw2]
  replace bP : Blk w2 w.heap.size 47 #[.int .i64 kind, .string name, labelsV, kidsV] := by rw [hw2]; exact (bP.far (by simp; try omega) _)
  replace bR : Blk w2 (w.heap.size + 1) 51 #[.int .i64 0, .string { data := #[] }, .slice none 0 0, .slice none 0 0] := by rw [hw2]; exact (bR.far (by simp; try omega) _)
  replace bO : Blk w2 (w.heap.size + 1 + 1) 51 #[.int .i64 kind, .string name, .slice labelsA labelsN labelsC, .slice none 0 0] := by rw [hw2]; have := (bO.set_ 2 (.slice labelsA labelsN labelsC)); simpa using this
  have hB2 : Below w.heap.size w w2 := by rw [hw2]; exact (hB1.setCell (by simp; try omega) _)
  have hs2 : w1.heap.size ≤ w2.heap.size := by rw [hw2]; simp [World.setCell]
  replace l_labels := (l_labels.setCell (p := ⟨w.heap.size + 1 + 1, 2, none⟩) (.inl (by simp; omega)) (.slice labelsA labelsN labelsC))
  rw [← hw2] at l_labels
  clear hw2
  refine (ih_kids B kidsV _ (by have := hB2.size; omega) (by have := HS.out; omega) (R_kids.out.below (hB2.mono hB))).mono ?_
  rintro e w3 ⟨u_kids, rfl, l_kids, hb3⟩
  obtain ⟨kidsA, kidsN, kidsC, rfl⟩ := l_kids.form
  have hB3 := hB2.trans (hb3.mono hB2.size)
  have hs3 := hb3.size
  replace bP := bP.step hb3
  replace bR := bR.step hb3
  replace bO := bO.step hb3
  replace l_labels := l_labels.step hb3
  have fO3_3 := bO.frozen 3
  have cO3_3 : w3.cell? ⟨w.heap.size + 1 + 1, 3, none⟩ = some (.slice none 0 0) := bO.cell 3
  have fR0 := bR.frozen 0
  have cR0 : w3.cell? ⟨w.heap.size + 1, 0, none⟩ = some (.int .i64 0) := bR.cell 0
  have fR1 := bR.frozen 1
  have cR1 : w3.cell? ⟨w.heap.size + 1, 1, none⟩ = some (.string { data := #[] }) := bR.cell 1
  have fR2 := bR.frozen 2
  have cR2 : w3.cell? ⟨w.heap.size + 1, 2, none⟩ = some (.slice none 0 0) := bR.cell 2
  have fR3 := bR.frozen 3
  have cR3 : w3.cell? ⟨w.heap.size + 1, 3, none⟩ = some (.slice none 0 0) := bR.cell 3
  have cO3_0 : w3.cell? ⟨w.heap.size + 1 + 1, 0, none⟩ = some (.int .i64 kind) := bO.cell 0
  have cO3_1 : w3.cell? ⟨w.heap.size + 1 + 1, 1, none⟩ = some (.string name) := bO.cell 1
  have cO3_2 : w3.cell? ⟨w.heap.size + 1 + 1, 2, none⟩ = some (.slice labelsA labelsN labelsC) := bO.cell 2
  go_wp2_with fail
  clear bP bR bO
  refine bodyPost_ret (v := .agg #[.int .i64 kind, .string name, .slice labelsA labelsN labelsC, .slice kidsA kidsN kidsC]) (by simp [results, Try.results33, go_sem, cR0, cR1, cR2, cR3]) rfl ⟨[.int .i64 kind, .string name, .slice labelsA labelsN labelsC, .slice kidsA kidsN kidsC], rfl, ?_, ?_⟩
  · have base : LvC w3 w0.heap.size w3.heap.size [.lit (.int .i64 kind), .lit (.string name), .row 1 (labels.flatMap strC), .row 4 (kids.flatMap Ty.pd)] [.int .i64 kind, .string name, .slice labelsA labelsN labelsC, .slice kidsA kidsN kidsC] := by
      have := LvC.lit (LvC.lit (LvC.cons l_labels (LvC.cons l_kids (LvC.nil0 _) (by first | omega | (simp; omega)) (by first | omega | (simp; omega)) (by first | omega | (simp; omega))) (by first | omega | (simp; omega)) (by first | omega | (simp; omega)) (by first | omega | (simp; omega))) (.string name)) (.int .i64 kind)
      exact this
    rw [Ty.pd_mk]
    refine LvC.low (lo2 := w0.heap.size) ?_ (by omega)
    refine LvC.more (hi := w3.heap.size) ?_ (Nat.le_refl _) (by simp [World.setCell]) (Nat.le_refl _)
    iterate 5 (refine LvC.setCell ?_ (.inl (by simp; omega)) _)
    exact base
  · iterate 5 (refine Below.setCell ?_ (by simp; try omega) _)
    exact hB3
mutual
theorem toType_all : ∀ t : Ty, ToC 33 (Ty.pd t)
  | .mk kind name labels kids => toType_step toStringS_step (toTypeS_step (toType_mem kids))
theorem toType_mem : ∀ ts : List Ty, ∀ t ∈ ts, ToC 33 (Ty.pd t)
  | [], x, hx => absurd hx (by simp)
  | t :: r, x, hx => (List.mem_cons.1 hx).elim (fun e => e ▸ toType_all t) (fun h => toType_mem r x h)
end
theorem toTypeS_all (ts : List Ty) : ToR 28 (.row 4 (ts.flatMap Ty.pd)) := toTypeS_step fun t _ => toType_all t

set_option maxHeartbeats 1600000 in
theorem toParam_step {name : ByteArray} {typ_kind : Int} {typ_name : ByteArray} {typ_labels : List ByteArray} {typ_kids : List Ty} (ih_typ : ToC 33 (Ty.pd ⟨typ_kind, typ_name, typ_labels, typ_kids⟩)) : ToC 154 (Param.pd ⟨name, ⟨typ_kind, typ_name, typ_labels, typ_kids⟩⟩) := by
  intro B cs w hB hsz h
  obtain ⟨typ_labelsV, typ_kidsV, rfl, r_typ_labels, r_typ_kids⟩ := Param.open_ h
  have R_typ_labels := Lib.hid r_typ_labels
  clear r_typ_labels
  have R_typ_kids := Lib.hid r_typ_kids
  clear r_typ_kids
  simp only [Param.pd_mk, PD.szL] at hsz
  have HS := Lib.hid hsz
  clear hsz
  go_enter Try.func154, Try.ntmps154
  go_wp2_with fail
  obtain ⟨w0, hw0⟩ : ∃ w0, w0 = ((w.alloc (.cells #[.string name, .int .i64 typ_kind, .string typ_name, typ_labelsV, typ_kidsV] 139)).alloc (.cells #[.string { data := #[] }, .int .i64 0, .string { data := #[] }, .slice none 0 0, .slice none 0 0] 142)).alloc (.cells #[.string name, .int .i64 0, .string { data := #[] }, .slice none 0 0, .slice none 0 0] 142) := ⟨_, rfl⟩
  rw [← hw0]
  have bP : Blk w0 w.heap.size 139 #[.string name, .int .i64 typ_kind, .string typ_name, typ_labelsV, typ_kidsV] := by rw [hw0]; exact ((Blk.new w _ _).alloc _).alloc _
  have bR : Blk w0 (w.heap.size + 1) 142 #[.string { data := #[] }, .int .i64 0, .string { data := #[] }, .slice none 0 0, .slice none 0 0] := by rw [hw0]; have := (Blk.new (w.alloc (.cells #[.string name, .int .i64 typ_kind, .string typ_name, typ_labelsV, typ_kidsV] 139)) 142 #[.string { data := #[] }, .int .i64 0, .string { data := #[] }, .slice none 0 0, .slice none 0 0]).alloc (.cells #[.string name, .int .i64 0, .string { data := #[] }, .slice none 0 0, .slice none 0 0] 142); simpa using this
  have bO : Blk w0 (w.heap.size + 1 + 1) 142 #[.string name, .int .i64 0, .string { data := #[] }, .slice none 0 0, .slice none 0 0] := by rw [hw0]; have := Blk.new ((w.alloc (.cells #[.string name, .int .i64 typ_kind, .string typ_name, typ_labelsV, typ_kidsV] 139)).alloc (.cells #[.string { data := #[] }, .int .i64 0, .string { data := #[] }, .slice none 0 0, .slice none 0 0] 142)) 142 #[.string name, .int .i64 0, .string { data := #[] }, .slice none 0 0, .slice none 0 0]; simpa using this
  have hB0 : Below w.heap.size w w0 := by rw [hw0]; exact (((Below.refl _ _).alloc (Nat.le_refl _) _).alloc (by simp) _).alloc (by simp; omega) _
  have hs0 : w.heap.size + 3 ≤ w0.heap.size := by rw [hw0]; simp
  clear hw0
  refine (ih_typ B [.int .i64 typ_kind, .string typ_name, typ_labelsV, typ_kidsV] _ (by have := hB0.size; omega) (by have := HS.out; simp only [Ty.pd_mk, PD.szL]; omega) (Ty.close_ (R_typ_labels.out.below (hB0.mono hB)) (R_typ_kids.out.below (hB0.mono hB)))).mono ?_
  rintro e w1 ⟨u_typ, rfl, l_typ, hb1⟩
  have ll_typ := Lib.hid l_typ
  obtain ⟨typ_labelsA, typ_labelsN, typ_labelsC, typ_kidsA, typ_kidsN, typ_kidsC, rfl⟩ := Ty.lopen l_typ
  have hB1 := hB0.trans (hb1.mono hB0.size)
  have hs1 := hb1.size
  replace bP := bP.step hb1
  replace bR := bR.step hb1
  replace bO := bO.step hb1
  have fO1_1 := bO.frozen 1
  have cO1_1 : w1.cell? ⟨w.heap.size + 1 + 1, 1, none⟩ = some (.int .i64 0) := bO.cell 1
  have fO1_2 := bO.frozen 2
  have cO1_2 : w1.cell? ⟨w.heap.size + 1 + 1, 2, none⟩ = some (.string { data := #[] }) := bO.cell 2
  have fO1_3 := bO.frozen 3
  have cO1_3 : w1.cell? ⟨w.heap.size + 1 + 1, 3, none⟩ = some (.slice none 0 0) := bO.cell 3
  have fO1_4 := bO.frozen 4
  have cO1_4 : w1.cell? ⟨w.heap.size + 1 + 1, 4, none⟩ = some (.slice none 0 0) := bO.cell 4
  have fR0 := bR.frozen 0
  have cR0 : w1.cell? ⟨w.heap.size + 1, 0, none⟩ = some (.string { data := #[] }) := bR.cell 0
  have fR1 := bR.frozen 1
  have cR1 : w1.cell? ⟨w.heap.size + 1, 1, none⟩ = some (.int .i64 0) := bR.cell 1
  have fR2 := bR.frozen 2
  have cR2 : w1.cell? ⟨w.heap.size + 1, 2, none⟩ = some (.string { data := #[] }) := bR.cell 2
  have fR3 := bR.frozen 3
  have cR3 : w1.cell? ⟨w.heap.size + 1, 3, none⟩ = some (.slice none 0 0) := bR.cell 3
  have fR4 := bR.frozen 4
  have cR4 : w1.cell? ⟨w.heap.size + 1, 4, none⟩ = some (.slice none 0 0) := bR.cell 4
  have cO1_0 : w1.cell? ⟨w.heap.size + 1 + 1, 0, none⟩ = some (.string name) := bO.cell 0
  go_wp2_with fail
  clear bP bR bO
  refine bodyPost_ret (v := .agg #[.string name, .int .i64 typ_kind, .string typ_name, .slice typ_labelsA typ_labelsN typ_labelsC, .slice typ_kidsA typ_kidsN typ_kidsC]) (by simp [results, Try.results154, go_sem, cR0, cR1, cR2, cR3, cR4]) rfl ⟨[.string name, .int .i64 typ_kind, .string typ_name, .slice typ_labelsA typ_labelsN typ_labelsC, .slice typ_kidsA typ_kidsN typ_kidsC], rfl, ?_, ?_⟩
  · have base : LvC w1 w0.heap.size w1.heap.size [.lit (.string name), .lit (.int .i64 typ_kind), .lit (.string typ_name), .row 1 (typ_labels.flatMap strC), .row 4 (typ_kids.flatMap Ty.pd)] [.string name, .int .i64 typ_kind, .string typ_name, .slice typ_labelsA typ_labelsN typ_labelsC, .slice typ_kidsA typ_kidsN typ_kidsC] := by
      have := LvC.lit (LvC.append l_typ (LvC.nil0 _) (by first | omega | (simp; omega)) (by first | omega | (simp; omega)) (by first | omega | (simp; omega))) (.string name)
      simpa only [Ty.pd_mk, List.cons_append, List.nil_append, List.append_assoc] using this
    rw [Param.pd_mk]
    refine LvC.low (lo2 := w0.heap.size) ?_ (by omega)
    refine LvC.more (hi := w1.heap.size) ?_ (Nat.le_refl _) (by simp [World.setCell]) (Nat.le_refl _)
    iterate 9 (refine LvC.setCell ?_ (.inl (by simp; omega)) _)
    exact base
  · iterate 9 (refine Below.setCell ?_ (by simp; try omega) _)
    exact hB1
theorem toParam_all (t : Param) : ToC 154 (Param.pd t) := by obtain ⟨name, ⟨typ_kind, typ_name, typ_labels, typ_kids⟩⟩ := t; exact toParam_step (toType_all _)

theorem toParamS_info : (Try.prog.info? 142).map (fun i => (i.zero, i.size, i.bytes)) = some (some (.agg #[.string { data := #[] }, .int .i64 0, .string { data := #[] }, .slice none 0 0, .slice none 0 0]), 5, 88) := by kernel_rfl
set_option maxHeartbeats 1600000 in
theorem toParamS_step {ts : List Param} (ih : ∀ t ∈ ts, ToC 154 (Param.pd t)) : ToR 112 (.row 5 (ts.flatMap Param.pd)) := by
  intro B v w hB hsz h
  rw [sz_row Param.pd_length (by decide)] at hsz
  obtain ⟨A, n, c, rfl, hnl, hm, hat⟩ := rep_row Param.pd_length (by decide) h
  obtain ⟨i0, hi, hz0, hz1, hz2⟩ := info_parts toParamS_info
  have hmk := fun W => run_make_rowN (P := Try.prog) 69 142 i0 _ Try.underlying69 hi hz0 .i64 .i64 n n (Nat.le_refl _) (by rw [hz2]; omega) (by omega) W
  rw [hz1] at hmk
  have hnn : n ≤ 1048576 := by omega
  have HN := Lib.hid hnl
  have HS := Lib.hid hsz
  have HI := Lib.hid ih
  clear ih
  clear h hnl hz0 hz1 hz2 hi hm hsz
  go_enter Try.func112, Try.ntmps112
  go_wp2
  clear hmk
  obtain ⟨W1, hW1⟩ : ∃ W1, W1 = w.alloc (.cells (madeCells #[.string { data := #[] }, .int .i64 0, .string { data := #[] }, .slice none 0 0, .slice none 0 0] (n * 5)) 142) := ⟨_, rfl⟩
  rw [← hW1]
  have hF : Fills w W1 w.heap.size n 5 ((ts.take 0).flatMap Param.pd) 0 := by
    rw [hW1]
    exact Fills.start (cs := (madeCells #[.string { data := #[] }, .int .i64 0, .string { data := #[] }, .slice none 0 0, .slice none 0 0] (n * 5)).toList) (OwAt.new w _ _) (by simp [size_madeCells]) ((Below.refl _ _).alloc (Nat.le_refl _) _) (by simp)
  clear hW1
  go_loopw [4] (fun i wr => ∃ k : Nat, k ≤ n ∧ i = .int .i64 k ∧ Fills w wr w.heap.size n 5 ((ts.take k).flatMap Param.pd) k) (fun i _ => n - (intOf i).toNat)
  case atStart => exact ⟨0, Nat.zero_le _, rfl, hF⟩
  case round =>
    obtain ⟨k, hk, rfl, hf⟩ := hrel
    clear hF
    by_cases hlt : k < n
    · obtain ⟨g, off, rfl, hg, hcell⟩ := hat (by omega)
      obtain ⟨t, hx, hmem⟩ := at_lt HN.out hlt
      obtain ⟨hbr, hg0⟩ := hf.under
      have hle := szL_get_le (f := Param.pd) hx
      obtain ⟨name, ⟨typ_kind, typ_name, typ_labels, typ_kids⟩⟩ := t
      have c0 : wr.cell? ⟨g, off + k * 5, none⟩ = some (.string name) := cell_lit hbr (by omega) (hcell k 0 _ _ hx (by rw [Param.pd_mk]; rfl))
      have c1 : wr.cell? ⟨g, off + k * 5 + 1, none⟩ = some (.int .i64 typ_kind) := cell_lit hbr (by omega) (hcell k 1 _ _ hx (by rw [Param.pd_mk]; rfl))
      have c2 : wr.cell? ⟨g, off + k * 5 + 2, none⟩ = some (.string typ_name) := cell_lit hbr (by omega) (hcell k 2 _ _ hx (by rw [Param.pd_mk]; rfl))
      obtain ⟨typ_labelsV, c3, hr3⟩ : ∃ u, wr.cell? ⟨g, off + k * 5 + 3, none⟩ = some u ∧ Rep wr B (.row 1 (typ_labels.flatMap strC)) u := cell_rep hbr (by omega) hB (hcell k 3 _ _ hx (by rw [Param.pd_mk]; rfl))
      have HR3 := Lib.hid hr3
      clear hr3
      obtain ⟨typ_kidsV, c4, hr4⟩ : ∃ u, wr.cell? ⟨g, off + k * 5 + 4, none⟩ = some u ∧ Rep wr B (.row 4 (typ_kids.flatMap Ty.pd)) u := cell_rep hbr (by omega) hB (hcell k 4 _ _ hx (by rw [Param.pd_mk]; rfl))
      have HR4 := Lib.hid hr4
      clear hr4
      have HX := Lib.hid hx
      have HL := Lib.hid hle
      have HM := Lib.hid hmem
      clear hx hcell hle hmem
      go_wp2_with fail
      refine (HI.out _ HM.out B [.string name, .int .i64 typ_kind, .string typ_name, typ_labelsV, typ_kidsV] _ (by omega) (by have := HS.out; have := HL.out; omega) (Param.close_ HR3.out HR4.out)).mono ?_
      rintro e wq ⟨us, rfl, hl, hbq⟩
      obtain ⟨typ_labelsA, typ_labelsN, typ_labelsC, typ_kidsA, typ_kidsN, typ_kidsC, rfl⟩ := Param.lopen hl
      have hlen := hl.len
      obtain ⟨F2, hh, hi2, _⟩ := hl
      obtain ⟨⟨u0, d0⟩, f0⟩ := hf.cell hbq hlt 0 (by decide)
      rw [Nat.add_zero] at d0 f0
      obtain ⟨⟨u1, d1⟩, f1⟩ := hf.cell hbq hlt 1 (by decide)
      obtain ⟨⟨u2, d2⟩, f2⟩ := hf.cell hbq hlt 2 (by decide)
      obtain ⟨⟨u3, d3⟩, f3⟩ := hf.cell hbq hlt 3 (by decide)
      obtain ⟨⟨u4, d4⟩, f4⟩ := hf.cell hbq hlt 4 (by decide)
      have hnx := hf.next hbq (es := Param.pd ⟨name, ⟨typ_kind, typ_name, typ_labels, typ_kids⟩⟩) hh hi2 (hlen.trans (Param.pd_length _)) hlt
      have HF := Lib.hid hnx
      clear hnx hf hh hi2 hlen
      go_wp2_with fail
      go_roundw
      case rel => exact ⟨k + 1, by omega, by go_num, by rw [List.take_add_one, HX.out, List.flatMap_append, opt_flat]; exact HF.out⟩
      case measure => simp [intOf]; omega
    · have hkn : k = n := by omega
      subst hkn
      have hfin : Lv wr w.heap.size wr.heap.size (.row 5 (ts.flatMap Param.pd)) (.slice (some ⟨w.heap.size, 0, none⟩) k k) := by
        rw [List.take_of_length_le (by have := HN.out; omega)] at hf
        exact hf.done (by rw [flatMap_length Param.pd_length]; rw [HN.out]) (Nat.le_refl _) (by simp only [maxLen]; omega)
      have hbr := hf.under.1
      clear hf
      go_wp2_with fail
      go_ret
      exact ⟨_, rfl, hfin, hbr⟩
theorem toParamS_all (ts : List Param) : ToR 112 (.row 5 (ts.flatMap Param.pd)) := toParamS_step fun t _ => toParam_all t

set_option maxHeartbeats 1600000 in
theorem toFuncType_step {params : List Param} {result_kind : Int} {result_name : ByteArray} {result_labels : List ByteArray} {result_kids : List Ty} {async : Bool} (ih_params : ToR 112 (.row 5 (params.flatMap Param.pd))) (ih_result : ToC 33 (Ty.pd ⟨result_kind, result_name, result_labels, result_kids⟩)) : ToC 60 (FuncType.pd ⟨params, ⟨result_kind, result_name, result_labels, result_kids⟩, async⟩) := by
  intro B cs w hB hsz h
  obtain ⟨paramsV, result_labelsV, result_kidsV, rfl, r_params, r_result_labels, r_result_kids⟩ := FuncType.open_ h
  have R_params := Lib.hid r_params
  clear r_params
  have R_result_labels := Lib.hid r_result_labels
  clear r_result_labels
  have R_result_kids := Lib.hid r_result_kids
  clear r_result_kids
  simp only [FuncType.pd_mk, PD.szL] at hsz
  have HS := Lib.hid hsz
  clear hsz
  go_enter Try.func60, Try.ntmps60
  go_wp2_with fail
  obtain ⟨w0, hw0⟩ : ∃ w0, w0 = ((w.alloc (.cells #[paramsV, .int .i64 result_kind, .string result_name, result_labelsV, result_kidsV, .bool async] 66)).alloc (.cells #[.slice none 0 0, .int .i64 0, .string { data := #[] }, .slice none 0 0, .slice none 0 0, .bool false] 71)).alloc (.cells #[.slice none 0 0, .int .i64 0, .string { data := #[] }, .slice none 0 0, .slice none 0 0, .bool false] 71) := ⟨_, rfl⟩
  rw [← hw0]
  have bP : Blk w0 w.heap.size 66 #[paramsV, .int .i64 result_kind, .string result_name, result_labelsV, result_kidsV, .bool async] := by rw [hw0]; exact ((Blk.new w _ _).alloc _).alloc _
  have bR : Blk w0 (w.heap.size + 1) 71 #[.slice none 0 0, .int .i64 0, .string { data := #[] }, .slice none 0 0, .slice none 0 0, .bool false] := by rw [hw0]; have := (Blk.new (w.alloc (.cells #[paramsV, .int .i64 result_kind, .string result_name, result_labelsV, result_kidsV, .bool async] 66)) 71 #[.slice none 0 0, .int .i64 0, .string { data := #[] }, .slice none 0 0, .slice none 0 0, .bool false]).alloc (.cells #[.slice none 0 0, .int .i64 0, .string { data := #[] }, .slice none 0 0, .slice none 0 0, .bool false] 71); simpa using this
  have bO : Blk w0 (w.heap.size + 1 + 1) 71 #[.slice none 0 0, .int .i64 0, .string { data := #[] }, .slice none 0 0, .slice none 0 0, .bool false] := by rw [hw0]; have := Blk.new ((w.alloc (.cells #[paramsV, .int .i64 result_kind, .string result_name, result_labelsV, result_kidsV, .bool async] 66)).alloc (.cells #[.slice none 0 0, .int .i64 0, .string { data := #[] }, .slice none 0 0, .slice none 0 0, .bool false] 71)) 71 #[.slice none 0 0, .int .i64 0, .string { data := #[] }, .slice none 0 0, .slice none 0 0, .bool false]; simpa using this
  have hB0 : Below w.heap.size w w0 := by rw [hw0]; exact (((Below.refl _ _).alloc (Nat.le_refl _) _).alloc (by simp) _).alloc (by simp; omega) _
  have hs0 : w.heap.size + 3 ≤ w0.heap.size := by rw [hw0]; simp
  clear hw0
  refine (ih_params B paramsV _ (by have := hB0.size; omega) (by have := HS.out; omega) (R_params.out.below (hB0.mono hB))).mono ?_
  rintro e w1 ⟨u_params, rfl, l_params, hb1⟩
  obtain ⟨paramsA, paramsN, paramsC, rfl⟩ := l_params.form
  have hB1 := hB0.trans (hb1.mono hB0.size)
  have hs1 := hb1.size
  replace bP := bP.step hb1
  replace bR := bR.step hb1
  replace bO := bO.step hb1
  have fO1_0 := bO.frozen 0
  have cO1_0 : w1.cell? ⟨w.heap.size + 1 + 1, 0, none⟩ = some (.slice none 0 0) := bO.cell 0
  have cP1_1 : w1.cell? ⟨w.heap.size, 1, none⟩ = some (.int .i64 result_kind) := bP.cell 1
  have cP1_2 : w1.cell? ⟨w.heap.size, 2, none⟩ = some (.string result_name) := bP.cell 2
  have cP1_3 : w1.cell? ⟨w.heap.size, 3, none⟩ = some (result_labelsV) := bP.cell 3
  have cP1_4 : w1.cell? ⟨w.heap.size, 4, none⟩ = some (result_kidsV) := bP.cell 4
  go_wp2_with fail
  clear fO1_0 cO1_0 cP1_1 cP1_2 cP1_3 cP1_4
  obtain ⟨w2, hw2⟩ : ∃ W, W = (w1.setCell ⟨w.heap.size + 1 + 1, 0, none⟩ (.slice paramsA paramsN paramsC)) := ⟨_, rfl⟩
  rw [← hw2]
  replace bP : Blk w2 w.heap.size 66 #[paramsV, .int .i64 result_kind, .string result_name, result_labelsV, result_kidsV, .bool async] := by rw [hw2]; exact (bP.far (by simp; try omega) _)
  replace bR : Blk w2 (w.heap.size + 1) 71 #[.slice none 0 0, .int .i64 0, .string { data := #[] }, .slice none 0 0, .slice none 0 0, .bool false] := by rw [hw2]; exact (bR.far (by simp; try omega) _)
  replace bO : Blk w2 (w.heap.size + 1 + 1) 71 #[.slice paramsA paramsN paramsC, .int .i64 0, .string { data := #[] }, .slice none 0 0, .slice none 0 0, .bool false] := by rw [hw2]; have := (bO.set_ 0 (.slice paramsA paramsN paramsC)); simpa using this
  have hB2 : Below w.heap.size w w2 := by rw [hw2]; exact (hB1.setCell (by simp; try omega) _)
  have hs2 : w1.heap.size ≤ w2.heap.size := by rw [hw2]; simp [World.setCell]
  replace l_params := (l_params.setCell (p := ⟨w.heap.size + 1 + 1, 0, none⟩) (.inl (by simp; omega)) (.slice paramsA paramsN paramsC))
  rw [← hw2] at l_params
  clear hw2
  refine (ih_result B [.int .i64 result_kind, .string result_name, result_labelsV, result_kidsV] _ (by have := hB2.size; omega) (by have := HS.out; simp only [Ty.pd_mk, PD.szL]; omega) (Ty.close_ (R_result_labels.out.below (hB2.mono hB)) (R_result_kids.out.below (hB2.mono hB)))).mono ?_
  rintro e w3 ⟨u_result, rfl, l_result, hb3⟩
  have ll_result := Lib.hid l_result
  obtain ⟨result_labelsA, result_labelsN, result_labelsC, result_kidsA, result_kidsN, result_kidsC, rfl⟩ := Ty.lopen l_result
  have hB3 := hB2.trans (hb3.mono hB2.size)
  have hs3 := hb3.size
  replace bP := bP.step hb3
  replace bR := bR.step hb3
  replace bO := bO.step hb3
  replace l_params := l_params.step hb3
  have fO3_1 := bO.frozen 1
  have cO3_1 : w3.cell? ⟨w.heap.size + 1 + 1, 1, none⟩ = some (.int .i64 0) := bO.cell 1
  have fO3_2 := bO.frozen 2
  have cO3_2 : w3.cell? ⟨w.heap.size + 1 + 1, 2, none⟩ = some (.string { data := #[] }) := bO.cell 2
  have fO3_3 := bO.frozen 3
  have cO3_3 : w3.cell? ⟨w.heap.size + 1 + 1, 3, none⟩ = some (.slice none 0 0) := bO.cell 3
  have fO3_4 := bO.frozen 4
  have cO3_4 : w3.cell? ⟨w.heap.size + 1 + 1, 4, none⟩ = some (.slice none 0 0) := bO.cell 4
  have fO3_5 := bO.frozen 5
  have cO3_5 : w3.cell? ⟨w.heap.size + 1 + 1, 5, none⟩ = some (.bool false) := bO.cell 5
  have cP3_5 : w3.cell? ⟨w.heap.size, 5, none⟩ = some (.bool async) := bP.cell 5
  have fR0 := bR.frozen 0
  have cR0 : w3.cell? ⟨w.heap.size + 1, 0, none⟩ = some (.slice none 0 0) := bR.cell 0
  have fR1 := bR.frozen 1
  have cR1 : w3.cell? ⟨w.heap.size + 1, 1, none⟩ = some (.int .i64 0) := bR.cell 1
  have fR2 := bR.frozen 2
  have cR2 : w3.cell? ⟨w.heap.size + 1, 2, none⟩ = some (.string { data := #[] }) := bR.cell 2
  have fR3 := bR.frozen 3
  have cR3 : w3.cell? ⟨w.heap.size + 1, 3, none⟩ = some (.slice none 0 0) := bR.cell 3
  have fR4 := bR.frozen 4
  have cR4 : w3.cell? ⟨w.heap.size + 1, 4, none⟩ = some (.slice none 0 0) := bR.cell 4
  have fR5 := bR.frozen 5
  have cR5 : w3.cell? ⟨w.heap.size + 1, 5, none⟩ = some (.bool false) := bR.cell 5
  have cO3_0 : w3.cell? ⟨w.heap.size + 1 + 1, 0, none⟩ = some (.slice paramsA paramsN paramsC) := bO.cell 0
  go_wp2_with fail
  clear bP bR bO
  refine bodyPost_ret (v := .agg #[.slice paramsA paramsN paramsC, .int .i64 result_kind, .string result_name, .slice result_labelsA result_labelsN result_labelsC, .slice result_kidsA result_kidsN result_kidsC, .bool async]) (by simp [results, Try.results60, go_sem, cR0, cR1, cR2, cR3, cR4, cR5]) rfl ⟨[.slice paramsA paramsN paramsC, .int .i64 result_kind, .string result_name, .slice result_labelsA result_labelsN result_labelsC, .slice result_kidsA result_kidsN result_kidsC, .bool async], rfl, ?_, ?_⟩
  · have base : LvC w3 w0.heap.size w3.heap.size [.row 5 (params.flatMap Param.pd), .lit (.int .i64 result_kind), .lit (.string result_name), .row 1 (result_labels.flatMap strC), .row 4 (result_kids.flatMap Ty.pd), .lit (.bool async)] [.slice paramsA paramsN paramsC, .int .i64 result_kind, .string result_name, .slice result_labelsA result_labelsN result_labelsC, .slice result_kidsA result_kidsN result_kidsC, .bool async] := by
      have := LvC.cons l_params (LvC.append l_result (LvC.lit (LvC.nil0 _) (.bool async)) (by first | omega | (simp; omega)) (by first | omega | (simp; omega)) (by first | omega | (simp; omega))) (by first | omega | (simp; omega)) (by first | omega | (simp; omega)) (by first | omega | (simp; omega))
      simpa only [Ty.pd_mk, List.cons_append, List.nil_append, List.append_assoc] using this
    rw [FuncType.pd_mk]
    refine LvC.low (lo2 := w0.heap.size) ?_ (by omega)
    refine LvC.more (hi := w3.heap.size) ?_ (Nat.le_refl _) (by simp [World.setCell]) (Nat.le_refl _)
    iterate 11 (refine LvC.setCell ?_ (.inl (by simp; omega)) _)
    exact base
  · iterate 11 (refine Below.setCell ?_ (by simp; try omega) _)
    exact hB3
theorem toFuncType_all (t : FuncType) : ToC 60 (FuncType.pd t) := by obtain ⟨params, ⟨result_kind, result_name, result_labels, result_kids⟩, async⟩ := t; exact toFuncType_step (toParamS_all params) (toType_all _)






set_option maxHeartbeats 1600000 in
theorem toIns_step {op : Int} {a : Int} : ToC 186 (Ins.pd ⟨op, a⟩) := by
  intro B cs w hB hsz h
  obtain rfl := Ins.open_ h
  clear hsz
  go_enter Try.func186, Try.ntmps186
  go_wp2
  refine bodyPost_ret (v := .agg #[.int .i64 op, .int .i64 a]) (by simp [results, Try.results186, go_sem]) rfl ⟨[.int .i64 op, .int .i64 a], rfl, ?_, ?_⟩
  · rw [Ins.pd_mk]
    exact ((LvC.nil _ _ _ (Nat.le_refl _)).lit _).lit _
  · repeat (first | exact Below.refl _ _ | refine Below.setCell ?_ (by simp) _ | refine Below.alloc ?_ (by simp; try omega) _)
theorem toIns_all (t : Ins) : ToC 186 (Ins.pd t) := by obtain ⟨op, a⟩ := t; exact toIns_step 

set_option maxHeartbeats 1600000 in
theorem toImport_step {name : ByteArray} {params : Int} {result : Bool} : ToC 122 (Imp.pd ⟨name, params, result⟩) := by
  intro B cs w hB hsz h
  obtain rfl := Imp.open_ h
  clear hsz
  go_enter Try.func122, Try.ntmps122
  go_wp2
  refine bodyPost_ret (v := .agg #[.string name, .int .i64 params, .bool result]) (by simp [results, Try.results122, go_sem]) rfl ⟨[.string name, .int .i64 params, .bool result], rfl, ?_, ?_⟩
  · rw [Imp.pd_mk]
    exact (((LvC.nil _ _ _ (Nat.le_refl _)).lit _).lit _).lit _
  · repeat (first | exact Below.refl _ _ | refine Below.setCell ?_ (by simp) _ | refine Below.alloc ?_ (by simp; try omega) _)
theorem toImport_all (t : Imp) : ToC 122 (Imp.pd t) := by obtain ⟨name, params, result⟩ := t; exact toImport_step 

theorem toInsS_info : (Try.prog.info? 124).map (fun i => (i.zero, i.size, i.bytes)) = some (some (.agg #[.int .i64 0, .int .i64 0]), 2, 16) := by kernel_rfl
set_option maxHeartbeats 1600000 in
theorem toInsS_step {ts : List Ins} (ih : ∀ t ∈ ts, ToC 186 (Ins.pd t)) : ToR 160 (.row 2 (ts.flatMap Ins.pd)) := by
  intro B v w hB hsz h
  rw [sz_row Ins.pd_length (by decide)] at hsz
  obtain ⟨A, n, c, rfl, hnl, hm, hat⟩ := rep_row Ins.pd_length (by decide) h
  obtain ⟨i0, hi, hz0, hz1, hz2⟩ := info_parts toInsS_info
  have hmk := fun W => run_make_rowN (P := Try.prog) 83 124 i0 _ Try.underlying83 hi hz0 .i64 .i64 n n (Nat.le_refl _) (by rw [hz2]; omega) (by omega) W
  rw [hz1] at hmk
  have hnn : n ≤ 1048576 := by omega
  have HN := Lib.hid hnl
  have HS := Lib.hid hsz
  have HI := Lib.hid ih
  clear ih
  clear h hnl hz0 hz1 hz2 hi hm hsz
  go_enter Try.func160, Try.ntmps160
  go_wp2
  clear hmk
  obtain ⟨W1, hW1⟩ : ∃ W1, W1 = w.alloc (.cells (madeCells #[.int .i64 0, .int .i64 0] (n * 2)) 124) := ⟨_, rfl⟩
  rw [← hW1]
  have hF : Fills w W1 w.heap.size n 2 ((ts.take 0).flatMap Ins.pd) 0 := by
    rw [hW1]
    exact Fills.start (cs := (madeCells #[.int .i64 0, .int .i64 0] (n * 2)).toList) (OwAt.new w _ _) (by simp [size_madeCells]) ((Below.refl _ _).alloc (Nat.le_refl _) _) (by simp)
  clear hW1
  go_loopw [4] (fun i wr => ∃ k : Nat, k ≤ n ∧ i = .int .i64 k ∧ Fills w wr w.heap.size n 2 ((ts.take k).flatMap Ins.pd) k) (fun i _ => n - (intOf i).toNat)
  case atStart => exact ⟨0, Nat.zero_le _, rfl, hF⟩
  case round =>
    obtain ⟨k, hk, rfl, hf⟩ := hrel
    clear hF
    by_cases hlt : k < n
    · obtain ⟨g, off, rfl, hg, hcell⟩ := hat (by omega)
      obtain ⟨t, hx, hmem⟩ := at_lt HN.out hlt
      obtain ⟨hbr, hg0⟩ := hf.under
      have hle := szL_get_le (f := Ins.pd) hx
      obtain ⟨op, a⟩ := t
      have c0 : wr.cell? ⟨g, off + k * 2, none⟩ = some (.int .i64 op) := cell_lit hbr (by omega) (hcell k 0 _ _ hx (by rw [Ins.pd_mk]; rfl))
      have c1 : wr.cell? ⟨g, off + k * 2 + 1, none⟩ = some (.int .i64 a) := cell_lit hbr (by omega) (hcell k 1 _ _ hx (by rw [Ins.pd_mk]; rfl))
      have HX := Lib.hid hx
      have HL := Lib.hid hle
      have HM := Lib.hid hmem
      clear hx hcell hle hmem
      go_wp2_with fail
      refine (HI.out _ HM.out B [.int .i64 op, .int .i64 a] _ (by omega) (by have := HS.out; have := HL.out; omega) (Ins.close_)).mono ?_
      rintro e wq ⟨us, rfl, hl, hbq⟩
      obtain rfl := Ins.lopen hl
      have hlen := hl.len
      obtain ⟨F2, hh, hi2, _⟩ := hl
      obtain ⟨⟨u0, d0⟩, f0⟩ := hf.cell hbq hlt 0 (by decide)
      rw [Nat.add_zero] at d0 f0
      obtain ⟨⟨u1, d1⟩, f1⟩ := hf.cell hbq hlt 1 (by decide)
      have hnx := hf.next hbq (es := Ins.pd ⟨op, a⟩) hh hi2 (hlen.trans (Ins.pd_length _)) hlt
      have HF := Lib.hid hnx
      clear hnx hf hh hi2 hlen
      go_wp2_with fail
      go_roundw
      case rel => exact ⟨k + 1, by omega, by go_num, by rw [List.take_add_one, HX.out, List.flatMap_append, opt_flat]; exact HF.out⟩
      case measure => simp [intOf]; omega
    · have hkn : k = n := by omega
      subst hkn
      have hfin : Lv wr w.heap.size wr.heap.size (.row 2 (ts.flatMap Ins.pd)) (.slice (some ⟨w.heap.size, 0, none⟩) k k) := by
        rw [List.take_of_length_le (by have := HN.out; omega)] at hf
        exact hf.done (by rw [flatMap_length Ins.pd_length]; rw [HN.out]) (Nat.le_refl _) (by simp only [maxLen]; omega)
      have hbr := hf.under.1
      clear hf
      go_wp2_with fail
      go_ret
      exact ⟨_, rfl, hfin, hbr⟩
theorem toInsS_all (ts : List Ins) : ToR 160 (.row 2 (ts.flatMap Ins.pd)) := toInsS_step fun t _ => toIns_all t

set_option maxHeartbeats 1600000 in
theorem toCore_step {name : ByteArray} {params : Int} {locals : Int} {result : Bool} {code : List Ins} (ih_code : ToR 160 (.row 2 (code.flatMap Ins.pd))) : ToC 123 (Core.pd ⟨name, params, locals, result, code⟩) := by
  intro B cs w hB hsz h
  obtain ⟨codeV, rfl, r_code⟩ := Core.open_ h
  have R_code := Lib.hid r_code
  clear r_code
  simp only [Core.pd_mk, PD.szL] at hsz
  have HS := Lib.hid hsz
  clear hsz
  go_enter Try.func123, Try.ntmps123
  go_wp2_with fail
  obtain ⟨w0, hw0⟩ : ∃ w0, w0 = ((w.alloc (.cells #[.string name, .int .i64 params, .int .i64 locals, .bool result, codeV] 118)).alloc (.cells #[.string { data := #[] }, .int .i64 0, .int .i64 0, .bool false, .slice none 0 0] 85)).alloc (.cells #[.string name, .int .i64 params, .int .i64 locals, .bool result, .slice none 0 0] 85) := ⟨_, rfl⟩
  rw [← hw0]
  have bP : Blk w0 w.heap.size 118 #[.string name, .int .i64 params, .int .i64 locals, .bool result, codeV] := by rw [hw0]; exact ((Blk.new w _ _).alloc _).alloc _
  have bR : Blk w0 (w.heap.size + 1) 85 #[.string { data := #[] }, .int .i64 0, .int .i64 0, .bool false, .slice none 0 0] := by rw [hw0]; have := (Blk.new (w.alloc (.cells #[.string name, .int .i64 params, .int .i64 locals, .bool result, codeV] 118)) 85 #[.string { data := #[] }, .int .i64 0, .int .i64 0, .bool false, .slice none 0 0]).alloc (.cells #[.string name, .int .i64 params, .int .i64 locals, .bool result, .slice none 0 0] 85); simpa using this
  have bO : Blk w0 (w.heap.size + 1 + 1) 85 #[.string name, .int .i64 params, .int .i64 locals, .bool result, .slice none 0 0] := by rw [hw0]; have := Blk.new ((w.alloc (.cells #[.string name, .int .i64 params, .int .i64 locals, .bool result, codeV] 118)).alloc (.cells #[.string { data := #[] }, .int .i64 0, .int .i64 0, .bool false, .slice none 0 0] 85)) 85 #[.string name, .int .i64 params, .int .i64 locals, .bool result, .slice none 0 0]; simpa using this
  have hB0 : Below w.heap.size w w0 := by rw [hw0]; exact (((Below.refl _ _).alloc (Nat.le_refl _) _).alloc (by simp) _).alloc (by simp; omega) _
  have hs0 : w.heap.size + 3 ≤ w0.heap.size := by rw [hw0]; simp
  clear hw0
  refine (ih_code B codeV _ (by have := hB0.size; omega) (by have := HS.out; omega) (R_code.out.below (hB0.mono hB))).mono ?_
  rintro e w1 ⟨u_code, rfl, l_code, hb1⟩
  obtain ⟨codeA, codeN, codeC, rfl⟩ := l_code.form
  have hB1 := hB0.trans (hb1.mono hB0.size)
  have hs1 := hb1.size
  replace bP := bP.step hb1
  replace bR := bR.step hb1
  replace bO := bO.step hb1
  have fO1_4 := bO.frozen 4
  have cO1_4 : w1.cell? ⟨w.heap.size + 1 + 1, 4, none⟩ = some (.slice none 0 0) := bO.cell 4
  have fR0 := bR.frozen 0
  have cR0 : w1.cell? ⟨w.heap.size + 1, 0, none⟩ = some (.string { data := #[] }) := bR.cell 0
  have fR1 := bR.frozen 1
  have cR1 : w1.cell? ⟨w.heap.size + 1, 1, none⟩ = some (.int .i64 0) := bR.cell 1
  have fR2 := bR.frozen 2
  have cR2 : w1.cell? ⟨w.heap.size + 1, 2, none⟩ = some (.int .i64 0) := bR.cell 2
  have fR3 := bR.frozen 3
  have cR3 : w1.cell? ⟨w.heap.size + 1, 3, none⟩ = some (.bool false) := bR.cell 3
  have fR4 := bR.frozen 4
  have cR4 : w1.cell? ⟨w.heap.size + 1, 4, none⟩ = some (.slice none 0 0) := bR.cell 4
  have cO1_0 : w1.cell? ⟨w.heap.size + 1 + 1, 0, none⟩ = some (.string name) := bO.cell 0
  have cO1_1 : w1.cell? ⟨w.heap.size + 1 + 1, 1, none⟩ = some (.int .i64 params) := bO.cell 1
  have cO1_2 : w1.cell? ⟨w.heap.size + 1 + 1, 2, none⟩ = some (.int .i64 locals) := bO.cell 2
  have cO1_3 : w1.cell? ⟨w.heap.size + 1 + 1, 3, none⟩ = some (.bool result) := bO.cell 3
  go_wp2_with fail
  clear bP bR bO
  refine bodyPost_ret (v := .agg #[.string name, .int .i64 params, .int .i64 locals, .bool result, .slice codeA codeN codeC]) (by simp [results, Try.results123, go_sem, cR0, cR1, cR2, cR3, cR4]) rfl ⟨[.string name, .int .i64 params, .int .i64 locals, .bool result, .slice codeA codeN codeC], rfl, ?_, ?_⟩
  · have base : LvC w1 w0.heap.size w1.heap.size [.lit (.string name), .lit (.int .i64 params), .lit (.int .i64 locals), .lit (.bool result), .row 2 (code.flatMap Ins.pd)] [.string name, .int .i64 params, .int .i64 locals, .bool result, .slice codeA codeN codeC] := by
      have := LvC.lit (LvC.lit (LvC.lit (LvC.lit (LvC.cons l_code (LvC.nil0 _) (by first | omega | (simp; omega)) (by first | omega | (simp; omega)) (by first | omega | (simp; omega))) (.bool result)) (.int .i64 locals)) (.int .i64 params)) (.string name)
      exact this
    rw [Core.pd_mk]
    refine LvC.low (lo2 := w0.heap.size) ?_ (by omega)
    refine LvC.more (hi := w1.heap.size) ?_ (Nat.le_refl _) (by simp [World.setCell]) (Nat.le_refl _)
    iterate 6 (refine LvC.setCell ?_ (.inl (by simp; omega)) _)
    exact base
  · iterate 6 (refine Below.setCell ?_ (by simp; try omega) _)
    exact hB1
theorem toCore_all (t : Core) : ToC 123 (Core.pd t) := by obtain ⟨name, params, locals, result, code⟩ := t; exact toCore_step (toInsS_all code)

theorem toImportS_info : (Try.prog.info? 82).map (fun i => (i.zero, i.size, i.bytes)) = some (some (.agg #[.string { data := #[] }, .int .i64 0, .bool false]), 3, 32) := by kernel_rfl
set_option maxHeartbeats 1600000 in
theorem toImportS_step {ts : List Imp} (ih : ∀ t ∈ ts, ToC 122 (Imp.pd t)) : ToR 67 (.row 3 (ts.flatMap Imp.pd)) := by
  intro B v w hB hsz h
  rw [sz_row Imp.pd_length (by decide)] at hsz
  obtain ⟨A, n, c, rfl, hnl, hm, hat⟩ := rep_row Imp.pd_length (by decide) h
  obtain ⟨i0, hi, hz0, hz1, hz2⟩ := info_parts toImportS_info
  have hmk := fun W => run_make_rowN (P := Try.prog) 28 82 i0 _ Try.underlying28 hi hz0 .i64 .i64 n n (Nat.le_refl _) (by rw [hz2]; omega) (by omega) W
  rw [hz1] at hmk
  have hnn : n ≤ 1048576 := by omega
  have HN := Lib.hid hnl
  have HS := Lib.hid hsz
  have HI := Lib.hid ih
  clear ih
  clear h hnl hz0 hz1 hz2 hi hm hsz
  go_enter Try.func67, Try.ntmps67
  go_wp2
  clear hmk
  obtain ⟨W1, hW1⟩ : ∃ W1, W1 = w.alloc (.cells (madeCells #[.string { data := #[] }, .int .i64 0, .bool false] (n * 3)) 82) := ⟨_, rfl⟩
  rw [← hW1]
  have hF : Fills w W1 w.heap.size n 3 ((ts.take 0).flatMap Imp.pd) 0 := by
    rw [hW1]
    exact Fills.start (cs := (madeCells #[.string { data := #[] }, .int .i64 0, .bool false] (n * 3)).toList) (OwAt.new w _ _) (by simp [size_madeCells]) ((Below.refl _ _).alloc (Nat.le_refl _) _) (by simp)
  clear hW1
  go_loopw [4] (fun i wr => ∃ k : Nat, k ≤ n ∧ i = .int .i64 k ∧ Fills w wr w.heap.size n 3 ((ts.take k).flatMap Imp.pd) k) (fun i _ => n - (intOf i).toNat)
  case atStart => exact ⟨0, Nat.zero_le _, rfl, hF⟩
  case round =>
    obtain ⟨k, hk, rfl, hf⟩ := hrel
    clear hF
    by_cases hlt : k < n
    · obtain ⟨g, off, rfl, hg, hcell⟩ := hat (by omega)
      obtain ⟨t, hx, hmem⟩ := at_lt HN.out hlt
      obtain ⟨hbr, hg0⟩ := hf.under
      have hle := szL_get_le (f := Imp.pd) hx
      obtain ⟨name, params, result⟩ := t
      have c0 : wr.cell? ⟨g, off + k * 3, none⟩ = some (.string name) := cell_lit hbr (by omega) (hcell k 0 _ _ hx (by rw [Imp.pd_mk]; rfl))
      have c1 : wr.cell? ⟨g, off + k * 3 + 1, none⟩ = some (.int .i64 params) := cell_lit hbr (by omega) (hcell k 1 _ _ hx (by rw [Imp.pd_mk]; rfl))
      have c2 : wr.cell? ⟨g, off + k * 3 + 2, none⟩ = some (.bool result) := cell_lit hbr (by omega) (hcell k 2 _ _ hx (by rw [Imp.pd_mk]; rfl))
      have HX := Lib.hid hx
      have HL := Lib.hid hle
      have HM := Lib.hid hmem
      clear hx hcell hle hmem
      go_wp2_with fail
      refine (HI.out _ HM.out B [.string name, .int .i64 params, .bool result] _ (by omega) (by have := HS.out; have := HL.out; omega) (Imp.close_)).mono ?_
      rintro e wq ⟨us, rfl, hl, hbq⟩
      obtain rfl := Imp.lopen hl
      have hlen := hl.len
      obtain ⟨F2, hh, hi2, _⟩ := hl
      obtain ⟨⟨u0, d0⟩, f0⟩ := hf.cell hbq hlt 0 (by decide)
      rw [Nat.add_zero] at d0 f0
      obtain ⟨⟨u1, d1⟩, f1⟩ := hf.cell hbq hlt 1 (by decide)
      obtain ⟨⟨u2, d2⟩, f2⟩ := hf.cell hbq hlt 2 (by decide)
      have hnx := hf.next hbq (es := Imp.pd ⟨name, params, result⟩) hh hi2 (hlen.trans (Imp.pd_length _)) hlt
      have HF := Lib.hid hnx
      clear hnx hf hh hi2 hlen
      go_wp2_with fail
      go_roundw
      case rel => exact ⟨k + 1, by omega, by go_num, by rw [List.take_add_one, HX.out, List.flatMap_append, opt_flat]; exact HF.out⟩
      case measure => simp [intOf]; omega
    · have hkn : k = n := by omega
      subst hkn
      have hfin : Lv wr w.heap.size wr.heap.size (.row 3 (ts.flatMap Imp.pd)) (.slice (some ⟨w.heap.size, 0, none⟩) k k) := by
        rw [List.take_of_length_le (by have := HN.out; omega)] at hf
        exact hf.done (by rw [flatMap_length Imp.pd_length]; rw [HN.out]) (Nat.le_refl _) (by simp only [maxLen]; omega)
      have hbr := hf.under.1
      clear hf
      go_wp2_with fail
      go_ret
      exact ⟨_, rfl, hfin, hbr⟩
theorem toImportS_all (ts : List Imp) : ToR 67 (.row 3 (ts.flatMap Imp.pd)) := toImportS_step fun t _ => toImport_all t

theorem toCoreS_info : (Try.prog.info? 85).map (fun i => (i.zero, i.size, i.bytes)) = some (some (.agg #[.string { data := #[] }, .int .i64 0, .int .i64 0, .bool false, .slice none 0 0]), 5, 64) := by kernel_rfl
set_option maxHeartbeats 1600000 in
theorem toCoreS_step {ts : List Core} (ih : ∀ t ∈ ts, ToC 123 (Core.pd t)) : ToR 68 (.row 5 (ts.flatMap Core.pd)) := by
  intro B v w hB hsz h
  rw [sz_row Core.pd_length (by decide)] at hsz
  obtain ⟨A, n, c, rfl, hnl, hm, hat⟩ := rep_row Core.pd_length (by decide) h
  obtain ⟨i0, hi, hz0, hz1, hz2⟩ := info_parts toCoreS_info
  have hmk := fun W => run_make_rowN (P := Try.prog) 29 85 i0 _ Try.underlying29 hi hz0 .i64 .i64 n n (Nat.le_refl _) (by rw [hz2]; omega) (by omega) W
  rw [hz1] at hmk
  have hnn : n ≤ 1048576 := by omega
  have HN := Lib.hid hnl
  have HS := Lib.hid hsz
  have HI := Lib.hid ih
  clear ih
  clear h hnl hz0 hz1 hz2 hi hm hsz
  go_enter Try.func68, Try.ntmps68
  go_wp2
  clear hmk
  obtain ⟨W1, hW1⟩ : ∃ W1, W1 = w.alloc (.cells (madeCells #[.string { data := #[] }, .int .i64 0, .int .i64 0, .bool false, .slice none 0 0] (n * 5)) 85) := ⟨_, rfl⟩
  rw [← hW1]
  have hF : Fills w W1 w.heap.size n 5 ((ts.take 0).flatMap Core.pd) 0 := by
    rw [hW1]
    exact Fills.start (cs := (madeCells #[.string { data := #[] }, .int .i64 0, .int .i64 0, .bool false, .slice none 0 0] (n * 5)).toList) (OwAt.new w _ _) (by simp [size_madeCells]) ((Below.refl _ _).alloc (Nat.le_refl _) _) (by simp)
  clear hW1
  go_loopw [4] (fun i wr => ∃ k : Nat, k ≤ n ∧ i = .int .i64 k ∧ Fills w wr w.heap.size n 5 ((ts.take k).flatMap Core.pd) k) (fun i _ => n - (intOf i).toNat)
  case atStart => exact ⟨0, Nat.zero_le _, rfl, hF⟩
  case round =>
    obtain ⟨k, hk, rfl, hf⟩ := hrel
    clear hF
    by_cases hlt : k < n
    · obtain ⟨g, off, rfl, hg, hcell⟩ := hat (by omega)
      obtain ⟨t, hx, hmem⟩ := at_lt HN.out hlt
      obtain ⟨hbr, hg0⟩ := hf.under
      have hle := szL_get_le (f := Core.pd) hx
      obtain ⟨name, params, locals, result, code⟩ := t
      have c0 : wr.cell? ⟨g, off + k * 5, none⟩ = some (.string name) := cell_lit hbr (by omega) (hcell k 0 _ _ hx (by rw [Core.pd_mk]; rfl))
      have c1 : wr.cell? ⟨g, off + k * 5 + 1, none⟩ = some (.int .i64 params) := cell_lit hbr (by omega) (hcell k 1 _ _ hx (by rw [Core.pd_mk]; rfl))
      have c2 : wr.cell? ⟨g, off + k * 5 + 2, none⟩ = some (.int .i64 locals) := cell_lit hbr (by omega) (hcell k 2 _ _ hx (by rw [Core.pd_mk]; rfl))
      have c3 : wr.cell? ⟨g, off + k * 5 + 3, none⟩ = some (.bool result) := cell_lit hbr (by omega) (hcell k 3 _ _ hx (by rw [Core.pd_mk]; rfl))
      obtain ⟨codeV, c4, hr4⟩ : ∃ u, wr.cell? ⟨g, off + k * 5 + 4, none⟩ = some u ∧ Rep wr B (.row 2 (code.flatMap Ins.pd)) u := cell_rep hbr (by omega) hB (hcell k 4 _ _ hx (by rw [Core.pd_mk]; rfl))
      have HR4 := Lib.hid hr4
      clear hr4
      have HX := Lib.hid hx
      have HL := Lib.hid hle
      have HM := Lib.hid hmem
      clear hx hcell hle hmem
      go_wp2_with fail
      refine (HI.out _ HM.out B [.string name, .int .i64 params, .int .i64 locals, .bool result, codeV] _ (by omega) (by have := HS.out; have := HL.out; omega) (Core.close_ HR4.out)).mono ?_
      rintro e wq ⟨us, rfl, hl, hbq⟩
      obtain ⟨codeA, codeN, codeC, rfl⟩ := Core.lopen hl
      have hlen := hl.len
      obtain ⟨F2, hh, hi2, _⟩ := hl
      obtain ⟨⟨u0, d0⟩, f0⟩ := hf.cell hbq hlt 0 (by decide)
      rw [Nat.add_zero] at d0 f0
      obtain ⟨⟨u1, d1⟩, f1⟩ := hf.cell hbq hlt 1 (by decide)
      obtain ⟨⟨u2, d2⟩, f2⟩ := hf.cell hbq hlt 2 (by decide)
      obtain ⟨⟨u3, d3⟩, f3⟩ := hf.cell hbq hlt 3 (by decide)
      obtain ⟨⟨u4, d4⟩, f4⟩ := hf.cell hbq hlt 4 (by decide)
      have hnx := hf.next hbq (es := Core.pd ⟨name, params, locals, result, code⟩) hh hi2 (hlen.trans (Core.pd_length _)) hlt
      have HF := Lib.hid hnx
      clear hnx hf hh hi2 hlen
      go_wp2_with fail
      go_roundw
      case rel => exact ⟨k + 1, by omega, by go_num, by rw [List.take_add_one, HX.out, List.flatMap_append, opt_flat]; exact HF.out⟩
      case measure => simp [intOf]; omega
    · have hkn : k = n := by omega
      subst hkn
      have hfin : Lv wr w.heap.size wr.heap.size (.row 5 (ts.flatMap Core.pd)) (.slice (some ⟨w.heap.size, 0, none⟩) k k) := by
        rw [List.take_of_length_le (by have := HN.out; omega)] at hf
        exact hf.done (by rw [flatMap_length Core.pd_length]; rw [HN.out]) (Nat.le_refl _) (by simp only [maxLen]; omega)
      have hbr := hf.under.1
      clear hf
      go_wp2_with fail
      go_ret
      exact ⟨_, rfl, hfin, hbr⟩
theorem toCoreS_all (ts : List Core) : ToR 68 (.row 5 (ts.flatMap Core.pd)) := toCoreS_step fun t _ => toCore_all t

set_option maxHeartbeats 1600000 in
theorem toModule_step {pages : Int} {imports : List Imp} {cores : List Core} (ih_imports : ToR 67 (.row 3 (imports.flatMap Imp.pd))) (ih_cores : ToR 68 (.row 5 (cores.flatMap Core.pd))) : ToC 19 (Mod.pd ⟨pages, imports, cores⟩) := by
  intro B cs w hB hsz h
  obtain ⟨importsV, coresV, rfl, r_imports, r_cores⟩ := Mod.open_ h
  have R_imports := Lib.hid r_imports
  clear r_imports
  have R_cores := Lib.hid r_cores
  clear r_cores
  simp only [Mod.pd_mk, PD.szL] at hsz
  have HS := Lib.hid hsz
  clear hsz
  go_enter Try.func19, Try.ntmps19
  go_wp2_with fail
  obtain ⟨w0, hw0⟩ : ∃ w0, w0 = ((w.alloc (.cells #[.int .i64 pages, importsV, coresV] 25)).alloc (.cells #[.int .i64 0, .slice none 0 0, .slice none 0 0] 31)).alloc (.cells #[.int .i64 pages, .slice none 0 0, .slice none 0 0] 31) := ⟨_, rfl⟩
  rw [← hw0]
  have bP : Blk w0 w.heap.size 25 #[.int .i64 pages, importsV, coresV] := by rw [hw0]; exact ((Blk.new w _ _).alloc _).alloc _
  have bR : Blk w0 (w.heap.size + 1) 31 #[.int .i64 0, .slice none 0 0, .slice none 0 0] := by rw [hw0]; have := (Blk.new (w.alloc (.cells #[.int .i64 pages, importsV, coresV] 25)) 31 #[.int .i64 0, .slice none 0 0, .slice none 0 0]).alloc (.cells #[.int .i64 pages, .slice none 0 0, .slice none 0 0] 31); simpa using this
  have bO : Blk w0 (w.heap.size + 1 + 1) 31 #[.int .i64 pages, .slice none 0 0, .slice none 0 0] := by rw [hw0]; have := Blk.new ((w.alloc (.cells #[.int .i64 pages, importsV, coresV] 25)).alloc (.cells #[.int .i64 0, .slice none 0 0, .slice none 0 0] 31)) 31 #[.int .i64 pages, .slice none 0 0, .slice none 0 0]; simpa using this
  have hB0 : Below w.heap.size w w0 := by rw [hw0]; exact (((Below.refl _ _).alloc (Nat.le_refl _) _).alloc (by simp) _).alloc (by simp; omega) _
  have hs0 : w.heap.size + 3 ≤ w0.heap.size := by rw [hw0]; simp
  clear hw0
  refine (ih_imports B importsV _ (by have := hB0.size; omega) (by have := HS.out; omega) (R_imports.out.below (hB0.mono hB))).mono ?_
  rintro e w1 ⟨u_imports, rfl, l_imports, hb1⟩
  obtain ⟨importsA, importsN, importsC, rfl⟩ := l_imports.form
  have hB1 := hB0.trans (hb1.mono hB0.size)
  have hs1 := hb1.size
  replace bP := bP.step hb1
  replace bR := bR.step hb1
  replace bO := bO.step hb1
  have fO1_1 := bO.frozen 1
  have cO1_1 : w1.cell? ⟨w.heap.size + 1 + 1, 1, none⟩ = some (.slice none 0 0) := bO.cell 1
  have cP1_2 : w1.cell? ⟨w.heap.size, 2, none⟩ = some (coresV) := bP.cell 2
  go_wp2_with fail
  clear fO1_1 cO1_1 cP1_2
  obtain ⟨w2, hw2⟩ : ∃ W, W = (w1.setCell ⟨w.heap.size + 1 + 1, 1, none⟩ (.slice importsA importsN importsC)) := ⟨_, rfl⟩
  rw [← hw2]
  replace bP : Blk w2 w.heap.size 25 #[.int .i64 pages, importsV, coresV] := by rw [hw2]; exact (bP.far (by simp; try omega) _)
  replace bR : Blk w2 (w.heap.size + 1) 31 #[.int .i64 0, .slice none 0 0, .slice none 0 0] := by rw [hw2]; exact (bR.far (by simp; try omega) _)
  replace bO : Blk w2 (w.heap.size + 1 + 1) 31 #[.int .i64 pages, .slice importsA importsN importsC, .slice none 0 0] := by rw [hw2]; have := (bO.set_ 1 (.slice importsA importsN importsC)); simpa using this
  have hB2 : Below w.heap.size w w2 := by rw [hw2]; exact (hB1.setCell (by simp; try omega) _)
  have hs2 : w1.heap.size ≤ w2.heap.size := by rw [hw2]; simp [World.setCell]
  replace l_imports := (l_imports.setCell (p := ⟨w.heap.size + 1 + 1, 1, none⟩) (.inl (by simp; omega)) (.slice importsA importsN importsC))
  rw [← hw2] at l_imports
  clear hw2
  refine (ih_cores B coresV _ (by have := hB2.size; omega) (by have := HS.out; omega) (R_cores.out.below (hB2.mono hB))).mono ?_
  rintro e w3 ⟨u_cores, rfl, l_cores, hb3⟩
  obtain ⟨coresA, coresN, coresC, rfl⟩ := l_cores.form
  have hB3 := hB2.trans (hb3.mono hB2.size)
  have hs3 := hb3.size
  replace bP := bP.step hb3
  replace bR := bR.step hb3
  replace bO := bO.step hb3
  replace l_imports := l_imports.step hb3
  have fO3_2 := bO.frozen 2
  have cO3_2 : w3.cell? ⟨w.heap.size + 1 + 1, 2, none⟩ = some (.slice none 0 0) := bO.cell 2
  have fR0 := bR.frozen 0
  have cR0 : w3.cell? ⟨w.heap.size + 1, 0, none⟩ = some (.int .i64 0) := bR.cell 0
  have fR1 := bR.frozen 1
  have cR1 : w3.cell? ⟨w.heap.size + 1, 1, none⟩ = some (.slice none 0 0) := bR.cell 1
  have fR2 := bR.frozen 2
  have cR2 : w3.cell? ⟨w.heap.size + 1, 2, none⟩ = some (.slice none 0 0) := bR.cell 2
  have cO3_0 : w3.cell? ⟨w.heap.size + 1 + 1, 0, none⟩ = some (.int .i64 pages) := bO.cell 0
  have cO3_1 : w3.cell? ⟨w.heap.size + 1 + 1, 1, none⟩ = some (.slice importsA importsN importsC) := bO.cell 1
  go_wp2_with fail
  clear bP bR bO
  refine bodyPost_ret (v := .agg #[.int .i64 pages, .slice importsA importsN importsC, .slice coresA coresN coresC]) (by simp [results, Try.results19, go_sem, cR0, cR1, cR2]) rfl ⟨[.int .i64 pages, .slice importsA importsN importsC, .slice coresA coresN coresC], rfl, ?_, ?_⟩
  · have base : LvC w3 w0.heap.size w3.heap.size [.lit (.int .i64 pages), .row 3 (imports.flatMap Imp.pd), .row 5 (cores.flatMap Core.pd)] [.int .i64 pages, .slice importsA importsN importsC, .slice coresA coresN coresC] := by
      have := LvC.lit (LvC.cons l_imports (LvC.cons l_cores (LvC.nil0 _) (by first | omega | (simp; omega)) (by first | omega | (simp; omega)) (by first | omega | (simp; omega))) (by first | omega | (simp; omega)) (by first | omega | (simp; omega)) (by first | omega | (simp; omega))) (.int .i64 pages)
      exact this
    rw [Mod.pd_mk]
    refine LvC.low (lo2 := w0.heap.size) ?_ (by omega)
    refine LvC.more (hi := w3.heap.size) ?_ (Nat.le_refl _) (by simp [World.setCell]) (Nat.le_refl _)
    iterate 4 (refine LvC.setCell ?_ (.inl (by simp; omega)) _)
    exact base
  · iterate 4 (refine Below.setCell ?_ (by simp; try omega) _)
    exact hB3
theorem toModule_all (t : Mod) : ToC 19 (Mod.pd t) := by obtain ⟨pages, imports, cores⟩ := t; exact toModule_step (toImportS_all imports) (toCoreS_all cores)






end Go.Proofs.Ytmmeaakhikcigaa
