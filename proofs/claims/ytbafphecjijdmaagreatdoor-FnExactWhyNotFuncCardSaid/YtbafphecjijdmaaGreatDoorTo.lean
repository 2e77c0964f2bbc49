/-
  The laws' own helpers 'to..' over the program's types (by program: tygen2.py, tyfam.py).
-/
import Derived.Test.YtbafphecjijdmaaGreatDoorFam
import Derived.Test.YtbafphecjijdmaaGreatDoorTy
namespace Go.Proofs.YtbafphecjijdmaaGreatDoor
open Go.RowKit
set_option linter.unusedVariables false
set_option linter.unusedSimpArgs false
set_option linter.unnecessarySimpa false
set_option maxRecDepth 100000


theorem toStringS_info : (Tryz.prog.info? 9).map (fun i => (i.zero, i.size, i.bytes)) = some (some (.string { data := #[] }), 1, 16) := by kernel_rfl
set_option maxHeartbeats 1600000 in
theorem toStringS_step {ts : List ByteArray} : ToR 29 (.row 1 (ts.flatMap strC)) := by
  intro B v w hB hsz h
  rw [sz_row strC_length (by decide)] at hsz
  obtain ⟨A, n, c, rfl, hnl, hm, hat⟩ := rep_row strC_length (by decide) h
  obtain ⟨i0, hi, hz0, hz1, hz2⟩ := info_parts toStringS_info
  have hmk := fun W => run_make_rowN (P := Tryz.prog) 22 9 i0 _ Tryz.underlying22 hi hz0 .i64 .i64 n n (Nat.le_refl _) (by rw [hz2]; omega) (by omega) W
  rw [hz1, Nat.mul_one] at hmk
  have hnn : n ≤ 1048576 := by omega
  have HN := Lib.hid hnl
  clear h hnl hz0 hz1 hz2 hi hm hsz
  go_enter Tryz.func29, Tryz.ntmps29
  go_wp2
  clear hmk
  obtain ⟨W1, hW1⟩ : ∃ W1, W1 = w.alloc (.cells (madeCells #[.string { data := #[] }] (n)) 9) := ⟨_, rfl⟩
  rw [← hW1]
  have hF : Fills w W1 w.heap.size n 1 ((ts.take 0).flatMap strC) 0 := by
    rw [hW1]
    exact Fills.start (cs := (madeCells #[.string { data := #[] }] (n)).toList) (OwAt.new w _ _) (by simp [size_madeCells]) ((Below.refl _ _).alloc (Nat.le_refl _) _) (by simp)
  clear hW1
  go_loopw [4] (fun i wr => ∃ k : Nat, k ≤ n ∧ i = .int .i64 k ∧ Fills w wr w.heap.size n 1 ((ts.take k).flatMap strC) k) (fun i _ => n - (intOf i).toNat)
  case atStart => exact ⟨0, Nat.zero_le _, rfl, hF⟩
  case round =>
    obtain ⟨k, hk, rfl, hf⟩ := hrel
    clear hF
    by_cases hlt : k < n
    · obtain ⟨g, off, rfl, hg, hcell⟩ := hat (by omega)
      obtain ⟨t, hx, hmem⟩ := at_lt HN.out hlt
      obtain ⟨hbr, hg0⟩ := hf.under
      have c0 : wr.cell? ⟨g, off + k, none⟩ = some (.string t) := cell_lit hbr (by omega) (by have := hcell k 0 _ _ hx rfl; simpa using this)
      have HX := Lib.hid hx
      clear hx hcell
      obtain ⟨⟨u0, d0⟩, f0⟩ := hf.cell (Below.refl _ _) hlt 0 (by decide)
      rw [Nat.add_zero, Nat.mul_one] at d0 f0
      have hnx := hf.next (Below.refl _ _) (es := strC t) (HoldL.cons (Hold.lit_ wr (.string t)) (HoldL.nil wr)) (In.nil _ _) (rfl) hlt
      rw [Nat.mul_one] at hnx
      have HF := Lib.hid hnx
      clear hnx hf
      go_wp2_with fail
      go_roundw
      case rel => exact ⟨k + 1, by omega, by go_num, by rw [List.take_add_one, HX.out, List.flatMap_append, opt_flat]; exact HF.out⟩
      case measure => simp [intOf]; omega
    · have hkn : k = n := by omega
      subst hkn
      have hfin : Lv wr w.heap.size wr.heap.size (.row 1 (ts.flatMap strC)) (.slice (some ⟨w.heap.size, 0, none⟩) k k) := by
        rw [List.take_of_length_le (by have := HN.out; omega)] at hf
        exact hf.done (by rw [flatMap_length strC_length]; rw [HN.out]) (Nat.le_refl _) (by simp only [maxLen]; omega)
      have hbr := hf.under.1
      clear hf
      go_wp2_with fail
      go_ret
      exact ⟨_, rfl, hfin, hbr⟩
theorem toStringS_all (ts : List ByteArray) : ToR 29 (.row 1 (ts.flatMap strC)) := toStringS_step




theorem toTypeS_info : (Tryz.prog.info? 60).map (fun i => (i.zero, i.size, i.bytes)) = some (some (.agg #[.int .i64 0, .string { data := #[] }, .slice none 0 0, .slice none 0 0]), 4, 72) := by kernel_rfl
set_option maxHeartbeats 1600000 in
theorem toTypeS_step {ts : List Ty} (ih : ∀ t ∈ ts, ToC 48 (Ty.pd t)) : ToR 82 (.row 4 (ts.flatMap Ty.pd)) := by
  intro B v w hB hsz h
  rw [sz_row Ty.pd_length (by decide)] at hsz
  obtain ⟨A, n, c, rfl, hnl, hm, hat⟩ := rep_row Ty.pd_length (by decide) h
  obtain ⟨i0, hi, hz0, hz1, hz2⟩ := info_parts toTypeS_info
  have hmk := fun W => run_make_rowN (P := Tryz.prog) 58 60 i0 _ Tryz.underlying58 hi hz0 .i64 .i64 n n (Nat.le_refl _) (by rw [hz2]; omega) (by omega) W
  rw [hz1] at hmk
  have hnn : n ≤ 1048576 := by omega
  have HN := Lib.hid hnl
  have HS := Lib.hid hsz
  have HI := Lib.hid ih
  clear ih
  clear h hnl hz0 hz1 hz2 hi hm hsz
  go_enter Tryz.func82, Tryz.ntmps82
  go_wp2
  clear hmk
  obtain ⟨W1, hW1⟩ : ∃ W1, W1 = w.alloc (.cells (madeCells #[.int .i64 0, .string { data := #[] }, .slice none 0 0, .slice none 0 0] (n * 4)) 60) := ⟨_, rfl⟩
  rw [← hW1]
  have hF : Fills w W1 w.heap.size n 4 ((ts.take 0).flatMap Ty.pd) 0 := by
    rw [hW1]
    exact Fills.start (cs := (madeCells #[.int .i64 0, .string { data := #[] }, .slice none 0 0, .slice none 0 0] (n * 4)).toList) (OwAt.new w _ _) (by simp [size_madeCells]) ((Below.refl _ _).alloc (Nat.le_refl _) _) (by simp)
  clear hW1
  go_loopw [4] (fun i wr => ∃ k : Nat, k ≤ n ∧ i = .int .i64 k ∧ Fills w wr w.heap.size n 4 ((ts.take k).flatMap Ty.pd) k) (fun i _ => n - (intOf i).toNat)
  case atStart => exact ⟨0, Nat.zero_le _, rfl, hF⟩
  case round =>
    obtain ⟨k, hk, rfl, hf⟩ := hrel
    clear hF
    by_cases hlt : k < n
    · obtain ⟨g, off, rfl, hg, hcell⟩ := hat (by omega)
      obtain ⟨t, hx, hmem⟩ := at_lt HN.out hlt
      obtain ⟨hbr, hg0⟩ := hf.under
      have hle := szL_get_le (f := Ty.pd) hx
      obtain ⟨kind, name, labels, kids⟩ := t
      have c0 : wr.cell? ⟨g, off + k * 4, none⟩ = some (.int .i64 kind) := cell_lit hbr (by omega) (hcell k 0 _ _ hx (by rw [Ty.pd_mk]; rfl))
      have c1 : wr.cell? ⟨g, off + k * 4 + 1, none⟩ = some (.string name) := cell_lit hbr (by omega) (hcell k 1 _ _ hx (by rw [Ty.pd_mk]; rfl))
      obtain ⟨labelsV, c2, hr2⟩ : ∃ u, wr.cell? ⟨g, off + k * 4 + 2, none⟩ = some u ∧ Rep wr B (.row 1 (labels.flatMap strC)) u := cell_rep hbr (by omega) hB (hcell k 2 _ _ hx (by rw [Ty.pd_mk]; rfl))
      have HR2 := Lib.hid hr2
      clear hr2
      obtain ⟨kidsV, c3, hr3⟩ : ∃ u, wr.cell? ⟨g, off + k * 4 + 3, none⟩ = some u ∧ Rep wr B (.row 4 (kids.flatMap Ty.pd)) u := cell_rep hbr (by omega) hB (hcell k 3 _ _ hx (by rw [Ty.pd_mk]; rfl))
      have HR3 := Lib.hid hr3
      clear hr3
      have HX := Lib.hid hx
      have HL := Lib.hid hle
      have HM := Lib.hid hmem
      clear hx hcell hle hmem
      go_wp2_with fail
      refine (HI.out _ HM.out B [.int .i64 kind, .string name, labelsV, kidsV] _ (by omega) (by have := HS.out; have := HL.out; omega) (Ty.close_ HR2.out HR3.out)).mono ?_
      rintro e wq ⟨us, rfl, hl, hbq⟩
      obtain ⟨labelsA, labelsN, labelsC, kidsA, kidsN, kidsC, rfl⟩ := Ty.lopen hl
      have hlen := hl.len
      obtain ⟨F2, hh, hi2, _⟩ := hl
      obtain ⟨⟨u0, d0⟩, f0⟩ := hf.cell hbq hlt 0 (by decide)
      rw [Nat.add_zero] at d0 f0
      obtain ⟨⟨u1, d1⟩, f1⟩ := hf.cell hbq hlt 1 (by decide)
      obtain ⟨⟨u2, d2⟩, f2⟩ := hf.cell hbq hlt 2 (by decide)
      obtain ⟨⟨u3, d3⟩, f3⟩ := hf.cell hbq hlt 3 (by decide)
      have hnx := hf.next hbq (es := Ty.pd ⟨kind, name, labels, kids⟩) hh hi2 (hlen.trans (Ty.pd_length _)) hlt
      have HF := Lib.hid hnx
      clear hnx hf hh hi2 hlen
      go_wp2_with fail
      go_roundw
      case rel => exact ⟨k + 1, by omega, by go_num, by rw [List.take_add_one, HX.out, List.flatMap_append, opt_flat]; exact HF.out⟩
      case measure => simp [intOf]; omega
    · have hkn : k = n := by omega
      subst hkn
      have hfin : Lv wr w.heap.size wr.heap.size (.row 4 (ts.flatMap Ty.pd)) (.slice (some ⟨w.heap.size, 0, none⟩) k k) := by
        rw [List.take_of_length_le (by have := HN.out; omega)] at hf
        exact hf.done (by rw [flatMap_length Ty.pd_length]; rw [HN.out]) (Nat.le_refl _) (by simp only [maxLen]; omega)
      have hbr := hf.under.1
      clear hf
      go_wp2_with fail
      go_ret
      exact ⟨_, rfl, hfin, hbr⟩
set_option maxHeartbeats 1600000 in
theorem toType_step {kind : Int} {name : ByteArray} {labels : List ByteArray} {kids : List Ty} (ih_labels : ToR 29 (.row 1 (labels.flatMap strC))) (ih_kids : ToR 82 (.row 4 (kids.flatMap Ty.pd))) : ToC 48 (Ty.pd ⟨kind, name, labels, kids⟩) := by
  intro B cs w hB hsz h
  obtain ⟨labelsV, kidsV, rfl, r_labels, r_kids⟩ := Ty.open_ h
  have R_labels := Lib.hid r_labels
  clear r_labels
  have R_kids := Lib.hid r_kids
  clear r_kids
  simp only [Ty.pd_mk, PD.szL] at hsz
  have HS := Lib.hid hsz
  clear hsz
  go_enter Tryz.func48, Tryz.ntmps48
  go_wp2_with fail
  obtain ⟨w0, hw0⟩ : ∃ w0, w0 = ((w.alloc (.cells #[.int .i64 kind, .string name, labelsV, kidsV] 52)).alloc (.cells #[.int .i64 0, .string { data := #[] }, .slice none 0 0, .slice none 0 0] 60)).alloc (.cells #[.int .i64 kind, .string name, .slice none 0 0, .slice none 0 0] 60) := ⟨_, rfl⟩
  rw [← hw0]
  have bP : Blk w0 w.heap.size 52 #[.int .i64 kind, .string name, labelsV, kidsV] := by rw [hw0]; exact ((Blk.new w _ _).alloc _).alloc _
  have bR : Blk w0 (w.heap.size + 1) 60 #[.int .i64 0, .string { data := #[] }, .slice none 0 0, .slice none 0 0] := by rw [hw0]; have := (Blk.new (w.alloc (.cells #[.int .i64 kind, .string name, labelsV, kidsV] 52)) 60 #[.int .i64 0, .string { data := #[] }, .slice none 0 0, .slice none 0 0]).alloc (.cells #[.int .i64 kind, .string name, .slice none 0 0, .slice none 0 0] 60); simpa using this
  have bO : Blk w0 (w.heap.size + 1 + 1) 60 #[.int .i64 kind, .string name, .slice none 0 0, .slice none 0 0] := by rw [hw0]; have := Blk.new ((w.alloc (.cells #[.int .i64 kind, .string name, labelsV, kidsV] 52)).alloc (.cells #[.int .i64 0, .string { data := #[] }, .slice none 0 0, .slice none 0 0] 60)) 60 #[.int .i64 kind, .string name, .slice none 0 0, .slice none 0 0]; simpa using this
  have hB0 : Below w.heap.size w w0 := by rw [hw0]; exact (((Below.refl _ _).alloc (Nat.le_refl _) _).alloc (by simp) _).alloc (by simp; omega) _
  have hs0 : w.heap.size + 3 ≤ w0.heap.size := by rw [hw0]; simp
  clear hw0
  refine (ih_labels B labelsV _ (by have := hB0.size; omega) (by have := HS.out; omega) (R_labels.out.below (hB0.mono hB))).mono ?_
  rintro e w1 ⟨u_labels, rfl, l_labels, hb1⟩
  obtain ⟨labelsA, labelsN, labelsC, rfl⟩ := l_labels.form
  have hB1 := hB0.trans (hb1.mono hB0.size)
  have hs1 := hb1.size
  replace bP := bP.step hb1
  replace bR := bR.step hb1
  replace bO := bO.step hb1
  have fO1_2 := bO.frozen 2
  have cO1_2 : w1.cell? ⟨w.heap.size + 1 + 1, 2, none⟩ = some (.slice none 0 0) := bO.cell 2
  have cP1_3 : w1.cell? ⟨w.heap.size, 3, none⟩ = some (kidsV) := bP.cell 3
  go_wp2_with fail
  clear fO1_2 cO1_2 cP1_3
  obtain ⟨w2, hw2⟩ : ∃ W, W = (w1.setCell ⟨w.heap.size + 1 + 1, 2, none⟩ (.slice labelsA labelsN labelsC)) := ⟨_, rfl⟩
  rw [← hw2]
  replace bP : Blk w2 w.heap.size 52 #[.int .i64 kind, .string name, labelsV, kidsV] := by rw [hw2]; exact (bP.far (by simp; try omega) _)
  replace bR : Blk w2 (w.heap.size + 1) 60 #[.int .i64 0, .string { data := #[] }, .slice none 0 0, .slice none 0 0] := by rw [hw2]; exact (bR.far (by simp; try omega) _)
  replace bO : Blk w2 (w.heap.size + 1 + 1) 60 #[.int .i64 kind, .string name, .slice labelsA labelsN labelsC, .slice none 0 0] := by rw [hw2]; have := (bO.set_ 2 (.slice labelsA labelsN labelsC)); simpa using this
  have hB2 : Below w.heap.size w w2 := by rw [hw2]; exact (hB1.setCell (by simp; try omega) _)
  have hs2 : w1.heap.size ≤ w2.heap.size := by rw [hw2]; simp [World.setCell]
  replace l_labels := (l_labels.setCell (p := ⟨w.heap.size + 1 + 1, 2, none⟩) (.inl (by simp; omega)) (.slice labelsA labelsN labelsC))
  rw [← hw2] at l_labels
  clear hw2
  refine (ih_kids B kidsV _ (by have := hB2.size; omega) (by have := HS.out; omega) (R_kids.out.below (hB2.mono hB))).mono ?_
  rintro e w3 ⟨u_kids, rfl, l_kids, hb3⟩
  obtain ⟨kidsA, kidsN, kidsC, rfl⟩ := l_kids.form
  have hB3 := hB2.trans (hb3.mono hB2.size)
  have hs3 := hb3.size
  replace bP := bP.step hb3
  replace bR := bR.step hb3
  replace bO := bO.step hb3
  replace l_labels := l_labels.step hb3
  have fO3_3 := bO.frozen 3
  have cO3_3 : w3.cell? ⟨w.heap.size + 1 + 1, 3, none⟩ = some (.slice none 0 0) := bO.cell 3
  have fR0 := bR.frozen 0
  have cR0 : w3.cell? ⟨w.heap.size + 1, 0, none⟩ = some (.int .i64 0) := bR.cell 0
  have fR1 := bR.frozen 1
  have cR1 : w3.cell? ⟨w.heap.size + 1, 1, none⟩ = some (.string { data := #[] }) := bR.cell 1
  have fR2 := bR.frozen 2
  have cR2 : w3.cell? ⟨w.heap.size + 1, 2, none⟩ = some (.slice none 0 0) := bR.cell 2
  have fR3 := bR.frozen 3
  have cR3 : w3.cell? ⟨w.heap.size + 1, 3, none⟩ = some (.slice none 0 0) := bR.cell 3
  have cO3_0 : w3.cell? ⟨w.heap.size + 1 + 1, 0, none⟩ = some (.int .i64 kind) := bO.cell 0
  have cO3_1 : w3.cell? ⟨w.heap.size + 1 + 1, 1, none⟩ = some (.string name) := bO.cell 1
  have cO3_2 : w3.cell? ⟨w.heap.size + 1 + 1, 2, none⟩ = some (.slice labelsA labelsN labelsC) := bO.cell 2
  go_wp2_with fail
  clear bP bR bO
  refine bodyPost_ret (v := .agg #[.int .i64 kind, .string name, .slice labelsA labelsN labelsC, .slice kidsA kidsN kidsC]) (by simp [results, Tryz.results48, go_sem, cR0, cR1, cR2, cR3]) rfl ⟨[.int .i64 kind, .string name, .slice labelsA labelsN labelsC, .slice kidsA kidsN kidsC], rfl, ?_, ?_⟩
  · have base : LvC w3 w0.heap.size w3.heap.size [.lit (.int .i64 kind), .lit (.string name), .row 1 (labels.flatMap strC), .row 4 (kids.flatMap Ty.pd)] [.int .i64 kind, .string name, .slice labelsA labelsN labelsC, .slice kidsA kidsN kidsC] := by
      have := LvC.lit (LvC.lit (LvC.cons l_labels (LvC.cons l_kids (LvC.nil0 _) (by first | omega | (simp; omega)) (by first | omega | (simp; omega)) (by first | omega | (simp; omega))) (by first | omega | (simp; omega)) (by first | omega | (simp; omega)) (by first | omega | (simp; omega))) (.string name)) (.int .i64 kind)
      exact this
    rw [Ty.pd_mk]
    refine LvC.low (lo2 := w0.heap.size) ?_ (by omega)
    refine LvC.more (hi := w3.heap.size) ?_ (Nat.le_refl _) (by simp [World.setCell]) (Nat.le_refl _)
    iterate 5 (refine LvC.setCell ?_ (.inl (by simp; omega)) _)
    exact base
  · iterate 5 (refine Below.setCell ?_ (by simp; try omega) _)
    exact hB3
mutual
theorem toType_all : ∀ t : Ty, ToC 48 (Ty.pd t)
  | .mk kind name labels kids => toType_step toStringS_step (toTypeS_step (toType_mem kids))
theorem toType_mem : ∀ ts : List Ty, ∀ t ∈ ts, ToC 48 (Ty.pd t)
  | [], x, hx => absurd hx (by simp)
  | t :: r, x, hx => (List.mem_cons.1 hx).elim (fun e => e ▸ toType_all t) (fun h => toType_mem r x h)
end
theorem toTypeS_all (ts : List Ty) : ToR 82 (.row 4 (ts.flatMap Ty.pd)) := toTypeS_step fun t _ => toType_all t

set_option maxHeartbeats 1600000 in
theorem toParam_step {name : ByteArray} {typ_kind : Int} {typ_name : ByteArray} {typ_labels : List ByteArray} {typ_kids : List Ty} (ih_typ : ToC 48 (Ty.pd ⟨typ_kind, typ_name, typ_labels, typ_kids⟩)) : ToC 81 (Param.pd ⟨name, ⟨typ_kind, typ_name, typ_labels, typ_kids⟩⟩) := by
  intro B cs w hB hsz h
  obtain ⟨typ_labelsV, typ_kidsV, rfl, r_typ_labels, r_typ_kids⟩ := Param.open_ h
  have R_typ_labels := Lib.hid r_typ_labels
  clear r_typ_labels
  have R_typ_kids := Lib.hid r_typ_kids
  clear r_typ_kids
  simp only [Param.pd_mk, PD.szL] at hsz
  have HS := Lib.hid hsz
  clear hsz
  go_enter Tryz.func81, Tryz.ntmps81
  go_wp2_with fail
  obtain ⟨w0, hw0⟩ : ∃ w0, w0 = ((w.alloc (.cells #[.string name, .int .i64 typ_kind, .string typ_name, typ_labelsV, typ_kidsV] 112)).alloc (.cells #[.string { data := #[] }, .int .i64 0, .string { data := #[] }, .slice none 0 0, .slice none 0 0] 115)).alloc (.cells #[.string name, .int .i64 0, .string { data := #[] }, .slice none 0 0, .slice none 0 0] 115) := ⟨_, rfl⟩
  rw [← hw0]
  have bP : Blk w0 w.heap.size 112 #[.string name, .int .i64 typ_kind, .string typ_name, typ_labelsV, typ_kidsV] := by rw [hw0]; exact ((Blk.new w _ _).alloc _).alloc _
  have bR : Blk w0 (w.heap.size + 1) 115 #[.string { data := #[] }, .int .i64 0, .string { data := #[] }, .slice none 0 0, .slice none 0 0] := by rw [hw0]; have := (Blk.new (w.alloc (.cells #[.string name, .int .i64 typ_kind, .string typ_name, typ_labelsV, typ_kidsV] 112)) 115 #[.string { data := #[] }, .int .i64 0, .string { data := #[] }, .slice none 0 0, .slice none 0 0]).alloc (.cells #[.string name, .int .i64 0, .string { data := #[] }, .slice none 0 0, .slice none 0 0] 115); simpa using this
  have bO : Blk w0 (w.heap.size + 1 + 1) 115 #[.string name, .int .i64 0, .string { data := #[] }, .slice none 0 0, .slice none 0 0] := by rw [hw0]; have := Blk.new ((w.alloc (.cells #[.string name, .int .i64 typ_kind, .string typ_name, typ_labelsV, typ_kidsV] 112)).alloc (.cells #[.string { data := #[] }, .int .i64 0, .string { data := #[] }, .slice none 0 0, .slice none 0 0] 115)) 115 #[.string name, .int .i64 0, .string { data := #[] }, .slice none 0 0, .slice none 0 0]; simpa using this
  have hB0 : Below w.heap.size w w0 := by rw [hw0]; exact (((Below.refl _ _).alloc (Nat.le_refl _) _).alloc (by simp) _).alloc (by simp; omega) _
  have hs0 : w.heap.size + 3 ≤ w0.heap.size := by rw [hw0]; simp
  clear hw0
  refine (ih_typ B [.int .i64 typ_kind, .string typ_name, typ_labelsV, typ_kidsV] _ (by have := hB0.size; omega) (by have := HS.out; simp only [Ty.pd_mk, PD.szL]; omega) (Ty.close_ (R_typ_labels.out.below (hB0.mono hB)) (R_typ_kids.out.below (hB0.mono hB)))).mono ?_
  rintro e w1 ⟨u_typ, rfl, l_typ, hb1⟩
  have ll_typ := Lib.hid l_typ
  obtain ⟨typ_labelsA, typ_labelsN, typ_labelsC, typ_kidsA, typ_kidsN, typ_kidsC, rfl⟩ := Ty.lopen l_typ
  have hB1 := hB0.trans (hb1.mono hB0.size)
  have hs1 := hb1.size
  replace bP := bP.step hb1
  replace bR := bR.step hb1
  replace bO := bO.step hb1
  have fO1_1 := bO.frozen 1
  have cO1_1 : w1.cell? ⟨w.heap.size + 1 + 1, 1, none⟩ = some (.int .i64 0) := bO.cell 1
  have fO1_2 := bO.frozen 2
  have cO1_2 : w1.cell? ⟨w.heap.size + 1 + 1, 2, none⟩ = some (.string { data := #[] }) := bO.cell 2
  have fO1_3 := bO.frozen 3
  have cO1_3 : w1.cell? ⟨w.heap.size + 1 + 1, 3, none⟩ = some (.slice none 0 0) := bO.cell 3
  have fO1_4 := bO.frozen 4
  have cO1_4 : w1.cell? ⟨w.heap.size + 1 + 1, 4, none⟩ = some (.slice none 0 0) := bO.cell 4
  have fR0 := bR.frozen 0
  have cR0 : w1.cell? ⟨w.heap.size + 1, 0, none⟩ = some (.string { data := #[] }) := bR.cell 0
  have fR1 := bR.frozen 1
  have cR1 : w1.cell? ⟨w.heap.size + 1, 1, none⟩ = some (.int .i64 0) := bR.cell 1
  have fR2 := bR.frozen 2
  have cR2 : w1.cell? ⟨w.heap.size + 1, 2, none⟩ = some (.string { data := #[] }) := bR.cell 2
  have fR3 := bR.frozen 3
  have cR3 : w1.cell? ⟨w.heap.size + 1, 3, none⟩ = some (.slice none 0 0) := bR.cell 3
  have fR4 := bR.frozen 4
  have cR4 : w1.cell? ⟨w.heap.size + 1, 4, none⟩ = some (.slice none 0 0) := bR.cell 4
  have cO1_0 : w1.cell? ⟨w.heap.size + 1 + 1, 0, none⟩ = some (.string name) := bO.cell 0
  go_wp2_with fail
  clear bP bR bO
  refine bodyPost_ret (v := .agg #[.string name, .int .i64 typ_kind, .string typ_name, .slice typ_labelsA typ_labelsN typ_labelsC, .slice typ_kidsA typ_kidsN typ_kidsC]) (by simp [results, Tryz.results81, go_sem, cR0, cR1, cR2, cR3, cR4]) rfl ⟨[.string name, .int .i64 typ_kind, .string typ_name, .slice typ_labelsA typ_labelsN typ_labelsC, .slice typ_kidsA typ_kidsN typ_kidsC], rfl, ?_, ?_⟩
  · have base : LvC w1 w0.heap.size w1.heap.size [.lit (.string name), .lit (.int .i64 typ_kind), .lit (.string typ_name), .row 1 (typ_labels.flatMap strC), .row 4 (typ_kids.flatMap Ty.pd)] [.string name, .int .i64 typ_kind, .string typ_name, .slice typ_labelsA typ_labelsN typ_labelsC, .slice typ_kidsA typ_kidsN typ_kidsC] := by
      have := LvC.lit (LvC.append l_typ (LvC.nil0 _) (by first | omega | (simp; omega)) (by first | omega | (simp; omega)) (by first | omega | (simp; omega))) (.string name)
      simpa only [Ty.pd_mk, List.cons_append, List.nil_append, List.append_assoc] using this
    rw [Param.pd_mk]
    refine LvC.low (lo2 := w0.heap.size) ?_ (by omega)
    refine LvC.more (hi := w1.heap.size) ?_ (Nat.le_refl _) (by simp [World.setCell]) (Nat.le_refl _)
    iterate 9 (refine LvC.setCell ?_ (.inl (by simp; omega)) _)
    exact base
  · iterate 9 (refine Below.setCell ?_ (by simp; try omega) _)
    exact hB1
theorem toParam_all (t : Param) : ToC 81 (Param.pd t) := by obtain ⟨name, ⟨typ_kind, typ_name, typ_labels, typ_kids⟩⟩ := t; exact toParam_step (toType_all _)

theorem toParamS_info : (Tryz.prog.info? 115).map (fun i => (i.zero, i.size, i.bytes)) = some (some (.agg #[.string { data := #[] }, .int .i64 0, .string { data := #[] }, .slice none 0 0, .slice none 0 0]), 5, 88) := by kernel_rfl
set_option maxHeartbeats 1600000 in
theorem toParamS_step {ts : List Param} (ih : ∀ t ∈ ts, ToC 81 (Param.pd t)) : ToR 47 (.row 5 (ts.flatMap Param.pd)) := by
  intro B v w hB hsz h
  rw [sz_row Param.pd_length (by decide)] at hsz
  obtain ⟨A, n, c, rfl, hnl, hm, hat⟩ := rep_row Param.pd_length (by decide) h
  obtain ⟨i0, hi, hz0, hz1, hz2⟩ := info_parts toParamS_info
  have hmk := fun W => run_make_rowN (P := Tryz.prog) 57 115 i0 _ Tryz.underlying57 hi hz0 .i64 .i64 n n (Nat.le_refl _) (by rw [hz2]; omega) (by omega) W
  rw [hz1] at hmk
  have hnn : n ≤ 1048576 := by omega
  have HN := Lib.hid hnl
  have HS := Lib.hid hsz
  have HI := Lib.hid ih
  clear ih
  clear h hnl hz0 hz1 hz2 hi hm hsz
  go_enter Tryz.func47, Tryz.ntmps47
  go_wp2
  clear hmk
  obtain ⟨W1, hW1⟩ : ∃ W1, W1 = w.alloc (.cells (madeCells #[.string { data := #[] }, .int .i64 0, .string { data := #[] }, .slice none 0 0, .slice none 0 0] (n * 5)) 115) := ⟨_, rfl⟩
  rw [← hW1]
  have hF : Fills w W1 w.heap.size n 5 ((ts.take 0).flatMap Param.pd) 0 := by
    rw [hW1]
    exact Fills.start (cs := (madeCells #[.string { data := #[] }, .int .i64 0, .string { data := #[] }, .slice none 0 0, .slice none 0 0] (n * 5)).toList) (OwAt.new w _ _) (by simp [size_madeCells]) ((Below.refl _ _).alloc (Nat.le_refl _) _) (by simp)
  clear hW1
  go_loopw [4] (fun i wr => ∃ k : Nat, k ≤ n ∧ i = .int .i64 k ∧ Fills w wr w.heap.size n 5 ((ts.take k).flatMap Param.pd) k) (fun i _ => n - (intOf i).toNat)
  case atStart => exact ⟨0, Nat.zero_le _, rfl, hF⟩
  case round =>
    obtain ⟨k, hk, rfl, hf⟩ := hrel
    clear hF
    by_cases hlt : k < n
    · obtain ⟨g, off, rfl, hg, hcell⟩ := hat (by omega)
      obtain ⟨t, hx, hmem⟩ := at_lt HN.out hlt
      obtain ⟨hbr, hg0⟩ := hf.under
      have hle := szL_get_le (f := Param.pd) hx
      obtain ⟨name, ⟨typ_kind, typ_name, typ_labels, typ_kids⟩⟩ := t
      have c0 : wr.cell? ⟨g, off + k * 5, none⟩ = some (.string name) := cell_lit hbr (by omega) (hcell k 0 _ _ hx (by rw [Param.pd_mk]; rfl))
      have c1 : wr.cell? ⟨g, off + k * 5 + 1, none⟩ = some (.int .i64 typ_kind) := cell_lit hbr (by omega) (hcell k 1 _ _ hx (by rw [Param.pd_mk]; rfl))
      have c2 : wr.cell? ⟨g, off + k * 5 + 2, none⟩ = some (.string typ_name) := cell_lit hbr (by omega) (hcell k 2 _ _ hx (by rw [Param.pd_mk]; rfl))
      obtain ⟨typ_labelsV, c3, hr3⟩ : ∃ u, wr.cell? ⟨g, off + k * 5 + 3, none⟩ = some u ∧ Rep wr B (.row 1 (typ_labels.flatMap strC)) u := cell_rep hbr (by omega) hB (hcell k 3 _ _ hx (by rw [Param.pd_mk]; rfl))
      have HR3 := Lib.hid hr3
      clear hr3
      obtain ⟨typ_kidsV, c4, hr4⟩ : ∃ u, wr.cell? ⟨g, off + k * 5 + 4, none⟩ = some u ∧ Rep wr B (.row 4 (typ_kids.flatMap Ty.pd)) u := cell_rep hbr (by omega) hB (hcell k 4 _ _ hx (by rw [Param.pd_mk]; rfl))
      have HR4 := Lib.hid hr4
      clear hr4
      have HX := Lib.hid hx
      have HL := Lib.hid hle
      have HM := Lib.hid hmem
      clear hx hcell hle hmem
      go_wp2_with fail
      refine (HI.out _ HM.out B [.string name, .int .i64 typ_kind, .string typ_name, typ_labelsV, typ_kidsV] _ (by omega) (by have := HS.out; have := HL.out; omega) (Param.close_ HR3.out HR4.out)).mono ?_
      rintro e wq ⟨us, rfl, hl, hbq⟩
      obtain ⟨typ_labelsA, typ_labelsN, typ_labelsC, typ_kidsA, typ_kidsN, typ_kidsC, rfl⟩ := Param.lopen hl
      have hlen := hl.len
      obtain ⟨F2, hh, hi2, _⟩ := hl
      obtain ⟨⟨u0, d0⟩, f0⟩ := hf.cell hbq hlt 0 (by decide)
      rw [Nat.add_zero] at d0 f0
      obtain ⟨⟨u1, d1⟩, f1⟩ := hf.cell hbq hlt 1 (by decide)
      obtain ⟨⟨u2, d2⟩, f2⟩ := hf.cell hbq hlt 2 (by decide)
      obtain ⟨⟨u3, d3⟩, f3⟩ := hf.cell hbq hlt 3 (by decide)
      obtain ⟨⟨u4, d4⟩, f4⟩ := hf.cell hbq hlt 4 (by decide)
      have hnx := hf.next hbq (es := Param.pd ⟨name, ⟨typ_kind, typ_name, typ_labels, typ_kids⟩⟩) hh hi2 (hlen.trans (Param.pd_length _)) hlt
      have HF := Lib.hid hnx
      clear hnx hf hh hi2 hlen
      go_wp2_with fail
      go_roundw
      case rel => exact ⟨k + 1, by omega, by go_num, by rw [List.take_add_one, HX.out, List.flatMap_append, opt_flat]; exact HF.out⟩
      case measure => simp [intOf]; omega
    · have hkn : k = n := by omega
      subst hkn
      have hfin : Lv wr w.heap.size wr.heap.size (.row 5 (ts.flatMap Param.pd)) (.slice (some ⟨w.heap.size, 0, none⟩) k k) := by
        rw [List.take_of_length_le (by have := HN.out; omega)] at hf
        exact hf.done (by rw [flatMap_length Param.pd_length]; rw [HN.out]) (Nat.le_refl _) (by simp only [maxLen]; omega)
      have hbr := hf.under.1
      clear hf
      go_wp2_with fail
      go_ret
      exact ⟨_, rfl, hfin, hbr⟩
theorem toParamS_all (ts : List Param) : ToR 47 (.row 5 (ts.flatMap Param.pd)) := toParamS_step fun t _ => toParam_all t

set_option maxHeartbeats 1600000 in
theorem toFuncType_step {params : List Param} {result_kind : Int} {result_name : ByteArray} {result_labels : List ByteArray} {result_kids : List Ty} {async : Bool} (ih_params : ToR 47 (.row 5 (params.flatMap Param.pd))) (ih_result : ToC 48 (Ty.pd ⟨result_kind, result_name, result_labels, result_kids⟩)) : ToC 22 (FuncType.pd ⟨params, ⟨result_kind, result_name, result_labels, result_kids⟩, async⟩) := by
  intro B cs w hB hsz h
  obtain ⟨paramsV, result_labelsV, result_kidsV, rfl, r_params, r_result_labels, r_result_kids⟩ := FuncType.open_ h
  have R_params := Lib.hid r_params
  clear r_params
  have R_result_labels := Lib.hid r_result_labels
  clear r_result_labels
  have R_result_kids := Lib.hid r_result_kids
  clear r_result_kids
  simp only [FuncType.pd_mk, PD.szL] at hsz
  have HS := Lib.hid hsz
  clear hsz
  go_enter Tryz.func22, Tryz.ntmps22
  go_wp2_with fail
  obtain ⟨w0, hw0⟩ : ∃ w0, w0 = ((w.alloc (.cells #[paramsV, .int .i64 result_kind, .string result_name, result_labelsV, result_kidsV, .bool async] 54)).alloc (.cells #[.slice none 0 0, .int .i64 0, .string { data := #[] }, .slice none 0 0, .slice none 0 0, .bool false] 62)).alloc (.cells #[.slice none 0 0, .int .i64 0, .string { data := #[] }, .slice none 0 0, .slice none 0 0, .bool false] 62) := ⟨_, rfl⟩
  rw [← hw0]
  have bP : Blk w0 w.heap.size 54 #[paramsV, .int .i64 result_kind, .string result_name, result_labelsV, result_kidsV, .bool async] := by rw [hw0]; exact ((Blk.new w _ _).alloc _).alloc _
  have bR : Blk w0 (w.heap.size + 1) 62 #[.slice none 0 0, .int .i64 0, .string { data := #[] }, .slice none 0 0, .slice none 0 0, .bool false] := by rw [hw0]; have := (Blk.new (w.alloc (.cells #[paramsV, .int .i64 result_kind, .string result_name, result_labelsV, result_kidsV, .bool async] 54)) 62 #[.slice none 0 0, .int .i64 0, .string { data := #[] }, .slice none 0 0, .slice none 0 0, .bool false]).alloc (.cells #[.slice none 0 0, .int .i64 0, .string { data := #[] }, .slice none 0 0, .slice none 0 0, .bool false] 62); simpa using this
  have bO : Blk w0 (w.heap.size + 1 + 1) 62 #[.slice none 0 0, .int .i64 0, .string { data := #[] }, .slice none 0 0, .slice none 0 0, .bool false] := by rw [hw0]; have := Blk.new ((w.alloc (.cells #[paramsV, .int .i64 result_kind, .string result_name, result_labelsV, result_kidsV, .bool async] 54)).alloc (.cells #[.slice none 0 0, .int .i64 0, .string { data := #[] }, .slice none 0 0, .slice none 0 0, .bool false] 62)) 62 #[.slice none 0 0, .int .i64 0, .string { data := #[] }, .slice none 0 0, .slice none 0 0, .bool false]; simpa using this
  have hB0 : Below w.heap.size w w0 := by rw [hw0]; exact (((Below.refl _ _).alloc (Nat.le_refl _) _).alloc (by simp) _).alloc (by simp; omega) _
  have hs0 : w.heap.size + 3 ≤ w0.heap.size := by rw [hw0]; simp
  clear hw0
  refine (ih_params B paramsV _ (by have := hB0.size; omega) (by have := HS.out; omega) (R_params.out.below (hB0.mono hB))).mono ?_
  rintro e w1 ⟨u_params, rfl, l_params, hb1⟩
  obtain ⟨paramsA, paramsN, paramsC, rfl⟩ := l_params.form
  have hB1 := hB0.trans (hb1.mono hB0.size)
  have hs1 := hb1.size
  replace bP := bP.step hb1
  replace bR := bR.step hb1
  replace bO := bO.step hb1
  have fO1_0 := bO.frozen 0
  have cO1_0 : w1.cell? ⟨w.heap.size + 1 + 1, 0, none⟩ = some (.slice none 0 0) := bO.cell 0
  have cP1_1 : w1.cell? ⟨w.heap.size, 1, none⟩ = some (.int .i64 result_kind) := bP.cell 1
  have cP1_2 : w1.cell? ⟨w.heap.size, 2, none⟩ = some (.string result_name) := bP.cell 2
  have cP1_3 : w1.cell? ⟨w.heap.size, 3, none⟩ = some (result_labelsV) := bP.cell 3
  have cP1_4 : w1.cell? ⟨w.heap.size, 4, none⟩ = some (result_kidsV) := bP.cell 4
  go_wp2_with fail
  clear fO1_0 cO1_0 cP1_1 cP1_2 cP1_3 cP1_4
  obtain ⟨w2, hw2⟩ : ∃ W, W = (w1.setCell ⟨w.heap.size + 1 + 1, 0, none⟩ (.slice paramsA paramsN paramsC)) := ⟨_, rfl⟩
  rw [← hw2]
  replace bP : Blk w2 w.heap.size 54 #[paramsV, .int .i64 result_kind, .string result_name, result_labelsV, result_kidsV, .bool async] := by rw [hw2]; exact (bP.far (by simp; try omega) _)
  replace bR : Blk w2 (w.heap.size + 1) 62 #[.slice none 0 0, .int .i64 0, .string { data := #[] }, .slice none 0 0, .slice none 0 0, .bool false] := by rw [hw2]; exact (bR.far (by simp; try omega) _)
  replace bO : Blk w2 (w.heap.size + 1 + 1) 62 #[.slice paramsA paramsN paramsC, .int .i64 0, .string { data := #[] }, .slice none 0 0, .slice none 0 0, .bool false] := by rw [hw2]; have := (bO.set_ 0 (.slice paramsA paramsN paramsC)); simpa using this
  have hB2 : Below w.heap.size w w2 := by rw [hw2]; exact (hB1.setCell (by simp; try omega) _)
  have hs2 : w1.heap.size ≤ w2.heap.size := by rw [hw2]; simp [World.setCell]
  replace l_params := (l_params.setCell (p := ⟨w.heap.size + 1 + 1, 0, none⟩) (.inl (by simp; omega)) (.slice paramsA paramsN paramsC))
  rw [← hw2] at l_params
  clear hw2
  refine (ih_result B [.int .i64 result_kind, .string result_name, result_labelsV, result_kidsV] _ (by have := hB2.size; omega) (by have := HS.out; simp only [Ty.pd_mk, PD.szL]; omega) (Ty.close_ (R_result_labels.out.below (hB2.mono hB)) (R_result_kids.out.below (hB2.mono hB)))).mono ?_
  rintro e w3 ⟨u_result, rfl, l_result, hb3⟩
  have ll_result := Lib.hid l_result
  obtain ⟨result_labelsA, result_labelsN, result_labelsC, result_kidsA, result_kidsN, result_kidsC, rfl⟩ := Ty.lopen l_result
  have hB3 := hB2.trans (hb3.mono hB2.size)
  have hs3 := hb3.size
  replace bP := bP.step hb3
  replace bR := bR.step hb3
  replace bO := bO.step hb3
  replace l_params := l_params.step hb3
  have fO3_1 := bO.frozen 1
  have cO3_1 : w3.cell? ⟨w.heap.size + 1 + 1, 1, none⟩ = some (.int .i64 0) := bO.cell 1
  have fO3_2 := bO.frozen 2
  have cO3_2 : w3.cell? ⟨w.heap.size + 1 + 1, 2, none⟩ = some (.string { data := #[] }) := bO.cell 2
  have fO3_3 := bO.frozen 3
  have cO3_3 : w3.cell? ⟨w.heap.size + 1 + 1, 3, none⟩ = some (.slice none 0 0) := bO.cell 3
  have fO3_4 := bO.frozen 4
  have cO3_4 : w3.cell? ⟨w.heap.size + 1 + 1, 4, none⟩ = some (.slice none 0 0) := bO.cell 4
  have fO3_5 := bO.frozen 5
  have cO3_5 : w3.cell? ⟨w.heap.size + 1 + 1, 5, none⟩ = some (.bool false) := bO.cell 5
  have cP3_5 : w3.cell? ⟨w.heap.size, 5, none⟩ = some (.bool async) := bP.cell 5
  have fR0 := bR.frozen 0
  have cR0 : w3.cell? ⟨w.heap.size + 1, 0, none⟩ = some (.slice none 0 0) := bR.cell 0
  have fR1 := bR.frozen 1
  have cR1 : w3.cell? ⟨w.heap.size + 1, 1, none⟩ = some (.int .i64 0) := bR.cell 1
  have fR2 := bR.frozen 2
  have cR2 : w3.cell? ⟨w.heap.size + 1, 2, none⟩ = some (.string { data := #[] }) := bR.cell 2
  have fR3 := bR.frozen 3
  have cR3 : w3.cell? ⟨w.heap.size + 1, 3, none⟩ = some (.slice none 0 0) := bR.cell 3
  have fR4 := bR.frozen 4
  have cR4 : w3.cell? ⟨w.heap.size + 1, 4, none⟩ = some (.slice none 0 0) := bR.cell 4
  have fR5 := bR.frozen 5
  have cR5 : w3.cell? ⟨w.heap.size + 1, 5, none⟩ = some (.bool false) := bR.cell 5
  have cO3_0 : w3.cell? ⟨w.heap.size + 1 + 1, 0, none⟩ = some (.slice paramsA paramsN paramsC) := bO.cell 0
  go_wp2_with fail
  clear bP bR bO
  refine bodyPost_ret (v := .agg #[.slice paramsA paramsN paramsC, .int .i64 result_kind, .string result_name, .slice result_labelsA result_labelsN result_labelsC, .slice result_kidsA result_kidsN result_kidsC, .bool async]) (by simp [results, Tryz.results22, go_sem, cR0, cR1, cR2, cR3, cR4, cR5]) rfl ⟨[.slice paramsA paramsN paramsC, .int .i64 result_kind, .string result_name, .slice result_labelsA result_labelsN result_labelsC, .slice result_kidsA result_kidsN result_kidsC, .bool async], rfl, ?_, ?_⟩
  · have base : LvC w3 w0.heap.size w3.heap.size [.row 5 (params.flatMap Param.pd), .lit (.int .i64 result_kind), .lit (.string result_name), .row 1 (result_labels.flatMap strC), .row 4 (result_kids.flatMap Ty.pd), .lit (.bool async)] [.slice paramsA paramsN paramsC, .int .i64 result_kind, .string result_name, .slice result_labelsA result_labelsN result_labelsC, .slice result_kidsA result_kidsN result_kidsC, .bool async] := by
      have := LvC.cons l_params (LvC.append l_result (LvC.lit (LvC.nil0 _) (.bool async)) (by first | omega | (simp; omega)) (by first | omega | (simp; omega)) (by first | omega | (simp; omega))) (by first | omega | (simp; omega)) (by first | omega | (simp; omega)) (by first | omega | (simp; omega))
      simpa only [Ty.pd_mk, List.cons_append, List.nil_append, List.append_assoc] using this
    rw [FuncType.pd_mk]
    refine LvC.low (lo2 := w0.heap.size) ?_ (by omega)
    refine LvC.more (hi := w3.heap.size) ?_ (Nat.le_refl _) (by simp [World.setCell]) (Nat.le_refl _)
    iterate 11 (refine LvC.setCell ?_ (.inl (by simp; omega)) _)
    exact base
  · iterate 11 (refine Below.setCell ?_ (by simp; try omega) _)
    exact hB3
theorem toFuncType_all (t : FuncType) : ToC 22 (FuncType.pd t) := by obtain ⟨params, ⟨result_kind, result_name, result_labels, result_kids⟩, async⟩ := t; exact toFuncType_step (toParamS_all params) (toType_all _)

set_option maxHeartbeats 1600000 in
theorem toFunc_step {name : ByteArray} {typ_params : List Param} {typ_result_kind : Int} {typ_result_name : ByteArray} {typ_result_labels : List ByteArray} {typ_result_kids : List Ty} {typ_async : Bool} (ih_typ : ToC 22 (FuncType.pd ⟨typ_params, ⟨typ_result_kind, typ_result_name, typ_result_labels, typ_result_kids⟩, typ_async⟩)) : ToC 59 (Fun.pd ⟨name, ⟨typ_params, ⟨typ_result_kind, typ_result_name, typ_result_labels, typ_result_kids⟩, typ_async⟩⟩) := by
  intro B cs w hB hsz h
  obtain ⟨typ_paramsV, typ_result_labelsV, typ_result_kidsV, rfl, r_typ_params, r_typ_result_labels, r_typ_result_kids⟩ := Fun.open_ h
  have R_typ_params := Lib.hid r_typ_params
  clear r_typ_params
  have R_typ_result_labels := Lib.hid r_typ_result_labels
  clear r_typ_result_labels
  have R_typ_result_kids := Lib.hid r_typ_result_kids
  clear r_typ_result_kids
  simp only [Fun.pd_mk, PD.szL] at hsz
  have HS := Lib.hid hsz
  clear hsz
  go_enter Tryz.func59, Tryz.ntmps59
  go_wp2_with fail
  obtain ⟨w0, hw0⟩ : ∃ w0, w0 = ((w.alloc (.cells #[.string name, typ_paramsV, .int .i64 typ_result_kind, .string typ_result_name, typ_result_labelsV, typ_result_kidsV, .bool typ_async] 92)).alloc (.cells #[.string { data := #[] }, .slice none 0 0, .int .i64 0, .string { data := #[] }, .slice none 0 0, .slice none 0 0, .bool false] 99)).alloc (.cells #[.string name, .slice none 0 0, .int .i64 0, .string { data := #[] }, .slice none 0 0, .slice none 0 0, .bool false] 99) := ⟨_, rfl⟩
  rw [← hw0]
  have bP : Blk w0 w.heap.size 92 #[.string name, typ_paramsV, .int .i64 typ_result_kind, .string typ_result_name, typ_result_labelsV, typ_result_kidsV, .bool typ_async] := by rw [hw0]; exact ((Blk.new w _ _).alloc _).alloc _
  have bR : Blk w0 (w.heap.size + 1) 99 #[.string { data := #[] }, .slice none 0 0, .int .i64 0, .string { data := #[] }, .slice none 0 0, .slice none 0 0, .bool false] := by rw [hw0]; have := (Blk.new (w.alloc (.cells #[.string name, typ_paramsV, .int .i64 typ_result_kind, .string typ_result_name, typ_result_labelsV, typ_result_kidsV, .bool typ_async] 92)) 99 #[.string { data := #[] }, .slice none 0 0, .int .i64 0, .string { data := #[] }, .slice none 0 0, .slice none 0 0, .bool false]).alloc (.cells #[.string name, .slice none 0 0, .int .i64 0, .string { data := #[] }, .slice none 0 0, .slice none 0 0, .bool false] 99); simpa using this
  have bO : Blk w0 (w.heap.size + 1 + 1) 99 #[.string name, .slice none 0 0, .int .i64 0, .string { data := #[] }, .slice none 0 0, .slice none 0 0, .bool false] := by rw [hw0]; have := Blk.new ((w.alloc (.cells #[.string name, typ_paramsV, .int .i64 typ_result_kind, .string typ_result_name, typ_result_labelsV, typ_result_kidsV, .bool typ_async] 92)).alloc (.cells #[.string { data := #[] }, .slice none 0 0, .int .i64 0, .string { data := #[] }, .slice none 0 0, .slice none 0 0, .bool false] 99)) 99 #[.string name, .slice none 0 0, .int .i64 0, .string { data := #[] }, .slice none 0 0, .slice none 0 0, .bool false]; simpa using this
  have hB0 : Below w.heap.size w w0 := by rw [hw0]; exact (((Below.refl _ _).alloc (Nat.le_refl _) _).alloc (by simp) _).alloc (by simp; omega) _
  have hs0 : w.heap.size + 3 ≤ w0.heap.size := by rw [hw0]; simp
  clear hw0
  refine (ih_typ B [typ_paramsV, .int .i64 typ_result_kind, .string typ_result_name, typ_result_labelsV, typ_result_kidsV, .bool typ_async] _ (by have := hB0.size; omega) (by have := HS.out; simp only [FuncType.pd_mk, PD.szL]; omega) (FuncType.close_ (R_typ_params.out.below (hB0.mono hB)) (R_typ_result_labels.out.below (hB0.mono hB)) (R_typ_result_kids.out.below (hB0.mono hB)))).mono ?_
  rintro e w1 ⟨u_typ, rfl, l_typ, hb1⟩
  have ll_typ := Lib.hid l_typ
  obtain ⟨typ_paramsA, typ_paramsN, typ_paramsC, typ_result_labelsA, typ_result_labelsN, typ_result_labelsC, typ_result_kidsA, typ_result_kidsN, typ_result_kidsC, rfl⟩ := FuncType.lopen l_typ
  have hB1 := hB0.trans (hb1.mono hB0.size)
  have hs1 := hb1.size
  replace bP := bP.step hb1
  replace bR := bR.step hb1
  replace bO := bO.step hb1
  have fO1_1 := bO.frozen 1
  have cO1_1 : w1.cell? ⟨w.heap.size + 1 + 1, 1, none⟩ = some (.slice none 0 0) := bO.cell 1
  have fO1_2 := bO.frozen 2
  have cO1_2 : w1.cell? ⟨w.heap.size + 1 + 1, 2, none⟩ = some (.int .i64 0) := bO.cell 2
  have fO1_3 := bO.frozen 3
  have cO1_3 : w1.cell? ⟨w.heap.size + 1 + 1, 3, none⟩ = some (.string { data := #[] }) := bO.cell 3
  have fO1_4 := bO.frozen 4
  have cO1_4 : w1.cell? ⟨w.heap.size + 1 + 1, 4, none⟩ = some (.slice none 0 0) := bO.cell 4
  have fO1_5 := bO.frozen 5
  have cO1_5 : w1.cell? ⟨w.heap.size + 1 + 1, 5, none⟩ = some (.slice none 0 0) := bO.cell 5
  have fO1_6 := bO.frozen 6
  have cO1_6 : w1.cell? ⟨w.heap.size + 1 + 1, 6, none⟩ = some (.bool false) := bO.cell 6
  have fR0 := bR.frozen 0
  have cR0 : w1.cell? ⟨w.heap.size + 1, 0, none⟩ = some (.string { data := #[] }) := bR.cell 0
  have fR1 := bR.frozen 1
  have cR1 : w1.cell? ⟨w.heap.size + 1, 1, none⟩ = some (.slice none 0 0) := bR.cell 1
  have fR2 := bR.frozen 2
  have cR2 : w1.cell? ⟨w.heap.size + 1, 2, none⟩ = some (.int .i64 0) := bR.cell 2
  have fR3 := bR.frozen 3
  have cR3 : w1.cell? ⟨w.heap.size + 1, 3, none⟩ = some (.string { data := #[] }) := bR.cell 3
  have fR4 := bR.frozen 4
  have cR4 : w1.cell? ⟨w.heap.size + 1, 4, none⟩ = some (.slice none 0 0) := bR.cell 4
  have fR5 := bR.frozen 5
  have cR5 : w1.cell? ⟨w.heap.size + 1, 5, none⟩ = some (.slice none 0 0) := bR.cell 5
  have fR6 := bR.frozen 6
  have cR6 : w1.cell? ⟨w.heap.size + 1, 6, none⟩ = some (.bool false) := bR.cell 6
  have cO1_0 : w1.cell? ⟨w.heap.size + 1 + 1, 0, none⟩ = some (.string name) := bO.cell 0
  go_wp2_with fail
  clear bP bR bO
  refine bodyPost_ret (v := .agg #[.string name, .slice typ_paramsA typ_paramsN typ_paramsC, .int .i64 typ_result_kind, .string typ_result_name, .slice typ_result_labelsA typ_result_labelsN typ_result_labelsC, .slice typ_result_kidsA typ_result_kidsN typ_result_kidsC, .bool typ_async]) (by simp [results, Tryz.results59, go_sem, cR0, cR1, cR2, cR3, cR4, cR5, cR6]) rfl ⟨[.string name, .slice typ_paramsA typ_paramsN typ_paramsC, .int .i64 typ_result_kind, .string typ_result_name, .slice typ_result_labelsA typ_result_labelsN typ_result_labelsC, .slice typ_result_kidsA typ_result_kidsN typ_result_kidsC, .bool typ_async], rfl, ?_, ?_⟩
  · have base : LvC w1 w0.heap.size w1.heap.size [.lit (.string name), .row 5 (typ_params.flatMap Param.pd), .lit (.int .i64 typ_result_kind), .lit (.string typ_result_name), .row 1 (typ_result_labels.flatMap strC), .row 4 (typ_result_kids.flatMap Ty.pd), .lit (.bool typ_async)] [.string name, .slice typ_paramsA typ_paramsN typ_paramsC, .int .i64 typ_result_kind, .string typ_result_name, .slice typ_result_labelsA typ_result_labelsN typ_result_labelsC, .slice typ_result_kidsA typ_result_kidsN typ_result_kidsC, .bool typ_async] := by
      have := LvC.lit (LvC.append l_typ (LvC.nil0 _) (by first | omega | (simp; omega)) (by first | omega | (simp; omega)) (by first | omega | (simp; omega))) (.string name)
      simpa only [FuncType.pd_mk, List.cons_append, List.nil_append, List.append_assoc] using this
    rw [Fun.pd_mk]
    refine LvC.low (lo2 := w0.heap.size) ?_ (by omega)
    refine LvC.more (hi := w1.heap.size) ?_ (Nat.le_refl _) (by simp [World.setCell]) (Nat.le_refl _)
    iterate 13 (refine LvC.setCell ?_ (.inl (by simp; omega)) _)
    exact base
  · iterate 13 (refine Below.setCell ?_ (by simp; try omega) _)
    exact hB1
theorem toFunc_all (t : Fun) : ToC 59 (Fun.pd t) := by obtain ⟨name, ⟨typ_params, ⟨typ_result_kind, typ_result_name, typ_result_labels, typ_result_kids⟩, typ_async⟩⟩ := t; exact toFunc_step (toFuncType_all _)

theorem toFuncS_info : (Tryz.prog.info? 99).map (fun i => (i.zero, i.size, i.bytes)) = some (some (.agg #[.string { data := #[] }, .slice none 0 0, .int .i64 0, .string { data := #[] }, .slice none 0 0, .slice none 0 0, .bool false]), 7, 120) := by kernel_rfl
set_option maxHeartbeats 1600000 in
theorem toFuncS_step {ts : List Fun} (ih : ∀ t ∈ ts, ToC 59 (Fun.pd t)) : ToR 30 (.row 7 (ts.flatMap Fun.pd)) := by
  intro B v w hB hsz h
  rw [sz_row Fun.pd_length (by decide)] at hsz
  obtain ⟨A, n, c, rfl, hnl, hm, hat⟩ := rep_row Fun.pd_length (by decide) h
  obtain ⟨i0, hi, hz0, hz1, hz2⟩ := info_parts toFuncS_info
  have hmk := fun W => run_make_rowN (P := Tryz.prog) 28 99 i0 _ Tryz.underlying28 hi hz0 .i64 .i64 n n (Nat.le_refl _) (by rw [hz2]; omega) (by omega) W
  rw [hz1] at hmk
  have hnn : n ≤ 1048576 := by omega
  have HN := Lib.hid hnl
  have HS := Lib.hid hsz
  have HI := Lib.hid ih
  clear ih
  clear h hnl hz0 hz1 hz2 hi hm hsz
  go_enter Tryz.func30, Tryz.ntmps30
  go_wp2
  clear hmk
  obtain ⟨W1, hW1⟩ : ∃ W1, W1 = w.alloc (.cells (madeCells #[.string { data := #[] }, .slice none 0 0, .int .i64 0, .string { data := #[] }, .slice none 0 0, .slice none 0 0, .bool false] (n * 7)) 99) := ⟨_, rfl⟩
  rw [← hW1]
  have hF : Fills w W1 w.heap.size n 7 ((ts.take 0).flatMap Fun.pd) 0 := by
    rw [hW1]
    exact Fills.start (cs := (madeCells #[.string { data := #[] }, .slice none 0 0, .int .i64 0, .string { data := #[] }, .slice none 0 0, .slice none 0 0, .bool false] (n * 7)).toList) (OwAt.new w _ _) (by simp [size_madeCells]) ((Below.refl _ _).alloc (Nat.le_refl _) _) (by simp)
  clear hW1
  go_loopw [4] (fun i wr => ∃ k : Nat, k ≤ n ∧ i = .int .i64 k ∧ Fills w wr w.heap.size n 7 ((ts.take k).flatMap Fun.pd) k) (fun i _ => n - (intOf i).toNat)
  case atStart => exact ⟨0, Nat.zero_le _, rfl, hF⟩
  case round =>
    obtain ⟨k, hk, rfl, hf⟩ := hrel
    clear hF
    by_cases hlt : k < n
    · obtain ⟨g, off, rfl, hg, hcell⟩ := hat (by omega)
      obtain ⟨t, hx, hmem⟩ := at_lt HN.out hlt
      obtain ⟨hbr, hg0⟩ := hf.under
      have hle := szL_get_le (f := Fun.pd) hx
      obtain ⟨name, ⟨typ_params, ⟨typ_result_kind, typ_result_name, typ_result_labels, typ_result_kids⟩, typ_async⟩⟩ := t
      have c0 : wr.cell? ⟨g, off + k * 7, none⟩ = some (.string name) := cell_lit hbr (by omega) (hcell k 0 _ _ hx (by rw [Fun.pd_mk]; rfl))
      obtain ⟨typ_paramsV, c1, hr1⟩ : ∃ u, wr.cell? ⟨g, off + k * 7 + 1, none⟩ = some u ∧ Rep wr B (.row 5 (typ_params.flatMap Param.pd)) u := cell_rep hbr (by omega) hB (hcell k 1 _ _ hx (by rw [Fun.pd_mk]; rfl))
      have HR1 := Lib.hid hr1
      clear hr1
      have c2 : wr.cell? ⟨g, off + k * 7 + 2, none⟩ = some (.int .i64 typ_result_kind) := cell_lit hbr (by omega) (hcell k 2 _ _ hx (by rw [Fun.pd_mk]; rfl))
      have c3 : wr.cell? ⟨g, off + k * 7 + 3, none⟩ = some (.string typ_result_name) := cell_lit hbr (by omega) (hcell k 3 _ _ hx (by rw [Fun.pd_mk]; rfl))
      obtain ⟨typ_result_labelsV, c4, hr4⟩ : ∃ u, wr.cell? ⟨g, off + k * 7 + 4, none⟩ = some u ∧ Rep wr B (.row 1 (typ_result_labels.flatMap strC)) u := cell_rep hbr (by omega) hB (hcell k 4 _ _ hx (by rw [Fun.pd_mk]; rfl))
      have HR4 := Lib.hid hr4
      clear hr4
      obtain ⟨typ_result_kidsV, c5, hr5⟩ : ∃ u, wr.cell? ⟨g, off + k * 7 + 5, none⟩ = some u ∧ Rep wr B (.row 4 (typ_result_kids.flatMap Ty.pd)) u := cell_rep hbr (by omega) hB (hcell k 5 _ _ hx (by rw [Fun.pd_mk]; rfl))
      have HR5 := Lib.hid hr5
      clear hr5
      have c6 : wr.cell? ⟨g, off + k * 7 + 6, none⟩ = some (.bool typ_async) := cell_lit hbr (by omega) (hcell k 6 _ _ hx (by rw [Fun.pd_mk]; rfl))
      have HX := Lib.hid hx
      have HL := Lib.hid hle
      have HM := Lib.hid hmem
      clear hx hcell hle hmem
      go_wp2_with fail
      refine (HI.out _ HM.out B [.string name, typ_paramsV, .int .i64 typ_result_kind, .string typ_result_name, typ_result_labelsV, typ_result_kidsV, .bool typ_async] _ (by omega) (by have := HS.out; have := HL.out; omega) (Fun.close_ HR1.out HR4.out HR5.out)).mono ?_
      rintro e wq ⟨us, rfl, hl, hbq⟩
      obtain ⟨typ_paramsA, typ_paramsN, typ_paramsC, typ_result_labelsA, typ_result_labelsN, typ_result_labelsC, typ_result_kidsA, typ_result_kidsN, typ_result_kidsC, rfl⟩ := Fun.lopen hl
      have hlen := hl.len
      obtain ⟨F2, hh, hi2, _⟩ := hl
      obtain ⟨⟨u0, d0⟩, f0⟩ := hf.cell hbq hlt 0 (by decide)
      rw [Nat.add_zero] at d0 f0
      obtain ⟨⟨u1, d1⟩, f1⟩ := hf.cell hbq hlt 1 (by decide)
      obtain ⟨⟨u2, d2⟩, f2⟩ := hf.cell hbq hlt 2 (by decide)
      obtain ⟨⟨u3, d3⟩, f3⟩ := hf.cell hbq hlt 3 (by decide)
      obtain ⟨⟨u4, d4⟩, f4⟩ := hf.cell hbq hlt 4 (by decide)
      obtain ⟨⟨u5, d5⟩, f5⟩ := hf.cell hbq hlt 5 (by decide)
      obtain ⟨⟨u6, d6⟩, f6⟩ := hf.cell hbq hlt 6 (by decide)
      have hnx := hf.next hbq (es := Fun.pd ⟨name, ⟨typ_params, ⟨typ_result_kind, typ_result_name, typ_result_labels, typ_result_kids⟩, typ_async⟩⟩) hh hi2 (hlen.trans (Fun.pd_length _)) hlt
      have HF := Lib.hid hnx
      clear hnx hf hh hi2 hlen
      go_wp2_with fail
      go_roundw
      case rel => exact ⟨k + 1, by omega, by go_num, by rw [List.take_add_one, HX.out, List.flatMap_append, opt_flat]; exact HF.out⟩
      case measure => simp [intOf]; omega
    · have hkn : k = n := by omega
      subst hkn
      have hfin : Lv wr w.heap.size wr.heap.size (.row 7 (ts.flatMap Fun.pd)) (.slice (some ⟨w.heap.size, 0, none⟩) k k) := by
        rw [List.take_of_length_le (by have := HN.out; omega)] at hf
        exact hf.done (by rw [flatMap_length Fun.pd_length]; rw [HN.out]) (Nat.le_refl _) (by simp only [maxLen]; omega)
      have hbr := hf.under.1
      clear hf
      go_wp2_with fail
      go_ret
      exact ⟨_, rfl, hfin, hbr⟩
theorem toFuncS_all (ts : List Fun) : ToR 30 (.row 7 (ts.flatMap Fun.pd)) := toFuncS_step fun t _ => toFunc_all t

set_option maxHeartbeats 1600000 in
theorem toFace_step {package : ByteArray} {name : ByteArray} {version : ByteArray} {resources : List ByteArray} {funcs : List Fun} (ih_resources : ToR 29 (.row 1 (resources.flatMap strC))) (ih_funcs : ToR 30 (.row 7 (funcs.flatMap Fun.pd))) : ToC 9 (Face.pd ⟨package, name, version, resources, funcs⟩) := by
  intro B cs w hB hsz h
  obtain ⟨resourcesV, funcsV, rfl, r_resources, r_funcs⟩ := Face.open_ h
  have R_resources := Lib.hid r_resources
  clear r_resources
  have R_funcs := Lib.hid r_funcs
  clear r_funcs
  simp only [Face.pd_mk, PD.szL] at hsz
  have HS := Lib.hid hsz
  clear hsz
  go_enter Tryz.func9, Tryz.ntmps9
  go_wp2_with fail
  obtain ⟨w0, hw0⟩ : ∃ w0, w0 = ((w.alloc (.cells #[.string package, .string name, .string version, resourcesV, funcsV] 25)).alloc (.cells #[.string { data := #[] }, .string { data := #[] }, .string { data := #[] }, .slice none 0 0, .slice none 0 0] 30)).alloc (.cells #[.string package, .string name, .string version, .slice none 0 0, .slice none 0 0] 30) := ⟨_, rfl⟩
  rw [← hw0]
  have bP : Blk w0 w.heap.size 25 #[.string package, .string name, .string version, resourcesV, funcsV] := by rw [hw0]; exact ((Blk.new w _ _).alloc _).alloc _
  have bR : Blk w0 (w.heap.size + 1) 30 #[.string { data := #[] }, .string { data := #[] }, .string { data := #[] }, .slice none 0 0, .slice none 0 0] := by rw [hw0]; have := (Blk.new (w.alloc (.cells #[.string package, .string name, .string version, resourcesV, funcsV] 25)) 30 #[.string { data := #[] }, .string { data := #[] }, .string { data := #[] }, .slice none 0 0, .slice none 0 0]).alloc (.cells #[.string package, .string name, .string version, .slice none 0 0, .slice none 0 0] 30); simpa using this
  have bO : Blk w0 (w.heap.size + 1 + 1) 30 #[.string package, .string name, .string version, .slice none 0 0, .slice none 0 0] := by rw [hw0]; have := Blk.new ((w.alloc (.cells #[.string package, .string name, .string version, resourcesV, funcsV] 25)).alloc (.cells #[.string { data := #[] }, .string { data := #[] }, .string { data := #[] }, .slice none 0 0, .slice none 0 0] 30)) 30 #[.string package, .string name, .string version, .slice none 0 0, .slice none 0 0]; simpa using this
  have hB0 : Below w.heap.size w w0 := by rw [hw0]; exact (((Below.refl _ _).alloc (Nat.le_refl _) _).alloc (by simp) _).alloc (by simp; omega) _
  have hs0 : w.heap.size + 3 ≤ w0.heap.size := by rw [hw0]; simp
  clear hw0
  refine (ih_resources B resourcesV _ (by have := hB0.size; omega) (by have := HS.out; omega) (R_resources.out.below (hB0.mono hB))).mono ?_
  rintro e w1 ⟨u_resources, rfl, l_resources, hb1⟩
  obtain ⟨resourcesA, resourcesN, resourcesC, rfl⟩ := l_resources.form
  have hB1 := hB0.trans (hb1.mono hB0.size)
  have hs1 := hb1.size
  replace bP := bP.step hb1
  replace bR := bR.step hb1
  replace bO := bO.step hb1
  have fO1_3 := bO.frozen 3
  have cO1_3 : w1.cell? ⟨w.heap.size + 1 + 1, 3, none⟩ = some (.slice none 0 0) := bO.cell 3
  have cP1_4 : w1.cell? ⟨w.heap.size, 4, none⟩ = some (funcsV) := bP.cell 4
  go_wp2_with fail
  clear fO1_3 cO1_3 cP1_4
  obtain ⟨w2, hw2⟩ : ∃ W, W = (w1.setCell ⟨w.heap.size + 1 + 1, 3, none⟩ (.slice resourcesA resourcesN resourcesC)) := ⟨_, rfl⟩
  rw [← hw2]
  replace bP : Blk w2 w.heap.size 25 #[.string package, .string name, .string version, resourcesV, funcsV] := by rw [hw2]; exact (bP.far (by simp; try omega) _)
  replace bR : Blk w2 (w.heap.size + 1) 30 #[.string { data := #[] }, .string { data := #[] }, .string { data := #[] }, .slice none 0 0, .slice none 0 0] := by rw [hw2]; exact (bR.far (by simp; try omega) _)
  replace bO : Blk w2 (w.heap.size + 1 + 1) 30 #[.string package, .string name, .string version, .slice resourcesA resourcesN resourcesC, .slice none 0 0] := by rw [hw2]; have := (bO.set_ 3 (.slice resourcesA resourcesN resourcesC)); simpa using this
  have hB2 : Below w.heap.size w w2 := by rw [hw2]; exact (hB1.setCell (by simp; try omega) _)
  have hs2 : w1.heap.size ≤ w2.heap.size := by rw [hw2]; simp [World.setCell]
  replace l_resources := (l_resources.setCell (p := ⟨w.heap.size + 1 + 1, 3, none⟩) (.inl (by simp; omega)) (.slice resourcesA resourcesN resourcesC))
  rw [← hw2] at l_resources
  clear hw2
  refine (ih_funcs B funcsV _ (by have := hB2.size; omega) (by have := HS.out; omega) (R_funcs.out.below (hB2.mono hB))).mono ?_
  rintro e w3 ⟨u_funcs, rfl, l_funcs, hb3⟩
  obtain ⟨funcsA, funcsN, funcsC, rfl⟩ := l_funcs.form
  have hB3 := hB2.trans (hb3.mono hB2.size)
  have hs3 := hb3.size
  replace bP := bP.step hb3
  replace bR := bR.step hb3
  replace bO := bO.step hb3
  replace l_resources := l_resources.step hb3
  have fO3_4 := bO.frozen 4
  have cO3_4 : w3.cell? ⟨w.heap.size + 1 + 1, 4, none⟩ = some (.slice none 0 0) := bO.cell 4
  have fR0 := bR.frozen 0
  have cR0 : w3.cell? ⟨w.heap.size + 1, 0, none⟩ = some (.string { data := #[] }) := bR.cell 0
  have fR1 := bR.frozen 1
  have cR1 : w3.cell? ⟨w.heap.size + 1, 1, none⟩ = some (.string { data := #[] }) := bR.cell 1
  have fR2 := bR.frozen 2
  have cR2 : w3.cell? ⟨w.heap.size + 1, 2, none⟩ = some (.string { data := #[] }) := bR.cell 2
  have fR3 := bR.frozen 3
  have cR3 : w3.cell? ⟨w.heap.size + 1, 3, none⟩ = some (.slice none 0 0) := bR.cell 3
  have fR4 := bR.frozen 4
  have cR4 : w3.cell? ⟨w.heap.size + 1, 4, none⟩ = some (.slice none 0 0) := bR.cell 4
  have cO3_0 : w3.cell? ⟨w.heap.size + 1 + 1, 0, none⟩ = some (.string package) := bO.cell 0
  have cO3_1 : w3.cell? ⟨w.heap.size + 1 + 1, 1, none⟩ = some (.string name) := bO.cell 1
  have cO3_2 : w3.cell? ⟨w.heap.size + 1 + 1, 2, none⟩ = some (.string version) := bO.cell 2
  have cO3_3 : w3.cell? ⟨w.heap.size + 1 + 1, 3, none⟩ = some (.slice resourcesA resourcesN resourcesC) := bO.cell 3
  go_wp2_with fail
  clear bP bR bO
  refine bodyPost_ret (v := .agg #[.string package, .string name, .string version, .slice resourcesA resourcesN resourcesC, .slice funcsA funcsN funcsC]) (by simp [results, Tryz.results9, go_sem, cR0, cR1, cR2, cR3, cR4]) rfl ⟨[.string package, .string name, .string version, .slice resourcesA resourcesN resourcesC, .slice funcsA funcsN funcsC], rfl, ?_, ?_⟩
  · have base : LvC w3 w0.heap.size w3.heap.size [.lit (.string package), .lit (.string name), .lit (.string version), .row 1 (resources.flatMap strC), .row 7 (funcs.flatMap Fun.pd)] [.string package, .string name, .string version, .slice resourcesA resourcesN resourcesC, .slice funcsA funcsN funcsC] := by
      have := LvC.lit (LvC.lit (LvC.lit (LvC.cons l_resources (LvC.cons l_funcs (LvC.nil0 _) (by first | omega | (simp; omega)) (by first | omega | (simp; omega)) (by first | omega | (simp; omega))) (by first | omega | (simp; omega)) (by first | omega | (simp; omega)) (by first | omega | (simp; omega))) (.string version)) (.string name)) (.string package)
      exact this
    rw [Face.pd_mk]
    refine LvC.low (lo2 := w0.heap.size) ?_ (by omega)
    refine LvC.more (hi := w3.heap.size) ?_ (Nat.le_refl _) (by simp [World.setCell]) (Nat.le_refl _)
    iterate 6 (refine LvC.setCell ?_ (.inl (by simp; omega)) _)
    exact base
  · iterate 6 (refine Below.setCell ?_ (by simp; try omega) _)
    exact hB3
theorem toFace_all (t : Face) : ToC 9 (Face.pd t) := by obtain ⟨package, name, version, resources, funcs⟩ := t; exact toFace_step toStringS_step (toFuncS_all funcs)

theorem toFaceS_info : (Tryz.prog.info? 30).map (fun i => (i.zero, i.size, i.bytes)) = some (some (.agg #[.string { data := #[] }, .string { data := #[] }, .string { data := #[] }, .slice none 0 0, .slice none 0 0]), 5, 96) := by kernel_rfl
set_option maxHeartbeats 1600000 in
theorem toFaceS_step {ts : List Face} (ih : ∀ t ∈ ts, ToC 9 (Face.pd t)) : ToR 39 (.row 5 (ts.flatMap Face.pd)) := by
  intro B v w hB hsz h
  rw [sz_row Face.pd_length (by decide)] at hsz
  obtain ⟨A, n, c, rfl, hnl, hm, hat⟩ := rep_row Face.pd_length (by decide) h
  obtain ⟨i0, hi, hz0, hz1, hz2⟩ := info_parts toFaceS_info
  have hmk := fun W => run_make_rowN (P := Tryz.prog) 43 30 i0 _ Tryz.underlying43 hi hz0 .i64 .i64 n n (Nat.le_refl _) (by rw [hz2]; omega) (by omega) W
  rw [hz1] at hmk
  have hnn : n ≤ 1048576 := by omega
  have HN := Lib.hid hnl
  have HS := Lib.hid hsz
  have HI := Lib.hid ih
  clear ih
  clear h hnl hz0 hz1 hz2 hi hm hsz
  go_enter Tryz.func39, Tryz.ntmps39
  go_wp2
  clear hmk
  obtain ⟨W1, hW1⟩ : ∃ W1, W1 = w.alloc (.cells (madeCells #[.string { data := #[] }, .string { data := #[] }, .string { data := #[] }, .slice none 0 0, .slice none 0 0] (n * 5)) 30) := ⟨_, rfl⟩
  rw [← hW1]
  have hF : Fills w W1 w.heap.size n 5 ((ts.take 0).flatMap Face.pd) 0 := by
    rw [hW1]
    exact Fills.start (cs := (madeCells #[.string { data := #[] }, .string { data := #[] }, .string { data := #[] }, .slice none 0 0, .slice none 0 0] (n * 5)).toList) (OwAt.new w _ _) (by simp [size_madeCells]) ((Below.refl _ _).alloc (Nat.le_refl _) _) (by simp)
  clear hW1
  go_loopw [4] (fun i wr => ∃ k : Nat, k ≤ n ∧ i = .int .i64 k ∧ Fills w wr w.heap.size n 5 ((ts.take k).flatMap Face.pd) k) (fun i _ => n - (intOf i).toNat)
  case atStart => exact ⟨0, Nat.zero_le _, rfl, hF⟩
  case round =>
    obtain ⟨k, hk, rfl, hf⟩ := hrel
    clear hF
    by_cases hlt : k < n
    · obtain ⟨g, off, rfl, hg, hcell⟩ := hat (by omega)
      obtain ⟨t, hx, hmem⟩ := at_lt HN.out hlt
      obtain ⟨hbr, hg0⟩ := hf.under
      have hle := szL_get_le (f := Face.pd) hx
      obtain ⟨package, name, version, resources, funcs⟩ := t
      have c0 : wr.cell? ⟨g, off + k * 5, none⟩ = some (.string package) := cell_lit hbr (by omega) (hcell k 0 _ _ hx (by rw [Face.pd_mk]; rfl))
      have c1 : wr.cell? ⟨g, off + k * 5 + 1, none⟩ = some (.string name) := cell_lit hbr (by omega) (hcell k 1 _ _ hx (by rw [Face.pd_mk]; rfl))
      have c2 : wr.cell? ⟨g, off + k * 5 + 2, none⟩ = some (.string version) := cell_lit hbr (by omega) (hcell k 2 _ _ hx (by rw [Face.pd_mk]; rfl))
      obtain ⟨resourcesV, c3, hr3⟩ : ∃ u, wr.cell? ⟨g, off + k * 5 + 3, none⟩ = some u ∧ Rep wr B (.row 1 (resources.flatMap strC)) u := cell_rep hbr (by omega) hB (hcell k 3 _ _ hx (by rw [Face.pd_mk]; rfl))
      have HR3 := Lib.hid hr3
      clear hr3
      obtain ⟨funcsV, c4, hr4⟩ : ∃ u, wr.cell? ⟨g, off + k * 5 + 4, none⟩ = some u ∧ Rep wr B (.row 7 (funcs.flatMap Fun.pd)) u := cell_rep hbr (by omega) hB (hcell k 4 _ _ hx (by rw [Face.pd_mk]; rfl))
      have HR4 := Lib.hid hr4
      clear hr4
      have HX := Lib.hid hx
      have HL := Lib.hid hle
      have HM := Lib.hid hmem
      clear hx hcell hle hmem
      go_wp2_with fail
      refine (HI.out _ HM.out B [.string package, .string name, .string version, resourcesV, funcsV] _ (by omega) (by have := HS.out; have := HL.out; omega) (Face.close_ HR3.out HR4.out)).mono ?_
      rintro e wq ⟨us, rfl, hl, hbq⟩
      obtain ⟨resourcesA, resourcesN, resourcesC, funcsA, funcsN, funcsC, rfl⟩ := Face.lopen hl
      have hlen := hl.len
      obtain ⟨F2, hh, hi2, _⟩ := hl
      obtain ⟨⟨u0, d0⟩, f0⟩ := hf.cell hbq hlt 0 (by decide)
      rw [Nat.add_zero] at d0 f0
      obtain ⟨⟨u1, d1⟩, f1⟩ := hf.cell hbq hlt 1 (by decide)
      obtain ⟨⟨u2, d2⟩, f2⟩ := hf.cell hbq hlt 2 (by decide)
      obtain ⟨⟨u3, d3⟩, f3⟩ := hf.cell hbq hlt 3 (by decide)
      obtain ⟨⟨u4, d4⟩, f4⟩ := hf.cell hbq hlt 4 (by decide)
      have hnx := hf.next hbq (es := Face.pd ⟨package, name, version, resources, funcs⟩) hh hi2 (hlen.trans (Face.pd_length _)) hlt
      have HF := Lib.hid hnx
      clear hnx hf hh hi2 hlen
      go_wp2_with fail
      go_roundw
      case rel => exact ⟨k + 1, by omega, by go_num, by rw [List.take_add_one, HX.out, List.flatMap_append, opt_flat]; exact HF.out⟩
      case measure => simp [intOf]; omega
    · have hkn : k = n := by omega
      subst hkn
      have hfin : Lv wr w.heap.size wr.heap.size (.row 5 (ts.flatMap Face.pd)) (.slice (some ⟨w.heap.size, 0, none⟩) k k) := by
        rw [List.take_of_length_le (by have := HN.out; omega)] at hf
        exact hf.done (by rw [flatMap_length Face.pd_length]; rw [HN.out]) (Nat.le_refl _) (by simp only [maxLen]; omega)
      have hbr := hf.under.1
      clear hf
      go_wp2_with fail
      go_ret
      exact ⟨_, rfl, hfin, hbr⟩
theorem toFaceS_all (ts : List Face) : ToR 39 (.row 5 (ts.flatMap Face.pd)) := toFaceS_step fun t _ => toFace_all t

set_option maxHeartbeats 1600000 in
theorem toWorld_step {package : ByteArray} {name : ByteArray} {version : ByteArray} {imports : List Face} {exports : List Face} (ih_imports : ToR 39 (.row 5 (imports.flatMap Face.pd))) (ih_exports : ToR 39 (.row 5 (exports.flatMap Face.pd))) : ToC 17 (Wld.pd ⟨package, name, version, imports, exports⟩) := by
  intro B cs w hB hsz h
  obtain ⟨importsV, exportsV, rfl, r_imports, r_exports⟩ := Wld.open_ h
  have R_imports := Lib.hid r_imports
  clear r_imports
  have R_exports := Lib.hid r_exports
  clear r_exports
  simp only [Wld.pd_mk, PD.szL] at hsz
  have HS := Lib.hid hsz
  clear hsz
  go_enter Tryz.func17, Tryz.ntmps17
  go_wp2_with fail
  obtain ⟨w0, hw0⟩ : ∃ w0, w0 = ((w.alloc (.cells #[.string package, .string name, .string version, importsV, exportsV] 40)).alloc (.cells #[.string { data := #[] }, .string { data := #[] }, .string { data := #[] }, .slice none 0 0, .slice none 0 0] 45)).alloc (.cells #[.string package, .string name, .string version, .slice none 0 0, .slice none 0 0] 45) := ⟨_, rfl⟩
  rw [← hw0]
  have bP : Blk w0 w.heap.size 40 #[.string package, .string name, .string version, importsV, exportsV] := by rw [hw0]; exact ((Blk.new w _ _).alloc _).alloc _
  have bR : Blk w0 (w.heap.size + 1) 45 #[.string { data := #[] }, .string { data := #[] }, .string { data := #[] }, .slice none 0 0, .slice none 0 0] := by rw [hw0]; have := (Blk.new (w.alloc (.cells #[.string package, .string name, .string version, importsV, exportsV] 40)) 45 #[.string { data := #[] }, .string { data := #[] }, .string { data := #[] }, .slice none 0 0, .slice none 0 0]).alloc (.cells #[.string package, .string name, .string version, .slice none 0 0, .slice none 0 0] 45); simpa using this
  have bO : Blk w0 (w.heap.size + 1 + 1) 45 #[.string package, .string name, .string version, .slice none 0 0, .slice none 0 0] := by rw [hw0]; have := Blk.new ((w.alloc (.cells #[.string package, .string name, .string version, importsV, exportsV] 40)).alloc (.cells #[.string { data := #[] }, .string { data := #[] }, .string { data := #[] }, .slice none 0 0, .slice none 0 0] 45)) 45 #[.string package, .string name, .string version, .slice none 0 0, .slice none 0 0]; simpa using this
  have hB0 : Below w.heap.size w w0 := by rw [hw0]; exact (((Below.refl _ _).alloc (Nat.le_refl _) _).alloc (by simp) _).alloc (by simp; omega) _
  have hs0 : w.heap.size + 3 ≤ w0.heap.size := by rw [hw0]; simp
  clear hw0
  refine (ih_imports B importsV _ (by have := hB0.size; omega) (by have := HS.out; omega) (R_imports.out.below (hB0.mono hB))).mono ?_
  rintro e w1 ⟨u_imports, rfl, l_imports, hb1⟩
  obtain ⟨importsA, importsN, importsC, rfl⟩ := l_imports.form
  have hB1 := hB0.trans (hb1.mono hB0.size)
  have hs1 := hb1.size
  replace bP := bP.step hb1
  replace bR := bR.step hb1
  replace bO := bO.step hb1
  have fO1_3 := bO.frozen 3
  have cO1_3 : w1.cell? ⟨w.heap.size + 1 + 1, 3, none⟩ = some (.slice none 0 0) := bO.cell 3
  have cP1_4 : w1.cell? ⟨w.heap.size, 4, none⟩ = some (exportsV) := bP.cell 4
  go_wp2_with fail
  clear fO1_3 cO1_3 cP1_4
  obtain ⟨w2, hw2⟩ : ∃ W, W = (w1.setCell ⟨w.heap.size + 1 + 1, 3, none⟩ (.slice importsA importsN importsC)) := ⟨_, rfl⟩
  rw [← hw2]
  replace bP : Blk w2 w.heap.size 40 #[.string package, .string name, .string version, importsV, exportsV] := by rw [hw2]; exact (bP.far (by simp; try omega) _)
  replace bR : Blk w2 (w.heap.size + 1) 45 #[.string { data := #[] }, .string { data := #[] }, .string { data := #[] }, .slice none 0 0, .slice none 0 0] := by rw [hw2]; exact (bR.far (by simp; try omega) _)
  replace bO : Blk w2 (w.heap.size + 1 + 1) 45 #[.string package, .string name, .string version, .slice importsA importsN importsC, .slice none 0 0] := by rw [hw2]; have := (bO.set_ 3 (.slice importsA importsN importsC)); simpa using this
  have hB2 : Below w.heap.size w w2 := by rw [hw2]; exact (hB1.setCell (by simp; try omega) _)
  have hs2 : w1.heap.size ≤ w2.heap.size := by rw [hw2]; simp [World.setCell]
  replace l_imports := (l_imports.setCell (p := ⟨w.heap.size + 1 + 1, 3, none⟩) (.inl (by simp; omega)) (.slice importsA importsN importsC))
  rw [← hw2] at l_imports
  clear hw2
  refine (ih_exports B exportsV _ (by have := hB2.size; omega) (by have := HS.out; omega) (R_exports.out.below (hB2.mono hB))).mono ?_
  rintro e w3 ⟨u_exports, rfl, l_exports, hb3⟩
  obtain ⟨exportsA, exportsN, exportsC, rfl⟩ := l_exports.form
  have hB3 := hB2.trans (hb3.mono hB2.size)
  have hs3 := hb3.size
  replace bP := bP.step hb3
  replace bR := bR.step hb3
  replace bO := bO.step hb3
  replace l_imports := l_imports.step hb3
  have fO3_4 := bO.frozen 4
  have cO3_4 : w3.cell? ⟨w.heap.size + 1 + 1, 4, none⟩ = some (.slice none 0 0) := bO.cell 4
  have fR0 := bR.frozen 0
  have cR0 : w3.cell? ⟨w.heap.size + 1, 0, none⟩ = some (.string { data := #[] }) := bR.cell 0
  have fR1 := bR.frozen 1
  have cR1 : w3.cell? ⟨w.heap.size + 1, 1, none⟩ = some (.string { data := #[] }) := bR.cell 1
  have fR2 := bR.frozen 2
  have cR2 : w3.cell? ⟨w.heap.size + 1, 2, none⟩ = some (.string { data := #[] }) := bR.cell 2
  have fR3 := bR.frozen 3
  have cR3 : w3.cell? ⟨w.heap.size + 1, 3, none⟩ = some (.slice none 0 0) := bR.cell 3
  have fR4 := bR.frozen 4
  have cR4 : w3.cell? ⟨w.heap.size + 1, 4, none⟩ = some (.slice none 0 0) := bR.cell 4
  have cO3_0 : w3.cell? ⟨w.heap.size + 1 + 1, 0, none⟩ = some (.string package) := bO.cell 0
  have cO3_1 : w3.cell? ⟨w.heap.size + 1 + 1, 1, none⟩ = some (.string name) := bO.cell 1
  have cO3_2 : w3.cell? ⟨w.heap.size + 1 + 1, 2, none⟩ = some (.string version) := bO.cell 2
  have cO3_3 : w3.cell? ⟨w.heap.size + 1 + 1, 3, none⟩ = some (.slice importsA importsN importsC) := bO.cell 3
  go_wp2_with fail
  clear bP bR bO
  refine bodyPost_ret (v := .agg #[.string package, .string name, .string version, .slice importsA importsN importsC, .slice exportsA exportsN exportsC]) (by simp [results, Tryz.results17, go_sem, cR0, cR1, cR2, cR3, cR4]) rfl ⟨[.string package, .string name, .string version, .slice importsA importsN importsC, .slice exportsA exportsN exportsC], rfl, ?_, ?_⟩
  · have base : LvC w3 w0.heap.size w3.heap.size [.lit (.string package), .lit (.string name), .lit (.string version), .row 5 (imports.flatMap Face.pd), .row 5 (exports.flatMap Face.pd)] [.string package, .string name, .string version, .slice importsA importsN importsC, .slice exportsA exportsN exportsC] := by
      have := LvC.lit (LvC.lit (LvC.lit (LvC.cons l_imports (LvC.cons l_exports (LvC.nil0 _) (by first | omega | (simp; omega)) (by first | omega | (simp; omega)) (by first | omega | (simp; omega))) (by first | omega | (simp; omega)) (by first | omega | (simp; omega)) (by first | omega | (simp; omega))) (.string version)) (.string name)) (.string package)
      exact this
    rw [Wld.pd_mk]
    refine LvC.low (lo2 := w0.heap.size) ?_ (by omega)
    refine LvC.more (hi := w3.heap.size) ?_ (Nat.le_refl _) (by simp [World.setCell]) (Nat.le_refl _)
    iterate 6 (refine LvC.setCell ?_ (.inl (by simp; omega)) _)
    exact base
  · iterate 6 (refine Below.setCell ?_ (by simp; try omega) _)
    exact hB3
theorem toWorld_all (t : Wld) : ToC 17 (Wld.pd t) := by obtain ⟨package, name, version, imports, exports⟩ := t; exact toWorld_step (toFaceS_all imports) (toFaceS_all exports)


















end Go.Proofs.YtbafphecjijdmaaGreatDoor
