/-
  The laws' own helpers 'to..' over the program's types (by program: tygen2.py, tyfam.py).
-/
import Derived.Test.YtflpfcnpjadccaaGreatDoorFam
import Derived.Test.YtflpfcnpjadccaaGreatDoorTy
namespace Go.Proofs.YtflpfcnpjadccaaGreatDoor
open Go.RowKit
set_option linter.unusedVariables false
set_option linter.unusedSimpArgs false
set_option linter.unnecessarySimpa false
set_option maxRecDepth 100000















set_option maxHeartbeats 1600000 in
theorem toIns_step {op : Int} {a : Int} : ToC 93 (Ins.pd ⟨op, a⟩) := by
  intro B cs w hB hsz h
  obtain rfl := Ins.open_ h
  clear hsz
  go_enter Tryz.func93, Tryz.ntmps93
  go_wp2
  refine bodyPost_ret (v := .agg #[.int .i64 op, .int .i64 a]) (by simp [results, Tryz.results93, go_sem]) rfl ⟨[.int .i64 op, .int .i64 a], rfl, ?_, ?_⟩
  · rw [Ins.pd_mk]
    exact ((LvC.nil _ _ _ (Nat.le_refl _)).lit _).lit _
  · repeat (first | exact Below.refl _ _ | refine Below.setCell ?_ (by simp) _ | refine Below.alloc ?_ (by simp; try omega) _)
theorem toIns_all (t : Ins) : ToC 93 (Ins.pd t) := by obtain ⟨op, a⟩ := t; exact toIns_step 

set_option maxHeartbeats 1600000 in
theorem toImport_step {name : ByteArray} {params : Int} {result : Bool} : ToC 44 (Imp.pd ⟨name, params, result⟩) := by
  intro B cs w hB hsz h
  obtain rfl := Imp.open_ h
  clear hsz
  go_enter Tryz.func44, Tryz.ntmps44
  go_wp2
  refine bodyPost_ret (v := .agg #[.string name, .int .i64 params, .bool result]) (by simp [results, Tryz.results44, go_sem]) rfl ⟨[.string name, .int .i64 params, .bool result], rfl, ?_, ?_⟩
  · rw [Imp.pd_mk]
    exact (((LvC.nil _ _ _ (Nat.le_refl _)).lit _).lit _).lit _
  · repeat (first | exact Below.refl _ _ | refine Below.setCell ?_ (by simp) _ | refine Below.alloc ?_ (by simp; try omega) _)
theorem toImport_all (t : Imp) : ToC 44 (Imp.pd t) := by obtain ⟨name, params, result⟩ := t; exact toImport_step 

theorem toInsS_info : (Tryz.prog.info? 76).map (fun i => (i.zero, i.size, i.bytes)) = some (some (.agg #[.int .i64 0, .int .i64 0]), 2, 16) := by kernel_rfl
set_option maxHeartbeats 1600000 in
theorem toInsS_step {ts : List Ins} (ih : ∀ t ∈ ts, ToC 93 (Ins.pd t)) : ToR 72 (.row 2 (ts.flatMap Ins.pd)) := by
  intro B v w hB hsz h
  rw [sz_row Ins.pd_length (by decide)] at hsz
  obtain ⟨A, n, c, rfl, hnl, hm, hat⟩ := rep_row Ins.pd_length (by decide) h
  obtain ⟨i0, hi, hz0, hz1, hz2⟩ := info_parts toInsS_info
  have hmk := fun W => run_make_rowN (P := Tryz.prog) 49 76 i0 _ Tryz.underlying49 hi hz0 .i64 .i64 n n (Nat.le_refl _) (by rw [hz2]; omega) (by omega) W
  rw [hz1] at hmk
  have hnn : n ≤ 1048576 := by omega
  have HN := Lib.hid hnl
  have HS := Lib.hid hsz
  have HI := Lib.hid ih
  clear ih
  clear h hnl hz0 hz1 hz2 hi hm hsz
  go_enter Tryz.func72, Tryz.ntmps72
  go_wp2
  clear hmk
  obtain ⟨W1, hW1⟩ : ∃ W1, W1 = w.alloc (.cells (madeCells #[.int .i64 0, .int .i64 0] (n * 2)) 76) := ⟨_, rfl⟩
  rw [← hW1]
  have hF : Fills w W1 w.heap.size n 2 ((ts.take 0).flatMap Ins.pd) 0 := by
    rw [hW1]
    exact Fills.start (cs := (madeCells #[.int .i64 0, .int .i64 0] (n * 2)).toList) (OwAt.new w _ _) (by simp [size_madeCells]) ((Below.refl _ _).alloc (Nat.le_refl _) _) (by simp)
  clear hW1
  go_loopw [4] (fun i wr => ∃ k : Nat, k ≤ n ∧ i = .int .i64 k ∧ Fills w wr w.heap.size n 2 ((ts.take k).flatMap Ins.pd) k) (fun i _ => n - (intOf i).toNat)
  case atStart => exact ⟨0, Nat.zero_le _, rfl, hF⟩
  case round =>
    obtain ⟨k, hk, rfl, hf⟩ := hrel
    clear hF
    by_cases hlt : k < n
    · obtain ⟨g, off, rfl, hg, hcell⟩ := hat (by omega)
      obtain ⟨t, hx, hmem⟩ := at_lt HN.out hlt
      obtain ⟨hbr, hg0⟩ := hf.under
      have hle := szL_get_le (f := Ins.pd) hx
      obtain ⟨op, a⟩ := t
      have c0 : wr.cell? ⟨g, off + k * 2, none⟩ = some (.int .i64 op) := cell_lit hbr (by omega) (hcell k 0 _ _ hx (by rw [Ins.pd_mk]; rfl))
      have c1 : wr.cell? ⟨g, off + k * 2 + 1, none⟩ = some (.int .i64 a) := cell_lit hbr (by omega) (hcell k 1 _ _ hx (by rw [Ins.pd_mk]; rfl))
      have HX := Lib.hid hx
      have HL := Lib.hid hle
      have HM := Lib.hid hmem
      clear hx hcell hle hmem
      go_wp2_with fail
      refine (HI.out _ HM.out B [.int .i64 op, .int .i64 a] _ (by omega) (by have := HS.out; have := HL.out; omega) (Ins.close_)).mono ?_
      rintro e wq ⟨us, rfl, hl, hbq⟩
      obtain rfl := Ins.lopen hl
      have hlen := hl.len
      obtain ⟨F2, hh, hi2, _⟩ := hl
      obtain ⟨⟨u0, d0⟩, f0⟩ := hf.cell hbq hlt 0 (by decide)
      rw [Nat.add_zero] at d0 f0
      obtain ⟨⟨u1, d1⟩, f1⟩ := hf.cell hbq hlt 1 (by decide)
      have hnx := hf.next hbq (es := Ins.pd ⟨op, a⟩) hh hi2 (hlen.trans (Ins.pd_length _)) hlt
      have HF := Lib.hid hnx
      clear hnx hf hh hi2 hlen
      go_wp2_with fail
      go_roundw
      case rel => exact ⟨k + 1, by omega, by go_num, by rw [List.take_add_one, HX.out, List.flatMap_append, opt_flat]; exact HF.out⟩
      case measure => simp [intOf]; omega
    · have hkn : k = n := by omega
      subst hkn
      have hfin : Lv wr w.heap.size wr.heap.size (.row 2 (ts.flatMap Ins.pd)) (.slice (some ⟨w.heap.size, 0, none⟩) k k) := by
        rw [List.take_of_length_le (by have := HN.out; omega)] at hf
        exact hf.done (by rw [flatMap_length Ins.pd_length]; rw [HN.out]) (Nat.le_refl _) (by simp only [maxLen]; omega)
      have hbr := hf.under.1
      clear hf
      go_wp2_with fail
      go_ret
      exact ⟨_, rfl, hfin, hbr⟩
theorem toInsS_all (ts : List Ins) : ToR 72 (.row 2 (ts.flatMap Ins.pd)) := toInsS_step fun t _ => toIns_all t

set_option maxHeartbeats 1600000 in
theorem toCore_step {name : ByteArray} {params : Int} {locals : Int} {result : Bool} {code : List Ins} (ih_code : ToR 72 (.row 2 (code.flatMap Ins.pd))) : ToC 45 (Core.pd ⟨name, params, locals, result, code⟩) := by
  intro B cs w hB hsz h
  obtain ⟨codeV, rfl, r_code⟩ := Core.open_ h
  have R_code := Lib.hid r_code
  clear r_code
  simp only [Core.pd_mk, PD.szL] at hsz
  have HS := Lib.hid hsz
  clear hsz
  go_enter Tryz.func45, Tryz.ntmps45
  go_wp2_with fail
  obtain ⟨w0, hw0⟩ : ∃ w0, w0 = ((w.alloc (.cells #[.string name, .int .i64 params, .int .i64 locals, .bool result, codeV] 66)).alloc (.cells #[.string { data := #[] }, .int .i64 0, .int .i64 0, .bool false, .slice none 0 0] 51)).alloc (.cells #[.string name, .int .i64 params, .int .i64 locals, .bool result, .slice none 0 0] 51) := ⟨_, rfl⟩
  rw [← hw0]
  have bP : Blk w0 w.heap.size 66 #[.string name, .int .i64 params, .int .i64 locals, .bool result, codeV] := by rw [hw0]; exact ((Blk.new w _ _).alloc _).alloc _
  have bR : Blk w0 (w.heap.size + 1) 51 #[.string { data := #[] }, .int .i64 0, .int .i64 0, .bool false, .slice none 0 0] := by rw [hw0]; have := (Blk.new (w.alloc (.cells #[.string name, .int .i64 params, .int .i64 locals, .bool result, codeV] 66)) 51 #[.string { data := #[] }, .int .i64 0, .int .i64 0, .bool false, .slice none 0 0]).alloc (.cells #[.string name, .int .i64 params, .int .i64 locals, .bool result, .slice none 0 0] 51); simpa using this
  have bO : Blk w0 (w.heap.size + 1 + 1) 51 #[.string name, .int .i64 params, .int .i64 locals, .bool result, .slice none 0 0] := by rw [hw0]; have := Blk.new ((w.alloc (.cells #[.string name, .int .i64 params, .int .i64 locals, .bool result, codeV] 66)).alloc (.cells #[.string { data := #[] }, .int .i64 0, .int .i64 0, .bool false, .slice none 0 0] 51)) 51 #[.string name, .int .i64 params, .int .i64 locals, .bool result, .slice none 0 0]; simpa using this
  have hB0 : Below w.heap.size w w0 := by rw [hw0]; exact (((Below.refl _ _).alloc (Nat.le_refl _) _).alloc (by simp) _).alloc (by simp; omega) _
  have hs0 : w.heap.size + 3 ≤ w0.heap.size := by rw [hw0]; simp
  clear hw0
  refine (ih_code B codeV _ (by have := hB0.size; omega) (by have := HS.out; omega) (R_code.out.below (hB0.mono hB))).mono ?_
  rintro e w1 ⟨u_code, rfl, l_code, hb1⟩
  obtain ⟨codeA, codeN, codeC, rfl⟩ := l_code.form
  have hB1 := hB0.trans (hb1.mono hB0.size)
  have hs1 := hb1.size
  replace bP := bP.step hb1
  replace bR := bR.step hb1
  replace bO := bO.step hb1
  have fO1_4 := bO.frozen 4
  have cO1_4 : w1.cell? ⟨w.heap.size + 1 + 1, 4, none⟩ = some (.slice none 0 0) := bO.cell 4
  have fR0 := bR.frozen 0
  have cR0 : w1.cell? ⟨w.heap.size + 1, 0, none⟩ = some (.string { data := #[] }) := bR.cell 0
  have fR1 := bR.frozen 1
  have cR1 : w1.cell? ⟨w.heap.size + 1, 1, none⟩ = some (.int .i64 0) := bR.cell 1
  have fR2 := bR.frozen 2
  have cR2 : w1.cell? ⟨w.heap.size + 1, 2, none⟩ = some (.int .i64 0) := bR.cell 2
  have fR3 := bR.frozen 3
  have cR3 : w1.cell? ⟨w.heap.size + 1, 3, none⟩ = some (.bool false) := bR.cell 3
  have fR4 := bR.frozen 4
  have cR4 : w1.cell? ⟨w.heap.size + 1, 4, none⟩ = some (.slice none 0 0) := bR.cell 4
  have cO1_0 : w1.cell? ⟨w.heap.size + 1 + 1, 0, none⟩ = some (.string name) := bO.cell 0
  have cO1_1 : w1.cell? ⟨w.heap.size + 1 + 1, 1, none⟩ = some (.int .i64 params) := bO.cell 1
  have cO1_2 : w1.cell? ⟨w.heap.size + 1 + 1, 2, none⟩ = some (.int .i64 locals) := bO.cell 2
  have cO1_3 : w1.cell? ⟨w.heap.size + 1 + 1, 3, none⟩ = some (.bool result) := bO.cell 3
  go_wp2_with fail
  clear bP bR bO
  refine bodyPost_ret (v := .agg #[.string name, .int .i64 params, .int .i64 locals, .bool result, .slice codeA codeN codeC]) (by simp [results, Tryz.results45, go_sem, cR0, cR1, cR2, cR3, cR4]) rfl ⟨[.string name, .int .i64 params, .int .i64 locals, .bool result, .slice codeA codeN codeC], rfl, ?_, ?_⟩
  · have base : LvC w1 w0.heap.size w1.heap.size [.lit (.string name), .lit (.int .i64 params), .lit (.int .i64 locals), .lit (.bool result), .row 2 (code.flatMap Ins.pd)] [.string name, .int .i64 params, .int .i64 locals, .bool result, .slice codeA codeN codeC] := by
      have := LvC.lit (LvC.lit (LvC.lit (LvC.lit (LvC.cons l_code (LvC.nil0 _) (by first | omega | (simp; omega)) (by first | omega | (simp; omega)) (by first | omega | (simp; omega))) (.bool result)) (.int .i64 locals)) (.int .i64 params)) (.string name)
      exact this
    rw [Core.pd_mk]
    refine LvC.low (lo2 := w0.heap.size) ?_ (by omega)
    refine LvC.more (hi := w1.heap.size) ?_ (Nat.le_refl _) (by simp [World.setCell]) (Nat.le_refl _)
    iterate 6 (refine LvC.setCell ?_ (.inl (by simp; omega)) _)
    exact base
  · iterate 6 (refine Below.setCell ?_ (by simp; try omega) _)
    exact hB1
theorem toCore_all (t : Core) : ToC 45 (Core.pd t) := by obtain ⟨name, params, locals, result, code⟩ := t; exact toCore_step (toInsS_all code)

theorem toImportS_info : (Tryz.prog.info? 68).map (fun i => (i.zero, i.size, i.bytes)) = some (some (.agg #[.string { data := #[] }, .int .i64 0, .bool false]), 3, 32) := by kernel_rfl
set_option maxHeartbeats 1600000 in
theorem toImportS_step {ts : List Imp} (ih : ∀ t ∈ ts, ToC 44 (Imp.pd t)) : ToR 18 (.row 3 (ts.flatMap Imp.pd)) := by
  intro B v w hB hsz h
  rw [sz_row Imp.pd_length (by decide)] at hsz
  obtain ⟨A, n, c, rfl, hnl, hm, hat⟩ := rep_row Imp.pd_length (by decide) h
  obtain ⟨i0, hi, hz0, hz1, hz2⟩ := info_parts toImportS_info
  have hmk := fun W => run_make_rowN (P := Tryz.prog) 28 68 i0 _ Tryz.underlying28 hi hz0 .i64 .i64 n n (Nat.le_refl _) (by rw [hz2]; omega) (by omega) W
  rw [hz1] at hmk
  have hnn : n ≤ 1048576 := by omega
  have HN := Lib.hid hnl
  have HS := Lib.hid hsz
  have HI := Lib.hid ih
  clear ih
  clear h hnl hz0 hz1 hz2 hi hm hsz
  go_enter Tryz.func18, Tryz.ntmps18
  go_wp2
  clear hmk
  obtain ⟨W1, hW1⟩ : ∃ W1, W1 = w.alloc (.cells (madeCells #[.string { data := #[] }, .int .i64 0, .bool false] (n * 3)) 68) := ⟨_, rfl⟩
  rw [← hW1]
  have hF : Fills w W1 w.heap.size n 3 ((ts.take 0).flatMap Imp.pd) 0 := by
    rw [hW1]
    exact Fills.start (cs := (madeCells #[.string { data := #[] }, .int .i64 0, .bool false] (n * 3)).toList) (OwAt.new w _ _) (by simp [size_madeCells]) ((Below.refl _ _).alloc (Nat.le_refl _) _) (by simp)
  clear hW1
  go_loopw [4] (fun i wr => ∃ k : Nat, k ≤ n ∧ i = .int .i64 k ∧ Fills w wr w.heap.size n 3 ((ts.take k).flatMap Imp.pd) k) (fun i _ => n - (intOf i).toNat)
  case atStart => exact ⟨0, Nat.zero_le _, rfl, hF⟩
  case round =>
    obtain ⟨k, hk, rfl, hf⟩ := hrel
    clear hF
    by_cases hlt : k < n
    · obtain ⟨g, off, rfl, hg, hcell⟩ := hat (by omega)
      obtain ⟨t, hx, hmem⟩ := at_lt HN.out hlt
      obtain ⟨hbr, hg0⟩ := hf.under
      have hle := szL_get_le (f := Imp.pd) hx
      obtain ⟨name, params, result⟩ := t
      have c0 : wr.cell? ⟨g, off + k * 3, none⟩ = some (.string name) := cell_lit hbr (by omega) (hcell k 0 _ _ hx (by rw [Imp.pd_mk]; rfl))
      have c1 : wr.cell? ⟨g, off + k * 3 + 1, none⟩ = some (.int .i64 params) := cell_lit hbr (by omega) (hcell k 1 _ _ hx (by rw [Imp.pd_mk]; rfl))
      have c2 : wr.cell? ⟨g, off + k * 3 + 2, none⟩ = some (.bool result) := cell_lit hbr (by omega) (hcell k 2 _ _ hx (by rw [Imp.pd_mk]; rfl))
      have HX := Lib.hid hx
      have HL := Lib.hid hle
      have HM := Lib.hid hmem
      clear hx hcell hle hmem
      go_wp2_with fail
      refine (HI.out _ HM.out B [.string name, .int .i64 params, .bool result] _ (by omega) (by have := HS.out; have := HL.out; omega) (Imp.close_)).mono ?_
      rintro e wq ⟨us, rfl, hl, hbq⟩
      obtain rfl := Imp.lopen hl
      have hlen := hl.len
      obtain ⟨F2, hh, hi2, _⟩ := hl
      obtain ⟨⟨u0, d0⟩, f0⟩ := hf.cell hbq hlt 0 (by decide)
      rw [Nat.add_zero] at d0 f0
      obtain ⟨⟨u1, d1⟩, f1⟩ := hf.cell hbq hlt 1 (by decide)
      obtain ⟨⟨u2, d2⟩, f2⟩ := hf.cell hbq hlt 2 (by decide)
      have hnx := hf.next hbq (es := Imp.pd ⟨name, params, result⟩) hh hi2 (hlen.trans (Imp.pd_length _)) hlt
      have HF := Lib.hid hnx
      clear hnx hf hh hi2 hlen
      go_wp2_with fail
      go_roundw
      case rel => exact ⟨k + 1, by omega, by go_num, by rw [List.take_add_one, HX.out, List.flatMap_append, opt_flat]; exact HF.out⟩
      case measure => simp [intOf]; omega
    · have hkn : k = n := by omega
      subst hkn
      have hfin : Lv wr w.heap.size wr.heap.size (.row 3 (ts.flatMap Imp.pd)) (.slice (some ⟨w.heap.size, 0, none⟩) k k) := by
        rw [List.take_of_length_le (by have := HN.out; omega)] at hf
        exact hf.done (by rw [flatMap_length Imp.pd_length]; rw [HN.out]) (Nat.le_refl _) (by simp only [maxLen]; omega)
      have hbr := hf.under.1
      clear hf
      go_wp2_with fail
      go_ret
      exact ⟨_, rfl, hfin, hbr⟩
theorem toImportS_all (ts : List Imp) : ToR 18 (.row 3 (ts.flatMap Imp.pd)) := toImportS_step fun t _ => toImport_all t

theorem toCoreS_info : (Tryz.prog.info? 51).map (fun i => (i.zero, i.size, i.bytes)) = some (some (.agg #[.string { data := #[] }, .int .i64 0, .int .i64 0, .bool false, .slice none 0 0]), 5, 64) := by kernel_rfl
set_option maxHeartbeats 1600000 in
theorem toCoreS_step {ts : List Core} (ih : ∀ t ∈ ts, ToC 45 (Core.pd t)) : ToR 19 (.row 5 (ts.flatMap Core.pd)) := by
  intro B v w hB hsz h
  rw [sz_row Core.pd_length (by decide)] at hsz
  obtain ⟨A, n, c, rfl, hnl, hm, hat⟩ := rep_row Core.pd_length (by decide) h
  obtain ⟨i0, hi, hz0, hz1, hz2⟩ := info_parts toCoreS_info
  have hmk := fun W => run_make_rowN (P := Tryz.prog) 29 51 i0 _ Tryz.underlying29 hi hz0 .i64 .i64 n n (Nat.le_refl _) (by rw [hz2]; omega) (by omega) W
  rw [hz1] at hmk
  have hnn : n ≤ 1048576 := by omega
  have HN := Lib.hid hnl
  have HS := Lib.hid hsz
  have HI := Lib.hid ih
  clear ih
  clear h hnl hz0 hz1 hz2 hi hm hsz
  go_enter Tryz.func19, Tryz.ntmps19
  go_wp2
  clear hmk
  obtain ⟨W1, hW1⟩ : ∃ W1, W1 = w.alloc (.cells (madeCells #[.string { data := #[] }, .int .i64 0, .int .i64 0, .bool false, .slice none 0 0] (n * 5)) 51) := ⟨_, rfl⟩
  rw [← hW1]
  have hF : Fills w W1 w.heap.size n 5 ((ts.take 0).flatMap Core.pd) 0 := by
    rw [hW1]
    exact Fills.start (cs := (madeCells #[.string { data := #[] }, .int .i64 0, .int .i64 0, .bool false, .slice none 0 0] (n * 5)).toList) (OwAt.new w _ _) (by simp [size_madeCells]) ((Below.refl _ _).alloc (Nat.le_refl _) _) (by simp)
  clear hW1
  go_loopw [4] (fun i wr => ∃ k : Nat, k ≤ n ∧ i = .int .i64 k ∧ Fills w wr w.heap.size n 5 ((ts.take k).flatMap Core.pd) k) (fun i _ => n - (intOf i).toNat)
  case atStart => exact ⟨0, Nat.zero_le _, rfl, hF⟩
  case round =>
    obtain ⟨k, hk, rfl, hf⟩ := hrel
    clear hF
    by_cases hlt : k < n
    · obtain ⟨g, off, rfl, hg, hcell⟩ := hat (by omega)
      obtain ⟨t, hx, hmem⟩ := at_lt HN.out hlt
      obtain ⟨hbr, hg0⟩ := hf.under
      have hle := szL_get_le (f := Core.pd) hx
      obtain ⟨name, params, locals, result, code⟩ := t
      have c0 : wr.cell? ⟨g, off + k * 5, none⟩ = some (.string name) := cell_lit hbr (by omega) (hcell k 0 _ _ hx (by rw [Core.pd_mk]; rfl))
      have c1 : wr.cell? ⟨g, off + k * 5 + 1, none⟩ = some (.int .i64 params) := cell_lit hbr (by omega) (hcell k 1 _ _ hx (by rw [Core.pd_mk]; rfl))
      have c2 : wr.cell? ⟨g, off + k * 5 + 2, none⟩ = some (.int .i64 locals) := cell_lit hbr (by omega) (hcell k 2 _ _ hx (by rw [Core.pd_mk]; rfl))
      have c3 : wr.cell? ⟨g, off + k * 5 + 3, none⟩ = some (.bool result) := cell_lit hbr (by omega) (hcell k 3 _ _ hx (by rw [Core.pd_mk]; rfl))
      obtain ⟨codeV, c4, hr4⟩ : ∃ u, wr.cell? ⟨g, off + k * 5 + 4, none⟩ = some u ∧ Rep wr B (.row 2 (code.flatMap Ins.pd)) u := cell_rep hbr (by omega) hB (hcell k 4 _ _ hx (by rw [Core.pd_mk]; rfl))
      have HR4 := Lib.hid hr4
      clear hr4
      have HX := Lib.hid hx
      have HL := Lib.hid hle
      have HM := Lib.hid hmem
      clear hx hcell hle hmem
      go_wp2_with fail
      refine (HI.out _ HM.out B [.string name, .int .i64 params, .int .i64 locals, .bool result, codeV] _ (by omega) (by have := HS.out; have := HL.out; omega) (Core.close_ HR4.out)).mono ?_
      rintro e wq ⟨us, rfl, hl, hbq⟩
      obtain ⟨codeA, codeN, codeC, rfl⟩ := Core.lopen hl
      have hlen := hl.len
      obtain ⟨F2, hh, hi2, _⟩ := hl
      obtain ⟨⟨u0, d0⟩, f0⟩ := hf.cell hbq hlt 0 (by decide)
      rw [Nat.add_zero] at d0 f0
      obtain ⟨⟨u1, d1⟩, f1⟩ := hf.cell hbq hlt 1 (by decide)
      obtain ⟨⟨u2, d2⟩, f2⟩ := hf.cell hbq hlt 2 (by decide)
      obtain ⟨⟨u3, d3⟩, f3⟩ := hf.cell hbq hlt 3 (by decide)
      obtain ⟨⟨u4, d4⟩, f4⟩ := hf.cell hbq hlt 4 (by decide)
      have hnx := hf.next hbq (es := Core.pd ⟨name, params, locals, result, code⟩) hh hi2 (hlen.trans (Core.pd_length _)) hlt
      have HF := Lib.hid hnx
      clear hnx hf hh hi2 hlen
      go_wp2_with fail
      go_roundw
      case rel => exact ⟨k + 1, by omega, by go_num, by rw [List.take_add_one, HX.out, List.flatMap_append, opt_flat]; exact HF.out⟩
      case measure => simp [intOf]; omega
    · have hkn : k = n := by omega
      subst hkn
      have hfin : Lv wr w.heap.size wr.heap.size (.row 5 (ts.flatMap Core.pd)) (.slice (some ⟨w.heap.size, 0, none⟩) k k) := by
        rw [List.take_of_length_le (by have := HN.out; omega)] at hf
        exact hf.done (by rw [flatMap_length Core.pd_length]; rw [HN.out]) (Nat.le_refl _) (by simp only [maxLen]; omega)
      have hbr := hf.under.1
      clear hf
      go_wp2_with fail
      go_ret
      exact ⟨_, rfl, hfin, hbr⟩
theorem toCoreS_all (ts : List Core) : ToR 19 (.row 5 (ts.flatMap Core.pd)) := toCoreS_step fun t _ => toCore_all t

set_option maxHeartbeats 1600000 in
theorem toModule_step {pages : Int} {imports : List Imp} {cores : List Core} (ih_imports : ToR 18 (.row 3 (imports.flatMap Imp.pd))) (ih_cores : ToR 19 (.row 5 (cores.flatMap Core.pd))) : ToC 7 (Mod.pd ⟨pages, imports, cores⟩) := by
  intro B cs w hB hsz h
  obtain ⟨importsV, coresV, rfl, r_imports, r_cores⟩ := Mod.open_ h
  have R_imports := Lib.hid r_imports
  clear r_imports
  have R_cores := Lib.hid r_cores
  clear r_cores
  simp only [Mod.pd_mk, PD.szL] at hsz
  have HS := Lib.hid hsz
  clear hsz
  go_enter Tryz.func7, Tryz.ntmps7
  go_wp2_with fail
  obtain ⟨w0, hw0⟩ : ∃ w0, w0 = ((w.alloc (.cells #[.int .i64 pages, importsV, coresV] 25)).alloc (.cells #[.int .i64 0, .slice none 0 0, .slice none 0 0] 31)).alloc (.cells #[.int .i64 pages, .slice none 0 0, .slice none 0 0] 31) := ⟨_, rfl⟩
  rw [← hw0]
  have bP : Blk w0 w.heap.size 25 #[.int .i64 pages, importsV, coresV] := by rw [hw0]; exact ((Blk.new w _ _).alloc _).alloc _
  have bR : Blk w0 (w.heap.size + 1) 31 #[.int .i64 0, .slice none 0 0, .slice none 0 0] := by rw [hw0]; have := (Blk.new (w.alloc (.cells #[.int .i64 pages, importsV, coresV] 25)) 31 #[.int .i64 0, .slice none 0 0, .slice none 0 0]).alloc (.cells #[.int .i64 pages, .slice none 0 0, .slice none 0 0] 31); simpa using this
  have bO : Blk w0 (w.heap.size + 1 + 1) 31 #[.int .i64 pages, .slice none 0 0, .slice none 0 0] := by rw [hw0]; have := Blk.new ((w.alloc (.cells #[.int .i64 pages, importsV, coresV] 25)).alloc (.cells #[.int .i64 0, .slice none 0 0, .slice none 0 0] 31)) 31 #[.int .i64 pages, .slice none 0 0, .slice none 0 0]; simpa using this
  have hB0 : Below w.heap.size w w0 := by rw [hw0]; exact (((Below.refl _ _).alloc (Nat.le_refl _) _).alloc (by simp) _).alloc (by simp; omega) _
  have hs0 : w.heap.size + 3 ≤ w0.heap.size := by rw [hw0]; simp
  clear hw0
  refine (ih_imports B importsV _ (by have := hB0.size; omega) (by have := HS.out; omega) (R_imports.out.below (hB0.mono hB))).mono ?_
  rintro e w1 ⟨u_imports, rfl, l_imports, hb1⟩
  obtain ⟨importsA, importsN, importsC, rfl⟩ := l_imports.form
  have hB1 := hB0.trans (hb1.mono hB0.size)
  have hs1 := hb1.size
  replace bP := bP.step hb1
  replace bR := bR.step hb1
  replace bO := bO.step hb1
  have fO1_1 := bO.frozen 1
  have cO1_1 : w1.cell? ⟨w.heap.size + 1 + 1, 1, none⟩ = some (.slice none 0 0) := bO.cell 1
  have cP1_2 : w1.cell? ⟨w.heap.size, 2, none⟩ = some (coresV) := bP.cell 2
  go_wp2_with fail
  clear fO1_1 cO1_1 cP1_2
  obtain ⟨w2, hw2⟩ : ∃ W, W = (w1.setCell ⟨w.heap.size + 1 + 1, 1, none⟩ (.slice importsA importsN importsC)) := ⟨_, rfl⟩
  rw [← hw2]
  replace bP : Blk w2 w.heap.size 25 #[.int .i64 pages, importsV, coresV] := by rw [hw2]; exact (bP.far (by simp; try omega) _)
  replace bR : Blk w2 (w.heap.size + 1) 31 #[.int .i64 0, .slice none 0 0, .slice none 0 0] := by rw [hw2]; exact (bR.far (by simp; try omega) _)
  replace bO : Blk w2 (w.heap.size + 1 + 1) 31 #[.int .i64 pages, .slice importsA importsN importsC, .slice none 0 0] := by rw [hw2]; have := (bO.set_ 1 (.slice importsA importsN importsC)); simpa using this
  have hB2 : Below w.heap.size w w2 := by rw [hw2]; exact (hB1.setCell (by simp; try omega) _)
  have hs2 : w1.heap.size ≤ w2.heap.size := by rw [hw2]; simp [World.setCell]
  replace l_imports := (l_imports.setCell (p := ⟨w.heap.size + 1 + 1, 1, none⟩) (.inl (by simp; omega)) (.slice importsA importsN importsC))
  rw [← hw2] at l_imports
  clear hw2
  refine (ih_cores B coresV _ (by have := hB2.size; omega) (by have := HS.out; omega) (R_cores.out.below (hB2.mono hB))).mono ?_
  rintro e w3 ⟨u_cores, rfl, l_cores, hb3⟩
  obtain ⟨coresA, coresN, coresC, rfl⟩ := l_cores.form
  have hB3 := hB2.trans (hb3.mono hB2.size)
  have hs3 := hb3.size
  replace bP := bP.step hb3
  replace bR := bR.step hb3
  replace bO := bO.step hb3
  replace l_imports := l_imports.step hb3
  have fO3_2 := bO.frozen 2
  have cO3_2 : w3.cell? ⟨w.heap.size + 1 + 1, 2, none⟩ = some (.slice none 0 0) := bO.cell 2
  have fR0 := bR.frozen 0
  have cR0 : w3.cell? ⟨w.heap.size + 1, 0, none⟩ = some (.int .i64 0) := bR.cell 0
  have fR1 := bR.frozen 1
  have cR1 : w3.cell? ⟨w.heap.size + 1, 1, none⟩ = some (.slice none 0 0) := bR.cell 1
  have fR2 := bR.frozen 2
  have cR2 : w3.cell? ⟨w.heap.size + 1, 2, none⟩ = some (.slice none 0 0) := bR.cell 2
  have cO3_0 : w3.cell? ⟨w.heap.size + 1 + 1, 0, none⟩ = some (.int .i64 pages) := bO.cell 0
  have cO3_1 : w3.cell? ⟨w.heap.size + 1 + 1, 1, none⟩ = some (.slice importsA importsN importsC) := bO.cell 1
  go_wp2_with fail
  clear bP bR bO
  refine bodyPost_ret (v := .agg #[.int .i64 pages, .slice importsA importsN importsC, .slice coresA coresN coresC]) (by simp [results, Tryz.results7, go_sem, cR0, cR1, cR2]) rfl ⟨[.int .i64 pages, .slice importsA importsN importsC, .slice coresA coresN coresC], rfl, ?_, ?_⟩
  · have base : LvC w3 w0.heap.size w3.heap.size [.lit (.int .i64 pages), .row 3 (imports.flatMap Imp.pd), .row 5 (cores.flatMap Core.pd)] [.int .i64 pages, .slice importsA importsN importsC, .slice coresA coresN coresC] := by
      have := LvC.lit (LvC.cons l_imports (LvC.cons l_cores (LvC.nil0 _) (by first | omega | (simp; omega)) (by first | omega | (simp; omega)) (by first | omega | (simp; omega))) (by first | omega | (simp; omega)) (by first | omega | (simp; omega)) (by first | omega | (simp; omega))) (.int .i64 pages)
      exact this
    rw [Mod.pd_mk]
    refine LvC.low (lo2 := w0.heap.size) ?_ (by omega)
    refine LvC.more (hi := w3.heap.size) ?_ (Nat.le_refl _) (by simp [World.setCell]) (Nat.le_refl _)
    iterate 4 (refine LvC.setCell ?_ (.inl (by simp; omega)) _)
    exact base
  · iterate 4 (refine Below.setCell ?_ (by simp; try omega) _)
    exact hB3
theorem toModule_all (t : Mod) : ToC 7 (Mod.pd t) := by obtain ⟨pages, imports, cores⟩ := t; exact toModule_step (toImportS_all imports) (toCoreS_all cores)











end Go.Proofs.YtflpfcnpjadccaaGreatDoor
