/-
  The laws' own helpers 'to..' over the program's types (by program: tygen2.py, tyfam.py).
-/
import Derived.Test.YtokiagkoehjekaaFam
import Derived.Test.YtokiagkoehjekaaTy
namespace Go.Proofs.Ytokiagkoehjekaa
open Go.RowKit
set_option linter.unusedVariables false
set_option linter.unusedSimpArgs false
set_option linter.unnecessarySimpa false
set_option maxRecDepth 100000















set_option maxHeartbeats 1600000 in
theorem toIns_step {op : Int} {a : Int} : ToC 7 (Ins.pd ⟨op, a⟩) := by
  intro B cs w hB hsz h
  obtain rfl := Ins.open_ h
  clear hsz
  go_enter Try.func7, Try.ntmps7
  go_wp2
  refine bodyPost_ret (v := .agg #[.int .i64 op, .int .i64 a]) (by simp [results, Try.results7, go_sem]) rfl ⟨[.int .i64 op, .int .i64 a], rfl, ?_, ?_⟩
  · rw [Ins.pd_mk]
    exact ((LvC.nil _ _ _ (Nat.le_refl _)).lit _).lit _
  · repeat (first | exact Below.refl _ _ | refine Below.setCell ?_ (by simp) _ | refine Below.alloc ?_ (by simp; try omega) _)
theorem toIns_all (t : Ins) : ToC 7 (Ins.pd t) := by obtain ⟨op, a⟩ := t; exact toIns_step 


theorem toInsS_info : (Try.prog.info? 25).map (fun i => (i.zero, i.size, i.bytes)) = some (some (.agg #[.int .i64 0, .int .i64 0]), 2, 16) := by kernel_rfl
set_option maxHeartbeats 1600000 in
theorem toInsS_step {ts : List Ins} (ih : ∀ t ∈ ts, ToC 7 (Ins.pd t)) : ToR 16 (.row 2 (ts.flatMap Ins.pd)) := by
  intro B v w hB hsz h
  rw [sz_row Ins.pd_length (by decide)] at hsz
  obtain ⟨A, n, c, rfl, hnl, hm, hat⟩ := rep_row Ins.pd_length (by decide) h
  obtain ⟨i0, hi, hz0, hz1, hz2⟩ := info_parts toInsS_info
  have hmk := fun W => run_make_rowN (P := Try.prog) 38 25 i0 _ Try.underlying38 hi hz0 .i64 .i64 n n (Nat.le_refl _) (by rw [hz2]; omega) (by omega) W
  rw [hz1] at hmk
  have hnn : n ≤ 1048576 := by omega
  have HN := Lib.hid hnl
  have HS := Lib.hid hsz
  have HI := Lib.hid ih
  clear ih
  clear h hnl hz0 hz1 hz2 hi hm hsz
  go_enter Try.func16, Try.ntmps16
  go_wp2
  clear hmk
  obtain ⟨W1, hW1⟩ : ∃ W1, W1 = w.alloc (.cells (madeCells #[.int .i64 0, .int .i64 0] (n * 2)) 25) := ⟨_, rfl⟩
  rw [← hW1]
  have hF : Fills w W1 w.heap.size n 2 ((ts.take 0).flatMap Ins.pd) 0 := by
    rw [hW1]
    exact Fills.start (cs := (madeCells #[.int .i64 0, .int .i64 0] (n * 2)).toList) (OwAt.new w _ _) (by simp [size_madeCells]) ((Below.refl _ _).alloc (Nat.le_refl _) _) (by simp)
  clear hW1
  go_loopw [4] (fun i wr => ∃ k : Nat, k ≤ n ∧ i = .int .i64 k ∧ Fills w wr w.heap.size n 2 ((ts.take k).flatMap Ins.pd) k) (fun i _ => n - (intOf i).toNat)
  case atStart => exact ⟨0, Nat.zero_le _, rfl, hF⟩
  case round =>
    obtain ⟨k, hk, rfl, hf⟩ := hrel
    clear hF
    by_cases hlt : k < n
    · obtain ⟨g, off, rfl, hg, hcell⟩ := hat (by omega)
      obtain ⟨t, hx, hmem⟩ := at_lt HN.out hlt
      obtain ⟨hbr, hg0⟩ := hf.under
      have hle := szL_get_le (f := Ins.pd) hx
      obtain ⟨op, a⟩ := t
      have c0 : wr.cell? ⟨g, off + k * 2, none⟩ = some (.int .i64 op) := cell_lit hbr (by omega) (hcell k 0 _ _ hx (by rw [Ins.pd_mk]; rfl))
      have c1 : wr.cell? ⟨g, off + k * 2 + 1, none⟩ = some (.int .i64 a) := cell_lit hbr (by omega) (hcell k 1 _ _ hx (by rw [Ins.pd_mk]; rfl))
      have HX := Lib.hid hx
      have HL := Lib.hid hle
      have HM := Lib.hid hmem
      clear hx hcell hle hmem
      go_wp2_with fail
      refine (HI.out _ HM.out B [.int .i64 op, .int .i64 a] _ (by omega) (by have := HS.out; have := HL.out; omega) (Ins.close_)).mono ?_
      rintro e wq ⟨us, rfl, hl, hbq⟩
      obtain rfl := Ins.lopen hl
      have hlen := hl.len
      obtain ⟨F2, hh, hi2, _⟩ := hl
      obtain ⟨⟨u0, d0⟩, f0⟩ := hf.cell hbq hlt 0 (by decide)
      rw [Nat.add_zero] at d0 f0
      obtain ⟨⟨u1, d1⟩, f1⟩ := hf.cell hbq hlt 1 (by decide)
      have hnx := hf.next hbq (es := Ins.pd ⟨op, a⟩) hh hi2 (hlen.trans (Ins.pd_length _)) hlt
      have HF := Lib.hid hnx
      clear hnx hf hh hi2 hlen
      go_wp2_with fail
      go_roundw
      case rel => exact ⟨k + 1, by omega, by go_num, by rw [List.take_add_one, HX.out, List.flatMap_append, opt_flat]; exact HF.out⟩
      case measure => simp [intOf]; omega
    · have hkn : k = n := by omega
      subst hkn
      have hfin : Lv wr w.heap.size wr.heap.size (.row 2 (ts.flatMap Ins.pd)) (.slice (some ⟨w.heap.size, 0, none⟩) k k) := by
        rw [List.take_of_length_le (by have := HN.out; omega)] at hf
        exact hf.done (by rw [flatMap_length Ins.pd_length]; rw [HN.out]) (Nat.le_refl _) (by simp only [maxLen]; omega)
      have hbr := hf.under.1
      clear hf
      go_wp2_with fail
      go_ret
      exact ⟨_, rfl, hfin, hbr⟩
theorem toInsS_all (ts : List Ins) : ToR 16 (.row 2 (ts.flatMap Ins.pd)) := toInsS_step fun t _ => toIns_all t








set_option maxHeartbeats 1600000 in
theorem toSection_step {id : Int} {name : ByteArray} {bytes : ByteArray} : ToC 29 (Section.pd ⟨id, name, bytes⟩) := by
  intro B cs w hB hsz h
  obtain rfl := Section.open_ h
  clear hsz
  go_enter Try.func29, Try.ntmps29
  go_wp2
  refine bodyPost_ret (v := .agg #[.int .i64 id, .string name, .string bytes]) (by simp [results, Try.results29, go_sem]) rfl ⟨[.int .i64 id, .string name, .string bytes], rfl, ?_, ?_⟩
  · rw [Section.pd_mk]
    exact (((LvC.nil _ _ _ (Nat.le_refl _)).lit _).lit _).lit _
  · repeat (first | exact Below.refl _ _ | refine Below.setCell ?_ (by simp) _ | refine Below.alloc ?_ (by simp; try omega) _)
theorem toSection_all (t : Section) : ToC 29 (Section.pd t) := by obtain ⟨id, name, bytes⟩ := t; exact toSection_step 


theorem toSectionS_info : (Try.prog.info? 51).map (fun i => (i.zero, i.size, i.bytes)) = some (some (.agg #[.int .i64 0, .string { data := #[] }, .string { data := #[] }]), 3, 40) := by kernel_rfl
set_option maxHeartbeats 1600000 in
theorem toSectionS_step {ts : List Section} (ih : ∀ t ∈ ts, ToC 29 (Section.pd t)) : ToR 11 (.row 3 (ts.flatMap Section.pd)) := by
  intro B v w hB hsz h
  rw [sz_row Section.pd_length (by decide)] at hsz
  obtain ⟨A, n, c, rfl, hnl, hm, hat⟩ := rep_row Section.pd_length (by decide) h
  obtain ⟨i0, hi, hz0, hz1, hz2⟩ := info_parts toSectionS_info
  have hmk := fun W => run_make_rowN (P := Try.prog) 31 51 i0 _ Try.underlying31 hi hz0 .i64 .i64 n n (Nat.le_refl _) (by rw [hz2]; omega) (by omega) W
  rw [hz1] at hmk
  have hnn : n ≤ 1048576 := by omega
  have HN := Lib.hid hnl
  have HS := Lib.hid hsz
  have HI := Lib.hid ih
  clear ih
  clear h hnl hz0 hz1 hz2 hi hm hsz
  go_enter Try.func11, Try.ntmps11
  go_wp2
  clear hmk
  obtain ⟨W1, hW1⟩ : ∃ W1, W1 = w.alloc (.cells (madeCells #[.int .i64 0, .string { data := #[] }, .string { data := #[] }] (n * 3)) 51) := ⟨_, rfl⟩
  rw [← hW1]
  have hF : Fills w W1 w.heap.size n 3 ((ts.take 0).flatMap Section.pd) 0 := by
    rw [hW1]
    exact Fills.start (cs := (madeCells #[.int .i64 0, .string { data := #[] }, .string { data := #[] }] (n * 3)).toList) (OwAt.new w _ _) (by simp [size_madeCells]) ((Below.refl _ _).alloc (Nat.le_refl _) _) (by simp)
  clear hW1
  go_loopw [4] (fun i wr => ∃ k : Nat, k ≤ n ∧ i = .int .i64 k ∧ Fills w wr w.heap.size n 3 ((ts.take k).flatMap Section.pd) k) (fun i _ => n - (intOf i).toNat)
  case atStart => exact ⟨0, Nat.zero_le _, rfl, hF⟩
  case round =>
    obtain ⟨k, hk, rfl, hf⟩ := hrel
    clear hF
    by_cases hlt : k < n
    · obtain ⟨g, off, rfl, hg, hcell⟩ := hat (by omega)
      obtain ⟨t, hx, hmem⟩ := at_lt HN.out hlt
      obtain ⟨hbr, hg0⟩ := hf.under
      have hle := szL_get_le (f := Section.pd) hx
      obtain ⟨id, name, bytes⟩ := t
      have c0 : wr.cell? ⟨g, off + k * 3, none⟩ = some (.int .i64 id) := cell_lit hbr (by omega) (hcell k 0 _ _ hx (by rw [Section.pd_mk]; rfl))
      have c1 : wr.cell? ⟨g, off + k * 3 + 1, none⟩ = some (.string name) := cell_lit hbr (by omega) (hcell k 1 _ _ hx (by rw [Section.pd_mk]; rfl))
      have c2 : wr.cell? ⟨g, off + k * 3 + 2, none⟩ = some (.string bytes) := cell_lit hbr (by omega) (hcell k 2 _ _ hx (by rw [Section.pd_mk]; rfl))
      have HX := Lib.hid hx
      have HL := Lib.hid hle
      have HM := Lib.hid hmem
      clear hx hcell hle hmem
      go_wp2_with fail
      refine (HI.out _ HM.out B [.int .i64 id, .string name, .string bytes] _ (by omega) (by have := HS.out; have := HL.out; omega) (Section.close_)).mono ?_
      rintro e wq ⟨us, rfl, hl, hbq⟩
      obtain rfl := Section.lopen hl
      have hlen := hl.len
      obtain ⟨F2, hh, hi2, _⟩ := hl
      obtain ⟨⟨u0, d0⟩, f0⟩ := hf.cell hbq hlt 0 (by decide)
      rw [Nat.add_zero] at d0 f0
      obtain ⟨⟨u1, d1⟩, f1⟩ := hf.cell hbq hlt 1 (by decide)
      obtain ⟨⟨u2, d2⟩, f2⟩ := hf.cell hbq hlt 2 (by decide)
      have hnx := hf.next hbq (es := Section.pd ⟨id, name, bytes⟩) hh hi2 (hlen.trans (Section.pd_length _)) hlt
      have HF := Lib.hid hnx
      clear hnx hf hh hi2 hlen
      go_wp2_with fail
      go_roundw
      case rel => exact ⟨k + 1, by omega, by go_num, by rw [List.take_add_one, HX.out, List.flatMap_append, opt_flat]; exact HF.out⟩
      case measure => simp [intOf]; omega
    · have hkn : k = n := by omega
      subst hkn
      have hfin : Lv wr w.heap.size wr.heap.size (.row 3 (ts.flatMap Section.pd)) (.slice (some ⟨w.heap.size, 0, none⟩) k k) := by
        rw [List.take_of_length_le (by have := HN.out; omega)] at hf
        exact hf.done (by rw [flatMap_length Section.pd_length]; rw [HN.out]) (Nat.le_refl _) (by simp only [maxLen]; omega)
      have hbr := hf.under.1
      clear hf
      go_wp2_with fail
      go_ret
      exact ⟨_, rfl, hfin, hbr⟩
theorem toSectionS_all (ts : List Section) : ToR 11 (.row 3 (ts.flatMap Section.pd)) := toSectionS_step fun t _ => toSection_all t

end Go.Proofs.Ytokiagkoehjekaa
