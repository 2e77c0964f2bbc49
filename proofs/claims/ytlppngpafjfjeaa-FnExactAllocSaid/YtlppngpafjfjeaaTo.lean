/-
  The laws' own helpers 'to..' over the program's types (by program: tygen2.py, tyfam.py).
-/
import Derived.Test.YtlppngpafjfjeaaFam
import Derived.Test.YtlppngpafjfjeaaTy
namespace Go.Proofs.Ytlppngpafjfjeaa
open Go.RowKit
set_option linter.unusedVariables false
set_option linter.unusedSimpArgs false
set_option linter.unnecessarySimpa false
set_option maxRecDepth 100000



set_option maxHeartbeats 1600000 in
theorem toBlock_step {at_ : Int} {size : Int} : ToC 62 (Block.pd ⟨at_, size⟩) := by
  intro B cs w hB hsz h
  obtain rfl := Block.open_ h
  clear hsz
  go_enter Try.func62, Try.ntmps62
  go_wp2
  refine bodyPost_ret (v := .agg #[.int .i64 at_, .int .i64 size]) (by simp [results, Try.results62, go_sem]) rfl ⟨[.int .i64 at_, .int .i64 size], rfl, ?_, ?_⟩
  · rw [Block.pd_mk]
    exact ((LvC.nil _ _ _ (Nat.le_refl _)).lit _).lit _
  · repeat (first | exact Below.refl _ _ | refine Below.setCell ?_ (by simp) _ | refine Below.alloc ?_ (by simp; try omega) _)
theorem toBlock_all (t : Block) : ToC 62 (Block.pd t) := by obtain ⟨at_, size⟩ := t; exact toBlock_step 

theorem toBlockS_info : (Try.prog.info? 49).map (fun i => (i.zero, i.size, i.bytes)) = some (some (.agg #[.int .i64 0, .int .i64 0]), 2, 16) := by kernel_rfl
set_option maxHeartbeats 1600000 in
theorem toBlockS_step {ts : List Block} (ih : ∀ t ∈ ts, ToC 62 (Block.pd t)) : ToR 35 (.row 2 (ts.flatMap Block.pd)) := by
  intro B v w hB hsz h
  rw [sz_row Block.pd_length (by decide)] at hsz
  obtain ⟨A, n, c, rfl, hnl, hm, hat⟩ := rep_row Block.pd_length (by decide) h
  obtain ⟨i0, hi, hz0, hz1, hz2⟩ := info_parts toBlockS_info
  have hmk := fun W => run_make_rowN (P := Try.prog) 27 49 i0 _ Try.underlying27 hi hz0 .i64 .i64 n n (Nat.le_refl _) (by rw [hz2]; omega) (by omega) W
  rw [hz1] at hmk
  have hnn : n ≤ 1048576 := by omega
  have HN := Lib.hid hnl
  have HS := Lib.hid hsz
  have HI := Lib.hid ih
  clear ih
  clear h hnl hz0 hz1 hz2 hi hm hsz
  go_enter Try.func35, Try.ntmps35
  go_wp2
  clear hmk
  obtain ⟨W1, hW1⟩ : ∃ W1, W1 = w.alloc (.cells (madeCells #[.int .i64 0, .int .i64 0] (n * 2)) 49) := ⟨_, rfl⟩
  rw [← hW1]
  have hF : Fills w W1 w.heap.size n 2 ((ts.take 0).flatMap Block.pd) 0 := by
    rw [hW1]
    exact Fills.start (cs := (madeCells #[.int .i64 0, .int .i64 0] (n * 2)).toList) (OwAt.new w _ _) (by simp [size_madeCells]) ((Below.refl _ _).alloc (Nat.le_refl _) _) (by simp)
  clear hW1
  go_loopw [4] (fun i wr => ∃ k : Nat, k ≤ n ∧ i = .int .i64 k ∧ Fills w wr w.heap.size n 2 ((ts.take k).flatMap Block.pd) k) (fun i _ => n - (intOf i).toNat)
  case atStart => exact ⟨0, Nat.zero_le _, rfl, hF⟩
  case round =>
    obtain ⟨k, hk, rfl, hf⟩ := hrel
    clear hF
    by_cases hlt : k < n
    · obtain ⟨g, off, rfl, hg, hcell⟩ := hat (by omega)
      obtain ⟨t, hx, hmem⟩ := at_lt HN.out hlt
      obtain ⟨hbr, hg0⟩ := hf.under
      have hle := szL_get_le (f := Block.pd) hx
      obtain ⟨at_, size⟩ := t
      have c0 : wr.cell? ⟨g, off + k * 2, none⟩ = some (.int .i64 at_) := cell_lit hbr (by omega) (hcell k 0 _ _ hx (by rw [Block.pd_mk]; rfl))
      have c1 : wr.cell? ⟨g, off + k * 2 + 1, none⟩ = some (.int .i64 size) := cell_lit hbr (by omega) (hcell k 1 _ _ hx (by rw [Block.pd_mk]; rfl))
      have HX := Lib.hid hx
      have HL := Lib.hid hle
      have HM := Lib.hid hmem
      clear hx hcell hle hmem
      go_wp2_with fail
      refine (HI.out _ HM.out B [.int .i64 at_, .int .i64 size] _ (by omega) (by have := HS.out; have := HL.out; omega) (Block.close_)).mono ?_
      rintro e wq ⟨us, rfl, hl, hbq⟩
      obtain rfl := Block.lopen hl
      have hlen := hl.len
      obtain ⟨F2, hh, hi2, _⟩ := hl
      obtain ⟨⟨u0, d0⟩, f0⟩ := hf.cell hbq hlt 0 (by decide)
      rw [Nat.add_zero] at d0 f0
      obtain ⟨⟨u1, d1⟩, f1⟩ := hf.cell hbq hlt 1 (by decide)
      have hnx := hf.next hbq (es := Block.pd ⟨at_, size⟩) hh hi2 (hlen.trans (Block.pd_length _)) hlt
      have HF := Lib.hid hnx
      clear hnx hf hh hi2 hlen
      go_wp2_with fail
      go_roundw
      case rel => exact ⟨k + 1, by omega, by go_num, by rw [List.take_add_one, HX.out, List.flatMap_append, opt_flat]; exact HF.out⟩
      case measure => simp [intOf]; omega
    · have hkn : k = n := by omega
      subst hkn
      have hfin : Lv wr w.heap.size wr.heap.size (.row 2 (ts.flatMap Block.pd)) (.slice (some ⟨w.heap.size, 0, none⟩) k k) := by
        rw [List.take_of_length_le (by have := HN.out; omega)] at hf
        exact hf.done (by rw [flatMap_length Block.pd_length]; rw [HN.out]) (Nat.le_refl _) (by simp only [maxLen]; omega)
      have hbr := hf.under.1
      clear hf
      go_wp2_with fail
      go_ret
      exact ⟨_, rfl, hfin, hbr⟩
theorem toBlockS_all (ts : List Block) : ToR 35 (.row 2 (ts.flatMap Block.pd)) := toBlockS_step fun t _ => toBlock_all t

set_option maxHeartbeats 1600000 in
theorem toMemory_step {bytes : ByteArray} {free : List Block} (ih_free : ToR 35 (.row 2 (free.flatMap Block.pd))) : ToC 14 (Memory.pd ⟨bytes, free⟩) := by
  intro B cs w hB hsz h
  obtain ⟨freeV, rfl, r_free⟩ := Memory.open_ h
  have R_free := Lib.hid r_free
  clear r_free
  simp only [Memory.pd_mk, PD.szL] at hsz
  have HS := Lib.hid hsz
  clear hsz
  go_enter Try.func14, Try.ntmps14
  go_wp2_with fail
  obtain ⟨w0, hw0⟩ : ∃ w0, w0 = ((w.alloc (.cells #[.string bytes, freeV] 24)).alloc (.cells #[.string { data := #[] }, .slice none 0 0] 29)).alloc (.cells #[.string bytes, .slice none 0 0] 29) := ⟨_, rfl⟩
  rw [← hw0]
  have bP : Blk w0 w.heap.size 24 #[.string bytes, freeV] := by rw [hw0]; exact ((Blk.new w _ _).alloc _).alloc _
  have bR : Blk w0 (w.heap.size + 1) 29 #[.string { data := #[] }, .slice none 0 0] := by rw [hw0]; have := (Blk.new (w.alloc (.cells #[.string bytes, freeV] 24)) 29 #[.string { data := #[] }, .slice none 0 0]).alloc (.cells #[.string bytes, .slice none 0 0] 29); simpa using this
  have bO : Blk w0 (w.heap.size + 1 + 1) 29 #[.string bytes, .slice none 0 0] := by rw [hw0]; have := Blk.new ((w.alloc (.cells #[.string bytes, freeV] 24)).alloc (.cells #[.string { data := #[] }, .slice none 0 0] 29)) 29 #[.string bytes, .slice none 0 0]; simpa using this
  have hB0 : Below w.heap.size w w0 := by rw [hw0]; exact (((Below.refl _ _).alloc (Nat.le_refl _) _).alloc (by simp) _).alloc (by simp; omega) _
  have hs0 : w.heap.size + 3 ≤ w0.heap.size := by rw [hw0]; simp
  clear hw0
  refine (ih_free B freeV _ (by have := hB0.size; omega) (by have := HS.out; omega) (R_free.out.below (hB0.mono hB))).mono ?_
  rintro e w1 ⟨u_free, rfl, l_free, hb1⟩
  obtain ⟨freeA, freeN, freeC, rfl⟩ := l_free.form
  have hB1 := hB0.trans (hb1.mono hB0.size)
  have hs1 := hb1.size
  replace bP := bP.step hb1
  replace bR := bR.step hb1
  replace bO := bO.step hb1
  have fO1_1 := bO.frozen 1
  have cO1_1 : w1.cell? ⟨w.heap.size + 1 + 1, 1, none⟩ = some (.slice none 0 0) := bO.cell 1
  have fR0 := bR.frozen 0
  have cR0 : w1.cell? ⟨w.heap.size + 1, 0, none⟩ = some (.string { data := #[] }) := bR.cell 0
  have fR1 := bR.frozen 1
  have cR1 : w1.cell? ⟨w.heap.size + 1, 1, none⟩ = some (.slice none 0 0) := bR.cell 1
  have cO1_0 : w1.cell? ⟨w.heap.size + 1 + 1, 0, none⟩ = some (.string bytes) := bO.cell 0
  go_wp2_with fail
  clear bP bR bO
  refine bodyPost_ret (v := .agg #[.string bytes, .slice freeA freeN freeC]) (by simp [results, Try.results14, go_sem, cR0, cR1]) rfl ⟨[.string bytes, .slice freeA freeN freeC], rfl, ?_, ?_⟩
  · have base : LvC w1 w0.heap.size w1.heap.size [.lit (.string bytes), .row 2 (free.flatMap Block.pd)] [.string bytes, .slice freeA freeN freeC] := by
      have := LvC.lit (LvC.cons l_free (LvC.nil0 _) (by first | omega | (simp; omega)) (by first | omega | (simp; omega)) (by first | omega | (simp; omega))) (.string bytes)
      exact this
    rw [Memory.pd_mk]
    refine LvC.low (lo2 := w0.heap.size) ?_ (by omega)
    refine LvC.more (hi := w1.heap.size) ?_ (Nat.le_refl _) (by simp [World.setCell]) (Nat.le_refl _)
    iterate 3 (refine LvC.setCell ?_ (.inl (by simp; omega)) _)
    exact base
  · iterate 3 (refine Below.setCell ?_ (by simp; try omega) _)
    exact hB1
theorem toMemory_all (t : Memory) : ToC 14 (Memory.pd t) := by obtain ⟨bytes, free⟩ := t; exact toMemory_step (toBlockS_all free)























end Go.Proofs.Ytlppngpafjfjeaa
