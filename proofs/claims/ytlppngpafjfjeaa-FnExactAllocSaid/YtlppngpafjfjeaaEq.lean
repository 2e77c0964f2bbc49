/-
  The laws' own helpers 'eq..' over the program's types (by program: tygen2.py, tyfam.py).
-/
import Derived.Test.YtlppngpafjfjeaaFam
import Derived.Test.YtlppngpafjfjeaaTy
namespace Go.Proofs.Ytlppngpafjfjeaa
open Go.RowKit
set_option linter.unusedVariables false
set_option linter.unusedSimpArgs false
set_option linter.unnecessarySimpa false
set_option maxRecDepth 100000



set_option maxHeartbeats 1600000 in
theorem eqBlock_step {at_ : Int} {size : Int} : EqC 63 (Block.pd ⟨at_, size⟩) := by
  intro B cs us w hB h h'
  obtain rfl := Block.open_ h
  obtain rfl := Block.open_ h'
  go_enter Try.func63, Try.ntmps63
  go_wp2_with fail
  go_ret
  exact ⟨rfl, ((Below.refl _ _).alloc (Nat.le_refl _) _).alloc (by simp) _⟩
theorem eqBlock_all (t : Block) : EqC 63 (Block.pd t) := by obtain ⟨at_, size⟩ := t; exact eqBlock_step 

set_option maxHeartbeats 1600000 in
theorem eqBlockS_step {ts : List Block} (ih : ∀ t ∈ ts, EqC 63 (Block.pd t)) : EqR 37 (.row 2 (ts.flatMap Block.pd)) := by
  intro B v u w hB h h'
  obtain ⟨A, n, c, rfl, hnl, hm, hat⟩ := rep_row Block.pd_length (by decide) h
  obtain ⟨A', n', c', rfl, hnl', _, hat'⟩ := rep_row Block.pd_length (by decide) h'
  have hnn : n' = n := by omega
  subst hnn
  unfold maxLen at hm
  have HN := Lib.hid hnl
  have HI := Lib.hid ih
  clear ih
  clear h h' hnl hnl'
  go_enter Try.func37, Try.ntmps37
  go_wp2_with fail
  go_loopw [5] (fun i wr => ∃ k : Nat, k ≤ n' ∧ i = .int .i64 k ∧ Below w.heap.size w wr) (fun i _ => n' - (intOf i).toNat)
  case atStart => exact ⟨0, Nat.zero_le _, rfl, Below.refl _ _⟩
  case round =>
    obtain ⟨k, hk, rfl, hbr⟩ := hrel
    by_cases hlt : k < n'
    · obtain ⟨g, off, rfl, hg, hcell⟩ := hat (by omega)
      obtain ⟨g', off', rfl, hg', hcell'⟩ := hat' (by omega)
      obtain ⟨t, hx, hmem⟩ := at_lt HN.out hlt
      obtain ⟨at_, size⟩ := t
      have c0 : wr.cell? ⟨g, off + k * 2, none⟩ = some (.int .i64 at_) := cell_lit hbr (by omega) (hcell k 0 _ _ hx (by rw [Block.pd_mk]; rfl))
      have c1 : wr.cell? ⟨g, off + k * 2 + 1, none⟩ = some (.int .i64 size) := cell_lit hbr (by omega) (hcell k 1 _ _ hx (by rw [Block.pd_mk]; rfl))
      have d0' : wr.cell? ⟨g', off' + k * 2, none⟩ = some (.int .i64 at_) := cell_lit hbr (by omega) (hcell' k 0 _ _ hx (by rw [Block.pd_mk]; rfl))
      have d1' : wr.cell? ⟨g', off' + k * 2 + 1, none⟩ = some (.int .i64 size) := cell_lit hbr (by omega) (hcell' k 1 _ _ hx (by rw [Block.pd_mk]; rfl))
      have hlt' : (k : Int) < (n' : Int) := by omega
      have hgw : g < wr.heap.size := by have := hbr.size; omega
      have hgw' : g' < wr.heap.size := by have := hbr.size; omega
      have HM := Lib.hid hmem
      have HBW := Lib.hid (Nat.le_trans hB hbr.size)
      clear hx hcell hcell' hmem
      go_wp2_with fail
      have HC := Lib.hid (HI.out _ HM.out B [.int .i64 at_, .int .i64 size] [.int .i64 at_, .int .i64 size] wr.drew HBW.out (Block.close_) (Block.close_))
      go_region_held3 (fun w' => w'.cell? ⟨g, off + k * 2, none⟩ = some (.int .i64 at_) ∧ w'.cell? ⟨g, off + k * 2 + 1, none⟩ = some (.int .i64 size) ∧ w'.cell? ⟨g', off' + k * 2, none⟩ = some (.int .i64 at_) ∧ w'.cell? ⟨g', off' + k * 2 + 1, none⟩ = some (.int .i64 size))
        (first | go_keep | exact ⟨(hbq.cell (p := ⟨g, off + k * 2, none⟩) hgw).trans c0, (hbq.cell (p := ⟨g, off + k * 2 + 1, none⟩) hgw).trans c1, (hbq.cell (p := ⟨g', off' + k * 2, none⟩) hgw').trans d0', (hbq.cell (p := ⟨g', off' + k * 2 + 1, none⟩) hgw').trans d1'⟩)
        (first | (go_at_call 63; refine HC.out.mono ?_; rintro e wq ⟨rfl, hbq⟩))
      have hbn : Below w.heap.size w wq := hbr.drew.trans (hbq.mono hbr.size)
      clear hbq hbr c0 c1 d0' d1'
      go_wp2_with fail
      go_roundw
      case rel => exact ⟨k + 1, by omega, by go_num, hbn⟩
      case measure => simp [intOf]; omega
    · have hkn : k = n' := by omega
      subst hkn
      go_wp2_with fail
      go_ret
      exact ⟨rfl, hbr⟩
theorem eqBlockS_all (ts : List Block) : EqR 37 (.row 2 (ts.flatMap Block.pd)) := eqBlockS_step fun t _ => eqBlock_all t

set_option maxHeartbeats 1600000 in
theorem eqMemory_step {bytes : ByteArray} {free : List Block} (ih_free : EqR 37 (.row 2 (free.flatMap Block.pd))) : EqC 16 (Memory.pd ⟨bytes, free⟩) := by
  intro B cs us w hB h h'
  obtain ⟨freeV, rfl, r_free⟩ := Memory.open_ h
  obtain ⟨freeV', rfl, s_free⟩ := Memory.open_ h'
  have R_free := Lib.hid r_free
  have S_free := Lib.hid s_free
  clear r_free s_free
  go_enter Try.func16, Try.ntmps16
  go_wp2_with fail
  obtain ⟨w0, hw0⟩ : ∃ w0, w0 = (w.alloc (.cells #[.string bytes, freeV] 29)).alloc (.cells #[.string bytes, freeV'] 29) := ⟨_, rfl⟩
  rw [← hw0]
  have bA : Blk w0 w.heap.size 29 #[.string bytes, freeV] := by rw [hw0]; exact (Blk.new w _ _).alloc _
  have bB : Blk w0 (w.heap.size + 1) 29 #[.string bytes, freeV'] := by rw [hw0]; have := Blk.new (w.alloc (.cells #[.string bytes, freeV] 29)) 29 #[.string bytes, freeV']; simpa using this
  have hB0 : Below w.heap.size w w0 := by rw [hw0]; exact ((Below.refl _ _).alloc (Nat.le_refl _) _).alloc (by simp) _
  clear hw0
  refine (ih_free B freeV freeV' _ (by have := hB0.size; omega) (R_free.out.below (hB0.mono hB)) (S_free.out.below (hB0.mono hB))).mono ?_
  rintro e w1 ⟨rfl, hb1⟩
  have hB1 := hB0.trans (hb1.mono hB0.size)
  replace bA := bA.step hb1
  replace bB := bB.step hb1
  go_wp2_with fail
  go_ret
  exact ⟨rfl, hB1⟩
theorem eqMemory_all (t : Memory) : EqC 16 (Memory.pd t) := by obtain ⟨bytes, free⟩ := t; exact eqMemory_step (eqBlockS_all free)























end Go.Proofs.Ytlppngpafjfjeaa
