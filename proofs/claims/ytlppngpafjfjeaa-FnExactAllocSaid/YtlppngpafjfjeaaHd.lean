/-
  The laws' own helpers 'hd..' over the program's types (by program: tygen2.py, tyfam.py).
-/
import Derived.Test.YtlppngpafjfjeaaFam
import Derived.Test.YtlppngpafjfjeaaTy
import Derived.Test.YtlppngpafjfjeaaMark
import Derived.Deep.Cut
namespace Go.Proofs.Ytlppngpafjfjeaa
open Go.RowKit
set_option linter.unusedVariables false
set_option linter.unusedSimpArgs false
set_option linter.unnecessarySimpa false
set_option maxRecDepth 100000




set_option maxHeartbeats 1600000 in
theorem heldBlockS_step {ts : List Block} : HdR 45 (.row 2 (ts.flatMap Block.pd)) := by
  intro B v w k0 h0 h1 hB h
  rw [PD.mark] at h
  obtain ⟨A, n, c, rfl, hl, hm, hat⟩ := rep_cells h
  unfold maxLen at hm
  rw [markL_length, flatMap_length Block.pd_length] at hl
  have hn : n = ts.length := by omega
  have HN := Lib.hid hn
  rw [PD.cnt] at h1
  have H1 := Lib.hid h1
  clear h h1 hl hn
  obtain ⟨ds, hds⟩ : ∃ ds, ds = ts.flatMap Block.pd := ⟨_, rfl⟩
  rw [← hds] at hat ⊢
  have HD := Lib.hid hds
  clear hds
  go_enter Try.func45, Try.ntmps45
  go_wp2_with fail
  go_loopw [1, 5] (fun l i wr => ∃ (k q : Nat), k ≤ n ∧ l = .int .i64 (k0 + q) ∧ i = .int .i64 k ∧ Hid (q = PD.cntL (ds.take (k * 2))) ∧ Below w.heap.size w wr) (fun _ i _ => n - (intOf i).toNat)
  case atStart => exact ⟨0, 0, Nat.zero_le _, by simp, rfl, Lib.hid (by simp [PD.cntL]), Below.refl _ _⟩
  case round =>
    obtain ⟨k, q, hk, rfl, rfl, HQ, hbr⟩ := hrel
    have hqb : (k0 : Int) + q ≤ 1099511627776 := by have := H1.out; have h2 := cntL_take_le ds (k * 2); rw [← HQ.out] at h2; rw [← HD.out] at this; omega
    by_cases hlt : k < n
    · obtain ⟨g, off, rfl, hg, hcell⟩ := hat (by omega)
      obtain ⟨t, hx, hmem⟩ := at_lt HN.out hlt
      have HM := Lib.hid hmem
      clear hmem
      obtain ⟨at_, size⟩ := t
      have x0 : ds[k * 2 + 0]? = some (.lit (.int .i64 at_)) := by rw [HD.out]; have := flatMap_get Block.pd_length hx (j := 0) (by decide); rw [this]; rw [Block.pd_mk]; rfl
      have X0 := Lib.hid x0
      clear x0
      have x1 : ds[k * 2 + 1]? = some (.lit (.int .i64 size)) := by rw [HD.out]; have := flatMap_get Block.pd_length hx (j := 1) (by decide); rw [this]; rw [Block.pd_mk]; rfl
      have X1 := Lib.hid x1
      clear x1
      have q0 : (q : Nat) = PD.cntL (ds.take (k * 2 + 0)) := HQ.out
      have Q0 := Lib.hid q0
      have HC := Lib.hid hcell
      clear q0 hx hcell
      have c0 : wr.cell? ⟨g, off + k * 2, none⟩ = some (.int .i64 (k0 + (q : Int))) := cell_lit (B := B) hbr (by omega) (by have := HC.out (k * 2 + 0) _ (markL_get k0 X0.out); rw [← Q0.out, PD.mark, show off + (k * 2 + 0) = off + k * 2 by omega, show k0 + ((q : Nat) : Int) = k0 + (q : Int) by omega] at this; exact this)
      have q1 : q + 1 = PD.cntL (ds.take (k * 2 + 1)) := by have := cntL_take_succ X0.out; rw [← Q0.out] at this; exact this.symm
      have Q1 := Lib.hid q1
      clear q1
      have c1 : wr.cell? ⟨g, off + k * 2 + 1, none⟩ = some (.int .i64 (k0 + (q : Int) + 1)) := cell_lit (B := B) hbr (by omega) (by have := HC.out (k * 2 + 1) _ (markL_get k0 X1.out); rw [← Q1.out, PD.mark, show off + (k * 2 + 1) = off + k * 2 + 1 by omega, show k0 + ((q + 1 : Nat) : Int) = k0 + (q : Int) + 1 by omega] at this; exact this)
      have q2 : q + 1 + 1 = PD.cntL (ds.take (k * 2 + 2)) := by have := cntL_take_succ X1.out; rw [← Q1.out] at this; exact this.symm
      have Q2 := Lib.hid q2
      clear q2
      go_wp2_with fail
      go_roundw
      case rel => exact ⟨k + 1, q + 1 + 1, by omega, by go_num, by go_num, Lib.hid (by rw [Q2.out]; congr 2; omega), hbr⟩
      case measure => simp [intOf]; omega
    · have hkn : k = n := by omega
      subst hkn
      have hlen : ds.length = k * 2 := by rw [HD.out, flatMap_length Block.pd_length, HN.out]
      have hq : q = PD.cntL ds := by rw [HQ.out, ← hlen, List.take_length]
      have HQ2 := Lib.hid hq
      clear hq hlen
      go_wp2_with fail
      go_ret
      exact ⟨ret_int (by rw [HQ2.out]; rfl), hbr⟩
theorem heldBlockS_all (ts : List Block) : HdR 45 (.row 2 (ts.flatMap Block.pd)) := heldBlockS_step

set_option maxHeartbeats 1600000 in
theorem heldMemory_step {bytes : ByteArray} {free : List Block} (ih_free : HdR 45 (.row 2 (free.flatMap Block.pd))) : HdC 24 (Memory.pd ⟨bytes, free⟩) := by
  intro B us w k0 h0 h1 hB h
  rw [Memory.pd_mk] at h h1 ⊢
  simp only [markC] at h
  simp only [rowsCnt] at h1 ⊢
  obtain ⟨y_free, hy_free⟩ : ∃ y : Nat, y = PD.cntL (free.flatMap Block.pd) := ⟨_, rfl⟩
  rw [← hy_free] at h1 ⊢
  try rw [← hy_free] at h
  have Y_free := Lib.hid hy_free
  clear hy_free
  obtain ⟨us1, rfl, h1'⟩ := h.of_lit
  obtain ⟨freeV, us2, rfl, r_free, h2'⟩ := h1'.of_cons
  obtain rfl := h2'.of_nil
  have R_free := Lib.hid r_free
  clear r_free
  clear h h1' h2'
  go_enter Try.func24, Try.ntmps24
  go_wp2_with fail
  obtain ⟨w0, hw0⟩ : ∃ w0, w0 = w.alloc (.cells #[.string bytes, freeV] 29) := ⟨_, rfl⟩
  rw [← hw0]
  have bA : Blk w0 w.heap.size 29 #[.string bytes, freeV] := by rw [hw0]; exact Blk.new w _ _
  have hB0 : Below w.heap.size w w0 := by rw [hw0]; exact (Below.refl _ _).alloc (Nat.le_refl _) _
  clear hw0
  refine (ih_free B freeV _ (k0) (by omega) (by rw [PD.cnt, ← Y_free.out]; omega) (Nat.le_trans hB hB0.size) (by rw [PD.mark]; exact R_free.out.below (hB0.mono hB))).mono ?_
  rintro e w1 ⟨rfl, hb1⟩
  rw [PD.cnt, ← Y_free.out]
  have hB1 := hB0.trans (hb1.mono hB0.size)
  replace bA := bA.step hb1
  have p1 : 0 ≤ k0 + (y_free : Int) := by omega
  go_wp2_with fail
  go_ret
  exact ⟨ret_int (by push_cast; omega), hB1⟩
theorem heldMemory_all (t : Memory) : HdC 24 (Memory.pd t) := by obtain ⟨bytes, free⟩ := t; exact heldMemory_step (heldBlockS_all free)























end Go.Proofs.Ytlppngpafjfjeaa
