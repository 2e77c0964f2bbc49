/-
  The laws' own helpers 'hd..' over the program's types (by program: tygen2.py, tyfam.py).
-/
import Derived.Test.YtdmmiboefdbcdaaDoorFam
import Derived.Test.YtdmmiboefdbcdaaDoorTy
import Derived.Test.YtdmmiboefdbcdaaDoorMark
import Derived.Deep.Cut
namespace Go.Proofs.YtdmmiboefdbcdaaDoor
open Go.RowKit
set_option linter.unusedVariables false
set_option linter.unusedSimpArgs false
set_option linter.unnecessarySimpa false
set_option maxRecDepth 100000

set_option maxHeartbeats 1600000 in
theorem heldInt64S_step {ts : List Int} : HdR 12 (.row 1 (ts.flatMap intC)) := by
  intro B v w k0 h0 h1 hB h
  rw [PD.mark] at h
  obtain ⟨A, n, c, rfl, hl, hm, hat⟩ := rep_cells h
  unfold maxLen at hm
  rw [markL_length, flatMap_length intC_length] at hl
  have hn : n = ts.length := by omega
  have HN := Lib.hid hn
  rw [PD.cnt] at h1
  have H1 := Lib.hid h1
  clear h h1 hl hn
  obtain ⟨ds, hds⟩ : ∃ ds, ds = ts.flatMap intC := ⟨_, rfl⟩
  rw [← hds] at hat ⊢
  have HD := Lib.hid hds
  clear hds
  go_enter Tryd.func12, Tryd.ntmps12
  go_wp2_with fail
  go_loopw [1, 5] (fun l i wr => ∃ (k q : Nat), k ≤ n ∧ l = .int .i64 (k0 + q) ∧ i = .int .i64 k ∧ Hid (q = PD.cntL (ds.take (k))) ∧ Below w.heap.size w wr) (fun _ i _ => n - (intOf i).toNat)
  case atStart => exact ⟨0, 0, Nat.zero_le _, by simp, rfl, Lib.hid (by simp [PD.cntL]), Below.refl _ _⟩
  case round =>
    obtain ⟨k, q, hk, rfl, rfl, HQ, hbr⟩ := hrel
    have hqb : (k0 : Int) + q ≤ 1099511627776 := by have := H1.out; have h2 := cntL_take_le ds (k); rw [← HQ.out] at h2; rw [← HD.out] at this; omega
    by_cases hlt : k < n
    · obtain ⟨g, off, rfl, hg, hcell⟩ := hat (by omega)
      obtain ⟨t, hx, hmem⟩ := at_lt HN.out hlt
      have HM := Lib.hid hmem
      clear hmem
      have x0 : ds[k]? = some (.lit (.int .i64 t)) := by rw [HD.out]; have := flatMap_get intC_length hx (j := 0) (by decide); simp only [Nat.mul_one, Nat.add_zero] at this; rw [this]; rfl
      have X0 := Lib.hid x0
      clear x0
      have q0 : (q : Nat) = PD.cntL (ds.take (k)) := HQ.out
      have Q0 := Lib.hid q0
      have HC := Lib.hid hcell
      clear q0 hx hcell
      have c0 : wr.cell? ⟨g, off + k, none⟩ = some (.int .i64 (k0 + (q : Int))) := cell_lit (B := B) hbr (by omega) (by have := HC.out (k) _ (markL_get k0 X0.out); rw [← Q0.out, PD.mark, show off + (k) = off + k by omega, show k0 + ((q : Nat) : Int) = k0 + (q : Int) by omega] at this; exact this)
      have q1 : q + 1 = PD.cntL (ds.take (k + 1)) := by have := cntL_take_succ X0.out; rw [← Q0.out] at this; exact this.symm
      have Q1 := Lib.hid q1
      clear q1
      go_wp2_with fail
      go_roundw
      case rel => exact ⟨k + 1, q + 1, by omega, by go_num, by go_num, Lib.hid (by rw [Q1.out]), hbr⟩
      case measure => simp [intOf]; omega
    · have hkn : k = n := by omega
      subst hkn
      have hlen : ds.length = k := by rw [HD.out, flatMap_length intC_length, HN.out]; omega
      have hq : q = PD.cntL ds := by rw [HQ.out, ← hlen, List.take_length]
      have HQ2 := Lib.hid hq
      clear hq hlen
      go_wp2_with fail
      go_ret
      exact ⟨ret_int (by rw [HQ2.out]; rfl), hbr⟩
theorem heldInt64S_all (ts : List Int) : HdR 12 (.row 1 (ts.flatMap intC)) := heldInt64S_step



























end Go.Proofs.YtdmmiboefdbcdaaDoor
