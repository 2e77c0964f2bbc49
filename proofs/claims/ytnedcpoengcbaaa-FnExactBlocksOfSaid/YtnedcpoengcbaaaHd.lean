/-
  The laws' own helpers 'hd..' over the program's types (by program: tygen2.py, tyfam.py).
-/
import Derived.Test.YtnedcpoengcbaaaFam
import Derived.Test.YtnedcpoengcbaaaTy
import Derived.Test.YtnedcpoengcbaaaMark
import Derived.Deep.Cut
namespace Go.Proofs.Ytnedcpoengcbaaa
open Go.RowKit
set_option linter.unusedVariables false
set_option linter.unusedSimpArgs false
set_option linter.unnecessarySimpa false
set_option maxRecDepth 100000






























set_option maxHeartbeats 1600000 in
theorem heldCodeBlockS_step {ts : List CodeBlock} : HdR 24 (.row 5 (ts.flatMap CodeBlock.pd)) := by
  intro B v w k0 h0 h1 hB h
  rw [PD.mark] at h
  obtain ⟨A, n, c, rfl, hl, hm, hat⟩ := rep_cells h
  unfold maxLen at hm
  rw [markL_length, flatMap_length CodeBlock.pd_length] at hl
  have hn : n = ts.length := by omega
  have HN := Lib.hid hn
  rw [PD.cnt] at h1
  have H1 := Lib.hid h1
  clear h h1 hl hn
  obtain ⟨ds, hds⟩ : ∃ ds, ds = ts.flatMap CodeBlock.pd := ⟨_, rfl⟩
  rw [← hds] at hat ⊢
  have HD := Lib.hid hds
  clear hds
  go_enter Try.func24, Try.ntmps24
  go_wp2_with fail
  go_loopw [1, 5] (fun l i wr => ∃ (k q : Nat), k ≤ n ∧ l = .int .i64 (k0 + q) ∧ i = .int .i64 k ∧ Hid (q = PD.cntL (ds.take (k * 5))) ∧ Below w.heap.size w wr) (fun _ i _ => n - (intOf i).toNat)
  case atStart => exact ⟨0, 0, Nat.zero_le _, by simp, rfl, Lib.hid (by simp [PD.cntL]), Below.refl _ _⟩
  case round =>
    obtain ⟨k, q, hk, rfl, rfl, HQ, hbr⟩ := hrel
    have hqb : (k0 : Int) + q ≤ 1099511627776 := by have := H1.out; have h2 := cntL_take_le ds (k * 5); rw [← HQ.out] at h2; rw [← HD.out] at this; omega
    by_cases hlt : k < n
    · obtain ⟨g, off, rfl, hg, hcell⟩ := hat (by omega)
      obtain ⟨t, hx, hmem⟩ := at_lt HN.out hlt
      have HM := Lib.hid hmem
      clear hmem
      obtain ⟨at_, els, end_, height, result⟩ := t
      have x0 : ds[k * 5 + 0]? = some (.lit (.int .i64 at_)) := by rw [HD.out]; have := flatMap_get CodeBlock.pd_length hx (j := 0) (by decide); rw [this]; rw [CodeBlock.pd_mk]; rfl
      have X0 := Lib.hid x0
      clear x0
      have x1 : ds[k * 5 + 1]? = some (.lit (.int .i64 els)) := by rw [HD.out]; have := flatMap_get CodeBlock.pd_length hx (j := 1) (by decide); rw [this]; rw [CodeBlock.pd_mk]; rfl
      have X1 := Lib.hid x1
      clear x1
      have x2 : ds[k * 5 + 2]? = some (.lit (.int .i64 end_)) := by rw [HD.out]; have := flatMap_get CodeBlock.pd_length hx (j := 2) (by decide); rw [this]; rw [CodeBlock.pd_mk]; rfl
      have X2 := Lib.hid x2
      clear x2
      have x3 : ds[k * 5 + 3]? = some (.lit (.int .i64 height)) := by rw [HD.out]; have := flatMap_get CodeBlock.pd_length hx (j := 3) (by decide); rw [this]; rw [CodeBlock.pd_mk]; rfl
      have X3 := Lib.hid x3
      clear x3
      have x4 : ds[k * 5 + 4]? = some (.lit (.bool result)) := by rw [HD.out]; have := flatMap_get CodeBlock.pd_length hx (j := 4) (by decide); rw [this]; rw [CodeBlock.pd_mk]; rfl
      have X4 := Lib.hid x4
      clear x4
      have q0 : (q : Nat) = PD.cntL (ds.take (k * 5 + 0)) := HQ.out
      have Q0 := Lib.hid q0
      have HC := Lib.hid hcell
      clear q0 hx hcell
      have c0 : wr.cell? ⟨g, off + k * 5, none⟩ = some (.int .i64 (k0 + (q : Int))) := cell_lit (B := B) hbr (by omega) (by have := HC.out (k * 5 + 0) _ (markL_get k0 X0.out); rw [← Q0.out, PD.mark, show off + (k * 5 + 0) = off + k * 5 by omega, show k0 + ((q : Nat) : Int) = k0 + (q : Int) by omega] at this; exact this)
      have q1 : q + 1 = PD.cntL (ds.take (k * 5 + 1)) := by have := cntL_take_succ X0.out; rw [← Q0.out] at this; exact this.symm
      have Q1 := Lib.hid q1
      clear q1
      have c1 : wr.cell? ⟨g, off + k * 5 + 1, none⟩ = some (.int .i64 (k0 + (q : Int) + 1)) := cell_lit (B := B) hbr (by omega) (by have := HC.out (k * 5 + 1) _ (markL_get k0 X1.out); rw [← Q1.out, PD.mark, show off + (k * 5 + 1) = off + k * 5 + 1 by omega, show k0 + ((q + 1 : Nat) : Int) = k0 + (q : Int) + 1 by omega] at this; exact this)
      have q2 : q + 1 + 1 = PD.cntL (ds.take (k * 5 + 2)) := by have := cntL_take_succ X1.out; rw [← Q1.out] at this; exact this.symm
      have Q2 := Lib.hid q2
      clear q2
      have c2 : wr.cell? ⟨g, off + k * 5 + 2, none⟩ = some (.int .i64 (k0 + (q : Int) + 1 + 1)) := cell_lit (B := B) hbr (by omega) (by have := HC.out (k * 5 + 2) _ (markL_get k0 X2.out); rw [← Q2.out, PD.mark, show off + (k * 5 + 2) = off + k * 5 + 2 by omega, show k0 + ((q + 1 + 1 : Nat) : Int) = k0 + (q : Int) + 1 + 1 by omega] at this; exact this)
      have q3 : q + 1 + 1 + 1 = PD.cntL (ds.take (k * 5 + 3)) := by have := cntL_take_succ X2.out; rw [← Q2.out] at this; exact this.symm
      have Q3 := Lib.hid q3
      clear q3
      have c3 : wr.cell? ⟨g, off + k * 5 + 3, none⟩ = some (.int .i64 (k0 + (q : Int) + 1 + 1 + 1)) := cell_lit (B := B) hbr (by omega) (by have := HC.out (k * 5 + 3) _ (markL_get k0 X3.out); rw [← Q3.out, PD.mark, show off + (k * 5 + 3) = off + k * 5 + 3 by omega, show k0 + ((q + 1 + 1 + 1 : Nat) : Int) = k0 + (q : Int) + 1 + 1 + 1 by omega] at this; exact this)
      have q4 : q + 1 + 1 + 1 + 1 = PD.cntL (ds.take (k * 5 + 4)) := by have := cntL_take_succ X3.out; rw [← Q3.out] at this; exact this.symm
      have Q4 := Lib.hid q4
      clear q4
      have c4 : wr.cell? ⟨g, off + k * 5 + 4, none⟩ = some (.bool ((k0 + (q : Int) + 1 + 1 + 1 + 1) % 3 == 0)) := cell_lit (B := B) hbr (by omega) (by have := HC.out (k * 5 + 4) _ (markL_get k0 X4.out); rw [← Q4.out, PD.mark, show off + (k * 5 + 4) = off + k * 5 + 4 by omega, show k0 + ((q + 1 + 1 + 1 + 1 : Nat) : Int) = k0 + (q : Int) + 1 + 1 + 1 + 1 by omega] at this; exact this)
      have q5 : q + 1 + 1 + 1 + 1 + 1 = PD.cntL (ds.take (k * 5 + 5)) := by have := cntL_take_succ X4.out; rw [← Q4.out] at this; exact this.symm
      have Q5 := Lib.hid q5
      clear q5
      go_wp2_with fail
      go_roundw
      case rel => exact ⟨k + 1, q + 1 + 1 + 1 + 1 + 1, by omega, by go_num, by go_num, Lib.hid (by rw [Q5.out]; congr 2; omega), hbr⟩
      case measure => simp [intOf]; omega
    · have hkn : k = n := by omega
      subst hkn
      have hlen : ds.length = k * 5 := by rw [HD.out, flatMap_length CodeBlock.pd_length, HN.out]
      have hq : q = PD.cntL ds := by rw [HQ.out, ← hlen, List.take_length]
      have HQ2 := Lib.hid hq
      clear hq hlen
      go_wp2_with fail
      go_ret
      exact ⟨ret_int (by rw [HQ2.out]; rfl), hbr⟩
theorem heldCodeBlockS_all (ts : List CodeBlock) : HdR 24 (.row 5 (ts.flatMap CodeBlock.pd)) := heldCodeBlockS_step


end Go.Proofs.Ytnedcpoengcbaaa
