/-
  The laws' own helpers 'hd..' over the program's types (by program: tygen2.py, tyfam.py).
-/
import Derived.Test.YtlkfaednolmfkaaFam
import Derived.Test.YtlkfaednolmfkaaTy
import Derived.Test.YtlkfaednolmfkaaMark
import Derived.Deep.Cut
namespace Go.Proofs.Ytlkfaednolmfkaa
open Go.RowKit
set_option linter.unusedVariables false
set_option linter.unusedSimpArgs false
set_option linter.unnecessarySimpa false
set_option maxRecDepth 100000



























set_option maxHeartbeats 1600000 in
theorem heldSectionS_step {ts : List Section} : HdR 28 (.row 3 (ts.flatMap Section.pd)) := by
  intro B v w k0 h0 h1 hB h
  rw [PD.mark] at h
  obtain ⟨A, n, c, rfl, hl, hm, hat⟩ := rep_cells h
  unfold maxLen at hm
  rw [markL_length, flatMap_length Section.pd_length] at hl
  have hn : n = ts.length := by omega
  have HN := Lib.hid hn
  rw [PD.cnt] at h1
  have H1 := Lib.hid h1
  clear h h1 hl hn
  obtain ⟨ds, hds⟩ : ∃ ds, ds = ts.flatMap Section.pd := ⟨_, rfl⟩
  rw [← hds] at hat ⊢
  have HD := Lib.hid hds
  clear hds
  go_enter Try.func28, Try.ntmps28
  go_wp2_with fail
  go_loopw [1, 5] (fun l i wr => ∃ (k q : Nat), k ≤ n ∧ l = .int .i64 (k0 + q) ∧ i = .int .i64 k ∧ Hid (q = PD.cntL (ds.take (k * 3))) ∧ Below w.heap.size w wr) (fun _ i _ => n - (intOf i).toNat)
  case atStart => exact ⟨0, 0, Nat.zero_le _, by simp, rfl, Lib.hid (by simp [PD.cntL]), Below.refl _ _⟩
  case round =>
    obtain ⟨k, q, hk, rfl, rfl, HQ, hbr⟩ := hrel
    have hqb : (k0 : Int) + q ≤ 1099511627776 := by have := H1.out; have h2 := cntL_take_le ds (k * 3); rw [← HQ.out] at h2; rw [← HD.out] at this; omega
    by_cases hlt : k < n
    · obtain ⟨g, off, rfl, hg, hcell⟩ := hat (by omega)
      obtain ⟨t, hx, hmem⟩ := at_lt HN.out hlt
      have HM := Lib.hid hmem
      clear hmem
      obtain ⟨id, name, bytes⟩ := t
      have x0 : ds[k * 3 + 0]? = some (.lit (.int .i64 id)) := by rw [HD.out]; have := flatMap_get Section.pd_length hx (j := 0) (by decide); rw [this]; rw [Section.pd_mk]; rfl
      have X0 := Lib.hid x0
      clear x0
      have x1 : ds[k * 3 + 1]? = some (.lit (.string name)) := by rw [HD.out]; have := flatMap_get Section.pd_length hx (j := 1) (by decide); rw [this]; rw [Section.pd_mk]; rfl
      have X1 := Lib.hid x1
      clear x1
      have x2 : ds[k * 3 + 2]? = some (.lit (.string bytes)) := by rw [HD.out]; have := flatMap_get Section.pd_length hx (j := 2) (by decide); rw [this]; rw [Section.pd_mk]; rfl
      have X2 := Lib.hid x2
      clear x2
      have q0 : (q : Nat) = PD.cntL (ds.take (k * 3 + 0)) := HQ.out
      have Q0 := Lib.hid q0
      have HC := Lib.hid hcell
      clear q0 hx hcell
      have c0 : wr.cell? ⟨g, off + k * 3, none⟩ = some (.int .i64 (k0 + (q : Int))) := cell_lit (B := B) hbr (by omega) (by have := HC.out (k * 3 + 0) _ (markL_get k0 X0.out); rw [← Q0.out, PD.mark, show off + (k * 3 + 0) = off + k * 3 by omega, show k0 + ((q : Nat) : Int) = k0 + (q : Int) by omega] at this; exact this)
      have q1 : q + 1 = PD.cntL (ds.take (k * 3 + 1)) := by have := cntL_take_succ X0.out; rw [← Q0.out] at this; exact this.symm
      have Q1 := Lib.hid q1
      clear q1
      have c1 : wr.cell? ⟨g, off + k * 3 + 1, none⟩ = some (.string (markT (k0 + (q : Int) + 1))) := cell_lit (B := B) hbr (by omega) (by have := HC.out (k * 3 + 1) _ (markL_get k0 X1.out); rw [← Q1.out, PD.mark, show off + (k * 3 + 1) = off + k * 3 + 1 by omega, show k0 + ((q + 1 : Nat) : Int) = k0 + (q : Int) + 1 by omega] at this; exact this)
      have q2 : q + 1 + 1 = PD.cntL (ds.take (k * 3 + 2)) := by have := cntL_take_succ X1.out; rw [← Q1.out] at this; exact this.symm
      have Q2 := Lib.hid q2
      clear q2
      have b1 : (k0 : Int) + ((q + 1 + 1 : Nat) : Int) ≤ 1099511627776 := by have := H1.out; have h2 := cntL_take_le ds (k * 3 + 2); rw [← Q2.out] at h2; rw [← HD.out] at this; omega
      push_cast at b1
      have hg1 : g < wr.heap.size := by have := hbr.size; omega
      go_wp2_with fail
      go_region_held3 (fun w' => w'.cell? ⟨g, off + k * 3 + 1, none⟩ = some (.string (markT (k0 + (q : Int) + 1))))
        (first | go_keep | exact (hbq.cell (p := ⟨g, off + k * 3 + 1, none⟩) hg1).trans c1)
        (first | (go_at_call 52; refine (markText_any _ _ (by omega) (by omega)).mono ?_; rintro e wq ⟨rfl, hbq⟩))
      have hb1 : Below w.heap.size w wq := hbr.drew.trans (hbq.mono hbr.size)
      obtain ⟨w1, hw1⟩ : ∃ W, W = wq := ⟨_, rfl⟩
      subst hw1
      clear hbq c0 c1 hbr
      have c2 : w1.cell? ⟨g, off + k * 3 + 2, none⟩ = some (.string (markT (k0 + (q : Int) + 1 + 1))) := cell_lit (B := B) hb1 (by omega) (by have := HC.out (k * 3 + 2) _ (markL_get k0 X2.out); rw [← Q2.out, PD.mark, show off + (k * 3 + 2) = off + k * 3 + 2 by omega, show k0 + ((q + 1 + 1 : Nat) : Int) = k0 + (q : Int) + 1 + 1 by omega] at this; exact this)
      have q3 : q + 1 + 1 + 1 = PD.cntL (ds.take (k * 3 + 3)) := by have := cntL_take_succ X2.out; rw [← Q2.out] at this; exact this.symm
      have Q3 := Lib.hid q3
      clear q3
      have b2 : (k0 : Int) + ((q + 1 + 1 + 1 : Nat) : Int) ≤ 1099511627776 := by have := H1.out; have h2 := cntL_take_le ds (k * 3 + 3); rw [← Q3.out] at h2; rw [← HD.out] at this; omega
      push_cast at b2
      have hg2 : g < w1.heap.size := by have := hb1.size; omega
      go_wp2_with fail
      go_region_held3 (fun w' => w'.cell? ⟨g, off + k * 3 + 2, none⟩ = some (.string (markT (k0 + (q : Int) + 1 + 1))))
        (first | go_keep | exact (hbq.cell (p := ⟨g, off + k * 3 + 2, none⟩) hg2).trans c2)
        (first | (go_at_call 52; refine (markText_any _ _ (by omega) (by omega)).mono ?_; rintro e wq ⟨rfl, hbq⟩))
      have hb2 : Below w.heap.size w wq := hb1.drew.trans (hbq.mono hb1.size)
      obtain ⟨w2, hw2⟩ : ∃ W, W = wq := ⟨_, rfl⟩
      subst hw2
      clear hbq c2 hb1
      go_wp2_with fail
      go_roundw
      case rel => exact ⟨k + 1, q + 1 + 1 + 1, by omega, by go_num, by go_num, Lib.hid (by rw [Q3.out]; congr 2; omega), hb2⟩
      case measure => simp [intOf]; omega
    · have hkn : k = n := by omega
      subst hkn
      have hlen : ds.length = k * 3 := by rw [HD.out, flatMap_length Section.pd_length, HN.out]
      have hq : q = PD.cntL ds := by rw [HQ.out, ← hlen, List.take_length]
      have HQ2 := Lib.hid hq
      clear hq hlen
      go_wp2_with fail
      go_ret
      exact ⟨ret_int (by rw [HQ2.out]; rfl), hbr⟩
theorem heldSectionS_all (ts : List Section) : HdR 28 (.row 3 (ts.flatMap Section.pd)) := heldSectionS_step

end Go.Proofs.Ytlkfaednolmfkaa
