/-
  The laws' own helpers 'hd..' over the program's types (by program: tygen2.py, tyfam.py).
-/
import Derived.Test.YtmmeaakhikcigaaFam
import Derived.Test.YtmmeaakhikcigaaTy
import Derived.Test.YtmmeaakhikcigaaMark
import Derived.Deep.Cut
namespace Go.Proofs.Ytmmeaakhikcigaa
open Go.RowKit
set_option linter.unusedVariables false
set_option linter.unusedSimpArgs false
set_option linter.unnecessarySimpa false
set_option maxRecDepth 100000

set_option maxHeartbeats 1600000 in
theorem heldInt64S_step {ts : List Int} : HdR 51 (.row 1 (ts.flatMap intC)) := by
  intro B v w k0 h0 h1 hB h
  rw [PD.mark] at h
  obtain ⟨A, n, c, rfl, hl, hm, hat⟩ := rep_cells h
  unfold maxLen at hm
  rw [markL_length, flatMap_length intC_length] at hl
  have hn : n = ts.length := by omega
  have HN := Lib.hid hn
  rw [PD.cnt] at h1
  have H1 := Lib.hid h1
  clear h h1 hl hn
  obtain ⟨ds, hds⟩ : ∃ ds, ds = ts.flatMap intC := ⟨_, rfl⟩
  rw [← hds] at hat ⊢
  have HD := Lib.hid hds
  clear hds
  go_enter Try.func51, Try.ntmps51
  go_wp2_with fail
  go_loopw [1, 5] (fun l i wr => ∃ (k q : Nat), k ≤ n ∧ l = .int .i64 (k0 + q) ∧ i = .int .i64 k ∧ Hid (q = PD.cntL (ds.take (k))) ∧ Below w.heap.size w wr) (fun _ i _ => n - (intOf i).toNat)
  case atStart => exact ⟨0, 0, Nat.zero_le _, by simp, rfl, Lib.hid (by simp [PD.cntL]), Below.refl _ _⟩
  case round =>
    obtain ⟨k, q, hk, rfl, rfl, HQ, hbr⟩ := hrel
    have hqb : (k0 : Int) + q ≤ 1099511627776 := by have := H1.out; have h2 := cntL_take_le ds (k); rw [← HQ.out] at h2; rw [← HD.out] at this; omega
    by_cases hlt : k < n
    · obtain ⟨g, off, rfl, hg, hcell⟩ := hat (by omega)
      obtain ⟨t, hx, hmem⟩ := at_lt HN.out hlt
      have HM := Lib.hid hmem
      clear hmem
      have x0 : ds[k]? = some (.lit (.int .i64 t)) := by rw [HD.out]; have := flatMap_get intC_length hx (j := 0) (by decide); simp only [Nat.mul_one, Nat.add_zero] at this; rw [this]; rfl
      have X0 := Lib.hid x0
      clear x0
      have q0 : (q : Nat) = PD.cntL (ds.take (k)) := HQ.out
      have Q0 := Lib.hid q0
      have HC := Lib.hid hcell
      clear q0 hx hcell
      have c0 : wr.cell? ⟨g, off + k, none⟩ = some (.int .i64 (k0 + (q : Int))) := cell_lit (B := B) hbr (by omega) (by have := HC.out (k) _ (markL_get k0 X0.out); rw [← Q0.out, PD.mark, show off + (k) = off + k by omega, show k0 + ((q : Nat) : Int) = k0 + (q : Int) by omega] at this; exact this)
      have q1 : q + 1 = PD.cntL (ds.take (k + 1)) := by have := cntL_take_succ X0.out; rw [← Q0.out] at this; exact this.symm
      have Q1 := Lib.hid q1
      clear q1
      go_wp2_with fail
      go_roundw
      case rel => exact ⟨k + 1, q + 1, by omega, by go_num, by go_num, Lib.hid (by rw [Q1.out]), hbr⟩
      case measure => simp [intOf]; omega
    · have hkn : k = n := by omega
      subst hkn
      have hlen : ds.length = k := by rw [HD.out, flatMap_length intC_length, HN.out]; omega
      have hq : q = PD.cntL ds := by rw [HQ.out, ← hlen, List.take_length]
      have HQ2 := Lib.hid hq
      clear hq hlen
      go_wp2_with fail
      go_ret
      exact ⟨ret_int (by rw [HQ2.out]; rfl), hbr⟩
theorem heldInt64S_all (ts : List Int) : HdR 51 (.row 1 (ts.flatMap intC)) := heldInt64S_step

set_option maxHeartbeats 1600000 in
theorem heldStringS_step {ts : List ByteArray} : HdR 97 (.row 1 (ts.flatMap strC)) := by
  intro B v w k0 h0 h1 hB h
  rw [PD.mark] at h
  obtain ⟨A, n, c, rfl, hl, hm, hat⟩ := rep_cells h
  unfold maxLen at hm
  rw [markL_length, flatMap_length strC_length] at hl
  have hn : n = ts.length := by omega
  have HN := Lib.hid hn
  rw [PD.cnt] at h1
  have H1 := Lib.hid h1
  clear h h1 hl hn
  obtain ⟨ds, hds⟩ : ∃ ds, ds = ts.flatMap strC := ⟨_, rfl⟩
  rw [← hds] at hat ⊢
  have HD := Lib.hid hds
  clear hds
  go_enter Try.func97, Try.ntmps97
  go_wp2_with fail
  go_loopw [1, 5] (fun l i wr => ∃ (k q : Nat), k ≤ n ∧ l = .int .i64 (k0 + q) ∧ i = .int .i64 k ∧ Hid (q = PD.cntL (ds.take (k))) ∧ Below w.heap.size w wr) (fun _ i _ => n - (intOf i).toNat)
  case atStart => exact ⟨0, 0, Nat.zero_le _, by simp, rfl, Lib.hid (by simp [PD.cntL]), Below.refl _ _⟩
  case round =>
    obtain ⟨k, q, hk, rfl, rfl, HQ, hbr⟩ := hrel
    have hqb : (k0 : Int) + q ≤ 1099511627776 := by have := H1.out; have h2 := cntL_take_le ds (k); rw [← HQ.out] at h2; rw [← HD.out] at this; omega
    by_cases hlt : k < n
    · obtain ⟨g, off, rfl, hg, hcell⟩ := hat (by omega)
      obtain ⟨t, hx, hmem⟩ := at_lt HN.out hlt
      have HM := Lib.hid hmem
      clear hmem
      have x0 : ds[k]? = some (.lit (.string t)) := by rw [HD.out]; have := flatMap_get strC_length hx (j := 0) (by decide); simp only [Nat.mul_one, Nat.add_zero] at this; rw [this]; rfl
      have X0 := Lib.hid x0
      clear x0
      have q0 : (q : Nat) = PD.cntL (ds.take (k)) := HQ.out
      have Q0 := Lib.hid q0
      have HC := Lib.hid hcell
      clear q0 hx hcell
      have c0 : wr.cell? ⟨g, off + k, none⟩ = some (.string (markT (k0 + (q : Int)))) := cell_lit (B := B) hbr (by omega) (by have := HC.out (k) _ (markL_get k0 X0.out); rw [← Q0.out, PD.mark, show off + (k) = off + k by omega, show k0 + ((q : Nat) : Int) = k0 + (q : Int) by omega] at this; exact this)
      have q1 : q + 1 = PD.cntL (ds.take (k + 1)) := by have := cntL_take_succ X0.out; rw [← Q0.out] at this; exact this.symm
      have Q1 := Lib.hid q1
      clear q1
      have b0 : (k0 : Int) + ((q + 1 : Nat) : Int) ≤ 1099511627776 := by have := H1.out; have h2 := cntL_take_le ds (k + 1); rw [← Q1.out] at h2; rw [← HD.out] at this; omega
      push_cast at b0
      have hg0 : g < wr.heap.size := by have := hbr.size; omega
      go_wp2_with fail
      go_region_held3 (fun w' => w'.cell? ⟨g, off + k, none⟩ = some (.string (markT (k0 + (q : Int)))))
        (first | go_keep | exact (hbq.cell (p := ⟨g, off + k, none⟩) hg0).trans c0)
        (first | (go_at_call 96; refine (markText_any _ _ (by omega) (by omega)).mono ?_; rintro e wq ⟨rfl, hbq⟩))
      have hb0 : Below w.heap.size w wq := hbr.drew.trans (hbq.mono hbr.size)
      obtain ⟨w0, hw0⟩ : ∃ W, W = wq := ⟨_, rfl⟩
      subst hw0
      clear hbq c0 hbr
      go_wp2_with fail
      go_roundw
      case rel => exact ⟨k + 1, q + 1, by omega, by go_num, by go_num, Lib.hid (by rw [Q1.out]), hb0⟩
      case measure => simp [intOf]; omega
    · have hkn : k = n := by omega
      subst hkn
      have hlen : ds.length = k := by rw [HD.out, flatMap_length strC_length, HN.out]; omega
      have hq : q = PD.cntL ds := by rw [HQ.out, ← hlen, List.take_length]
      have HQ2 := Lib.hid hq
      clear hq hlen
      go_wp2_with fail
      go_ret
      exact ⟨ret_int (by rw [HQ2.out]; rfl), hbr⟩
theorem heldStringS_all (ts : List ByteArray) : HdR 97 (.row 1 (ts.flatMap strC)) := heldStringS_step




def HdAllTypeS : Ty → Prop
  | ⟨kind, name, labels, kids⟩ => HdR 97 (.row 1 (labels.flatMap strC)) ∧ HdR 40 (.row 4 (kids.flatMap Ty.pd))
set_option maxHeartbeats 1600000 in
theorem heldTypeS_step {ts : List Ty} (ih : ∀ t ∈ ts, HdAllTypeS t) : HdR 40 (.row 4 (ts.flatMap Ty.pd)) := by
  intro B v w k0 h0 h1 hB h
  rw [PD.mark] at h
  obtain ⟨A, n, c, rfl, hl, hm, hat⟩ := rep_cells h
  unfold maxLen at hm
  rw [markL_length, flatMap_length Ty.pd_length] at hl
  have hn : n = ts.length := by omega
  have HN := Lib.hid hn
  rw [PD.cnt] at h1
  have H1 := Lib.hid h1
  have HI := Lib.hid ih
  clear ih
  clear h h1 hl hn
  obtain ⟨ds, hds⟩ : ∃ ds, ds = ts.flatMap Ty.pd := ⟨_, rfl⟩
  rw [← hds] at hat ⊢
  have HD := Lib.hid hds
  clear hds
  go_enter Try.func40, Try.ntmps40
  go_wp2_with fail
  go_loopw [1, 5] (fun l i wr => ∃ (k q : Nat), k ≤ n ∧ l = .int .i64 (k0 + q) ∧ i = .int .i64 k ∧ Hid (q = PD.cntL (ds.take (k * 4))) ∧ Below w.heap.size w wr) (fun _ i _ => n - (intOf i).toNat)
  case atStart => exact ⟨0, 0, Nat.zero_le _, by simp, rfl, Lib.hid (by simp [PD.cntL]), Below.refl _ _⟩
  case round =>
    obtain ⟨k, q, hk, rfl, rfl, HQ, hbr⟩ := hrel
    have hqb : (k0 : Int) + q ≤ 1099511627776 := by have := H1.out; have h2 := cntL_take_le ds (k * 4); rw [← HQ.out] at h2; rw [← HD.out] at this; omega
    by_cases hlt : k < n
    · obtain ⟨g, off, rfl, hg, hcell⟩ := hat (by omega)
      obtain ⟨t, hx, hmem⟩ := at_lt HN.out hlt
      have HM := Lib.hid hmem
      clear hmem
      obtain ⟨kind, name, labels, kids⟩ := t
      have x0 : ds[k * 4 + 0]? = some (.lit (.int .i64 kind)) := by rw [HD.out]; have := flatMap_get Ty.pd_length hx (j := 0) (by decide); rw [this]; rw [Ty.pd_mk]; rfl
      have X0 := Lib.hid x0
      clear x0
      have x1 : ds[k * 4 + 1]? = some (.lit (.string name)) := by rw [HD.out]; have := flatMap_get Ty.pd_length hx (j := 1) (by decide); rw [this]; rw [Ty.pd_mk]; rfl
      have X1 := Lib.hid x1
      clear x1
      have x2 : ds[k * 4 + 2]? = some (.row 1 (labels.flatMap strC)) := by rw [HD.out]; have := flatMap_get Ty.pd_length hx (j := 2) (by decide); rw [this]; rw [Ty.pd_mk]; rfl
      have X2 := Lib.hid x2
      clear x2
      have x3 : ds[k * 4 + 3]? = some (.row 4 (kids.flatMap Ty.pd)) := by rw [HD.out]; have := flatMap_get Ty.pd_length hx (j := 3) (by decide); rw [this]; rw [Ty.pd_mk]; rfl
      have X3 := Lib.hid x3
      clear x3
      have q0 : (q : Nat) = PD.cntL (ds.take (k * 4 + 0)) := HQ.out
      have Q0 := Lib.hid q0
      have HC := Lib.hid hcell
      clear q0 hx hcell
      have c0 : wr.cell? ⟨g, off + k * 4, none⟩ = some (.int .i64 (k0 + (q : Int))) := cell_lit (B := B) hbr (by omega) (by have := HC.out (k * 4 + 0) _ (markL_get k0 X0.out); rw [← Q0.out, PD.mark, show off + (k * 4 + 0) = off + k * 4 by omega, show k0 + ((q : Nat) : Int) = k0 + (q : Int) by omega] at this; exact this)
      have q1 : q + 1 = PD.cntL (ds.take (k * 4 + 1)) := by have := cntL_take_succ X0.out; rw [← Q0.out] at this; exact this.symm
      have Q1 := Lib.hid q1
      clear q1
      have c1 : wr.cell? ⟨g, off + k * 4 + 1, none⟩ = some (.string (markT (k0 + (q : Int) + 1))) := cell_lit (B := B) hbr (by omega) (by have := HC.out (k * 4 + 1) _ (markL_get k0 X1.out); rw [← Q1.out, PD.mark, show off + (k * 4 + 1) = off + k * 4 + 1 by omega, show k0 + ((q + 1 : Nat) : Int) = k0 + (q : Int) + 1 by omega] at this; exact this)
      have q2 : q + 1 + 1 = PD.cntL (ds.take (k * 4 + 2)) := by have := cntL_take_succ X1.out; rw [← Q1.out] at this; exact this.symm
      have Q2 := Lib.hid q2
      clear q2
      have b1 : (k0 : Int) + ((q + 1 + 1 : Nat) : Int) ≤ 1099511627776 := by have := H1.out; have h2 := cntL_take_le ds (k * 4 + 2); rw [← Q2.out] at h2; rw [← HD.out] at this; omega
      push_cast at b1
      have hg1 : g < wr.heap.size := by have := hbr.size; omega
      go_wp2_with fail
      go_region_held3 (fun w' => w'.cell? ⟨g, off + k * 4 + 1, none⟩ = some (.string (markT (k0 + (q : Int) + 1))))
        (first | go_keep | exact (hbq.cell (p := ⟨g, off + k * 4 + 1, none⟩) hg1).trans c1)
        (first | (go_at_call 96; refine (markText_any _ _ (by omega) (by omega)).mono ?_; rintro e wq ⟨rfl, hbq⟩))
      have hb1 : Below w.heap.size w wq := hbr.drew.trans (hbq.mono hbr.size)
      obtain ⟨w1, hw1⟩ : ∃ W, W = wq := ⟨_, rfl⟩
      subst hw1
      clear hbq c0 c1 hbr
      obtain ⟨labelsV, c2, r2⟩ : ∃ u, w1.cell? ⟨g, off + k * 4 + 2, none⟩ = some u ∧ Rep w1 B ((PD.row 1 (labels.flatMap strC)).mark (k0 + (q : Int) + 1 + 1)) u := cell_rep hb1 (by omega) hB (by have := HC.out (k * 4 + 2) _ (markL_get k0 X2.out); rw [← Q2.out, show off + (k * 4 + 2) = off + k * 4 + 2 by omega, show k0 + ((q + 1 + 1 : Nat) : Int) = k0 + (q : Int) + 1 + 1 by omega] at this; exact this)
      have R2 := Lib.hid r2
      clear r2
      have z2 := cntL_take_succ X2.out
      rw [← Q2.out] at z2
      have b2 : (k0 : Int) + PD.cntL (ds.take (k * 4 + 3)) ≤ 1099511627776 := by have := H1.out; have h2 := cntL_take_le ds (k * 4 + 3); rw [← HD.out] at this; omega
      obtain ⟨y2, hy2⟩ : ∃ y : Nat, y = (PD.row 1 (labels.flatMap strC)).cnt := ⟨_, rfl⟩
      rw [z2, ← hy2] at b2
      have q3 : q + 1 + 1 + y2 = PD.cntL (ds.take (k * 4 + 3)) := by rw [z2, hy2]
      have Q3 := Lib.hid q3
      have HY2 := Lib.hid hy2
      clear z2 hy2 q3
      go_wp2_with fail
      refine (heldStringS_all _ B labelsV _ (k0 + (q : Int) + 1 + 1) (by omega) (by rw [← HY2.out]; push_cast at b2 ⊢; omega) (Nat.le_trans hB hb1.size) R2.out).mono ?_
      rintro e w2 ⟨rfl, hbq2⟩
      rw [← HY2.out]
      have hb2 := hb1.trans (hbq2.mono hb1.size)
      clear hbq2 hb1 c2 
      have p2 : 0 ≤ k0 + (q : Int) + 1 + 1 + (y2 : Int) := by omega
      obtain ⟨kidsV, c3, r3⟩ : ∃ u, w2.cell? ⟨g, off + k * 4 + 3, none⟩ = some u ∧ Rep w2 B ((PD.row 4 (kids.flatMap Ty.pd)).mark (k0 + (q : Int) + 1 + 1 + (y2 : Int))) u := cell_rep hb2 (by omega) hB (by have := HC.out (k * 4 + 3) _ (markL_get k0 X3.out); rw [← Q3.out, show off + (k * 4 + 3) = off + k * 4 + 3 by omega, show k0 + ((q + 1 + 1 + y2 : Nat) : Int) = k0 + (q : Int) + 1 + 1 + (y2 : Int) by omega] at this; exact this)
      have R3 := Lib.hid r3
      clear r3
      have z3 := cntL_take_succ X3.out
      rw [← Q3.out] at z3
      have b3 : (k0 : Int) + PD.cntL (ds.take (k * 4 + 4)) ≤ 1099511627776 := by have := H1.out; have h2 := cntL_take_le ds (k * 4 + 4); rw [← HD.out] at this; omega
      obtain ⟨y3, hy3⟩ : ∃ y : Nat, y = (PD.row 4 (kids.flatMap Ty.pd)).cnt := ⟨_, rfl⟩
      rw [z3, ← hy3] at b3
      have q4 : q + 1 + 1 + y2 + y3 = PD.cntL (ds.take (k * 4 + 4)) := by rw [z3, hy3]
      have Q4 := Lib.hid q4
      have HY3 := Lib.hid hy3
      clear z3 hy3 q4
      go_wp2_with fail
      refine ((HI.out _ HM.out).2 B kidsV _ (k0 + (q : Int) + 1 + 1 + (y2 : Int)) (by omega) (by rw [← HY3.out]; push_cast at b3 ⊢; omega) (Nat.le_trans hB hb2.size) R3.out).mono ?_
      rintro e w3 ⟨rfl, hbq3⟩
      rw [← HY3.out]
      have hb3 := hb2.trans (hbq3.mono hb2.size)
      clear hbq3 hb2 c3 
      have p3 : 0 ≤ k0 + (q : Int) + 1 + 1 + (y2 : Int) + (y3 : Int) := by omega
      go_wp2_with fail
      go_roundw
      case rel => exact ⟨k + 1, q + 1 + 1 + y2 + y3, by omega, by go_num, by go_num, Lib.hid (by rw [Q4.out]; congr 2; omega), hb3⟩
      case measure => simp [intOf]; omega
    · have hkn : k = n := by omega
      subst hkn
      have hlen : ds.length = k * 4 := by rw [HD.out, flatMap_length Ty.pd_length, HN.out]
      have hq : q = PD.cntL ds := by rw [HQ.out, ← hlen, List.take_length]
      have HQ2 := Lib.hid hq
      clear hq hlen
      go_wp2_with fail
      go_ret
      exact ⟨ret_int (by rw [HQ2.out]; rfl), hbr⟩
mutual
theorem heldType_rows : ∀ t : Ty, HdAllTypeS t
  | .mk kind name labels kids => ⟨heldStringS_all labels, heldTypeS_step (heldType_mem kids)⟩
theorem heldType_mem : ∀ ts : List Ty, ∀ t ∈ ts, HdAllTypeS t
  | [], x, hx => absurd hx (by simp)
  | t :: r, x, hx => (List.mem_cons.1 hx).elim (fun e => e ▸ heldType_rows t) (fun h => heldType_mem r x h)
end
theorem heldTypeS_all (ts : List Ty) : HdR 40 (.row 4 (ts.flatMap Ty.pd)) := heldTypeS_step (heldType_mem ts)





















end Go.Proofs.Ytmmeaakhikcigaa
