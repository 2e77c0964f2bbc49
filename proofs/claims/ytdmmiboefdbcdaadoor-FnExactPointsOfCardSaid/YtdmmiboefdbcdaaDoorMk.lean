/-
  The laws' own helpers 'mk..' over the program's types (by program: tygen2.py, tyfam.py).
-/
import Derived.Test.YtdmmiboefdbcdaaDoorFam
import Derived.Test.YtdmmiboefdbcdaaDoorTy
import Derived.Test.YtdmmiboefdbcdaaDoorMark
import Derived.Deep.Cut
namespace Go.Proofs.YtdmmiboefdbcdaaDoor
open Go.RowKit
set_option linter.unusedVariables false
set_option linter.unusedSimpArgs false
set_option linter.unnecessarySimpa false
set_option maxRecDepth 100000

set_option maxHeartbeats 1600000 in
theorem markInt64S_step {ts : List Int} : MkR 11 (.row 1 (ts.flatMap intC)) := by
  intro v F w k0 h0 h1 h nd lt
  have hh := h
  rw [Hold] at hh
  obtain ⟨A, n, c, rfl, hl, hc, hm, ⟨hn0, rfl⟩ | ⟨hn0, g, off, F', cs, rfl, rfl, ho, hr⟩⟩ := hh
  · subst hn0
    have hts : ts.flatMap intC = [] := List.eq_nil_of_length_eq_zero (by rw [hl]; try simp)
    have HT := Lib.hid hts
    have HH := Lib.hid h
    clear hl h hts h1
    go_enter Tryd.func11, Tryd.ntmps11
    go_wp2_with fail
    go_loopw [1, 5] (fun l i wr => l = .int .i64 k0 ∧ i = .int .i64 0 ∧ wr = w) (fun _ _ _ => 0)
    case atStart => exact ⟨rfl, rfl, rfl⟩
    obtain ⟨rfl, rfl, rfl⟩ := hrel
    go_wp2_with fail
    go_ret
    refine ⟨ret_int (by rw [HT.out]; simp [PD.cnt, PD.cntL]), ?_, KeepF.refl _ _⟩
    have := HH.out
    rw [HT.out] at this ⊢
    simpa [PD.mark, PD.markL] using this
  · unfold maxLen at hm
    rw [flatMap_length intC_length] at hl
    have hn : n = ts.length := by omega
    have HN := Lib.hid hn
    have HL := Lib.hid hl
    have hst := MkSt.start (k0 := k0) ho hr nd lt
    rw [PD.cnt] at h1
    have H1 := Lib.hid h1
    clear h ho hr h1 hl hn nd lt
    obtain ⟨ds, hds⟩ : ∃ ds, ds = ts.flatMap intC := ⟨_, rfl⟩
    rw [← hds] at hst ⊢
    have HD := Lib.hid hds
    clear hds
    go_enter Tryd.func11, Tryd.ntmps11
    go_wp2_with fail
    go_loopw [1, 5] (fun l i wr => ∃ (k q : Nat), k ≤ n ∧ l = .int .i64 (k0 + q) ∧ i = .int .i64 k ∧ Hid (q = PD.cntL (ds.take (k))) ∧ MkSt w wr g off F' ds (k) k0) (fun _ i _ => n - (intOf i).toNat)
    case atStart => exact ⟨0, 0, Nat.zero_le _, by simp, rfl, Lib.hid (by simp [PD.cntL]), by simpa using hst⟩
    case round =>
      obtain ⟨k, q, hk, rfl, rfl, HQ, st0⟩ := hrel
      clear hst
      have hqb : (k0 : Int) + q ≤ 1099511627776 := by have := H1.out; have h2 := cntL_take_le ds (k); rw [← HQ.out] at h2; rw [← HD.out] at this; omega
      by_cases hlt : k < n
      · obtain ⟨t, hx, hmem⟩ := at_lt HN.out hlt
        have HM := Lib.hid hmem
        clear hmem
        have x0 : ds[k]? = some (.lit (.int .i64 t)) := by rw [HD.out]; have := flatMap_get intC_length hx (j := 0) (by decide); simp only [Nat.mul_one, Nat.add_zero] at this; rw [this]; rfl
        have X0 := Lib.hid x0
        clear x0
        have q0 : (q : Nat) = PD.cntL (ds.take k) := HQ.out
        have Q0 := Lib.hid q0
        clear q0 hx
        have q1 : q + 1 = PD.cntL (ds.take (k + 1)) := by have := cntL_take_succ X0.out; rw [← Q0.out] at this; exact this.symm
        have Q1 := Lib.hid q1
        clear q1
        obtain ⟨c0, f0, s0⟩ := st0.lit' (p := off + k) (i' := k + 1) (K := k0 + (q : Int)) X0.out (by omega) (by omega) (by rw [← Q0.out]; try omega)
        have S0 := Lib.hid s0
        clear s0
        have st1 : MkSt w (wr.setCell ⟨g, off + k, none⟩ (.int .i64 (k0 + (q : Int)))) g off F' ds (k + 1) k0 := S0.out
        clear st0
        have SE := Lib.hid st1
        clear st1
        go_wp2_with fail
        go_roundw
        case rel => exact ⟨k + 1, q + 1, by omega, by go_num, by go_num, Lib.hid (by rw [Q1.out]), SE.out.at_ (by omega)⟩
        case measure => simp [intOf]; omega
      · have hkn : k = n := by omega
        subst hkn
        have hlen : ds.length = k := by rw [HD.out, flatMap_length intC_length, HN.out]; omega
        have hq : q = PD.cntL ds := by rw [HQ.out, ← hlen, List.take_length]
        have HQ2 := Lib.hid hq
        have HLN := Lib.hid hlen
        clear hq hlen
        go_wp2_with fail
        go_ret
        refine ⟨ret_int (by rw [HQ2.out]; rfl), ?_, st0.keep⟩
        rw [PD.mark]
        exact (st0.at_ HLN.out.symm).done rfl (by rw [HLN.out]; omega) hn0 hc (by unfold maxLen; exact hm)
theorem markInt64S_all (ts : List Int) : MkR 11 (.row 1 (ts.flatMap intC)) := markInt64S_step



























end Go.Proofs.YtdmmiboefdbcdaaDoor
