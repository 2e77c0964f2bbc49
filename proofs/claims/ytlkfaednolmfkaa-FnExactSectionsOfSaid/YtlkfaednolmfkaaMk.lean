/-
  The laws' own helpers 'mk..' over the program's types (by program: tygen2.py, tyfam.py).
-/
import Derived.Test.YtlkfaednolmfkaaFam
import Derived.Test.YtlkfaednolmfkaaTy
import Derived.Test.YtlkfaednolmfkaaMark
import Derived.Deep.Cut
namespace Go.Proofs.Ytlkfaednolmfkaa
open Go.RowKit
set_option linter.unusedVariables false
set_option linter.unusedSimpArgs false
set_option linter.unnecessarySimpa false
set_option maxRecDepth 100000



























set_option maxHeartbeats 1600000 in
theorem markSectionS_step {ts : List Section} : MkR 27 (.row 3 (ts.flatMap Section.pd)) := by
  intro v F w k0 h0 h1 h nd lt
  have hh := h
  rw [Hold] at hh
  obtain ⟨A, n, c, rfl, hl, hc, hm, ⟨hn0, rfl⟩ | ⟨hn0, g, off, F', cs, rfl, rfl, ho, hr⟩⟩ := hh
  · subst hn0
    have hts : ts.flatMap Section.pd = [] := List.eq_nil_of_length_eq_zero (by rw [hl]; try simp)
    have HT := Lib.hid hts
    have HH := Lib.hid h
    clear hl h hts h1
    go_enter Try.func27, Try.ntmps27
    go_wp2_with fail
    go_loopw [1, 5] (fun l i wr => l = .int .i64 k0 ∧ i = .int .i64 0 ∧ wr = w) (fun _ _ _ => 0)
    case atStart => exact ⟨rfl, rfl, rfl⟩
    obtain ⟨rfl, rfl, rfl⟩ := hrel
    go_wp2_with fail
    go_ret
    refine ⟨ret_int (by rw [HT.out]; simp [PD.cnt, PD.cntL]), ?_, KeepF.refl _ _⟩
    have := HH.out
    rw [HT.out] at this ⊢
    simpa [PD.mark, PD.markL] using this
  · unfold maxLen at hm
    rw [flatMap_length Section.pd_length] at hl
    have hn : n = ts.length := by omega
    have HN := Lib.hid hn
    have HL := Lib.hid hl
    have hst := MkSt.start (k0 := k0) ho hr nd lt
    rw [PD.cnt] at h1
    have H1 := Lib.hid h1
    clear h ho hr h1 hl hn nd lt
    obtain ⟨ds, hds⟩ : ∃ ds, ds = ts.flatMap Section.pd := ⟨_, rfl⟩
    rw [← hds] at hst ⊢
    have HD := Lib.hid hds
    clear hds
    go_enter Try.func27, Try.ntmps27
    go_wp2_with fail
    go_loopw [1, 5] (fun l i wr => ∃ (k q : Nat), k ≤ n ∧ l = .int .i64 (k0 + q) ∧ i = .int .i64 k ∧ Hid (q = PD.cntL (ds.take (k * 3))) ∧ MkSt w wr g off F' ds (k * 3) k0) (fun _ i _ => n - (intOf i).toNat)
    case atStart => exact ⟨0, 0, Nat.zero_le _, by simp, rfl, Lib.hid (by simp [PD.cntL]), by simpa using hst⟩
    case round =>
      obtain ⟨k, q, hk, rfl, rfl, HQ, st0⟩ := hrel
      clear hst
      have hqb : (k0 : Int) + q ≤ 1099511627776 := by have := H1.out; have h2 := cntL_take_le ds (k * 3); rw [← HQ.out] at h2; rw [← HD.out] at this; omega
      by_cases hlt : k < n
      · obtain ⟨t, hx, hmem⟩ := at_lt HN.out hlt
        have HM := Lib.hid hmem
        clear hmem
        obtain ⟨id, name, bytes⟩ := t
        have x0 : ds[k * 3 + 0]? = some (.lit (.int .i64 id)) := by rw [HD.out]; have := flatMap_get Section.pd_length hx (j := 0) (by decide); rw [this]; rw [Section.pd_mk]; rfl
        have X0 := Lib.hid x0
        clear x0
        have x1 : ds[k * 3 + 1]? = some (.lit (.string name)) := by rw [HD.out]; have := flatMap_get Section.pd_length hx (j := 1) (by decide); rw [this]; rw [Section.pd_mk]; rfl
        have X1 := Lib.hid x1
        clear x1
        have x2 : ds[k * 3 + 2]? = some (.lit (.string bytes)) := by rw [HD.out]; have := flatMap_get Section.pd_length hx (j := 2) (by decide); rw [this]; rw [Section.pd_mk]; rfl
        have X2 := Lib.hid x2
        clear x2
        replace st0 := st0.at_ (show k * 3 = k * 3 + 0 from rfl)
        have q0 : (q : Nat) = PD.cntL (ds.take (k * 3 + 0)) := HQ.out
        have Q0 := Lib.hid q0
        clear q0 hx
        have q1 : q + 1 = PD.cntL (ds.take (k * 3 + 1)) := by have := cntL_take_succ X0.out; rw [← Q0.out] at this; exact this.symm
        have Q1 := Lib.hid q1
        clear q1
        obtain ⟨c0, f0, s0⟩ := st0.lit' (p := off + k * 3) (i' := k * 3 + 1) (K := k0 + (q : Int)) X0.out (by omega) (by omega) (by rw [← Q0.out]; try omega)
        have S0 := Lib.hid s0
        clear s0
        have st1 : MkSt w (wr.setCell ⟨g, off + k * 3, none⟩ (.int .i64 (k0 + (q : Int)))) g off F' ds (k * 3 + 1) k0 := S0.out
        go_upto_region 6 with fail
        clear c0 f0
        obtain ⟨u0, hu0⟩ : ∃ W, W = wr.setCell ⟨g, off + k * 3, none⟩ (.int .i64 (k0 + (q : Int))) := ⟨_, rfl⟩
        rw [← hu0] at st1
        rw [← hu0]
        clear hu0
        clear st0 S0
        have q2 : q + 1 + 1 = PD.cntL (ds.take (k * 3 + 2)) := by have := cntL_take_succ X1.out; rw [← Q1.out] at this; exact this.symm
        have Q2 := Lib.hid q2
        clear q2
        have b1 : (k0 : Int) + ((q + 1 + 1 : Nat) : Int) ≤ 1099511627776 := by have := H1.out; have h2 := cntL_take_le ds (k * 3 + 2); rw [← Q2.out] at h2; rw [← HD.out] at this; omega
        push_cast at b1
        go_wp2_with fail
        refine (markText_any _ _ (by omega) (by omega)).mono ?_
        rintro e v1 ⟨rfl, hbv1⟩
        replace st1 := st1.below hbv1
        clear hbv1
        obtain ⟨c1, f1, s1⟩ := st1.lit' (p := off + k * 3 + 1) (i' := k * 3 + 2) (K := k0 + (q : Int) + 1) X1.out (by omega) (by omega) (by rw [← Q1.out]; try omega)
        have S1 := Lib.hid s1
        clear s1
        have st2 : MkSt w (v1.setCell ⟨g, off + k * 3 + 1, none⟩ (.string (markT (k0 + (q : Int) + 1)))) g off F' ds (k * 3 + 2) k0 := S1.out
        go_upto_region 8 with fail
        clear c1 f1
        obtain ⟨u1, hu1⟩ : ∃ W, W = v1.setCell ⟨g, off + k * 3 + 1, none⟩ (.string (markT (k0 + (q : Int) + 1))) := ⟨_, rfl⟩
        rw [← hu1] at st2
        rw [← hu1]
        clear hu1
        clear st1 S1
        have q3 : q + 1 + 1 + 1 = PD.cntL (ds.take (k * 3 + 3)) := by have := cntL_take_succ X2.out; rw [← Q2.out] at this; exact this.symm
        have Q3 := Lib.hid q3
        clear q3
        have b2 : (k0 : Int) + ((q + 1 + 1 + 1 : Nat) : Int) ≤ 1099511627776 := by have := H1.out; have h2 := cntL_take_le ds (k * 3 + 3); rw [← Q3.out] at h2; rw [← HD.out] at this; omega
        push_cast at b2
        go_wp2_with fail
        refine (markText_any _ _ (by omega) (by omega)).mono ?_
        rintro e v2 ⟨rfl, hbv2⟩
        replace st2 := st2.below hbv2
        clear hbv2
        obtain ⟨c2, f2, s2⟩ := st2.lit' (p := off + k * 3 + 2) (i' := k * 3 + 3) (K := k0 + (q : Int) + 1 + 1) X2.out (by omega) (by omega) (by rw [← Q2.out]; try omega)
        have S2 := Lib.hid s2
        clear s2
        have st3 : MkSt w (v2.setCell ⟨g, off + k * 3 + 2, none⟩ (.string (markT (k0 + (q : Int) + 1 + 1)))) g off F' ds (k * 3 + 3) k0 := S2.out
        clear st2
        have SE := Lib.hid st3
        clear st3
        go_wp2_with fail
        go_roundw
        case rel => exact ⟨k + 1, q + 1 + 1 + 1, by omega, by go_num, by go_num, Lib.hid (by rw [Q3.out]; congr 2; omega), SE.out.at_ (by omega)⟩
        case measure => simp [intOf]; omega
      · have hkn : k = n := by omega
        subst hkn
        have hlen : ds.length = k * 3 := by rw [HD.out, flatMap_length Section.pd_length, HN.out]
        have hq : q = PD.cntL ds := by rw [HQ.out, ← hlen, List.take_length]
        have HQ2 := Lib.hid hq
        have HLN := Lib.hid hlen
        clear hq hlen
        go_wp2_with fail
        go_ret
        refine ⟨ret_int (by rw [HQ2.out]; rfl), ?_, st0.keep⟩
        rw [PD.mark]
        exact (st0.at_ HLN.out.symm).done rfl (by rw [HLN.out]) hn0 hc (by unfold maxLen; exact hm)
theorem markSectionS_all (ts : List Section) : MkR 27 (.row 3 (ts.flatMap Section.pd)) := markSectionS_step

end Go.Proofs.Ytlkfaednolmfkaa
