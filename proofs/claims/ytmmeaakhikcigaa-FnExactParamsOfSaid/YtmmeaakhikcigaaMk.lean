/-
  The laws' own helpers 'mk..' over the program's types (by program: tygen2.py, tyfam.py).
-/
import Derived.Test.YtmmeaakhikcigaaFam
import Derived.Test.YtmmeaakhikcigaaTy
import Derived.Test.YtmmeaakhikcigaaMark
import Derived.Deep.Cut
namespace Go.Proofs.Ytmmeaakhikcigaa
open Go.RowKit
set_option linter.unusedVariables false
set_option linter.unusedSimpArgs false
set_option linter.unnecessarySimpa false
set_option maxRecDepth 100000

set_option maxHeartbeats 1600000 in
theorem markInt64S_step {ts : List Int} : MkR 50 (.row 1 (ts.flatMap intC)) := by
  intro v F w k0 h0 h1 h nd lt
  have hh := h
  rw [Hold] at hh
  obtain ⟨A, n, c, rfl, hl, hc, hm, ⟨hn0, rfl⟩ | ⟨hn0, g, off, F', cs, rfl, rfl, ho, hr⟩⟩ := hh
  · subst hn0
    have hts : ts.flatMap intC = [] := List.eq_nil_of_length_eq_zero (by rw [hl]; try simp)
    have HT := Lib.hid hts
    have HH := Lib.hid h
    clear hl h hts h1
    go_enter Try.func50, Try.ntmps50
    go_wp2_with fail
    go_loopw [1, 5] (fun l i wr => l = .int .i64 k0 ∧ i = .int .i64 0 ∧ wr = w) (fun _ _ _ => 0)
    case atStart => exact ⟨rfl, rfl, rfl⟩
    obtain ⟨rfl, rfl, rfl⟩ := hrel
    go_wp2_with fail
    go_ret
    refine ⟨ret_int (by rw [HT.out]; simp [PD.cnt, PD.cntL]), ?_, KeepF.refl _ _⟩
    have := HH.out
    rw [HT.out] at this ⊢
    simpa [PD.mark, PD.markL] using this
  · unfold maxLen at hm
    rw [flatMap_length intC_length] at hl
    have hn : n = ts.length := by omega
    have HN := Lib.hid hn
    have HL := Lib.hid hl
    have hst := MkSt.start (k0 := k0) ho hr nd lt
    rw [PD.cnt] at h1
    have H1 := Lib.hid h1
    clear h ho hr h1 hl hn nd lt
    obtain ⟨ds, hds⟩ : ∃ ds, ds = ts.flatMap intC := ⟨_, rfl⟩
    rw [← hds] at hst ⊢
    have HD := Lib.hid hds
    clear hds
    go_enter Try.func50, Try.ntmps50
    go_wp2_with fail
    go_loopw [1, 5] (fun l i wr => ∃ (k q : Nat), k ≤ n ∧ l = .int .i64 (k0 + q) ∧ i = .int .i64 k ∧ Hid (q = PD.cntL (ds.take (k))) ∧ MkSt w wr g off F' ds (k) k0) (fun _ i _ => n - (intOf i).toNat)
    case atStart => exact ⟨0, 0, Nat.zero_le _, by simp, rfl, Lib.hid (by simp [PD.cntL]), by simpa using hst⟩
    case round =>
      obtain ⟨k, q, hk, rfl, rfl, HQ, st0⟩ := hrel
      clear hst
      have hqb : (k0 : Int) + q ≤ 1099511627776 := by have := H1.out; have h2 := cntL_take_le ds (k); rw [← HQ.out] at h2; rw [← HD.out] at this; omega
      by_cases hlt : k < n
      · obtain ⟨t, hx, hmem⟩ := at_lt HN.out hlt
        have HM := Lib.hid hmem
        clear hmem
        have x0 : ds[k]? = some (.lit (.int .i64 t)) := by rw [HD.out]; have := flatMap_get intC_length hx (j := 0) (by decide); simp only [Nat.mul_one, Nat.add_zero] at this; rw [this]; rfl
        have X0 := Lib.hid x0
        clear x0
        have q0 : (q : Nat) = PD.cntL (ds.take k) := HQ.out
        have Q0 := Lib.hid q0
        clear q0 hx
        have q1 : q + 1 = PD.cntL (ds.take (k + 1)) := by have := cntL_take_succ X0.out; rw [← Q0.out] at this; exact this.symm
        have Q1 := Lib.hid q1
        clear q1
        obtain ⟨c0, f0, s0⟩ := st0.lit' (p := off + k) (i' := k + 1) (K := k0 + (q : Int)) X0.out (by omega) (by omega) (by rw [← Q0.out]; try omega)
        have S0 := Lib.hid s0
        clear s0
        have st1 : MkSt w (wr.setCell ⟨g, off + k, none⟩ (.int .i64 (k0 + (q : Int)))) g off F' ds (k + 1) k0 := S0.out
        clear st0
        have SE := Lib.hid st1
        clear st1
        go_wp2_with fail
        go_roundw
        case rel => exact ⟨k + 1, q + 1, by omega, by go_num, by go_num, Lib.hid (by rw [Q1.out]), SE.out.at_ (by omega)⟩
        case measure => simp [intOf]; omega
      · have hkn : k = n := by omega
        subst hkn
        have hlen : ds.length = k := by rw [HD.out, flatMap_length intC_length, HN.out]; omega
        have hq : q = PD.cntL ds := by rw [HQ.out, ← hlen, List.take_length]
        have HQ2 := Lib.hid hq
        have HLN := Lib.hid hlen
        clear hq hlen
        go_wp2_with fail
        go_ret
        refine ⟨ret_int (by rw [HQ2.out]; rfl), ?_, st0.keep⟩
        rw [PD.mark]
        exact (st0.at_ HLN.out.symm).done rfl (by rw [HLN.out]; omega) hn0 hc (by unfold maxLen; exact hm)
theorem markInt64S_all (ts : List Int) : MkR 50 (.row 1 (ts.flatMap intC)) := markInt64S_step

set_option maxHeartbeats 1600000 in
theorem markStringS_step {ts : List ByteArray} : MkR 95 (.row 1 (ts.flatMap strC)) := by
  intro v F w k0 h0 h1 h nd lt
  have hh := h
  rw [Hold] at hh
  obtain ⟨A, n, c, rfl, hl, hc, hm, ⟨hn0, rfl⟩ | ⟨hn0, g, off, F', cs, rfl, rfl, ho, hr⟩⟩ := hh
  · subst hn0
    have hts : ts.flatMap strC = [] := List.eq_nil_of_length_eq_zero (by rw [hl]; try simp)
    have HT := Lib.hid hts
    have HH := Lib.hid h
    clear hl h hts h1
    go_enter Try.func95, Try.ntmps95
    go_wp2_with fail
    go_loopw [1, 5] (fun l i wr => l = .int .i64 k0 ∧ i = .int .i64 0 ∧ wr = w) (fun _ _ _ => 0)
    case atStart => exact ⟨rfl, rfl, rfl⟩
    obtain ⟨rfl, rfl, rfl⟩ := hrel
    go_wp2_with fail
    go_ret
    refine ⟨ret_int (by rw [HT.out]; simp [PD.cnt, PD.cntL]), ?_, KeepF.refl _ _⟩
    have := HH.out
    rw [HT.out] at this ⊢
    simpa [PD.mark, PD.markL] using this
  · unfold maxLen at hm
    rw [flatMap_length strC_length] at hl
    have hn : n = ts.length := by omega
    have HN := Lib.hid hn
    have HL := Lib.hid hl
    have hst := MkSt.start (k0 := k0) ho hr nd lt
    rw [PD.cnt] at h1
    have H1 := Lib.hid h1
    clear h ho hr h1 hl hn nd lt
    obtain ⟨ds, hds⟩ : ∃ ds, ds = ts.flatMap strC := ⟨_, rfl⟩
    rw [← hds] at hst ⊢
    have HD := Lib.hid hds
    clear hds
    go_enter Try.func95, Try.ntmps95
    go_wp2_with fail
    go_loopw [1, 5] (fun l i wr => ∃ (k q : Nat), k ≤ n ∧ l = .int .i64 (k0 + q) ∧ i = .int .i64 k ∧ Hid (q = PD.cntL (ds.take (k))) ∧ MkSt w wr g off F' ds (k) k0) (fun _ i _ => n - (intOf i).toNat)
    case atStart => exact ⟨0, 0, Nat.zero_le _, by simp, rfl, Lib.hid (by simp [PD.cntL]), by simpa using hst⟩
    case round =>
      obtain ⟨k, q, hk, rfl, rfl, HQ, st0⟩ := hrel
      clear hst
      have hqb : (k0 : Int) + q ≤ 1099511627776 := by have := H1.out; have h2 := cntL_take_le ds (k); rw [← HQ.out] at h2; rw [← HD.out] at this; omega
      by_cases hlt : k < n
      · obtain ⟨t, hx, hmem⟩ := at_lt HN.out hlt
        have HM := Lib.hid hmem
        clear hmem
        have x0 : ds[k]? = some (.lit (.string t)) := by rw [HD.out]; have := flatMap_get strC_length hx (j := 0) (by decide); simp only [Nat.mul_one, Nat.add_zero] at this; rw [this]; rfl
        have X0 := Lib.hid x0
        clear x0
        have q0 : (q : Nat) = PD.cntL (ds.take k) := HQ.out
        have Q0 := Lib.hid q0
        clear q0 hx
        have q1 : q + 1 = PD.cntL (ds.take (k + 1)) := by have := cntL_take_succ X0.out; rw [← Q0.out] at this; exact this.symm
        have Q1 := Lib.hid q1
        clear q1
        have b0 : (k0 : Int) + ((q + 1 : Nat) : Int) ≤ 1099511627776 := by have := H1.out; have h2 := cntL_take_le ds (k + 1); rw [← Q1.out] at h2; rw [← HD.out] at this; omega
        push_cast at b0
        go_wp2_with fail
        refine (markText_any _ _ (by omega) (by omega)).mono ?_
        rintro e v0 ⟨rfl, hbv0⟩
        replace st0 := st0.below hbv0
        clear hbv0
        obtain ⟨c0, f0, s0⟩ := st0.lit' (p := off + k) (i' := k + 1) (K := k0 + (q : Int)) X0.out (by omega) (by omega) (by rw [← Q0.out]; try omega)
        have S0 := Lib.hid s0
        clear s0
        have st1 : MkSt w (v0.setCell ⟨g, off + k, none⟩ (.string (markT (k0 + (q : Int))))) g off F' ds (k + 1) k0 := S0.out
        clear st0
        have SE := Lib.hid st1
        clear st1
        go_wp2_with fail
        go_roundw
        case rel => exact ⟨k + 1, q + 1, by omega, by go_num, by go_num, Lib.hid (by rw [Q1.out]), SE.out.at_ (by omega)⟩
        case measure => simp [intOf]; omega
      · have hkn : k = n := by omega
        subst hkn
        have hlen : ds.length = k := by rw [HD.out, flatMap_length strC_length, HN.out]; omega
        have hq : q = PD.cntL ds := by rw [HQ.out, ← hlen, List.take_length]
        have HQ2 := Lib.hid hq
        have HLN := Lib.hid hlen
        clear hq hlen
        go_wp2_with fail
        go_ret
        refine ⟨ret_int (by rw [HQ2.out]; rfl), ?_, st0.keep⟩
        rw [PD.mark]
        exact (st0.at_ HLN.out.symm).done rfl (by rw [HLN.out]; omega) hn0 hc (by unfold maxLen; exact hm)
theorem markStringS_all (ts : List ByteArray) : MkR 95 (.row 1 (ts.flatMap strC)) := markStringS_step




def MkAllTypeS : Ty → Prop
  | ⟨kind, name, labels, kids⟩ => MkR 95 (.row 1 (labels.flatMap strC)) ∧ MkR 39 (.row 4 (kids.flatMap Ty.pd))
set_option maxHeartbeats 1600000 in
theorem markTypeS_step {ts : List Ty} (ih : ∀ t ∈ ts, MkAllTypeS t) : MkR 39 (.row 4 (ts.flatMap Ty.pd)) := by
  intro v F w k0 h0 h1 h nd lt
  have hh := h
  rw [Hold] at hh
  obtain ⟨A, n, c, rfl, hl, hc, hm, ⟨hn0, rfl⟩ | ⟨hn0, g, off, F', cs, rfl, rfl, ho, hr⟩⟩ := hh
  · subst hn0
    have hts : ts.flatMap Ty.pd = [] := List.eq_nil_of_length_eq_zero (by rw [hl]; try simp)
    have HT := Lib.hid hts
    have HH := Lib.hid h
    clear hl h hts h1
    go_enter Try.func39, Try.ntmps39
    go_wp2_with fail
    go_loopw [1, 5] (fun l i wr => l = .int .i64 k0 ∧ i = .int .i64 0 ∧ wr = w) (fun _ _ _ => 0)
    case atStart => exact ⟨rfl, rfl, rfl⟩
    obtain ⟨rfl, rfl, rfl⟩ := hrel
    go_wp2_with fail
    go_ret
    refine ⟨ret_int (by rw [HT.out]; simp [PD.cnt, PD.cntL]), ?_, KeepF.refl _ _⟩
    have := HH.out
    rw [HT.out] at this ⊢
    simpa [PD.mark, PD.markL] using this
  · unfold maxLen at hm
    rw [flatMap_length Ty.pd_length] at hl
    have hn : n = ts.length := by omega
    have HN := Lib.hid hn
    have HL := Lib.hid hl
    have hst := MkSt.start (k0 := k0) ho hr nd lt
    rw [PD.cnt] at h1
    have H1 := Lib.hid h1
    have HI := Lib.hid ih
    clear ih
    clear h ho hr h1 hl hn nd lt
    obtain ⟨ds, hds⟩ : ∃ ds, ds = ts.flatMap Ty.pd := ⟨_, rfl⟩
    rw [← hds] at hst ⊢
    have HD := Lib.hid hds
    clear hds
    go_enter Try.func39, Try.ntmps39
    go_wp2_with fail
    go_loopw [1, 5] (fun l i wr => ∃ (k q : Nat), k ≤ n ∧ l = .int .i64 (k0 + q) ∧ i = .int .i64 k ∧ Hid (q = PD.cntL (ds.take (k * 4))) ∧ MkSt w wr g off F' ds (k * 4) k0) (fun _ i _ => n - (intOf i).toNat)
    case atStart => exact ⟨0, 0, Nat.zero_le _, by simp, rfl, Lib.hid (by simp [PD.cntL]), by simpa using hst⟩
    case round =>
      obtain ⟨k, q, hk, rfl, rfl, HQ, st0⟩ := hrel
      clear hst
      have hqb : (k0 : Int) + q ≤ 1099511627776 := by have := H1.out; have h2 := cntL_take_le ds (k * 4); rw [← HQ.out] at h2; rw [← HD.out] at this; omega
      by_cases hlt : k < n
      · obtain ⟨t, hx, hmem⟩ := at_lt HN.out hlt
        have HM := Lib.hid hmem
        clear hmem
        obtain ⟨kind, name, labels, kids⟩ := t
        have x0 : ds[k * 4 + 0]? = some (.lit (.int .i64 kind)) := by rw [HD.out]; have := flatMap_get Ty.pd_length hx (j := 0) (by decide); rw [this]; rw [Ty.pd_mk]; rfl
        have X0 := Lib.hid x0
        clear x0
        have x1 : ds[k * 4 + 1]? = some (.lit (.string name)) := by rw [HD.out]; have := flatMap_get Ty.pd_length hx (j := 1) (by decide); rw [this]; rw [Ty.pd_mk]; rfl
        have X1 := Lib.hid x1
        clear x1
        have x2 : ds[k * 4 + 2]? = some (.row 1 (labels.flatMap strC)) := by rw [HD.out]; have := flatMap_get Ty.pd_length hx (j := 2) (by decide); rw [this]; rw [Ty.pd_mk]; rfl
        have X2 := Lib.hid x2
        clear x2
        have x3 : ds[k * 4 + 3]? = some (.row 4 (kids.flatMap Ty.pd)) := by rw [HD.out]; have := flatMap_get Ty.pd_length hx (j := 3) (by decide); rw [this]; rw [Ty.pd_mk]; rfl
        have X3 := Lib.hid x3
        clear x3
        replace st0 := st0.at_ (show k * 4 = k * 4 + 0 from rfl)
        have q0 : (q : Nat) = PD.cntL (ds.take (k * 4 + 0)) := HQ.out
        have Q0 := Lib.hid q0
        clear q0 hx
        have q1 : q + 1 = PD.cntL (ds.take (k * 4 + 1)) := by have := cntL_take_succ X0.out; rw [← Q0.out] at this; exact this.symm
        have Q1 := Lib.hid q1
        clear q1
        obtain ⟨c0, f0, s0⟩ := st0.lit' (p := off + k * 4) (i' := k * 4 + 1) (K := k0 + (q : Int)) X0.out (by omega) (by omega) (by rw [← Q0.out]; try omega)
        have S0 := Lib.hid s0
        clear s0
        have st1 : MkSt w (wr.setCell ⟨g, off + k * 4, none⟩ (.int .i64 (k0 + (q : Int)))) g off F' ds (k * 4 + 1) k0 := S0.out
        go_upto_region 6 with fail
        clear c0 f0
        obtain ⟨u0, hu0⟩ : ∃ W, W = wr.setCell ⟨g, off + k * 4, none⟩ (.int .i64 (k0 + (q : Int))) := ⟨_, rfl⟩
        rw [← hu0] at st1
        rw [← hu0]
        clear hu0
        clear st0 S0
        have q2 : q + 1 + 1 = PD.cntL (ds.take (k * 4 + 2)) := by have := cntL_take_succ X1.out; rw [← Q1.out] at this; exact this.symm
        have Q2 := Lib.hid q2
        clear q2
        have b1 : (k0 : Int) + ((q + 1 + 1 : Nat) : Int) ≤ 1099511627776 := by have := H1.out; have h2 := cntL_take_le ds (k * 4 + 2); rw [← Q2.out] at h2; rw [← HD.out] at this; omega
        push_cast at b1
        go_wp2_with fail
        refine (markText_any _ _ (by omega) (by omega)).mono ?_
        rintro e v1 ⟨rfl, hbv1⟩
        replace st1 := st1.below hbv1
        clear hbv1
        obtain ⟨c1, f1, s1⟩ := st1.lit' (p := off + k * 4 + 1) (i' := k * 4 + 2) (K := k0 + (q : Int) + 1) X1.out (by omega) (by omega) (by rw [← Q1.out]; try omega)
        have S1 := Lib.hid s1
        clear s1
        have st2 : MkSt w (v1.setCell ⟨g, off + k * 4 + 1, none⟩ (.string (markT (k0 + (q : Int) + 1)))) g off F' ds (k * 4 + 2) k0 := S1.out
        go_upto_region 8 with fail
        clear c1 f1
        obtain ⟨u1, hu1⟩ : ∃ W, W = v1.setCell ⟨g, off + k * 4 + 1, none⟩ (.string (markT (k0 + (q : Int) + 1))) := ⟨_, rfl⟩
        rw [← hu1] at st2
        rw [← hu1]
        clear hu1
        clear st1 S1
        obtain ⟨cv2, F2, c2, hh2, nd2, lt2, nx2⟩ := st2.row' (p := off + k * 4 + 2) (i' := k * 4 + 3) (K := k0 + (q : Int) + 1 + 1) X2.out (by omega) (by omega) (by rw [← Q2.out]; try omega)
        obtain ⟨A2, n2, e2, rfl⟩ := hh2.form
        have z2 := cntL_take_succ X2.out
        rw [← Q2.out] at z2
        have b2 : (k0 : Int) + PD.cntL (ds.take (k * 4 + 3)) ≤ 1099511627776 := by have := H1.out; have h2 := cntL_take_le ds (k * 4 + 3); rw [← HD.out] at this; omega
        obtain ⟨y2, hy2⟩ : ∃ y : Nat, y = (PD.row 1 (labels.flatMap strC)).cnt := ⟨_, rfl⟩
        rw [z2, ← hy2] at b2
        have q3 : q + 1 + 1 + y2 = PD.cntL (ds.take (k * 4 + 3)) := by rw [z2, hy2]
        have Q3 := Lib.hid q3
        have NX2 := Lib.hid nx2
        have HH2 := Lib.hid hh2
        have ND2 := Lib.hid nd2
        have LT2 := Lib.hid lt2
        have HY2 := Lib.hid hy2
        clear nx2 hh2 nd2 lt2 hy2 z2 q3 st2
        go_wp2_with fail
        refine (markStringS_all _ (.slice A2 n2 e2) F2 _ (k0 + (q : Int) + 1 + 1) (by omega) (by rw [← HY2.out]; push_cast at b2 ⊢; omega) HH2.out ND2.out LT2.out).mono ?_
        rintro e v2 ⟨rfl, hq2, kq2⟩
        rw [← HY2.out]
        have st3 := NX2.out v2 kq2 hq2
        clear hq2 kq2 c2
        obtain ⟨cv3, F3, c3, hh3, nd3, lt3, nx3⟩ := st3.row' (p := off + k * 4 + 3) (i' := k * 4 + 4) (K := k0 + (q : Int) + 1 + 1 + (y2 : Int)) X3.out (by omega) (by omega) (by rw [← Q3.out]; try omega)
        obtain ⟨A3, n3, e3, rfl⟩ := hh3.form
        have z3 := cntL_take_succ X3.out
        rw [← Q3.out] at z3
        have b3 : (k0 : Int) + PD.cntL (ds.take (k * 4 + 4)) ≤ 1099511627776 := by have := H1.out; have h2 := cntL_take_le ds (k * 4 + 4); rw [← HD.out] at this; omega
        obtain ⟨y3, hy3⟩ : ∃ y : Nat, y = (PD.row 4 (kids.flatMap Ty.pd)).cnt := ⟨_, rfl⟩
        rw [z3, ← hy3] at b3
        have q4 : q + 1 + 1 + y2 + y3 = PD.cntL (ds.take (k * 4 + 4)) := by rw [z3, hy3]
        have Q4 := Lib.hid q4
        have NX3 := Lib.hid nx3
        have HH3 := Lib.hid hh3
        have ND3 := Lib.hid nd3
        have LT3 := Lib.hid lt3
        have HY3 := Lib.hid hy3
        clear nx3 hh3 nd3 lt3 hy3 z3 q4 st3
        go_wp2_with fail
        refine ((HI.out _ HM.out).2 (.slice A3 n3 e3) F3 _ (k0 + (q : Int) + 1 + 1 + (y2 : Int)) (by omega) (by rw [← HY3.out]; push_cast at b3 ⊢; omega) HH3.out ND3.out LT3.out).mono ?_
        rintro e v3 ⟨rfl, hq3, kq3⟩
        rw [← HY3.out]
        have st4 := NX3.out v3 kq3 hq3
        clear hq3 kq3 c3
        have SE := Lib.hid st4
        clear st4
        go_wp2_with fail
        go_roundw
        case rel => exact ⟨k + 1, q + 1 + 1 + y2 + y3, by omega, by go_num, by go_num, Lib.hid (by rw [Q4.out]; congr 2; omega), SE.out.at_ (by omega)⟩
        case measure => simp [intOf]; omega
      · have hkn : k = n := by omega
        subst hkn
        have hlen : ds.length = k * 4 := by rw [HD.out, flatMap_length Ty.pd_length, HN.out]
        have hq : q = PD.cntL ds := by rw [HQ.out, ← hlen, List.take_length]
        have HQ2 := Lib.hid hq
        have HLN := Lib.hid hlen
        clear hq hlen
        go_wp2_with fail
        go_ret
        refine ⟨ret_int (by rw [HQ2.out]; rfl), ?_, st0.keep⟩
        rw [PD.mark]
        exact (st0.at_ HLN.out.symm).done rfl (by rw [HLN.out]) hn0 hc (by unfold maxLen; exact hm)
mutual
theorem markType_rows : ∀ t : Ty, MkAllTypeS t
  | .mk kind name labels kids => ⟨markStringS_all labels, markTypeS_step (markType_mem kids)⟩
theorem markType_mem : ∀ ts : List Ty, ∀ t ∈ ts, MkAllTypeS t
  | [], x, hx => absurd hx (by simp)
  | t :: r, x, hx => (List.mem_cons.1 hx).elim (fun e => e ▸ markType_rows t) (fun h => markType_mem r x h)
end
theorem markTypeS_all (ts : List Ty) : MkR 39 (.row 4 (ts.flatMap Ty.pd)) := markTypeS_step (markType_mem ts)
set_option maxHeartbeats 1600000 in
theorem markType_step {kind : Int} {name : ByteArray} {labels : List ByteArray} {kids : List Ty} (ih_labels : MkR 95 (.row 1 (labels.flatMap strC))) (ih_kids : MkR 39 (.row 4 (kids.flatMap Ty.pd))) : MkC 38 (Ty.pd ⟨kind, name, labels, kids⟩) := by
  intro us F w k0 h0 h1 h nd lt
  rw [Ty.pd_mk] at h h1 ⊢
  have hh := h
  obtain ⟨v0, us1, F0a, F0b, hu0, _, e0, hh1⟩ := HoldL.split1 hh
  subst hu0
  obtain ⟨rfl, _⟩ := Hold.of_lit e0
  obtain ⟨v1, us2, F1a, F1b, hu1, _, e1, hh2⟩ := HoldL.split1 hh1
  subst hu1
  obtain ⟨rfl, _⟩ := Hold.of_lit e1
  obtain ⟨v2, us3, F2a, F2b, hu2, _, e2, hh3⟩ := HoldL.split1 hh2
  subst hu2
  obtain ⟨labelsA, labelsN, labelsC, rfl⟩ := e2.form
  clear e2
  obtain ⟨v3, us4, F3a, F3b, hu3, _, e3, hh4⟩ := HoldL.split1 hh3
  subst hu3
  obtain ⟨kidsA, kidsN, kidsC, rfl⟩ := e3.form
  clear e3
  have hz := hh4
  rw [HoldL] at hz
  obtain ⟨rfl, _⟩ := hz
  clear hh1 hh2 hh3 hh4
  clear hh
  have st := CkSt.start (k0 := k0) h nd lt
  clear h nd
  simp only [rowsCnt] at h1 ⊢
  obtain ⟨y_labels, hy_labels⟩ : ∃ y : Nat, y = PD.cntL (labels.flatMap strC) := ⟨_, rfl⟩
  rw [← hy_labels] at h1 ⊢
  have Y_labels := Lib.hid hy_labels
  clear hy_labels
  obtain ⟨y_kids, hy_kids⟩ : ∃ y : Nat, y = PD.cntL (kids.flatMap Ty.pd) := ⟨_, rfl⟩
  rw [← hy_kids] at h1 ⊢
  have Y_kids := Lib.hid hy_kids
  clear hy_kids
  have LT := Lib.hid lt
  clear lt
  go_enter Try.func38, Try.ntmps38
  go_wp2_with fail
  obtain ⟨w0, hw0⟩ : ∃ w0, w0 = w.alloc (.cells #[.int .i64 kind, .string name, .slice labelsA labelsN labelsC, .slice kidsA kidsN kidsC] 51) := ⟨_, rfl⟩
  rw [← hw0]
  have bA : Blk w0 w.heap.size 51 #[.int .i64 kind, .string name, .slice labelsA labelsN labelsC, .slice kidsA kidsN kidsC] := by rw [hw0]; exact Blk.new w _ _
  have hB0 : Below w.heap.size w w0 := by rw [hw0]; exact (Below.refl _ _).alloc (Nat.le_refl _) _
  clear hw0
  replace st := st.below hB0
  clear hB0
  replace st := st.skip (u := .int .i64 kind) rfl
  replace st := st.skip (u := .string name) rfl
  obtain ⟨F0, hh0, nd0, lt0, lo0, nx0⟩ := st.part (es := [.row 1 (labels.flatMap strC)]) (i' := 3) (K := k0) rfl rfl (by simp [rowsCnt])
  replace hh0 := HoldL.one hh0
  refine (ih_labels (.slice labelsA labelsN labelsC) F0 _ (k0) (by omega) (by rw [PD.cnt, ← Y_labels.out]; omega) hh0 nd0 lt0).mono ?_
  rintro e w1 ⟨rfl, hq0, kq0⟩
  rw [PD.cnt, ← Y_labels.out]
  replace st := nx0 w1 kq0 (by have := HoldL.of_one hq0; rw [PD.mark] at this; exact this)
  replace bA := bA.keepF kq0 (fun hm => by have := lo0 _ hm; omega)
  clear hh0 hq0 kq0 nd0 lt0 lo0 nx0
  have a0_3 : w1.cell? ⟨w.heap.size, 3, none⟩ = some (.slice kidsA kidsN kidsC) := bA.cell 3
  have ST := Lib.hid st
  clear st
  go_wp2_with fail
  have st := ST.out
  clear ST
  obtain ⟨F1, hh1, nd1, lt1, lo1, nx1⟩ := st.part (es := [.row 4 (kids.flatMap Ty.pd)]) (i' := 4) (K := k0 + (y_labels : Int)) rfl rfl (by simp [rowsCnt, Y_labels.out])
  replace hh1 := HoldL.one hh1
  refine (ih_kids (.slice kidsA kidsN kidsC) F1 _ (k0 + (y_labels : Int)) (by omega) (by rw [PD.cnt, ← Y_kids.out]; omega) hh1 nd1 lt1).mono ?_
  rintro e w2 ⟨rfl, hq1, kq1⟩
  rw [PD.cnt, ← Y_kids.out]
  replace st := nx1 w2 kq1 (by have := HoldL.of_one hq1; rw [PD.mark] at this; exact this)
  replace bA := bA.keepF kq1 (fun hm => by have := lo1 _ hm; omega)
  clear hh1 hq1 kq1 nd1 lt1 lo1 nx1
  have ST := Lib.hid st
  clear st
  go_wp2_with fail
  go_ret
  have st := ST.out
  exact ⟨ret_int (by push_cast; omega), st.done, st.keep⟩
theorem markType_all (t : Ty) : MkC 38 (Ty.pd t) := by obtain ⟨kind, name, labels, kids⟩ := t; exact markType_step (markStringS_all labels) (markTypeS_all kids)


def MkAllParamS : Param → Prop
  | ⟨name, ⟨typ_kind, typ_name, typ_labels, typ_kids⟩⟩ => MkR 95 (.row 1 (typ_labels.flatMap strC)) ∧ MkR 39 (.row 4 (typ_kids.flatMap Ty.pd))
set_option maxHeartbeats 1600000 in
theorem markParamS_step {ts : List Param} (ih : ∀ t ∈ ts, MkAllParamS t) : MkR 116 (.row 5 (ts.flatMap Param.pd)) := by
  intro v F w k0 h0 h1 h nd lt
  have hh := h
  rw [Hold] at hh
  obtain ⟨A, n, c, rfl, hl, hc, hm, ⟨hn0, rfl⟩ | ⟨hn0, g, off, F', cs, rfl, rfl, ho, hr⟩⟩ := hh
  · subst hn0
    have hts : ts.flatMap Param.pd = [] := List.eq_nil_of_length_eq_zero (by rw [hl]; try simp)
    have HT := Lib.hid hts
    have HH := Lib.hid h
    clear hl h hts h1
    go_enter Try.func116, Try.ntmps116
    go_wp2_with fail
    go_loopw [1, 5] (fun l i wr => l = .int .i64 k0 ∧ i = .int .i64 0 ∧ wr = w) (fun _ _ _ => 0)
    case atStart => exact ⟨rfl, rfl, rfl⟩
    obtain ⟨rfl, rfl, rfl⟩ := hrel
    go_wp2_with fail
    go_ret
    refine ⟨ret_int (by rw [HT.out]; simp [PD.cnt, PD.cntL]), ?_, KeepF.refl _ _⟩
    have := HH.out
    rw [HT.out] at this ⊢
    simpa [PD.mark, PD.markL] using this
  · unfold maxLen at hm
    rw [flatMap_length Param.pd_length] at hl
    have hn : n = ts.length := by omega
    have HN := Lib.hid hn
    have HL := Lib.hid hl
    have hst := MkSt.start (k0 := k0) ho hr nd lt
    rw [PD.cnt] at h1
    have H1 := Lib.hid h1
    have HI := Lib.hid ih
    clear ih
    clear h ho hr h1 hl hn nd lt
    obtain ⟨ds, hds⟩ : ∃ ds, ds = ts.flatMap Param.pd := ⟨_, rfl⟩
    rw [← hds] at hst ⊢
    have HD := Lib.hid hds
    clear hds
    go_enter Try.func116, Try.ntmps116
    go_wp2_with fail
    go_loopw [1, 5] (fun l i wr => ∃ (k q : Nat), k ≤ n ∧ l = .int .i64 (k0 + q) ∧ i = .int .i64 k ∧ Hid (q = PD.cntL (ds.take (k * 5))) ∧ MkSt w wr g off F' ds (k * 5) k0) (fun _ i _ => n - (intOf i).toNat)
    case atStart => exact ⟨0, 0, Nat.zero_le _, by simp, rfl, Lib.hid (by simp [PD.cntL]), by simpa using hst⟩
    case round =>
      obtain ⟨k, q, hk, rfl, rfl, HQ, st0⟩ := hrel
      clear hst
      have hqb : (k0 : Int) + q ≤ 1099511627776 := by have := H1.out; have h2 := cntL_take_le ds (k * 5); rw [← HQ.out] at h2; rw [← HD.out] at this; omega
      by_cases hlt : k < n
      · obtain ⟨t, hx, hmem⟩ := at_lt HN.out hlt
        have HM := Lib.hid hmem
        clear hmem
        obtain ⟨name, ⟨typ_kind, typ_name, typ_labels, typ_kids⟩⟩ := t
        have x0 : ds[k * 5 + 0]? = some (.lit (.string name)) := by rw [HD.out]; have := flatMap_get Param.pd_length hx (j := 0) (by decide); rw [this]; rw [Param.pd_mk]; rfl
        have X0 := Lib.hid x0
        clear x0
        have x1 : ds[k * 5 + 1]? = some (.lit (.int .i64 typ_kind)) := by rw [HD.out]; have := flatMap_get Param.pd_length hx (j := 1) (by decide); rw [this]; rw [Param.pd_mk]; rfl
        have X1 := Lib.hid x1
        clear x1
        have x2 : ds[k * 5 + 2]? = some (.lit (.string typ_name)) := by rw [HD.out]; have := flatMap_get Param.pd_length hx (j := 2) (by decide); rw [this]; rw [Param.pd_mk]; rfl
        have X2 := Lib.hid x2
        clear x2
        have x3 : ds[k * 5 + 3]? = some (.row 1 (typ_labels.flatMap strC)) := by rw [HD.out]; have := flatMap_get Param.pd_length hx (j := 3) (by decide); rw [this]; rw [Param.pd_mk]; rfl
        have X3 := Lib.hid x3
        clear x3
        have x4 : ds[k * 5 + 4]? = some (.row 4 (typ_kids.flatMap Ty.pd)) := by rw [HD.out]; have := flatMap_get Param.pd_length hx (j := 4) (by decide); rw [this]; rw [Param.pd_mk]; rfl
        have X4 := Lib.hid x4
        clear x4
        replace st0 := st0.at_ (show k * 5 = k * 5 + 0 from rfl)
        have q0 : (q : Nat) = PD.cntL (ds.take (k * 5 + 0)) := HQ.out
        have Q0 := Lib.hid q0
        clear q0 hx
        have q1 : q + 1 = PD.cntL (ds.take (k * 5 + 1)) := by have := cntL_take_succ X0.out; rw [← Q0.out] at this; exact this.symm
        have Q1 := Lib.hid q1
        clear q1
        have b0 : (k0 : Int) + ((q + 1 : Nat) : Int) ≤ 1099511627776 := by have := H1.out; have h2 := cntL_take_le ds (k * 5 + 1); rw [← Q1.out] at h2; rw [← HD.out] at this; omega
        push_cast at b0
        go_wp2_with fail
        refine (markText_any _ _ (by omega) (by omega)).mono ?_
        rintro e v0 ⟨rfl, hbv0⟩
        replace st0 := st0.below hbv0
        clear hbv0
        obtain ⟨c0, f0, s0⟩ := st0.lit' (p := off + k * 5) (i' := k * 5 + 1) (K := k0 + (q : Int)) X0.out (by omega) (by omega) (by rw [← Q0.out]; try omega)
        have S0 := Lib.hid s0
        clear s0
        have st1 : MkSt w (v0.setCell ⟨g, off + k * 5, none⟩ (.string (markT (k0 + (q : Int))))) g off F' ds (k * 5 + 1) k0 := S0.out
        go_upto_region 6 with fail
        clear c0 f0
        obtain ⟨u0, hu0⟩ : ∃ W, W = v0.setCell ⟨g, off + k * 5, none⟩ (.string (markT (k0 + (q : Int)))) := ⟨_, rfl⟩
        rw [← hu0] at st1
        rw [← hu0]
        clear hu0
        clear st0 S0
        have q2 : q + 1 + 1 = PD.cntL (ds.take (k * 5 + 2)) := by have := cntL_take_succ X1.out; rw [← Q1.out] at this; exact this.symm
        have Q2 := Lib.hid q2
        clear q2
        obtain ⟨c1, f1, s1⟩ := st1.lit' (p := off + k * 5 + 1) (i' := k * 5 + 2) (K := k0 + (q : Int) + 1) X1.out (by omega) (by omega) (by rw [← Q1.out]; try omega)
        have S1 := Lib.hid s1
        clear s1
        have st2 : MkSt w (u0.setCell ⟨g, off + k * 5 + 1, none⟩ (.int .i64 (k0 + (q : Int) + 1))) g off F' ds (k * 5 + 2) k0 := S1.out
        go_upto_region 8 with fail
        clear c1 f1
        obtain ⟨u1, hu1⟩ : ∃ W, W = u0.setCell ⟨g, off + k * 5 + 1, none⟩ (.int .i64 (k0 + (q : Int) + 1)) := ⟨_, rfl⟩
        rw [← hu1] at st2
        rw [← hu1]
        clear hu1
        clear st1 S1
        have q3 : q + 1 + 1 + 1 = PD.cntL (ds.take (k * 5 + 3)) := by have := cntL_take_succ X2.out; rw [← Q2.out] at this; exact this.symm
        have Q3 := Lib.hid q3
        clear q3
        have b2 : (k0 : Int) + ((q + 1 + 1 + 1 : Nat) : Int) ≤ 1099511627776 := by have := H1.out; have h2 := cntL_take_le ds (k * 5 + 3); rw [← Q3.out] at h2; rw [← HD.out] at this; omega
        push_cast at b2
        go_wp2_with fail
        refine (markText_any _ _ (by omega) (by omega)).mono ?_
        rintro e v2 ⟨rfl, hbv2⟩
        replace st2 := st2.below hbv2
        clear hbv2
        obtain ⟨c2, f2, s2⟩ := st2.lit' (p := off + k * 5 + 2) (i' := k * 5 + 3) (K := k0 + (q : Int) + 1 + 1) X2.out (by omega) (by omega) (by rw [← Q2.out]; try omega)
        have S2 := Lib.hid s2
        clear s2
        have st3 : MkSt w (v2.setCell ⟨g, off + k * 5 + 2, none⟩ (.string (markT (k0 + (q : Int) + 1 + 1)))) g off F' ds (k * 5 + 3) k0 := S2.out
        go_upto_region 10 with fail
        clear c2 f2
        obtain ⟨u2, hu2⟩ : ∃ W, W = v2.setCell ⟨g, off + k * 5 + 2, none⟩ (.string (markT (k0 + (q : Int) + 1 + 1))) := ⟨_, rfl⟩
        rw [← hu2] at st3
        rw [← hu2]
        clear hu2
        clear st2 S2
        obtain ⟨cv3, F3, c3, hh3, nd3, lt3, nx3⟩ := st3.row' (p := off + k * 5 + 3) (i' := k * 5 + 4) (K := k0 + (q : Int) + 1 + 1 + 1) X3.out (by omega) (by omega) (by rw [← Q3.out]; try omega)
        obtain ⟨A3, n3, e3, rfl⟩ := hh3.form
        have z3 := cntL_take_succ X3.out
        rw [← Q3.out] at z3
        have b3 : (k0 : Int) + PD.cntL (ds.take (k * 5 + 4)) ≤ 1099511627776 := by have := H1.out; have h2 := cntL_take_le ds (k * 5 + 4); rw [← HD.out] at this; omega
        obtain ⟨y3, hy3⟩ : ∃ y : Nat, y = (PD.row 1 (typ_labels.flatMap strC)).cnt := ⟨_, rfl⟩
        rw [z3, ← hy3] at b3
        have q4 : q + 1 + 1 + 1 + y3 = PD.cntL (ds.take (k * 5 + 4)) := by rw [z3, hy3]
        have Q4 := Lib.hid q4
        have NX3 := Lib.hid nx3
        have HH3 := Lib.hid hh3
        have ND3 := Lib.hid nd3
        have LT3 := Lib.hid lt3
        have HY3 := Lib.hid hy3
        clear nx3 hh3 nd3 lt3 hy3 z3 q4 st3
        go_wp2_with fail
        refine (markStringS_all _ (.slice A3 n3 e3) F3 _ (k0 + (q : Int) + 1 + 1 + 1) (by omega) (by rw [← HY3.out]; push_cast at b3 ⊢; omega) HH3.out ND3.out LT3.out).mono ?_
        rintro e v3 ⟨rfl, hq3, kq3⟩
        rw [← HY3.out]
        have st4 := NX3.out v3 kq3 hq3
        clear hq3 kq3 c3
        obtain ⟨cv4, F4, c4, hh4, nd4, lt4, nx4⟩ := st4.row' (p := off + k * 5 + 4) (i' := k * 5 + 5) (K := k0 + (q : Int) + 1 + 1 + 1 + (y3 : Int)) X4.out (by omega) (by omega) (by rw [← Q4.out]; try omega)
        obtain ⟨A4, n4, e4, rfl⟩ := hh4.form
        have z4 := cntL_take_succ X4.out
        rw [← Q4.out] at z4
        have b4 : (k0 : Int) + PD.cntL (ds.take (k * 5 + 5)) ≤ 1099511627776 := by have := H1.out; have h2 := cntL_take_le ds (k * 5 + 5); rw [← HD.out] at this; omega
        obtain ⟨y4, hy4⟩ : ∃ y : Nat, y = (PD.row 4 (typ_kids.flatMap Ty.pd)).cnt := ⟨_, rfl⟩
        rw [z4, ← hy4] at b4
        have q5 : q + 1 + 1 + 1 + y3 + y4 = PD.cntL (ds.take (k * 5 + 5)) := by rw [z4, hy4]
        have Q5 := Lib.hid q5
        have NX4 := Lib.hid nx4
        have HH4 := Lib.hid hh4
        have ND4 := Lib.hid nd4
        have LT4 := Lib.hid lt4
        have HY4 := Lib.hid hy4
        clear nx4 hh4 nd4 lt4 hy4 z4 q5 st4
        go_wp2_with fail
        refine ((HI.out _ HM.out).2 (.slice A4 n4 e4) F4 _ (k0 + (q : Int) + 1 + 1 + 1 + (y3 : Int)) (by omega) (by rw [← HY4.out]; push_cast at b4 ⊢; omega) HH4.out ND4.out LT4.out).mono ?_
        rintro e v4 ⟨rfl, hq4, kq4⟩
        rw [← HY4.out]
        have st5 := NX4.out v4 kq4 hq4
        clear hq4 kq4 c4
        have SE := Lib.hid st5
        clear st5
        go_wp2_with fail
        go_roundw
        case rel => exact ⟨k + 1, q + 1 + 1 + 1 + y3 + y4, by omega, by go_num, by go_num, Lib.hid (by rw [Q5.out]; congr 2; omega), SE.out.at_ (by omega)⟩
        case measure => simp [intOf]; omega
      · have hkn : k = n := by omega
        subst hkn
        have hlen : ds.length = k * 5 := by rw [HD.out, flatMap_length Param.pd_length, HN.out]
        have hq : q = PD.cntL ds := by rw [HQ.out, ← hlen, List.take_length]
        have HQ2 := Lib.hid hq
        have HLN := Lib.hid hlen
        clear hq hlen
        go_wp2_with fail
        go_ret
        refine ⟨ret_int (by rw [HQ2.out]; rfl), ?_, st0.keep⟩
        rw [PD.mark]
        exact (st0.at_ HLN.out.symm).done rfl (by rw [HLN.out]) hn0 hc (by unfold maxLen; exact hm)
theorem markParamS_all (ts : List Param) : MkR 116 (.row 5 (ts.flatMap Param.pd)) := markParamS_step fun t _ => by obtain ⟨name, ⟨typ_kind, typ_name, typ_labels, typ_kids⟩⟩ := t; exact ⟨markStringS_all typ_labels, markTypeS_all typ_kids⟩

set_option maxHeartbeats 1600000 in
theorem markFuncType_step {params : List Param} {result_kind : Int} {result_name : ByteArray} {result_labels : List ByteArray} {result_kids : List Ty} {async : Bool} (ih_params : MkR 116 (.row 5 (params.flatMap Param.pd))) (ih_result : MkC 38 (Ty.pd ⟨result_kind, result_name, result_labels, result_kids⟩)) : MkC 63 (FuncType.pd ⟨params, ⟨result_kind, result_name, result_labels, result_kids⟩, async⟩) := by
  intro us F w k0 h0 h1 h nd lt
  rw [FuncType.pd_mk] at h h1 ⊢
  have hh := h
  obtain ⟨v0, us1, F0a, F0b, hu0, _, e0, hh1⟩ := HoldL.split1 hh
  subst hu0
  obtain ⟨paramsA, paramsN, paramsC, rfl⟩ := e0.form
  clear e0
  obtain ⟨v1, us2, F1a, F1b, hu1, _, e1, hh2⟩ := HoldL.split1 hh1
  subst hu1
  obtain ⟨rfl, _⟩ := Hold.of_lit e1
  obtain ⟨v2, us3, F2a, F2b, hu2, _, e2, hh3⟩ := HoldL.split1 hh2
  subst hu2
  obtain ⟨rfl, _⟩ := Hold.of_lit e2
  obtain ⟨v3, us4, F3a, F3b, hu3, _, e3, hh4⟩ := HoldL.split1 hh3
  subst hu3
  obtain ⟨result_labelsA, result_labelsN, result_labelsC, rfl⟩ := e3.form
  clear e3
  obtain ⟨v4, us5, F4a, F4b, hu4, _, e4, hh5⟩ := HoldL.split1 hh4
  subst hu4
  obtain ⟨result_kidsA, result_kidsN, result_kidsC, rfl⟩ := e4.form
  clear e4
  obtain ⟨v5, us6, F5a, F5b, hu5, _, e5, hh6⟩ := HoldL.split1 hh5
  subst hu5
  obtain ⟨rfl, _⟩ := Hold.of_lit e5
  have hz := hh6
  rw [HoldL] at hz
  obtain ⟨rfl, _⟩ := hz
  clear hh1 hh2 hh3 hh4 hh5 hh6
  clear hh
  have st := CkSt.start (k0 := k0) h nd lt
  clear h nd
  simp only [rowsCnt] at h1 ⊢
  obtain ⟨y_params, hy_params⟩ : ∃ y : Nat, y = PD.cntL (params.flatMap Param.pd) := ⟨_, rfl⟩
  rw [← hy_params] at h1 ⊢
  have Y_params := Lib.hid hy_params
  clear hy_params
  obtain ⟨y_result_labels, hy_result_labels⟩ : ∃ y : Nat, y = PD.cntL (result_labels.flatMap strC) := ⟨_, rfl⟩
  rw [← hy_result_labels] at h1 ⊢
  have Y_result_labels := Lib.hid hy_result_labels
  clear hy_result_labels
  obtain ⟨y_result_kids, hy_result_kids⟩ : ∃ y : Nat, y = PD.cntL (result_kids.flatMap Ty.pd) := ⟨_, rfl⟩
  rw [← hy_result_kids] at h1 ⊢
  have Y_result_kids := Lib.hid hy_result_kids
  clear hy_result_kids
  have LT := Lib.hid lt
  clear lt
  go_enter Try.func63, Try.ntmps63
  go_wp2_with fail
  obtain ⟨w0, hw0⟩ : ∃ w0, w0 = w.alloc (.cells #[.slice paramsA paramsN paramsC, .int .i64 result_kind, .string result_name, .slice result_labelsA result_labelsN result_labelsC, .slice result_kidsA result_kidsN result_kidsC, .bool async] 71) := ⟨_, rfl⟩
  rw [← hw0]
  have bA : Blk w0 w.heap.size 71 #[.slice paramsA paramsN paramsC, .int .i64 result_kind, .string result_name, .slice result_labelsA result_labelsN result_labelsC, .slice result_kidsA result_kidsN result_kidsC, .bool async] := by rw [hw0]; exact Blk.new w _ _
  have hB0 : Below w.heap.size w w0 := by rw [hw0]; exact (Below.refl _ _).alloc (Nat.le_refl _) _
  clear hw0
  replace st := st.below hB0
  clear hB0
  obtain ⟨F0, hh0, nd0, lt0, lo0, nx0⟩ := st.part (es := [.row 5 (params.flatMap Param.pd)]) (i' := 1) (K := k0) rfl rfl (by simp [rowsCnt])
  replace hh0 := HoldL.one hh0
  refine (ih_params (.slice paramsA paramsN paramsC) F0 _ (k0) (by omega) (by rw [PD.cnt, ← Y_params.out]; omega) hh0 nd0 lt0).mono ?_
  rintro e w1 ⟨rfl, hq0, kq0⟩
  rw [PD.cnt, ← Y_params.out]
  replace st := nx0 w1 kq0 (by have := HoldL.of_one hq0; rw [PD.mark] at this; exact this)
  replace bA := bA.keepF kq0 (fun hm => by have := lo0 _ hm; omega)
  clear hh0 hq0 kq0 nd0 lt0 lo0 nx0
  have a0_1 : w1.cell? ⟨w.heap.size, 1, none⟩ = some (.int .i64 result_kind) := bA.cell 1
  have a0_2 : w1.cell? ⟨w.heap.size, 2, none⟩ = some (.string result_name) := bA.cell 2
  have a0_3 : w1.cell? ⟨w.heap.size, 3, none⟩ = some (.slice result_labelsA result_labelsN result_labelsC) := bA.cell 3
  have a0_4 : w1.cell? ⟨w.heap.size, 4, none⟩ = some (.slice result_kidsA result_kidsN result_kidsC) := bA.cell 4
  have ST := Lib.hid st
  clear st
  go_wp2_with fail
  have st := ST.out
  clear ST
  obtain ⟨F1, hh1, nd1, lt1, lo1, nx1⟩ := st.part (es := [.lit (.int .i64 result_kind), .lit (.string result_name), .row 1 (result_labels.flatMap strC), .row 4 (result_kids.flatMap Ty.pd)]) (i' := 5) (K := k0 + (y_params : Int)) rfl rfl (by simp [rowsCnt, Y_params.out])
  have rc1 : rowsCnt (Ty.pd ⟨result_kind, result_name, result_labels, result_kids⟩) = y_result_labels + y_result_kids := by simp only [Ty.pd_mk, rowsCnt, ← Y_result_labels.out, ← Y_result_kids.out]; omega
  refine (ih_result [.int .i64 result_kind, .string result_name, .slice result_labelsA result_labelsN result_labelsC, .slice result_kidsA result_kidsN result_kidsC] F1 _ (k0 + (y_params : Int)) (by omega) (by rw [rc1]; omega) (by rw [Ty.pd_mk]; exact hh1) nd1 lt1).mono ?_
  rintro e w2 ⟨rfl, hq1, kq1⟩
  rw [rc1]
  replace st := nx1 w2 kq1 (by rw [Ty.pd_mk] at hq1; exact hq1)
  replace bA := bA.keepF kq1 (fun hm => by have := lo1 _ hm; omega)
  clear hh1 hq1 kq1 nd1 lt1 lo1 nx1
  have ST := Lib.hid st
  clear st
  go_wp2_with fail
  go_ret
  have st := ST.out
  replace st := st.skip (u := .bool async) rfl
  exact ⟨ret_int (by push_cast; omega), st.done, st.keep⟩
theorem markFuncType_all (t : FuncType) : MkC 63 (FuncType.pd t) := by obtain ⟨params, ⟨result_kind, result_name, result_labels, result_kids⟩, async⟩ := t; exact markFuncType_step (markParamS_all params) (markType_all _)


















end Go.Proofs.Ytmmeaakhikcigaa
