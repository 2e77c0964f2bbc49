/-
  The laws' own helpers 'mk..' over the program's types (by program: tygen2.py, tyfam.py).
-/
import Derived.Test.YtnedcpoengcbaaaFam
import Derived.Test.YtnedcpoengcbaaaTy
import Derived.Test.YtnedcpoengcbaaaMark
import Derived.Deep.Cut
namespace Go.Proofs.Ytnedcpoengcbaaa
open Go.RowKit
set_option linter.unusedVariables false
set_option linter.unusedSimpArgs false
set_option linter.unnecessarySimpa false
set_option maxRecDepth 100000

















set_option maxHeartbeats 1600000 in
theorem markInsS_step {ts : List Ins} : MkR 55 (.row 2 (ts.flatMap Ins.pd)) := by
  intro v F w k0 h0 h1 h nd lt
  have hh := h
  rw [Hold] at hh
  obtain ⟨A, n, c, rfl, hl, hc, hm, ⟨hn0, rfl⟩ | ⟨hn0, g, off, F', cs, rfl, rfl, ho, hr⟩⟩ := hh
  · subst hn0
    have hts : ts.flatMap Ins.pd = [] := List.eq_nil_of_length_eq_zero (by rw [hl]; try simp)
    have HT := Lib.hid hts
    have HH := Lib.hid h
    clear hl h hts h1
    go_enter Try.func55, Try.ntmps55
    go_wp2_with fail
    go_loopw [1, 5] (fun l i wr => l = .int .i64 k0 ∧ i = .int .i64 0 ∧ wr = w) (fun _ _ _ => 0)
    case atStart => exact ⟨rfl, rfl, rfl⟩
    obtain ⟨rfl, rfl, rfl⟩ := hrel
    go_wp2_with fail
    go_ret
    refine ⟨ret_int (by rw [HT.out]; simp [PD.cnt, PD.cntL]), ?_, KeepF.refl _ _⟩
    have := HH.out
    rw [HT.out] at this ⊢
    simpa [PD.mark, PD.markL] using this
  · unfold maxLen at hm
    rw [flatMap_length Ins.pd_length] at hl
    have hn : n = ts.length := by omega
    have HN := Lib.hid hn
    have HL := Lib.hid hl
    have hst := MkSt.start (k0 := k0) ho hr nd lt
    rw [PD.cnt] at h1
    have H1 := Lib.hid h1
    clear h ho hr h1 hl hn nd lt
    obtain ⟨ds, hds⟩ : ∃ ds, ds = ts.flatMap Ins.pd := ⟨_, rfl⟩
    rw [← hds] at hst ⊢
    have HD := Lib.hid hds
    clear hds
    go_enter Try.func55, Try.ntmps55
    go_wp2_with fail
    go_loopw [1, 5] (fun l i wr => ∃ (k q : Nat), k ≤ n ∧ l = .int .i64 (k0 + q) ∧ i = .int .i64 k ∧ Hid (q = PD.cntL (ds.take (k * 2))) ∧ MkSt w wr g off F' ds (k * 2) k0) (fun _ i _ => n - (intOf i).toNat)
    case atStart => exact ⟨0, 0, Nat.zero_le _, by simp, rfl, Lib.hid (by simp [PD.cntL]), by simpa using hst⟩
    case round =>
      obtain ⟨k, q, hk, rfl, rfl, HQ, st0⟩ := hrel
      clear hst
      have hqb : (k0 : Int) + q ≤ 1099511627776 := by have := H1.out; have h2 := cntL_take_le ds (k * 2); rw [← HQ.out] at h2; rw [← HD.out] at this; omega
      by_cases hlt : k < n
      · obtain ⟨t, hx, hmem⟩ := at_lt HN.out hlt
        have HM := Lib.hid hmem
        clear hmem
        obtain ⟨op, a⟩ := t
        have x0 : ds[k * 2 + 0]? = some (.lit (.int .i64 op)) := by rw [HD.out]; have := flatMap_get Ins.pd_length hx (j := 0) (by decide); rw [this]; rw [Ins.pd_mk]; rfl
        have X0 := Lib.hid x0
        clear x0
        have x1 : ds[k * 2 + 1]? = some (.lit (.int .i64 a)) := by rw [HD.out]; have := flatMap_get Ins.pd_length hx (j := 1) (by decide); rw [this]; rw [Ins.pd_mk]; rfl
        have X1 := Lib.hid x1
        clear x1
        replace st0 := st0.at_ (show k * 2 = k * 2 + 0 from rfl)
        have q0 : (q : Nat) = PD.cntL (ds.take (k * 2 + 0)) := HQ.out
        have Q0 := Lib.hid q0
        clear q0 hx
        have q1 : q + 1 = PD.cntL (ds.take (k * 2 + 1)) := by have := cntL_take_succ X0.out; rw [← Q0.out] at this; exact this.symm
        have Q1 := Lib.hid q1
        clear q1
        obtain ⟨c0, f0, s0⟩ := st0.lit' (p := off + k * 2) (i' := k * 2 + 1) (K := k0 + (q : Int)) X0.out (by omega) (by omega) (by rw [← Q0.out]; try omega)
        have S0 := Lib.hid s0
        clear s0
        have st1 : MkSt w (wr.setCell ⟨g, off + k * 2, none⟩ (.int .i64 (k0 + (q : Int)))) g off F' ds (k * 2 + 1) k0 := S0.out
        go_upto_region 6 with fail
        clear c0 f0
        obtain ⟨u0, hu0⟩ : ∃ W, W = wr.setCell ⟨g, off + k * 2, none⟩ (.int .i64 (k0 + (q : Int))) := ⟨_, rfl⟩
        rw [← hu0] at st1
        rw [← hu0]
        clear hu0
        clear st0 S0
        have q2 : q + 1 + 1 = PD.cntL (ds.take (k * 2 + 2)) := by have := cntL_take_succ X1.out; rw [← Q1.out] at this; exact this.symm
        have Q2 := Lib.hid q2
        clear q2
        obtain ⟨c1, f1, s1⟩ := st1.lit' (p := off + k * 2 + 1) (i' := k * 2 + 2) (K := k0 + (q : Int) + 1) X1.out (by omega) (by omega) (by rw [← Q1.out]; try omega)
        have S1 := Lib.hid s1
        clear s1
        have st2 : MkSt w (u0.setCell ⟨g, off + k * 2 + 1, none⟩ (.int .i64 (k0 + (q : Int) + 1))) g off F' ds (k * 2 + 2) k0 := S1.out
        clear st1
        have SE := Lib.hid st2
        clear st2
        go_wp2_with fail
        go_roundw
        case rel => exact ⟨k + 1, q + 1 + 1, by omega, by go_num, by go_num, Lib.hid (by rw [Q2.out]; congr 2; omega), SE.out.at_ (by omega)⟩
        case measure => simp [intOf]; omega
      · have hkn : k = n := by omega
        subst hkn
        have hlen : ds.length = k * 2 := by rw [HD.out, flatMap_length Ins.pd_length, HN.out]
        have hq : q = PD.cntL ds := by rw [HQ.out, ← hlen, List.take_length]
        have HQ2 := Lib.hid hq
        have HLN := Lib.hid hlen
        clear hq hlen
        go_wp2_with fail
        go_ret
        refine ⟨ret_int (by rw [HQ2.out]; rfl), ?_, st0.keep⟩
        rw [PD.mark]
        exact (st0.at_ HLN.out.symm).done rfl (by rw [HLN.out]) hn0 hc (by unfold maxLen; exact hm)
theorem markInsS_all (ts : List Ins) : MkR 55 (.row 2 (ts.flatMap Ins.pd)) := markInsS_step

set_option maxHeartbeats 1600000 in
theorem markCore_step {name : ByteArray} {params : Int} {locals : Int} {result : Bool} {code : List Ins} (ih_code : MkR 55 (.row 2 (code.flatMap Ins.pd))) : MkC 22 (Core.pd ⟨name, params, locals, result, code⟩) := by
  intro us F w k0 h0 h1 h nd lt
  rw [Core.pd_mk] at h h1 ⊢
  have hh := h
  obtain ⟨v0, us1, F0a, F0b, hu0, _, e0, hh1⟩ := HoldL.split1 hh
  subst hu0
  obtain ⟨rfl, _⟩ := Hold.of_lit e0
  obtain ⟨v1, us2, F1a, F1b, hu1, _, e1, hh2⟩ := HoldL.split1 hh1
  subst hu1
  obtain ⟨rfl, _⟩ := Hold.of_lit e1
  obtain ⟨v2, us3, F2a, F2b, hu2, _, e2, hh3⟩ := HoldL.split1 hh2
  subst hu2
  obtain ⟨rfl, _⟩ := Hold.of_lit e2
  obtain ⟨v3, us4, F3a, F3b, hu3, _, e3, hh4⟩ := HoldL.split1 hh3
  subst hu3
  obtain ⟨rfl, _⟩ := Hold.of_lit e3
  obtain ⟨v4, us5, F4a, F4b, hu4, _, e4, hh5⟩ := HoldL.split1 hh4
  subst hu4
  obtain ⟨codeA, codeN, codeC, rfl⟩ := e4.form
  clear e4
  have hz := hh5
  rw [HoldL] at hz
  obtain ⟨rfl, _⟩ := hz
  clear hh1 hh2 hh3 hh4 hh5
  clear hh
  have st := CkSt.start (k0 := k0) h nd lt
  clear h nd
  simp only [rowsCnt] at h1 ⊢
  obtain ⟨y_code, hy_code⟩ : ∃ y : Nat, y = PD.cntL (code.flatMap Ins.pd) := ⟨_, rfl⟩
  rw [← hy_code] at h1 ⊢
  have Y_code := Lib.hid hy_code
  clear hy_code
  have LT := Lib.hid lt
  clear lt
  go_enter Try.func22, Try.ntmps22
  go_wp2_with fail
  obtain ⟨w0, hw0⟩ : ∃ w0, w0 = w.alloc (.cells #[.string name, .int .i64 params, .int .i64 locals, .bool result, .slice codeA codeN codeC] 55) := ⟨_, rfl⟩
  rw [← hw0]
  have bA : Blk w0 w.heap.size 55 #[.string name, .int .i64 params, .int .i64 locals, .bool result, .slice codeA codeN codeC] := by rw [hw0]; exact Blk.new w _ _
  have hB0 : Below w.heap.size w w0 := by rw [hw0]; exact (Below.refl _ _).alloc (Nat.le_refl _) _
  clear hw0
  replace st := st.below hB0
  clear hB0
  replace st := st.skip (u := .string name) rfl
  replace st := st.skip (u := .int .i64 params) rfl
  replace st := st.skip (u := .int .i64 locals) rfl
  replace st := st.skip (u := .bool result) rfl
  obtain ⟨F0, hh0, nd0, lt0, lo0, nx0⟩ := st.part (es := [.row 2 (code.flatMap Ins.pd)]) (i' := 5) (K := k0) rfl rfl (by simp [rowsCnt])
  replace hh0 := HoldL.one hh0
  refine (ih_code (.slice codeA codeN codeC) F0 _ (k0) (by omega) (by rw [PD.cnt, ← Y_code.out]; omega) hh0 nd0 lt0).mono ?_
  rintro e w1 ⟨rfl, hq0, kq0⟩
  rw [PD.cnt, ← Y_code.out]
  replace st := nx0 w1 kq0 (by have := HoldL.of_one hq0; rw [PD.mark] at this; exact this)
  replace bA := bA.keepF kq0 (fun hm => by have := lo0 _ hm; omega)
  clear hh0 hq0 kq0 nd0 lt0 lo0 nx0
  have ST := Lib.hid st
  clear st
  go_wp2_with fail
  go_ret
  have st := ST.out
  exact ⟨ret_int (by push_cast; omega), st.done, st.keep⟩
theorem markCore_all (t : Core) : MkC 22 (Core.pd t) := by obtain ⟨name, params, locals, result, code⟩ := t; exact markCore_step (markInsS_all code)












set_option maxHeartbeats 1600000 in
theorem markCodeBlockS_step {ts : List CodeBlock} : MkR 23 (.row 5 (ts.flatMap CodeBlock.pd)) := by
  intro v F w k0 h0 h1 h nd lt
  have hh := h
  rw [Hold] at hh
  obtain ⟨A, n, c, rfl, hl, hc, hm, ⟨hn0, rfl⟩ | ⟨hn0, g, off, F', cs, rfl, rfl, ho, hr⟩⟩ := hh
  · subst hn0
    have hts : ts.flatMap CodeBlock.pd = [] := List.eq_nil_of_length_eq_zero (by rw [hl]; try simp)
    have HT := Lib.hid hts
    have HH := Lib.hid h
    clear hl h hts h1
    go_enter Try.func23, Try.ntmps23
    go_wp2_with fail
    go_loopw [1, 5] (fun l i wr => l = .int .i64 k0 ∧ i = .int .i64 0 ∧ wr = w) (fun _ _ _ => 0)
    case atStart => exact ⟨rfl, rfl, rfl⟩
    obtain ⟨rfl, rfl, rfl⟩ := hrel
    go_wp2_with fail
    go_ret
    refine ⟨ret_int (by rw [HT.out]; simp [PD.cnt, PD.cntL]), ?_, KeepF.refl _ _⟩
    have := HH.out
    rw [HT.out] at this ⊢
    simpa [PD.mark, PD.markL] using this
  · unfold maxLen at hm
    rw [flatMap_length CodeBlock.pd_length] at hl
    have hn : n = ts.length := by omega
    have HN := Lib.hid hn
    have HL := Lib.hid hl
    have hst := MkSt.start (k0 := k0) ho hr nd lt
    rw [PD.cnt] at h1
    have H1 := Lib.hid h1
    clear h ho hr h1 hl hn nd lt
    obtain ⟨ds, hds⟩ : ∃ ds, ds = ts.flatMap CodeBlock.pd := ⟨_, rfl⟩
    rw [← hds] at hst ⊢
    have HD := Lib.hid hds
    clear hds
    go_enter Try.func23, Try.ntmps23
    go_wp2_with fail
    go_loopw [1, 5] (fun l i wr => ∃ (k q : Nat), k ≤ n ∧ l = .int .i64 (k0 + q) ∧ i = .int .i64 k ∧ Hid (q = PD.cntL (ds.take (k * 5))) ∧ MkSt w wr g off F' ds (k * 5) k0) (fun _ i _ => n - (intOf i).toNat)
    case atStart => exact ⟨0, 0, Nat.zero_le _, by simp, rfl, Lib.hid (by simp [PD.cntL]), by simpa using hst⟩
    case round =>
      obtain ⟨k, q, hk, rfl, rfl, HQ, st0⟩ := hrel
      clear hst
      have hqb : (k0 : Int) + q ≤ 1099511627776 := by have := H1.out; have h2 := cntL_take_le ds (k * 5); rw [← HQ.out] at h2; rw [← HD.out] at this; omega
      by_cases hlt : k < n
      · obtain ⟨t, hx, hmem⟩ := at_lt HN.out hlt
        have HM := Lib.hid hmem
        clear hmem
        obtain ⟨at_, els, end_, height, result⟩ := t
        have x0 : ds[k * 5 + 0]? = some (.lit (.int .i64 at_)) := by rw [HD.out]; have := flatMap_get CodeBlock.pd_length hx (j := 0) (by decide); rw [this]; rw [CodeBlock.pd_mk]; rfl
        have X0 := Lib.hid x0
        clear x0
        have x1 : ds[k * 5 + 1]? = some (.lit (.int .i64 els)) := by rw [HD.out]; have := flatMap_get CodeBlock.pd_length hx (j := 1) (by decide); rw [this]; rw [CodeBlock.pd_mk]; rfl
        have X1 := Lib.hid x1
        clear x1
        have x2 : ds[k * 5 + 2]? = some (.lit (.int .i64 end_)) := by rw [HD.out]; have := flatMap_get CodeBlock.pd_length hx (j := 2) (by decide); rw [this]; rw [CodeBlock.pd_mk]; rfl
        have X2 := Lib.hid x2
        clear x2
        have x3 : ds[k * 5 + 3]? = some (.lit (.int .i64 height)) := by rw [HD.out]; have := flatMap_get CodeBlock.pd_length hx (j := 3) (by decide); rw [this]; rw [CodeBlock.pd_mk]; rfl
        have X3 := Lib.hid x3
        clear x3
        have x4 : ds[k * 5 + 4]? = some (.lit (.bool result)) := by rw [HD.out]; have := flatMap_get CodeBlock.pd_length hx (j := 4) (by decide); rw [this]; rw [CodeBlock.pd_mk]; rfl
        have X4 := Lib.hid x4
        clear x4
        replace st0 := st0.at_ (show k * 5 = k * 5 + 0 from rfl)
        have q0 : (q : Nat) = PD.cntL (ds.take (k * 5 + 0)) := HQ.out
        have Q0 := Lib.hid q0
        clear q0 hx
        have q1 : q + 1 = PD.cntL (ds.take (k * 5 + 1)) := by have := cntL_take_succ X0.out; rw [← Q0.out] at this; exact this.symm
        have Q1 := Lib.hid q1
        clear q1
        obtain ⟨c0, f0, s0⟩ := st0.lit' (p := off + k * 5) (i' := k * 5 + 1) (K := k0 + (q : Int)) X0.out (by omega) (by omega) (by rw [← Q0.out]; try omega)
        have S0 := Lib.hid s0
        clear s0
        have st1 : MkSt w (wr.setCell ⟨g, off + k * 5, none⟩ (.int .i64 (k0 + (q : Int)))) g off F' ds (k * 5 + 1) k0 := S0.out
        go_upto_region 6 with fail
        clear c0 f0
        obtain ⟨u0, hu0⟩ : ∃ W, W = wr.setCell ⟨g, off + k * 5, none⟩ (.int .i64 (k0 + (q : Int))) := ⟨_, rfl⟩
        rw [← hu0] at st1
        rw [← hu0]
        clear hu0
        clear st0 S0
        have q2 : q + 1 + 1 = PD.cntL (ds.take (k * 5 + 2)) := by have := cntL_take_succ X1.out; rw [← Q1.out] at this; exact this.symm
        have Q2 := Lib.hid q2
        clear q2
        obtain ⟨c1, f1, s1⟩ := st1.lit' (p := off + k * 5 + 1) (i' := k * 5 + 2) (K := k0 + (q : Int) + 1) X1.out (by omega) (by omega) (by rw [← Q1.out]; try omega)
        have S1 := Lib.hid s1
        clear s1
        have st2 : MkSt w (u0.setCell ⟨g, off + k * 5 + 1, none⟩ (.int .i64 (k0 + (q : Int) + 1))) g off F' ds (k * 5 + 2) k0 := S1.out
        go_upto_region 8 with fail
        clear c1 f1
        obtain ⟨u1, hu1⟩ : ∃ W, W = u0.setCell ⟨g, off + k * 5 + 1, none⟩ (.int .i64 (k0 + (q : Int) + 1)) := ⟨_, rfl⟩
        rw [← hu1] at st2
        rw [← hu1]
        clear hu1
        clear st1 S1
        have q3 : q + 1 + 1 + 1 = PD.cntL (ds.take (k * 5 + 3)) := by have := cntL_take_succ X2.out; rw [← Q2.out] at this; exact this.symm
        have Q3 := Lib.hid q3
        clear q3
        obtain ⟨c2, f2, s2⟩ := st2.lit' (p := off + k * 5 + 2) (i' := k * 5 + 3) (K := k0 + (q : Int) + 1 + 1) X2.out (by omega) (by omega) (by rw [← Q2.out]; try omega)
        have S2 := Lib.hid s2
        clear s2
        have st3 : MkSt w (u1.setCell ⟨g, off + k * 5 + 2, none⟩ (.int .i64 (k0 + (q : Int) + 1 + 1))) g off F' ds (k * 5 + 3) k0 := S2.out
        go_upto_region 10 with fail
        clear c2 f2
        obtain ⟨u2, hu2⟩ : ∃ W, W = u1.setCell ⟨g, off + k * 5 + 2, none⟩ (.int .i64 (k0 + (q : Int) + 1 + 1)) := ⟨_, rfl⟩
        rw [← hu2] at st3
        rw [← hu2]
        clear hu2
        clear st2 S2
        have q4 : q + 1 + 1 + 1 + 1 = PD.cntL (ds.take (k * 5 + 4)) := by have := cntL_take_succ X3.out; rw [← Q3.out] at this; exact this.symm
        have Q4 := Lib.hid q4
        clear q4
        obtain ⟨c3, f3, s3⟩ := st3.lit' (p := off + k * 5 + 3) (i' := k * 5 + 4) (K := k0 + (q : Int) + 1 + 1 + 1) X3.out (by omega) (by omega) (by rw [← Q3.out]; try omega)
        have S3 := Lib.hid s3
        clear s3
        have st4 : MkSt w (u2.setCell ⟨g, off + k * 5 + 3, none⟩ (.int .i64 (k0 + (q : Int) + 1 + 1 + 1))) g off F' ds (k * 5 + 4) k0 := S3.out
        go_upto_region 12 with fail
        clear c3 f3
        obtain ⟨u3, hu3⟩ : ∃ W, W = u2.setCell ⟨g, off + k * 5 + 3, none⟩ (.int .i64 (k0 + (q : Int) + 1 + 1 + 1)) := ⟨_, rfl⟩
        rw [← hu3] at st4
        rw [← hu3]
        clear hu3
        clear st3 S3
        have q5 : q + 1 + 1 + 1 + 1 + 1 = PD.cntL (ds.take (k * 5 + 5)) := by have := cntL_take_succ X4.out; rw [← Q4.out] at this; exact this.symm
        have Q5 := Lib.hid q5
        clear q5
        obtain ⟨c4, f4, s4⟩ := st4.lit' (p := off + k * 5 + 4) (i' := k * 5 + 5) (K := k0 + (q : Int) + 1 + 1 + 1 + 1) X4.out (by omega) (by omega) (by rw [← Q4.out]; try omega)
        have S4 := Lib.hid s4
        clear s4
        have st5 : MkSt w (u3.setCell ⟨g, off + k * 5 + 4, none⟩ (.bool ((k0 + (q : Int) + 1 + 1 + 1 + 1) % 3 == 0))) g off F' ds (k * 5 + 5) k0 := S4.out
        clear st4
        have SE := Lib.hid st5
        clear st5
        go_wp2_with fail
        go_roundw
        case rel => exact ⟨k + 1, q + 1 + 1 + 1 + 1 + 1, by omega, by go_num, by go_num, Lib.hid (by rw [Q5.out]; congr 2; omega), SE.out.at_ (by omega)⟩
        case measure => simp [intOf]; omega
      · have hkn : k = n := by omega
        subst hkn
        have hlen : ds.length = k * 5 := by rw [HD.out, flatMap_length CodeBlock.pd_length, HN.out]
        have hq : q = PD.cntL ds := by rw [HQ.out, ← hlen, List.take_length]
        have HQ2 := Lib.hid hq
        have HLN := Lib.hid hlen
        clear hq hlen
        go_wp2_with fail
        go_ret
        refine ⟨ret_int (by rw [HQ2.out]; rfl), ?_, st0.keep⟩
        rw [PD.mark]
        exact (st0.at_ HLN.out.symm).done rfl (by rw [HLN.out]) hn0 hc (by unfold maxLen; exact hm)
theorem markCodeBlockS_all (ts : List CodeBlock) : MkR 23 (.row 5 (ts.flatMap CodeBlock.pd)) := markCodeBlockS_step


end Go.Proofs.Ytnedcpoengcbaaa
