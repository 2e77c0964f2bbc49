/-
  Tokens: impl.Tokens (by program: gen_tokk.py).
-/
import Derived.Test.YtfnncclplbbghaaTokJ
import Derived.Deep.Cut
import Derived.Deep.CutRange
namespace Go.Proofs.Ytfnncclplbbghaa
open Go.RowKit
set_option linter.unusedVariables false
set_option linter.unusedSimpArgs false
set_option linter.unnecessarySimpa false
set_option maxRecDepth 16000

theorem owns_dr {w : World} {b sz n : Nat} {e : TypeId} {v : Value} {xs : List Value} (h : w.ownsRow b e sz v n xs) (q : Nat) : (w.drewN q).ownsRow b e sz v n xs := h
theorem below_dr {B : Nat} {w W : World} (h : Below B w W) (q : Nat) : Below B w (W.drewN q) := ⟨h.os, h.tape, h.output, h.size, h.block⟩
theorem owns_kp {w w' : World} {base sz n lo hi : Nat} {e : TypeId} {v : Value} {xs : List Value} (h : w.ownsRow base e sz v n xs) (hk : Keep lo hi w w') (hb : hi ≤ base) : w'.ownsRow base e sz v n xs := by
  obtain ⟨h1, h2⟩ := h
  refine ⟨h1, ?_⟩
  rcases h2 with h2 | ⟨g, cap, cur, hv, hbb, hg, rest⟩
  · exact .inl h2
  · exact .inr ⟨g, cap, cur, hv, hbb, (hk.block g (Array.getElem?_eq_some_iff.1 hg).1 (.inr (by omega))).trans hg, rest⟩
theorem owns_mn {w : World} {b b' sz n : Nat} {e : TypeId} {v : Value} {xs : List Value} (h : w.ownsRow b' e sz v n xs) (hb : b ≤ b') : w.ownsRow b e sz v n xs := by
  obtain ⟨h1, h2⟩ := h
  refine ⟨h1, ?_⟩
  rcases h2 with h2 | ⟨g, cap, cur, hv, hbb, rest⟩
  · exact .inl h2
  · exact .inr ⟨g, cap, cur, hv, by omega, rest⟩
theorem lex_kd {l : List Int} {kd : Int} {n : Nat} (h : lexN l = some (kd, n)) : (kd == 0) = false := by
  cases l with
  | nil => cases h
  | cons c r =>
    rw [lexN] at h
    split at h
    · injection h with h; injection h with h1 h2; subst h1; rfl
    · split at h
      · injection h with h; injection h with h1 h2; subst h1; rfl
      · split at h
        · injection h with h; injection h with h1 h2; subst h1; rfl
        · split at h
          · injection h with h; injection h with h1 h2; subst h1; rfl
          · cases h
set_option maxHeartbeats 12800000 in
theorem implTokens_any {s : ByteArray} (hs : s.size ≤ 1048576) (w : World) : Calls Try.prog 5 #[.string s] w fun e w' => TokQ s w e w' := by
  obtain ⟨i0, hi, hy0, hy1, hy2⟩ := info_parts tok_info
  by_cases hlong : 30000 < s.size
  case pos =>
    have HF := Lib.hid (tokP_long hlong)
    have hd : decide ((30000 : Int) < (s.size : Int)) = true := decide_eq_true (by omega)
    go_enter Try.func5, Try.ntmps5
    go_wp2_with fail
    go_ret3
    exact ⟨.slice none 0 0, by rw [HF.out]; rfl, by rw [HF.out]; exact ⟨rfl, .inl ⟨rfl, rfl⟩⟩, Below.refl _ _⟩
  have hd : decide ((30000 : Int) < (s.size : Int)) = false := decide_eq_false (by omega)
  obtain ⟨R, hR⟩ : ∃ R, R = tokP s := ⟨_, rfl⟩
  have hR2 := hR
  rw [tokP_short hlong] at hR2
  have hskl := (skip_le false (byt s)).1
  have hsl := skip_lines false (byt s)
  rw [byt_length] at hskl
  have hE : ∀ f l line k, (toks f l line k).2.2 ≠ 0 → (toks f l line k).1 = [] := toks_err
  have HC0 : Hid (comb [] (toks s.size ((byt s).drop (0 + (skipM false ((byt s).drop 0)).1)) (1 + (skipM false ((byt s).drop 0)).2) 0) = R) := by
    show _ = _
    rw [List.drop_zero, Nat.zero_add, hR2]
    exact comb_nil _ (hE _ _ _ _)
  have hk0 : 0 + (skipM false ((byt s).drop 0)).1 ≤ s.size := by rw [List.drop_zero]; omega
  have hl0 : 1 + (skipM false ((byt s).drop 0)).2 ≤ 0 + (skipM false ((byt s).drop 0)).1 + 1 := by rw [List.drop_zero]; omega
  have hs3 : s.size ≤ 30000 := by omega
  have hB0 : Blk (w.alloc (.cells #[.string s, .int .i64 0, .int .i64 1, .slice none 0 0] 37)) w.heap.size 37 #[.string s, .int .i64 0, .int .i64 1, .slice none 0 0] := Blk.new w _ _
  have HBL0 : Hid (Below w.heap.size w (w.alloc (.cells #[.string s, .int .i64 0, .int .i64 1, .slice none 0 0] 37))) := (Below.refl _ _).alloc (Nat.le_refl _) _
  have HQF : Hid (∀ e w', (∃ v, e = .returned (.tuple #[v, .int .i64 R.2.1, .int .i64 R.2.2]) ∧ w'.ownsRow w.heap.size 30 3 v R.1.length (tkV R.1) ∧ Below w.heap.size w w') → TokQ s w e w') := fun e w' h => by rw [hR] at h; exact h
  have HSK := Lib.hid (skip_tok (a := 0) (n0 := 1) hB0 (by omega) hs (by omega))
  clear hR hR2 hE hskl hsl hlong hs hB0
  go_enter Try.func5, Try.ntmps5
  go_wp2_with fail
  refine HSK.out.mono ?_
  rintro e w1 ⟨rfl, hB1, hK1⟩
  obtain ⟨k0, hk0e⟩ : ∃ k, k = 0 + (skipM false ((byt s).drop 0)).1 := ⟨_, rfl⟩
  obtain ⟨n0, hn0e⟩ : ∃ k, k = 1 + (skipM false ((byt s).drop 0)).2 := ⟨_, rfl⟩
  rw [← hk0e, ← hn0e] at HC0 hl0 hB1
  rw [← hk0e] at hk0
  have HB1 := Lib.hid hB1
  have HBL1 := Lib.hid (HBL0.out.trans (hK1.below (by simp)))
  clear hk0e hn0e hB1 hK1 HBL0 HSK
  go_wp2_with fail
  go_loopw [] (fun wr => ∃ (lv : Value) (k n m f : Nat) (acc : List Token), k ≤ s.size ∧ n ≤ k + 1 ∧ m ≤ 4000 ∧ s.size ≤ k + f ∧ Hid (acc.length = m) ∧ Hid (comb acc (toks f ((byt s).drop k) n m) = R) ∧ Hid (Blk wr w.heap.size 37 #[.string s, .int .i64 (k : Nat), .int .i64 (n : Nat), lv]) ∧ Hid (wr.ownsRow (w.heap.size + 1) 30 3 lv m (tkV acc)) ∧ Hid (Below w.heap.size w wr)) (fun wr => s.size - atOf wr w.heap.size)
  case atStart => exact ⟨.slice none 0 0, k0, n0, 0, s.size, [], hk0, hl0, by omega, by omega, Lib.hid rfl, HC0, HB1, Lib.hid ⟨rfl, .inl ⟨rfl, rfl⟩⟩, HBL1⟩
  case round =>
    clear HC0 HB1 HBL1 hk0 hl0
    obtain ⟨v, k, n, m, f, acc, hk, hn, hm, hf, HAL, HC, HB, HO, HBL⟩ := hrel
    obtain ⟨lA, lN, lC, rfl, -, -, -⟩ := (Own.of_own HO.out).form
    have hun : lN = m := by
      rcases HO.out.2 with ⟨he, h0⟩ | ⟨g, cap, cur, he, _⟩
      · injection he with e1 e2 e3; omega
      · injection he with e1 e2 e3
    subst hun
    have hszw := HB.out.lt
    have c0 : wr.cell? ⟨w.heap.size, 0, none⟩ = some (.string s) := HB.out.cell 0
    have c1 : wr.cell? ⟨w.heap.size, 1, none⟩ = some (.int .i64 (k : Nat)) := HB.out.cell 1
    have c2 : wr.cell? ⟨w.heap.size, 2, none⟩ = some (.int .i64 (n : Nat)) := HB.out.cell 2
    have c3 : wr.cell? ⟨w.heap.size, 3, none⟩ = some (.slice lA lN lC) := HB.out.cell 3
    by_cases hlt : k < s.size
    case neg =>
      have hdl : decide ((k : Int) < (s.size : Int)) = false := decide_eq_false (by omega)
      have HF : Hid (R = (acc ++ [endT n], 0, 0)) := by
        have h := HC.out
        rw [drop_byt_end (by omega), toks_nil] at h
        rw [← h]; rfl
      go_upto_region 14 with fail
      refine wp_region_held_drew (S := (fun w' => w'.cell? ⟨w.heap.size, 2, none⟩ = some (.int .i64 (n : Nat)) ∧ w'.cell? ⟨w.heap.size, 3, none⟩ = some (.slice lA lN lC))) (by kernel_rfl) ⟨HB.out.cell 2, HB.out.cell 3⟩ (fun hHeld => ?_)
      refine wpAnyH_take (i := 0) (oi := ?o0_1) (v := ?v0_1) ?h0_1 (by kernel_rfl) (by kernel_rfl) (by kernel_rfl) ?q0_1 (Or.inl ⟨?z0_1, ?y0_1⟩) (by assumption) ?r0_1
      case h0_1 =>
        simp only [List.getElem?_toArray, List.getElem?_cons_succ, List.getElem?_cons_zero]
        rfl
      case q0_1 => exact fun _ _ _ h => h
      case z0_1 => rfl
      case y0_1 =>
        intro w hSw
        try dsimp only at hSw
        go_simp
        try with_reducible rfl
      try simp only [Act.put, List.setIfInBounds_toArray, List.set_cons_zero, List.set_cons_succ]
      refine wpAnyH_take (i := 1) (oi := ?o1_2) (v := ?v1_2) ?h1_2 (by kernel_rfl) (by kernel_rfl) (by kernel_rfl) ?q1_2 (Or.inl ⟨?z1_2, ?y1_2⟩) (by assumption) ?r1_2
      case h1_2 =>
        simp only [List.getElem?_toArray, List.getElem?_cons_succ, List.getElem?_cons_zero]
        rfl
      case q1_2 => exact fun _ _ _ h => h
      case z1_2 => rfl
      case y1_2 =>
        intro w hSw
        try dsimp only at hSw
        go_simp
        try with_reducible rfl
      try simp only [Act.put, List.setIfInBounds_toArray, List.set_cons_zero, List.set_cons_succ]
      refine wpAnyH_take (i := 2) (oi := ?o2_3) (v := ?v2_3) ?h2_3 (by kernel_rfl) (by kernel_rfl) (by kernel_rfl) ?q2_3 (Or.inl ⟨?z2_3, ?y2_3⟩) (by assumption) ?r2_3
      case h2_3 =>
        simp only [List.getElem?_toArray, List.getElem?_cons_succ, List.getElem?_cons_zero]
        rfl
      case q2_3 => exact fun _ _ _ h => h
      case z2_3 => rfl
      case y2_3 =>
        intro w hSw
        try dsimp only at hSw
        go_simp
        try with_reducible rfl
      try simp only [Act.put, List.setIfInBounds_toArray, List.set_cons_zero, List.set_cons_succ]
      refine wpAnyH_take (i := 3) (oi := ?o3_4) (v := ?v3_4) ?h3_4 (by kernel_rfl) (by kernel_rfl) (by kernel_rfl) ?q3_4 (Or.inl ⟨?z3_4, ?y3_4⟩) (by assumption) ?r3_4
      case h3_4 =>
        simp only [List.getElem?_toArray, List.getElem?_cons_succ, List.getElem?_cons_zero]
        rfl
      case q3_4 => exact fun _ _ _ h => h
      case z3_4 => rfl
      case y3_4 =>
        intro w hSw
        try dsimp only at hSw
        go_simp
        try with_reducible rfl
      try simp only [Act.put, List.setIfInBounds_toArray, List.set_cons_zero, List.set_cons_succ]
      refine wpAnyH_take (i := 4) (oi := ?o4_5) (v := ?v4_5) ?h4_5 (by kernel_rfl) (by kernel_rfl) (by kernel_rfl) ?q4_5 (Or.inl ⟨?z4_5, ?y4_5⟩) (by assumption) ?r4_5
      case h4_5 =>
        simp only [List.getElem?_toArray, List.getElem?_cons_succ, List.getElem?_cons_zero]
        rfl
      case q4_5 => exact fun _ _ _ h => h
      case z4_5 => rfl
      case y4_5 =>
        intro w hSw
        try dsimp only at hSw
        go_simp
        try with_reducible rfl
      try simp only [Act.put, List.setIfInBounds_toArray, List.set_cons_zero, List.set_cons_succ]
      refine wpAnyH_take (i := 5) (oi := ?o5_6) (v := ?v5_6) ?h5_6 (by kernel_rfl) (by kernel_rfl) (by kernel_rfl) ?q5_6 (Or.inl ⟨?z5_6, ?y5_6⟩) (by assumption) ?r5_6
      case h5_6 =>
        simp only [List.getElem?_toArray, List.getElem?_cons_succ, List.getElem?_cons_zero]
        rfl
      case q5_6 => exact fun _ _ _ h => h
      case z5_6 => rfl
      case y5_6 =>
        intro w hSw
        try dsimp only at hSw
        go_simp
        try with_reducible rfl
      try simp only [Act.put, List.setIfInBounds_toArray, List.set_cons_zero, List.set_cons_succ]
      refine wpAnyH_take (i := 6) (oi := ?o6_7) (v := ?v6_7) ?h6_7 (by kernel_rfl) (by kernel_rfl) (by kernel_rfl) ?q6_7 (Or.inl ⟨?z6_7, ?y6_7⟩) (by assumption) ?r6_7
      case h6_7 =>
        simp only [List.getElem?_toArray, List.getElem?_cons_succ, List.getElem?_cons_zero]
        rfl
      case q6_7 => exact fun _ _ _ h => h
      case z6_7 => rfl
      case y6_7 =>
        intro w hSw
        try dsimp only at hSw
        go_simp
        try with_reducible rfl
      try simp only [Act.put, List.setIfInBounds_toArray, List.set_cons_zero, List.set_cons_succ]
      refine wpAnyH_take (i := 7) (oi := ?o7_8) (v := ?v7_8) ?h7_8 (by kernel_rfl) (by kernel_rfl) (by kernel_rfl) ?q7_8 (Or.inl ⟨?z7_8, ?y7_8⟩) (by assumption) ?r7_8
      case h7_8 =>
        simp only [List.getElem?_toArray, List.getElem?_cons_succ, List.getElem?_cons_zero]
        rfl
      case q7_8 => exact fun _ _ _ h => h
      case z7_8 => rfl
      case y7_8 =>
        intro w hSw
        try dsimp only at hSw
        go_simp
        try with_reducible rfl
      try simp only [Act.put, List.setIfInBounds_toArray, List.set_cons_zero, List.set_cons_succ]
      refine wpAnyH_take (i := 8) (oi := ?o8_9) (v := ?v8_9) ?h8_9 (by kernel_rfl) (by kernel_rfl) (by kernel_rfl) ?q8_9 (Or.inl ⟨?z8_9, ?y8_9⟩) (by assumption) ?r8_9
      case h8_9 =>
        simp only [List.getElem?_toArray, List.getElem?_cons_succ, List.getElem?_cons_zero]
        rfl
      case q8_9 => exact fun _ _ _ h => h
      case z8_9 => rfl
      case y8_9 =>
        intro w hSw
        try dsimp only at hSw
        go_simp
        try with_reducible rfl
      try simp only [Act.put, List.setIfInBounds_toArray, List.set_cons_zero, List.set_cons_succ]
      refine wpAnyH_ready (rs := [9]) (by kernel_rfl) (by simp) ?_
      refine AllReadyH.cons (o := ?o9_10) ?h9_10 (fun K hK => ?k9_10) AllReadyH.nil
      case h9_10 =>
        simp only [List.getElem?_toArray, List.getElem?_cons_succ, List.getElem?_cons_zero]
        rfl
      go_simp
      refine hK.out _ _ (by first | exact ⟨((show Blk wr.drew w.heap.size _ _ from HB.out).alloc _).cell 2, ((show Blk wr.drew w.heap.size _ _ from HB.out).alloc _).cell 3⟩ | go_keep) (fun hHeld10 => ?_)
      clear hK K
      try simp only [Act.put, List.setIfInBounds_toArray, List.set_cons_zero, List.set_cons_succ]
      refine wpAnyH_ready (rs := [10]) (by kernel_rfl) (by simp) ?_
      refine AllReadyH.cons (o := ?o10_11) ?h10_11 (fun K hK => ?k10_11) AllReadyH.nil
      case h10_11 =>
        simp only [List.getElem?_toArray, List.getElem?_cons_succ, List.getElem?_cons_zero]
        rfl
      have hs1 : (wr.drew.alloc (.cells #[.int .i64 4, .string ⟨#[]⟩, .int .i64 (n : Int)] 30)).ownsRow (w.heap.size + 1) 30 3 (.slice lA lN lC) lN (tkV acc) := (show wr.drew.ownsRow (w.heap.size + 1) 30 3 (.slice lA lN lC) lN (tkV acc) from HO.out).alloc _
      have HSC : Hid (SrcOk (wr.drew.alloc (.cells #[.int .i64 4, .string ⟨#[]⟩, .int .i64 (n : Int)] 30)) (.slice (some ⟨wr.heap.size, 0, none⟩) 1 1) 3 1 (tkV [endT n])) := .inr ⟨⟨wr.heap.size, 0, none⟩, 1, rfl, rfl, news_tk wr.drew (endT n)⟩
      have hB2 : Below w.heap.size w (wr.drew.alloc (.cells #[.int .i64 4, .string ⟨#[]⟩, .int .i64 (n : Int)] 30)) := (show Below w.heap.size w wr.drew from HBL.out.drew).alloc (show w.heap.size ≤ wr.heap.size by omega) _
      refine step_append_src (by rfl) _ _ 24 (by rfl) (w.heap.size + 1) 30 i0 (.agg #[.int .i64 0, .string ⟨#[]⟩, .int .i64 0]) 3 32 Try.underlying24 hi hy0 hy1 hy2 rfl (by decide) (.slice lA lN lC) lN (tkV acc) (by rfl) hs1 (.slice (some ⟨wr.heap.size, 0, none⟩) 1 1) 1 (tkV [endT n]) (by rfl) HSC.out (one_tk _) (by simp only [maxLen]; omega) (by omega) (by have := HB.out.lt; first | omega | (simp; omega)) ?_
      intro v' w3 hown' hgrow hor
      have hB3 := Lib.hid (hB2.grown hgrow hB2.size (fun g hg => by have := (hs1.lt g hg).1; omega))
      have hb3 : Blk w3 w.heap.size 37 #[.string s, .int .i64 (k : Nat), .int .i64 (n : Nat), .slice lA lN lC] := (hgrow.block _ (by have := HB.out.lt; first | omega | (simp; omega)) (fun e => by have := (hs1.lt _ e.symm).1; omega)).trans ((show Blk wr.drew w.heap.size _ _ from HB.out).alloc _)
      refine hK.out _ _ (by first | exact ⟨hb3.cell 2, hb3.cell 3⟩ | go_keep) (fun hHeld11 => ?_)
      clear hK K
      try simp only [Act.put, List.setIfInBounds_toArray, List.set_cons_zero, List.set_cons_succ]
      refine wpAnyH_take (i := 11) (oi := ?o11_12) (v := ?v11_12) ?h11_12 (by kernel_rfl) (by kernel_rfl) (by kernel_rfl) ?q11_12 (Or.inl ⟨?z11_12, ?y11_12⟩) (by assumption) ?r11_12
      case h11_12 =>
        simp only [List.getElem?_toArray, List.getElem?_cons_succ, List.getElem?_cons_zero]
        rfl
      case q11_12 => exact fun _ _ _ h => h
      case z11_12 => rfl
      case y11_12 =>
        intro w hSw
        try dsimp only at hSw
        go_simp
        try with_reducible rfl
      try simp only [Act.put, List.setIfInBounds_toArray, List.set_cons_zero, List.set_cons_succ]
      refine wpAnyH_take (i := 12) (oi := ?o12_13) (v := ?v12_13) ?h12_13 (by kernel_rfl) (by kernel_rfl) (by kernel_rfl) ?q12_13 (Or.inl ⟨?z12_13, ?y12_13⟩) (by assumption) ?r12_13
      case h12_13 =>
        simp only [List.getElem?_toArray, List.getElem?_cons_succ, List.getElem?_cons_zero]
        rfl
      case q12_13 => exact fun _ _ _ h => h
      case z12_13 => rfl
      case y12_13 =>
        intro w hSw
        try dsimp only at hSw
        go_simp
        try with_reducible rfl
      try simp only [Act.put, List.setIfInBounds_toArray, List.set_cons_zero, List.set_cons_succ]
      refine wpAnyH_take (i := 13) (oi := ?o13_14) (v := ?v13_14) ?h13_14 (by kernel_rfl) (by kernel_rfl) (by kernel_rfl) ?q13_14 (Or.inl ⟨?z13_14, ?y13_14⟩) (by assumption) ?r13_14
      case h13_14 =>
        simp only [List.getElem?_toArray, List.getElem?_cons_succ, List.getElem?_cons_zero]
        rfl
      case q13_14 => exact fun _ _ _ h => h
      case z13_14 => rfl
      case y13_14 =>
        intro w hSw
        try dsimp only at hSw
        go_simp
        try with_reducible rfl
      try simp only [Act.put, List.setIfInBounds_toArray, List.set_cons_zero, List.set_cons_succ]
      refine wpAnyH_done (by kernel_rfl) ?_ _
      go_wp2_with fail
      go_ret3
      refine HQF.out _ _ ⟨v', by rw [HF.out]; rfl, ?_, hB3.out⟩
      rw [HF.out, tkV_append, List.length_append, List.length_singleton, HAL.out]
      exact owns_mn hown' (Nat.le_succ _)
    have hdl : decide ((k : Int) < (s.size : Int)) = true := decide_eq_true (by omega)
    obtain ⟨f, rfl⟩ : ∃ g, f = g + 1 := ⟨f - 1, by omega⟩
    have hrest := drop_byt hlt
    have HR := Lib.hid hrest
    clear hrest
    go_wp2_with fail
    refine (next_tok HB.out hlt (by omega)).mono ?_
    rintro e w1 ⟨rfl, q, hq⟩
    have HB1 : Hid (Blk w1 w.heap.size 37 #[.string s, .int .i64 (k : Nat), .int .i64 (n : Nat), .slice lA lN lC]) := by show Blk _ _ _ _; rw [hq]; exact HB.out
    have HO1 : Hid (w1.ownsRow (w.heap.size + 1) 30 3 (.slice lA lN lC) lN (tkV acc)) := by show World.ownsRow _ _ _ _ _ _ _; rw [hq]; exact HO.out
    have HBL1 : Hid (Below w.heap.size w w1) := by show Below _ _ _; rw [hq]; exact below_dr HBL.out _
    have HB0 := HB
    clear hq HO HBL c0 c1 c2 c3
    have c0 : w1.cell? ⟨w.heap.size, 0, none⟩ = some (.string s) := HB1.out.cell 0
    have c1 : w1.cell? ⟨w.heap.size, 1, none⟩ = some (.int .i64 (k : Nat)) := HB1.out.cell 1
    have c2 : w1.cell? ⟨w.heap.size, 2, none⟩ = some (.int .i64 (n : Nat)) := HB1.out.cell 2
    have c3 : w1.cell? ⟨w.heap.size, 3, none⟩ = some (.slice lA lN lC) := HB1.out.cell 3
    cases hlx : lexN ((byt s).drop k) with
    | none =>
      rw [nextV_none hlx]
      have HF : Hid (R = ([], (n : Int), 6)) := by
        have h := HC.out
        rw [HR.out, toks_none (by rw [← HR.out]; exact hlx)] at h
        rw [← h]; rfl
      clear hlx
      go_wp2_with fail
      go_quiet (fail)
      go_wp2_with fail
      go_ret3
      exact HQF.out _ _ ⟨.slice none 0 0, by rw [HF.out]; rfl, by rw [HF.out]; exact ⟨rfl, .inl ⟨rfl, rfl⟩⟩, below_dr HBL1.out _⟩
    | some p =>
      obtain ⟨kd, n1⟩ := p
      have hkd : (kd == 0) = false := by have := hlx; rw [HR.out] at this; exact lex_kd this
      rw [nextV_some hlx]
      obtain ⟨hn1, hn2⟩ := lex_rng hlx
      rw [List.length_drop, byt_length] at hn2
      obtain ⟨E, hE⟩ : ∃ E, E = k + n1 := ⟨_, rfl⟩
      rw [← hE]
      by_cases hfull : lN = 4000
      case pos =>
        subst hfull
        have HF : Hid (R = ([], (n : Int), 4)) := by
          have h := HC.out
          rw [HR.out, toks_full (by rw [← HR.out]; exact hlx)] at h
          rw [← h]; rfl
        clear hlx
        go_wp2_with fail
        go_quiet (fail)
        go_wp2_with fail
        go_ret3
        exact HQF.out _ _ ⟨.slice none 0 0, by rw [HF.out]; rfl, by rw [HF.out]; exact ⟨rfl, .inl ⟨rfl, rfl⟩⟩, below_dr HBL1.out _⟩
      have hfl : ((lN : Int) == 4000) = false := by simp; omega
      obtain ⟨T, hT⟩ : ∃ T : ByteArray, T = s.extract k E := ⟨_, rfl⟩
      have HC2 : Hid (comb (acc ++ [⟨kd, T, n⟩]) (toks f ((byt s).drop (E + (skipM false ((byt s).drop E)).1)) (n + (skipM false ((byt s).drop E)).2) (lN + 1)) = R) := by
        have h := HC.out
        have hdd : ((byt s).drop k).drop n1 = (byt s).drop E := by rw [List.drop_drop, ← hE]
        have hTT : T = strOfNums (((byt s).drop k).take n1) := by rw [hT, hE]; exact ext_take
        rw [HR.out, toks_step acc (by rw [← HR.out]; exact hlx) hfull, ← HR.out, hdd, List.drop_drop, ← hTT] at h
        exact h
      have hskE := (skip_le false ((byt s).drop E)).1
      have hslE := skip_lines false ((byt s).drop E)
      rw [List.length_drop, byt_length] at hskE
      have hEk : k + 1 ≤ E ∧ E ≤ s.size := by omega
      have hm2 : lN + 1 ≤ 4000 := by omega
      have HT := Lib.hid hT
      have hke : (k : Int) ≤ (E : Int) := by omega
      have hes : (E : Int) ≤ (s.size : Int) := by omega
      have hk0 : (0 : Int) ≤ (k : Int) := by omega
      clear hlx hE hn1 hn2 hfull hT
      go_upto_region 12 with fail
      refine wp_region_held_drew (S := (fun w' => w'.cell? ⟨w.heap.size, 1, none⟩ = some (.int .i64 (k : Nat)) ∧ w'.cell? ⟨w.heap.size, 2, none⟩ = some (.int .i64 (n : Nat)))) (by kernel_rfl) ⟨HB1.out.cell 1, HB1.out.cell 2⟩ (fun hHeld => ?_)
      refine wpAnyH_take (i := 0) (oi := ?o0_15) (v := ?v0_15) ?h0_15 (by kernel_rfl) (by kernel_rfl) (by kernel_rfl) ?q0_15 (Or.inl ⟨?z0_15, ?y0_15⟩) (by assumption) ?r0_15
      case h0_15 =>
        simp only [List.getElem?_toArray, List.getElem?_cons_succ, List.getElem?_cons_zero]
        rfl
      case q0_15 => exact fun _ _ _ h => h
      case z0_15 => rfl
      case y0_15 =>
        intro w hSw
        try dsimp only at hSw
        go_simp
        try with_reducible rfl
      try simp only [Act.put, List.setIfInBounds_toArray, List.set_cons_zero, List.set_cons_succ]
      refine wpAnyH_take (i := 1) (oi := ?o1_16) (v := ?v1_16) ?h1_16 (by kernel_rfl) (by kernel_rfl) (by kernel_rfl) ?q1_16 (Or.inl ⟨?z1_16, ?y1_16⟩) (by assumption) ?r1_16
      case h1_16 =>
        simp only [List.getElem?_toArray, List.getElem?_cons_succ, List.getElem?_cons_zero]
        rfl
      case q1_16 => exact fun _ _ _ h => h
      case z1_16 => rfl
      case y1_16 =>
        intro w hSw
        try dsimp only at hSw
        go_simp
        try with_reducible rfl
      try simp only [Act.put, List.setIfInBounds_toArray, List.set_cons_zero, List.set_cons_succ]
      refine wpAnyH_take (i := 2) (oi := ?o2_17) (v := ?v2_17) ?h2_17 (by kernel_rfl) (by kernel_rfl) (by kernel_rfl) ?q2_17 (Or.inl ⟨?z2_17, ?y2_17⟩) (by assumption) ?r2_17
      case h2_17 =>
        simp only [List.getElem?_toArray, List.getElem?_cons_succ, List.getElem?_cons_zero]
        rfl
      case q2_17 => exact fun _ _ _ h => h
      case z2_17 => rfl
      case y2_17 =>
        intro w hSw
        try dsimp only at hSw
        go_simp
        try with_reducible rfl
      try simp only [Act.put, List.setIfInBounds_toArray, List.set_cons_zero, List.set_cons_succ]
      refine wpAnyH_take (i := 3) (oi := ?o3_18) (v := ?v3_18) ?h3_18 (by kernel_rfl) (by kernel_rfl) (by kernel_rfl) ?q3_18 (Or.inl ⟨?z3_18, ?y3_18⟩) (by assumption) ?r3_18
      case h3_18 =>
        simp only [List.getElem?_toArray, List.getElem?_cons_succ, List.getElem?_cons_zero]
        rfl
      case q3_18 => exact fun _ _ _ h => h
      case z3_18 => rfl
      case y3_18 =>
        intro w hSw
        try dsimp only at hSw
        go_simp
        try with_reducible rfl
      try simp only [Act.put, List.setIfInBounds_toArray, List.set_cons_zero, List.set_cons_succ]
      refine wpAnyH_take (i := 5) (oi := ?o5_19) (v := ?v5_19) ?h5_19 (by kernel_rfl) (by kernel_rfl) (by kernel_rfl) ?q5_19 (Or.inl ⟨?z5_19, ?y5_19⟩) (by assumption) ?r5_19
      case h5_19 =>
        simp only [List.getElem?_toArray, List.getElem?_cons_succ, List.getElem?_cons_zero]
        rfl
      case q5_19 => exact fun _ _ _ h => h
      case z5_19 => rfl
      case y5_19 =>
        intro w hSw
        try dsimp only at hSw
        go_simp
        try with_reducible rfl
      try simp only [Act.put, List.setIfInBounds_toArray, List.set_cons_zero, List.set_cons_succ]
      refine wpAnyH_take (i := 6) (oi := ?o6_20) (v := ?v6_20) ?h6_20 (by kernel_rfl) (by kernel_rfl) (by kernel_rfl) ?q6_20 (Or.inl ⟨?z6_20, ?y6_20⟩) (by assumption) ?r6_20
      case h6_20 =>
        simp only [List.getElem?_toArray, List.getElem?_cons_succ, List.getElem?_cons_zero]
        rfl
      case q6_20 => exact fun _ _ _ h => h
      case z6_20 => rfl
      case y6_20 =>
        intro w hSw
        try dsimp only at hSw
        go_simp
        try with_reducible rfl
      try simp only [Act.put, List.setIfInBounds_toArray, List.set_cons_zero, List.set_cons_succ]
      refine wpAnyH_take (i := 7) (oi := ?o7_21) (v := ?v7_21) ?h7_21 (by kernel_rfl) (by kernel_rfl) (by kernel_rfl) ?q7_21 (Or.inl ⟨?z7_21, ?y7_21⟩) (by assumption) ?r7_21
      case h7_21 =>
        simp only [List.getElem?_toArray, List.getElem?_cons_succ, List.getElem?_cons_zero]
        rfl
      case q7_21 => exact fun _ _ _ h => h
      case z7_21 => rfl
      case y7_21 =>
        intro w hSw
        try dsimp only at hSw
        go_simp
        try with_reducible rfl
      try simp only [Act.put, List.setIfInBounds_toArray, List.set_cons_zero, List.set_cons_succ]
      refine wpAnyH_take (i := 8) (oi := ?o8_22) (v := ?v8_22) ?h8_22 (by kernel_rfl) (by kernel_rfl) (by kernel_rfl) ?q8_22 (Or.inl ⟨?z8_22, ?y8_22⟩) (by assumption) ?r8_22
      case h8_22 =>
        simp only [List.getElem?_toArray, List.getElem?_cons_succ, List.getElem?_cons_zero]
        rfl
      case q8_22 => exact fun _ _ _ h => h
      case z8_22 => rfl
      case y8_22 =>
        intro w hSw
        try dsimp only at hSw
        go_simp
        try with_reducible rfl
      try simp only [Act.put, List.setIfInBounds_toArray, List.set_cons_zero, List.set_cons_succ]
      refine wpAnyH_take (i := 9) (oi := ?o9_23) (v := ?v9_23) ?h9_23 (by kernel_rfl) (by kernel_rfl) (by kernel_rfl) ?q9_23 (Or.inl ⟨?z9_23, ?y9_23⟩) (by assumption) ?r9_23
      case h9_23 =>
        simp only [List.getElem?_toArray, List.getElem?_cons_succ, List.getElem?_cons_zero]
        rfl
      case q9_23 => exact fun _ _ _ h => h
      case z9_23 => rfl
      case y9_23 =>
        intro w hSw
        try dsimp only at hSw
        go_simp
        try with_reducible rfl
      try simp only [Act.put, List.setIfInBounds_toArray, List.set_cons_zero, List.set_cons_succ]
      refine wpAnyH_take (i := 10) (oi := ?o10_24) (v := ?v10_24) ?h10_24 (by kernel_rfl) (by kernel_rfl) (by kernel_rfl) ?q10_24 (Or.inl ⟨?z10_24, ?y10_24⟩) (by assumption) ?r10_24
      case h10_24 =>
        simp only [List.getElem?_toArray, List.getElem?_cons_succ, List.getElem?_cons_zero]
        rfl
      case q10_24 => exact fun _ _ _ h => h
      case z10_24 => rfl
      case y10_24 =>
        intro w hSw
        try dsimp only at hSw
        go_simp
        try with_reducible rfl
      try simp only [Act.put, List.setIfInBounds_toArray, List.set_cons_zero, List.set_cons_succ]
      refine wpAnyH_take (i := 11) (oi := ?o11_25) (v := ?v11_25) ?h11_25 (by kernel_rfl) (by kernel_rfl) (by kernel_rfl) ?q11_25 (Or.inl ⟨?z11_25, ?y11_25⟩) (by assumption) ?r11_25
      case h11_25 =>
        simp only [List.getElem?_toArray, List.getElem?_cons_succ, List.getElem?_cons_zero]
        rfl
      case q11_25 => exact fun _ _ _ h => h
      case z11_25 => rfl
      case y11_25 =>
        intro w hSw
        try dsimp only at hSw
        go_simp
        try with_reducible rfl
      try simp only [Act.put, List.setIfInBounds_toArray, List.set_cons_zero, List.set_cons_succ]
      refine wpAnyH_take (i := 12) (oi := ?o12_26) (v := ?v12_26) ?h12_26 (by kernel_rfl) (by kernel_rfl) (by kernel_rfl) ?q12_26 (Or.inl ⟨?z12_26, ?y12_26⟩) (by assumption) ?r12_26
      case h12_26 =>
        simp only [List.getElem?_toArray, List.getElem?_cons_succ, List.getElem?_cons_zero]
        rfl
      case q12_26 => exact fun _ _ _ h => h
      case z12_26 => rfl
      case y12_26 =>
        intro w hSw
        try dsimp only at hSw
        go_simp
        try with_reducible rfl
      try simp only [Act.put, List.setIfInBounds_toArray, List.set_cons_zero, List.set_cons_succ]
      refine wpAnyH_take (i := 13) (oi := ?o13_27) (v := ?v13_27) ?h13_27 (by kernel_rfl) (by kernel_rfl) (by kernel_rfl) ?q13_27 (Or.inl ⟨?z13_27, ?y13_27⟩) (by assumption) ?r13_27
      case h13_27 =>
        simp only [List.getElem?_toArray, List.getElem?_cons_succ, List.getElem?_cons_zero]
        rfl
      case q13_27 => exact fun _ _ _ h => h
      case z13_27 => rfl
      case y13_27 =>
        intro w hSw
        try dsimp only at hSw
        go_simp
        try with_reducible rfl
      try simp only [Act.put, List.setIfInBounds_toArray, List.set_cons_zero, List.set_cons_succ]
      refine wpAnyH_take (i := 14) (oi := ?o14_28) (v := ?v14_28) ?h14_28 (by kernel_rfl) (by kernel_rfl) (by kernel_rfl) ?q14_28 (Or.inl ⟨?z14_28, ?y14_28⟩) (by assumption) ?r14_28
      case h14_28 =>
        simp only [List.getElem?_toArray, List.getElem?_cons_succ, List.getElem?_cons_zero]
        rfl
      case q14_28 => exact fun _ _ _ h => h
      case z14_28 => rfl
      case y14_28 =>
        intro w hSw
        try dsimp only at hSw
        go_simp
        try with_reducible rfl
      try simp only [Act.put, List.setIfInBounds_toArray, List.set_cons_zero, List.set_cons_succ]
      refine wpAnyH_take (i := 15) (oi := ?o15_29) (v := ?v15_29) ?h15_29 (by kernel_rfl) (by kernel_rfl) (by kernel_rfl) ?q15_29 (Or.inl ⟨?z15_29, ?y15_29⟩) (by assumption) ?r15_29
      case h15_29 =>
        simp only [List.getElem?_toArray, List.getElem?_cons_succ, List.getElem?_cons_zero]
        rfl
      case q15_29 => exact fun _ _ _ h => h
      case z15_29 => rfl
      case y15_29 =>
        intro w hSw
        try dsimp only at hSw
        go_simp
        try with_reducible rfl
      try simp only [Act.put, List.setIfInBounds_toArray, List.set_cons_zero, List.set_cons_succ]
      refine wpAnyH_take (i := 16) (oi := ?o16_30) (v := ?v16_30) ?h16_30 (by kernel_rfl) (by kernel_rfl) (by kernel_rfl) ?q16_30 (Or.inl ⟨?z16_30, ?y16_30⟩) (by assumption) ?r16_30
      case h16_30 =>
        simp only [List.getElem?_toArray, List.getElem?_cons_succ, List.getElem?_cons_zero]
        rfl
      case q16_30 => exact fun _ _ _ h => h
      case z16_30 => rfl
      case y16_30 =>
        intro w hSw
        try dsimp only at hSw
        go_simp
        try with_reducible rfl
      try simp only [Act.put, List.setIfInBounds_toArray, List.set_cons_zero, List.set_cons_succ]
      refine wpAnyH_take (i := 17) (oi := ?o17_31) (v := ?v17_31) ?h17_31 (by kernel_rfl) (by kernel_rfl) (by kernel_rfl) ?q17_31 (Or.inl ⟨?z17_31, ?y17_31⟩) (by assumption) ?r17_31
      case h17_31 =>
        simp only [List.getElem?_toArray, List.getElem?_cons_succ, List.getElem?_cons_zero]
        rfl
      case q17_31 => exact fun _ _ _ h => h
      case z17_31 => rfl
      case y17_31 =>
        intro w hSw
        try dsimp only at hSw
        go_simp
        try with_reducible rfl
      try simp only [Act.put, List.setIfInBounds_toArray, List.set_cons_zero, List.set_cons_succ]
      refine wpAnyH_ready (rs := [4, 18]) (by kernel_rfl) (by simp) ?_
      refine AllReadyH.cons (o := ?o4_32) ?h4_32 (fun K hK => ?k4_32) (AllReadyH.cons (o := ?o18_32) ?h18_32 (fun K hK => ?k18_32) AllReadyH.nil)
      case h4_32 =>
        simp only [List.getElem?_toArray, List.getElem?_cons_succ, List.getElem?_cons_zero]
        rfl
      case h18_32 =>
        simp only [List.getElem?_toArray, List.getElem?_cons_succ, List.getElem?_cons_zero]
        rfl
      case k4_32 =>
        go_simp
        refine hK.out _ _ (by first | exact ⟨(show Blk w1.drew w.heap.size _ _ from HB1.out).cell 1, (show Blk w1.drew w.heap.size _ _ from HB1.out).cell 2⟩ | go_keep) (fun hHeld32 => ?_)
        clear hK K
        try simp only [Act.put, List.setIfInBounds_toArray, List.set_cons_zero, List.set_cons_succ]
        refine wpAnyH_ready (rs := [18]) (by kernel_rfl) (by simp) ?_
        refine AllReadyH.cons (o := ?o18_33) ?h18_33 (fun K hK => ?k18_33) AllReadyH.nil
        case h18_33 =>
          simp only [List.getElem?_toArray, List.getElem?_cons_succ, List.getElem?_cons_zero]
          rfl
        go_simp
        refine hK.out _ _ (by first | exact ⟨((show Blk w1.drew w.heap.size _ _ from HB1.out).alloc _).cell 1, ((show Blk w1.drew w.heap.size _ _ from HB1.out).alloc _).cell 2⟩ | go_keep) (fun hHeld33 => ?_)
        clear hK K
        try simp only [Act.put, List.setIfInBounds_toArray, List.set_cons_zero, List.set_cons_succ]
        refine wpAnyH_ready (rs := [19]) (by kernel_rfl) (by simp) ?_
        refine AllReadyH.cons (o := ?o19_34) ?h19_34 (fun K hK => ?k19_34) AllReadyH.nil
        case h19_34 =>
          simp only [List.getElem?_toArray, List.getElem?_cons_succ, List.getElem?_cons_zero]
          rfl
        have hs1 : (w1.drew.alloc (.cells #[.int .i64 kd, .string (s.extract k E), .int .i64 (n : Int)] 30)).ownsRow (w.heap.size + 1) 30 3 (.slice lA lN lC) lN (tkV acc) := (show w1.drew.ownsRow (w.heap.size + 1) 30 3 (.slice lA lN lC) lN (tkV acc) from HO1.out).alloc _
        have HSC : Hid (SrcOk (w1.drew.alloc (.cells #[.int .i64 kd, .string (s.extract k E), .int .i64 (n : Int)] 30)) (.slice (some ⟨w1.heap.size, 0, none⟩) 1 1) 3 1 (tkV [⟨kd, s.extract k E, n⟩])) := .inr ⟨⟨w1.heap.size, 0, none⟩, 1, rfl, rfl, news_tk w1.drew ⟨kd, s.extract k E, n⟩⟩
        have hB2 : Below w.heap.size w (w1.drew.alloc (.cells #[.int .i64 kd, .string (s.extract k E), .int .i64 (n : Int)] 30)) := (show Below w.heap.size w w1.drew from HBL1.out.drew).alloc (show w.heap.size ≤ w1.heap.size by have := HB1.out.lt; omega) _
        refine step_append_src (by rfl) _ _ 24 (by rfl) (w.heap.size + 1) 30 i0 (.agg #[.int .i64 0, .string ⟨#[]⟩, .int .i64 0]) 3 32 Try.underlying24 hi hy0 hy1 hy2 rfl (by decide) (.slice lA lN lC) lN (tkV acc) (by rfl) hs1 (.slice (some ⟨w1.heap.size, 0, none⟩) 1 1) 1 (tkV [⟨kd, s.extract k E, n⟩]) (by rfl) HSC.out (one_tk _) (by simp only [maxLen]; omega) (by omega) (by have := HB1.out.lt; first | omega | (simp; omega)) ?_
        intro v' w3 hown' hgrow hor
        obtain ⟨gA, gN, gC, rfl, -, -, -⟩ := (Own.of_own hown').form
        have HBL3 := Lib.hid (hB2.grown hgrow hB2.size (fun g hg => by have := (hs1.lt g hg).1; omega))
        have HB3 : Hid (Blk w3 w.heap.size 37 #[.string s, .int .i64 (k : Nat), .int .i64 (n : Nat), .slice lA lN lC]) := (hgrow.block _ (by have := HB1.out.lt; first | omega | (simp; omega)) (fun e => by have := (hs1.lt _ e.symm).1; omega)).trans ((show Blk w1.drew w.heap.size _ _ from HB1.out).alloc _)
        have f3 := HB3.out.frozen 3
        have c3' : w3.cell? ⟨w.heap.size, 3, none⟩ = some (.slice lA lN lC) := HB3.out.cell 3
        have HO3 := Lib.hid hown'
        clear hown' hgrow hor hB2 HSC
        refine hK.out _ _ (by first | exact ⟨HB3.out.cell 1, HB3.out.cell 2⟩ | go_keep) (fun hHeld34 => ?_)
        clear hK K
        try simp only [Act.put, List.setIfInBounds_toArray, List.set_cons_zero, List.set_cons_succ]
        refine wpAnyH_take (i := 20) (oi := ?o20_35) (v := ?v20_35) ?h20_35 (by kernel_rfl) (by kernel_rfl) (by kernel_rfl) ?q20_35 (Or.inl ⟨?z20_35, ?y20_35⟩) (by assumption) ?r20_35
        case h20_35 =>
          simp only [List.getElem?_toArray, List.getElem?_cons_succ, List.getElem?_cons_zero]
          rfl
        case q20_35 => exact fun _ _ _ h => h
        case z20_35 => rfl
        case y20_35 =>
          intro w hSw
          try dsimp only at hSw
          go_simp
          try with_reducible rfl
        try simp only [Act.put, List.setIfInBounds_toArray, List.set_cons_zero, List.set_cons_succ]
        refine wpAnyH_take (i := 21) (oi := ?o21_36) (v := ?v21_36) ?h21_36 (by kernel_rfl) (by kernel_rfl) (by kernel_rfl) ?q21_36 (Or.inl ⟨?z21_36, ?y21_36⟩) (by assumption) ?r21_36
        case h21_36 =>
          simp only [List.getElem?_toArray, List.getElem?_cons_succ, List.getElem?_cons_zero]
          rfl
        case q21_36 => exact fun _ _ _ h => h
        case z21_36 => rfl
        case y21_36 =>
          intro w hSw
          try dsimp only at hSw
          go_simp
          try with_reducible rfl
        try simp only [Act.put, List.setIfInBounds_toArray, List.set_cons_zero, List.set_cons_succ]
        refine wpAnyH_ready (rs := [22]) (by kernel_rfl) (by simp) ?_
        refine AllReadyH.cons (o := ?o22_37) ?h22_37 (fun K hK => ?k22_37) AllReadyH.nil
        case h22_37 =>
          simp only [List.getElem?_toArray, List.getElem?_cons_succ, List.getElem?_cons_zero]
          rfl
        go_simp
        refine hK.out _ _ (by first | exact ⟨((show Blk (w3.setCell ⟨w.heap.size, 3, none⟩ (.slice gA gN gC)) w.heap.size _ _ from HB3.out.set_ 3 (.slice gA gN gC))).cell 1, ((show Blk (w3.setCell ⟨w.heap.size, 3, none⟩ (.slice gA gN gC)) w.heap.size _ _ from HB3.out.set_ 3 (.slice gA gN gC))).cell 2⟩ | go_keep) (fun hHeld37 => ?_)
        clear hK K
        try simp only [Act.put, List.setIfInBounds_toArray, List.set_cons_zero, List.set_cons_succ]
        refine wpAnyH_done (by kernel_rfl) ?_ _
        have HB9 : Hid (Blk (w3.setCell ⟨w.heap.size, 3, none⟩ (.slice gA gN gC)) w.heap.size 37 #[.string s, .int .i64 (k : Nat), .int .i64 (n : Nat), .slice gA gN gC]) := by
          show Blk _ _ _ _
          have := HB3.out.set_ 3 (.slice gA gN gC)
          simpa using this
        have HB10 : Hid (Blk ((w3.setCell ⟨w.heap.size, 3, none⟩ (.slice gA gN gC)).setCell ⟨w.heap.size, 1, none⟩ (.int .i64 ((E : Nat) : Int))) w.heap.size 37 #[.string s, .int .i64 (E : Nat), .int .i64 (n : Nat), .slice gA gN gC]) := by
          show Blk _ _ _ _
          have := HB9.out.set_ 1 (.int .i64 ((E : Nat) : Int))
          simpa using this
        have hK : Keep w.heap.size (w.heap.size + 1) w3 ((w3.setCell ⟨w.heap.size, 3, none⟩ (.slice gA gN gC)).setCell ⟨w.heap.size, 1, none⟩ (.int .i64 ((E : Nat) : Int))) := ((Keep.refl _ _ _).setCell (p := ⟨w.heap.size, 3, none⟩) (Nat.le_refl _) (Nat.lt_succ_self _) _).setCell (p := ⟨w.heap.size, 1, none⟩) (Nat.le_refl _) (Nat.lt_succ_self _) _
        have HO10 := Lib.hid (owns_kp HO3.out hK (Nat.le_refl _))
        have HBL10 := Lib.hid (HBL3.out.trans (hK.below (by have := HB3.out.lt; omega)))
        clear hK
        have f1 := HB9.out.frozen 1
        have c1' : (w3.setCell ⟨w.heap.size, 3, none⟩ (.slice gA gN gC)).cell? ⟨w.heap.size, 1, none⟩ = some (.int .i64 (k : Nat)) := HB9.out.cell 1
        go_wp2_with fail
        refine (skip_tok HB10.out hEk.2 (by omega) (by omega)).mono ?_
        rintro e w4 ⟨rfl, hB4, hK4⟩
        obtain ⟨k2, hk2⟩ : ∃ k2, k2 = E + (skipM false ((byt s).drop E)).1 := ⟨_, rfl⟩
        obtain ⟨n2, hn2⟩ : ∃ k2, k2 = n + (skipM false ((byt s).drop E)).2 := ⟨_, rfl⟩
        rw [← hk2, ← hn2] at HC2 hB4
        have hk3 : k2 ≤ s.size ∧ k < k2 ∧ n2 ≤ k2 + 1 ∧ s.size ≤ k2 + f := by omega
        have HB4 := Lib.hid hB4
        have HO4 := Lib.hid (owns_kp HO10.out hK4 (Nat.le_refl _))
        have HBL4 := Lib.hid (HBL10.out.trans (hK4.below (by have := HB10.out.lt; omega)))
        clear hk2 hn2 hskE hslE hB4 hK4
        go_wp2_with fail
        go_roundw
        case rel => exact ⟨.slice gA gN gC, k2, n2, lN + 1, f, acc ++ [⟨kd, T, n⟩], hk3.1, hk3.2.2.1, hm2, hk3.2.2.2, Lib.hid (by rw [List.length_append, HAL.out]; rfl), HC2, HB4, Lib.hid (by rw [tkV_append, HT.out]; exact HO4.out), HBL4⟩
        case measure => exact meas HB4.out HB0.out (by omega) (by omega)
      case k18_32 =>
        go_simp
        refine hK.out _ _ (by first | exact ⟨((show Blk w1.drew w.heap.size _ _ from HB1.out).alloc _).cell 1, ((show Blk w1.drew w.heap.size _ _ from HB1.out).alloc _).cell 2⟩ | go_keep) (fun hHeld32 => ?_)
        clear hK K
        try simp only [Act.put, List.setIfInBounds_toArray, List.set_cons_zero, List.set_cons_succ]
        refine wpAnyH_ready (rs := [4]) (by kernel_rfl) (by simp) ?_
        refine AllReadyH.cons (o := ?o4_38) ?h4_38 (fun K hK => ?k4_38) AllReadyH.nil
        case h4_38 =>
          simp only [List.getElem?_toArray, List.getElem?_cons_succ, List.getElem?_cons_zero]
          rfl
        have c7 : (w1.alloc (.cells #[.int .i64 kd, .string (s.extract k E), .int .i64 (n : Int)] 30)).cell? ⟨w.heap.size, 3, none⟩ = some (.slice lA lN lC) := (HB1.out.alloc _).cell 3
        go_simp
        refine hK.out _ _ (by first | exact ⟨((show Blk w1.drew w.heap.size _ _ from HB1.out).alloc _).cell 1, ((show Blk w1.drew w.heap.size _ _ from HB1.out).alloc _).cell 2⟩ | go_keep) (fun hHeld38 => ?_)
        clear hK K
        try simp only [Act.put, List.setIfInBounds_toArray, List.set_cons_zero, List.set_cons_succ]
        refine wpAnyH_ready (rs := [19]) (by kernel_rfl) (by simp) ?_
        refine AllReadyH.cons (o := ?o19_39) ?h19_39 (fun K hK => ?k19_39) AllReadyH.nil
        case h19_39 =>
          simp only [List.getElem?_toArray, List.getElem?_cons_succ, List.getElem?_cons_zero]
          rfl
        have hs1 : (w1.drew.alloc (.cells #[.int .i64 kd, .string (s.extract k E), .int .i64 (n : Int)] 30)).ownsRow (w.heap.size + 1) 30 3 (.slice lA lN lC) lN (tkV acc) := (show w1.drew.ownsRow (w.heap.size + 1) 30 3 (.slice lA lN lC) lN (tkV acc) from HO1.out).alloc _
        have HSC : Hid (SrcOk (w1.drew.alloc (.cells #[.int .i64 kd, .string (s.extract k E), .int .i64 (n : Int)] 30)) (.slice (some ⟨w1.heap.size, 0, none⟩) 1 1) 3 1 (tkV [⟨kd, s.extract k E, n⟩])) := .inr ⟨⟨w1.heap.size, 0, none⟩, 1, rfl, rfl, news_tk w1.drew ⟨kd, s.extract k E, n⟩⟩
        have hB2 : Below w.heap.size w (w1.drew.alloc (.cells #[.int .i64 kd, .string (s.extract k E), .int .i64 (n : Int)] 30)) := (show Below w.heap.size w w1.drew from HBL1.out.drew).alloc (show w.heap.size ≤ w1.heap.size by have := HB1.out.lt; omega) _
        refine step_append_src (by rfl) _ _ 24 (by rfl) (w.heap.size + 1) 30 i0 (.agg #[.int .i64 0, .string ⟨#[]⟩, .int .i64 0]) 3 32 Try.underlying24 hi hy0 hy1 hy2 rfl (by decide) (.slice lA lN lC) lN (tkV acc) (by rfl) hs1 (.slice (some ⟨w1.heap.size, 0, none⟩) 1 1) 1 (tkV [⟨kd, s.extract k E, n⟩]) (by rfl) HSC.out (one_tk _) (by simp only [maxLen]; omega) (by omega) (by have := HB1.out.lt; first | omega | (simp; omega)) ?_
        intro v' w3 hown' hgrow hor
        obtain ⟨gA, gN, gC, rfl, -, -, -⟩ := (Own.of_own hown').form
        have HBL3 := Lib.hid (hB2.grown hgrow hB2.size (fun g hg => by have := (hs1.lt g hg).1; omega))
        have HB3 : Hid (Blk w3 w.heap.size 37 #[.string s, .int .i64 (k : Nat), .int .i64 (n : Nat), .slice lA lN lC]) := (hgrow.block _ (by have := HB1.out.lt; first | omega | (simp; omega)) (fun e => by have := (hs1.lt _ e.symm).1; omega)).trans ((show Blk w1.drew w.heap.size _ _ from HB1.out).alloc _)
        have f3 := HB3.out.frozen 3
        have c3' : w3.cell? ⟨w.heap.size, 3, none⟩ = some (.slice lA lN lC) := HB3.out.cell 3
        have HO3 := Lib.hid hown'
        clear hown' hgrow hor hB2 HSC
        refine hK.out _ _ (by first | exact ⟨HB3.out.cell 1, HB3.out.cell 2⟩ | go_keep) (fun hHeld39 => ?_)
        clear hK K
        try simp only [Act.put, List.setIfInBounds_toArray, List.set_cons_zero, List.set_cons_succ]
        refine wpAnyH_take (i := 20) (oi := ?o20_40) (v := ?v20_40) ?h20_40 (by kernel_rfl) (by kernel_rfl) (by kernel_rfl) ?q20_40 (Or.inl ⟨?z20_40, ?y20_40⟩) (by assumption) ?r20_40
        case h20_40 =>
          simp only [List.getElem?_toArray, List.getElem?_cons_succ, List.getElem?_cons_zero]
          rfl
        case q20_40 => exact fun _ _ _ h => h
        case z20_40 => rfl
        case y20_40 =>
          intro w hSw
          try dsimp only at hSw
          go_simp
          try with_reducible rfl
        try simp only [Act.put, List.setIfInBounds_toArray, List.set_cons_zero, List.set_cons_succ]
        refine wpAnyH_take (i := 21) (oi := ?o21_41) (v := ?v21_41) ?h21_41 (by kernel_rfl) (by kernel_rfl) (by kernel_rfl) ?q21_41 (Or.inl ⟨?z21_41, ?y21_41⟩) (by assumption) ?r21_41
        case h21_41 =>
          simp only [List.getElem?_toArray, List.getElem?_cons_succ, List.getElem?_cons_zero]
          rfl
        case q21_41 => exact fun _ _ _ h => h
        case z21_41 => rfl
        case y21_41 =>
          intro w hSw
          try dsimp only at hSw
          go_simp
          try with_reducible rfl
        try simp only [Act.put, List.setIfInBounds_toArray, List.set_cons_zero, List.set_cons_succ]
        refine wpAnyH_ready (rs := [22]) (by kernel_rfl) (by simp) ?_
        refine AllReadyH.cons (o := ?o22_42) ?h22_42 (fun K hK => ?k22_42) AllReadyH.nil
        case h22_42 =>
          simp only [List.getElem?_toArray, List.getElem?_cons_succ, List.getElem?_cons_zero]
          rfl
        go_simp
        refine hK.out _ _ (by first | exact ⟨((show Blk (w3.setCell ⟨w.heap.size, 3, none⟩ (.slice gA gN gC)) w.heap.size _ _ from HB3.out.set_ 3 (.slice gA gN gC))).cell 1, ((show Blk (w3.setCell ⟨w.heap.size, 3, none⟩ (.slice gA gN gC)) w.heap.size _ _ from HB3.out.set_ 3 (.slice gA gN gC))).cell 2⟩ | go_keep) (fun hHeld42 => ?_)
        clear hK K
        try simp only [Act.put, List.setIfInBounds_toArray, List.set_cons_zero, List.set_cons_succ]
        refine wpAnyH_done (by kernel_rfl) ?_ _
        have HB9 : Hid (Blk (w3.setCell ⟨w.heap.size, 3, none⟩ (.slice gA gN gC)) w.heap.size 37 #[.string s, .int .i64 (k : Nat), .int .i64 (n : Nat), .slice gA gN gC]) := by
          show Blk _ _ _ _
          have := HB3.out.set_ 3 (.slice gA gN gC)
          simpa using this
        have HB10 : Hid (Blk ((w3.setCell ⟨w.heap.size, 3, none⟩ (.slice gA gN gC)).setCell ⟨w.heap.size, 1, none⟩ (.int .i64 ((E : Nat) : Int))) w.heap.size 37 #[.string s, .int .i64 (E : Nat), .int .i64 (n : Nat), .slice gA gN gC]) := by
          show Blk _ _ _ _
          have := HB9.out.set_ 1 (.int .i64 ((E : Nat) : Int))
          simpa using this
        have hK : Keep w.heap.size (w.heap.size + 1) w3 ((w3.setCell ⟨w.heap.size, 3, none⟩ (.slice gA gN gC)).setCell ⟨w.heap.size, 1, none⟩ (.int .i64 ((E : Nat) : Int))) := ((Keep.refl _ _ _).setCell (p := ⟨w.heap.size, 3, none⟩) (Nat.le_refl _) (Nat.lt_succ_self _) _).setCell (p := ⟨w.heap.size, 1, none⟩) (Nat.le_refl _) (Nat.lt_succ_self _) _
        have HO10 := Lib.hid (owns_kp HO3.out hK (Nat.le_refl _))
        have HBL10 := Lib.hid (HBL3.out.trans (hK.below (by have := HB3.out.lt; omega)))
        clear hK
        have f1 := HB9.out.frozen 1
        have c1' : (w3.setCell ⟨w.heap.size, 3, none⟩ (.slice gA gN gC)).cell? ⟨w.heap.size, 1, none⟩ = some (.int .i64 (k : Nat)) := HB9.out.cell 1
        go_wp2_with fail
        refine (skip_tok HB10.out hEk.2 (by omega) (by omega)).mono ?_
        rintro e w4 ⟨rfl, hB4, hK4⟩
        obtain ⟨k2, hk2⟩ : ∃ k2, k2 = E + (skipM false ((byt s).drop E)).1 := ⟨_, rfl⟩
        obtain ⟨n2, hn2⟩ : ∃ k2, k2 = n + (skipM false ((byt s).drop E)).2 := ⟨_, rfl⟩
        rw [← hk2, ← hn2] at HC2 hB4
        have hk3 : k2 ≤ s.size ∧ k < k2 ∧ n2 ≤ k2 + 1 ∧ s.size ≤ k2 + f := by omega
        have HB4 := Lib.hid hB4
        have HO4 := Lib.hid (owns_kp HO10.out hK4 (Nat.le_refl _))
        have HBL4 := Lib.hid (HBL10.out.trans (hK4.below (by have := HB10.out.lt; omega)))
        clear hk2 hn2 hskE hslE hB4 hK4
        go_wp2_with fail
        go_roundw
        case rel => exact ⟨.slice gA gN gC, k2, n2, lN + 1, f, acc ++ [⟨kd, T, n⟩], hk3.1, hk3.2.2.1, hm2, hk3.2.2.2, Lib.hid (by rw [List.length_append, HAL.out]; rfl), HC2, HB4, Lib.hid (by rw [tkV_append, HT.out]; exact HO4.out), HBL4⟩
        case measure => exact meas HB4.out HB0.out (by omega) (by omega)
end Go.Proofs.Ytfnncclplbbghaa

