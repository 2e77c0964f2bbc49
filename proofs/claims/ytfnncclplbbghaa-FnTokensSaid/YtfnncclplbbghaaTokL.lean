/-
  Tokens: spec.l05Skip, l05Lex.
-/
import Derived.Test.YtfnncclplbbghaaTokS
namespace Go.Proofs.Ytfnncclplbbghaa
open Go.RowKit
set_option linter.unusedVariables false
set_option linter.unusedSimpArgs false
set_option linter.unnecessarySimpa false
set_option maxRecDepth 16000

theorem skip_le : ∀ (b : Bool) (l : List Int), (skipM b l).1 ≤ l.length ∧ (skipM b l).2 ≤ l.length
  | b, [] => by cases b <;> simp [skipM]
  | true, c :: r => by
    have h1 := skip_le false r
    have h2 := skip_le true r
    rw [skipM, List.length_cons]
    split <;> dsimp only <;> omega
  | false, c :: r => by
    have h1 := skip_le false r
    have h2 := skip_le true r
    rw [skipM, List.length_cons]
    split
    · dsimp only; omega
    · split
      · dsimp only; omega
      · split
        · dsimp only; omega
        · dsimp only; omega
theorem skip_nl {b : Bool} {r : List Int} : skipM b (10 :: r) = ((skipM false r).1 + 1, (skipM false r).2 + 1) := by cases b <;> rw [skipM, if_pos rfl]
theorem skip_sp {r : List Int} : skipM false (32 :: r) = ((skipM false r).1 + 1, (skipM false r).2) := by rw [skipM, if_neg (by decide), if_pos rfl]
theorem skip_in {c : Int} {r : List Int} (h : c ≠ 10) : skipM true (c :: r) = ((skipM true r).1 + 1, (skipM true r).2) := by rw [skipM, if_neg h]
theorem skip_cm {r : List Int} (h : hdP (fun x => decide (x = 47)) r = true) : skipM false (47 :: r) = skipM true (47 :: r) := by
  rw [skip_in (by decide), skipM, if_neg (by decide), if_neg (by decide), if_pos (by rw [h]; rfl)]
set_option maxHeartbeats 3200000 in
theorem l05Skip_any {s : ByteArray} {a n0 : Nat} (ha : a ≤ s.size) (hs : s.size ≤ 1048576) (hn : n0 ≤ 10000000) (w : World) : Calls Try.prog 25 #[.string s, .int .i64 a, .int .i64 n0] w fun e w' => e = .returned (.tuple #[.int .i64 ((a + (skipM false ((byt s).drop a)).1 : Nat) : Int), .int .i64 ((n0 + (skipM false ((byt s).drop a)).2 : Nat) : Int)]) ∧ w = w' := by
  obtain ⟨M, hM⟩ : ∃ M, M = a + (skipM false ((byt s).drop a)).1 := ⟨_, rfl⟩
  obtain ⟨Q, hQ⟩ : ∃ Q, Q = n0 + (skipM false ((byt s).drop a)).2 := ⟨_, rfl⟩
  have hQ2 : Q ≤ 20000000 := by have := (skip_le false ((byt s).drop a)).2; rw [List.length_drop, byt_length] at this; omega
  rw [← hM, ← hQ]
  have HM : Hid (a + (skipM false ((byt s).drop a)).1 = M) := hM.symm
  have HQ : Hid (n0 + (skipM false ((byt s).drop a)).2 = Q) := hQ.symm
  clear hM hQ
  go_enter Try.func25, Try.ntmps25
  go_wp2_with fail
  go_loopw [1, 2] (fun i l wr => ∃ k n : Nat, i = .int .i64 k ∧ l = .int .i64 n ∧ k ≤ s.size ∧ Hid (k + (skipM false ((byt s).drop k)).1 = M) ∧ Hid (n + (skipM false ((byt s).drop k)).2 = Q) ∧ w = wr) (fun i _ _ => s.size - (intOf i).toNat)
  case atStart => exact ⟨a, n0, rfl, rfl, ha, HM, HQ, rfl⟩
  case round =>
    clear HM HQ
    obtain ⟨k, n, rfl, rfl, hk, HM, HQ, rfl⟩ := hrel
    have hnQ : n ≤ 20000000 := by have := HQ.out; omega
    have hki : IntKind.i64.wrap ((k : Int) + 1) = (k : Int) + 1 := IntWalk.i64_in _ (by omega)
    have hni : IntKind.i64.wrap ((n : Int) + 1) = (n : Int) + 1 := IntWalk.i64_in _ (by omega)
    by_cases hlt : k < s.size
    case neg =>
      have hd : decide ((k : Int) < (s.size : Int)) = false := decide_eq_false (by omega)
      have HF : Hid (M = k ∧ Q = n) := by
        have h1 := HM.out
        have h2 := HQ.out
        rw [drop_byt_end (by omega)] at h1 h2
        exact ⟨by simpa [skipM] using h1.symm, by simpa [skipM] using h2.symm⟩
      obtain ⟨e1, e2⟩ := HF.out
      subst e1 e2
      clear HF
      go_wp2_with fail
      go_ret2
      exact ⟨rfl, rfl⟩
    have hrest := drop_byt hlt
    obtain ⟨c, hc⟩ : ∃ c, s[k].toNat = c := ⟨_, rfl⟩
    rw [hc] at hrest
    have hlti : decide ((k : Int) < (s.size : Int)) = true := decide_eq_true (by omega)
    have HR := Lib.hid hrest
    clear hrest
    by_cases h10 : c = 10
    case pos =>
      subst h10
      have HM2 : Hid (k + 1 + (skipM false ((byt s).drop (k + 1))).1 = M) := by show _ = _; have h := HM.out; rw [HR.out] at h; rw [show ((10 : Nat) : Int) = 10 from rfl, skip_nl] at h; dsimp only at h; omega
      have HQ2 : Hid (n + 1 + (skipM false ((byt s).drop (k + 1))).2 = Q) := by show _ = _; have h := HQ.out; rw [HR.out] at h; rw [show ((10 : Nat) : Int) = 10 from rfl, skip_nl] at h; dsimp only at h; omega
      go_wp2_with fail
      go_roundw
      case rel => exact ⟨k + 1, n + 1, by go_num, by go_num, by omega, HM2, HQ2, trivial⟩
      case measure => simp [intOf]; omega
    have e10 : (((c : Nat) : Int) == 10) = false := by simp; omega
    by_cases h32 : c = 32
    case pos =>
      subst h32
      have HM2 : Hid (k + 1 + (skipM false ((byt s).drop (k + 1))).1 = M) := by show _ = _; have h := HM.out; rw [HR.out] at h; rw [show ((32 : Nat) : Int) = 32 from rfl, skip_sp] at h; dsimp only at h; omega
      have HQ2 : Hid (n + (skipM false ((byt s).drop (k + 1))).2 = Q) := by show _ = _; have h := HQ.out; rw [HR.out] at h; rw [show ((32 : Nat) : Int) = 32 from rfl, skip_sp] at h; dsimp only at h; omega
      go_wp2_with fail
      go_roundw
      case rel => exact ⟨k + 1, n, by go_num, rfl, by omega, HM2, HQ2, trivial⟩
      case measure => simp [intOf]; omega
    have e32 : (((c : Nat) : Int) == 32) = false := by simp; omega
    have HEND : Hid ((c = 47 → hdP (fun x => decide (x = 47)) ((byt s).drop (k + 1)) = false) → M = k ∧ Q = n) := fun h => by
      have h1 := HM.out
      have h2 := HQ.out
      rw [HR.out, skip_no (by omega) (by omega) (fun e => h (by omega))] at h1 h2
      exact ⟨h1.symm, h2.symm⟩
    by_cases h47 : c = 47
    case neg =>
      have e47 : (((c : Nat) : Int) == 47) = false := by simp; omega
      obtain ⟨e1, e2⟩ := HEND.out (fun e => absurd e h47)
      subst e1 e2
      clear HEND
      go_wp2_with fail
      go_ret2
      exact ⟨rfl, rfl⟩
    subst h47
    by_cases h1k : k + 1 < s.size
    case neg =>
      have hd : decide ((k : Int) + 1 < (s.size : Int)) = false := decide_eq_false (by omega)
      obtain ⟨e1, e2⟩ := HEND.out (fun e => by rw [drop_byt_end (by omega)]; rfl)
      subst e1 e2
      clear HEND
      go_wp2_with fail
      go_ret2
      exact ⟨rfl, rfl⟩
    have hr2 := drop_byt h1k
    obtain ⟨d, hd⟩ : ∃ d, s[k + 1].toNat = d := ⟨_, rfl⟩
    rw [hd] at hr2
    have HR2 := Lib.hid hr2
    have hl3 : (k : Int) + 1 < (s.size : Int) := by omega
    have hl4 : (0 : Int) ≤ (k : Int) + 1 := by omega
    have hd1 : decide ((k : Int) + 1 < (s.size : Int)) = true := decide_eq_true (by omega)
    clear hr2
    by_cases hd47 : d = 47
    case neg =>
      have ed : (((d : Nat) : Int) == 47) = false := by simp; omega
      obtain ⟨e1, e2⟩ := HEND.out (fun e => by rw [HR2.out]; exact decide_eq_false (by omega))
      subst e1 e2
      clear HEND
      go_wp2_with fail
      go_ret2
      exact ⟨rfl, rfl⟩
    subst hd47
    have HC : Hid (skipM false ((byt s).drop k) = skipM true ((byt s).drop k)) := by
      show _ = _
      rw [HR.out]
      exact skip_cm (by rw [HR2.out]; rfl)
    have HMT : Hid (k + (skipM true ((byt s).drop k)).1 = M) := by show _ = _; rw [← HC.out]; exact HM.out
    have HQT : Hid (n + (skipM true ((byt s).drop k)).2 = Q) := by show _ = _; rw [← HC.out]; exact HQ.out
    clear HM HQ HC HEND HR HR2
    go_wp2_with fail
    go_loopw [1] (fun i wr => ∃ j : Nat, i = .int .i64 j ∧ k ≤ j ∧ j ≤ s.size ∧ Hid (j + (skipM true ((byt s).drop j)).1 = M) ∧ Hid (n + (skipM true ((byt s).drop j)).2 = Q) ∧ w = wr) (fun i _ => s.size - (intOf i).toNat)
    case atStart => exact ⟨k, rfl, Nat.le_refl _, hk, HMT, HQT, rfl⟩
    case round =>
      clear HMT HQT
      obtain ⟨j, rfl, hkj, hj, HM, HQ, rfl⟩ := hrel
      have hji : IntKind.i64.wrap ((j : Int) + 1) = (j : Int) + 1 := IntWalk.i64_in _ (by omega)
      by_cases hjl : j < s.size
      case neg =>
        have hdj : decide ((j : Int) < (s.size : Int)) = false := decide_eq_false (by omega)
        have HM2 : Hid (j + (skipM false ((byt s).drop j)).1 = M) := by show _ = _; have h := HM.out; rw [drop_byt_end (by omega)] at h ⊢; exact h
        have HQ2 : Hid (n + (skipM false ((byt s).drop j)).2 = Q) := by show _ = _; have h := HQ.out; rw [drop_byt_end (by omega)] at h ⊢; exact h
        go_wp2_with fail
        go_roundw
        case rel => exact ⟨j, n, rfl, rfl, hj, HM2, HQ2, trivial⟩
        case measure => simp [intOf]; omega
      have hrest := drop_byt hjl
      obtain ⟨x, hx⟩ : ∃ x, s[j].toNat = x := ⟨_, rfl⟩
      rw [hx] at hrest
      have hjlt : decide ((j : Int) < (s.size : Int)) = true := decide_eq_true (by omega)
      have HR := Lib.hid hrest
      clear hrest
      by_cases hx10 : x = 10
      case pos =>
        subst hx10
        have hne : k ≠ j := fun e => by subst e; rw [hc] at hx; omega
        have HM2 : Hid (j + (skipM false ((byt s).drop j)).1 = M) := by show _ = _; have h := HM.out; rw [HR.out] at h ⊢; rw [show ((10 : Nat) : Int) = 10 from rfl, skip_nl] at h ⊢; exact h
        have HQ2 : Hid (n + (skipM false ((byt s).drop j)).2 = Q) := by show _ = _; have h := HQ.out; rw [HR.out] at h ⊢; rw [show ((10 : Nat) : Int) = 10 from rfl, skip_nl] at h ⊢; exact h
        go_wp2_with fail
        go_roundw
        case rel => exact ⟨j, n, rfl, rfl, hj, HM2, HQ2, trivial⟩
        case measure => simp [intOf]; omega
      have ex : (((x : Nat) : Int) == 10) = false := by simp; omega
      have HM2 : Hid (j + 1 + (skipM true ((byt s).drop (j + 1))).1 = M) := by show _ = _; have h := HM.out; rw [HR.out, skip_in (by omega)] at h; dsimp only at h; omega
      have HQ2 : Hid (n + (skipM true ((byt s).drop (j + 1))).2 = Q) := by show _ = _; have h := HQ.out; rw [HR.out, skip_in (by omega)] at h; exact h
      go_wp2_with fail
      go_roundw
      case rel => exact ⟨j + 1, by go_num, by omega, by omega, HM2, HQ2, trivial⟩
      case measure => simp [intOf]; omega
/-- what l05Lex answers -/
def lexV (s : ByteArray) (a : Nat) : Value := match lexN ((byt s).drop a) with
  | none => .tuple #[.agg #[.int .i64 0, .string ⟨#[]⟩, .int .i64 0], .int .i64 0]
  | some (kd, n) => .tuple #[.agg #[.int .i64 kd, .string (s.extract a (a + n)), .int .i64 0], .int .i64 ((a + n : Nat) : Int)]
theorem lexV_some {s : ByteArray} {a : Nat} {kd : Int} {n : Nat} (h : lexN ((byt s).drop a) = some (kd, n)) : lexV s a = .tuple #[.agg #[.int .i64 kd, .string (s.extract a (a + n)), .int .i64 0], .int .i64 ((a + n : Nat) : Int)] := by rw [lexV, h]
theorem lexV_none {s : ByteArray} {a : Nat} (h : lexN ((byt s).drop a) = none) : lexV s a = .tuple #[.agg #[.int .i64 0, .string ⟨#[]⟩, .int .i64 0], .int .i64 0] := by rw [lexV, h]
theorem lex_L {c : Int} {r : List Int} (h : isL c = true) : lexN (c :: r) = some (1, wordN (c :: r)) := by rw [lexN, if_pos h]
theorem lex_D {c : Int} {r : List Int} (h : isL c = false) (h2 : isD c = true) : lexN (c :: r) = some (2, numN (c :: r)) := by rw [lexN, if_neg (by rw [h]; decide), if_pos h2]
theorem lex_A {r : List Int} (h : hdP (fun x => decide (x = 62)) r = true) : lexN (45 :: r) = some (3, 2) := by rw [lexN, if_neg (by decide), if_neg (by decide), if_pos (by rw [h]; rfl)]
theorem lex_S {c : Int} {r : List Int} (h : isL c = false) (h2 : isD c = false) (h3 : c = 45 → hdP (fun x => decide (x = 62)) r = false) (h4 : isS c = true) : lexN (c :: r) = some (3, 1) := by
  rw [lexN, if_neg (by rw [h]; decide), if_neg (by rw [h2]; decide), if_neg, if_pos h4]
  rw [Bool.and_eq_true, decide_eq_true_eq]
  exact fun e => by rw [h3 e.1] at e; cases e.2
theorem lex_N {c : Int} {r : List Int} (h : isL c = false) (h2 : isD c = false) (h3 : c = 45 → hdP (fun x => decide (x = 62)) r = false) (h4 : isS c = false) : lexN (c :: r) = none := by
  rw [lexN, if_neg (by rw [h]; decide), if_neg (by rw [h2]; decide), if_neg, if_neg (by rw [h4]; decide)]
  rw [Bool.and_eq_true, decide_eq_true_eq]
  exact fun e => by rw [h3 e.1] at e; cases e.2
def ZT : Obj := .cells #[.int .i64 0, .string ⟨#[]⟩, .int .i64 0] 30
set_option maxHeartbeats 3200000 in
theorem l05Lex_any {s : ByteArray} {a : Nat} (ha : a < s.size) (hs : s.size ≤ 1048576) (w : World) : Calls Try.prog 26 #[.string s, .int .i64 a] w fun e w' => e = .returned (lexV s a) ∧ Below w.heap.size w w' := by
  obtain ⟨w0, hw0⟩ : ∃ V, V = w.alloc (.cells #[.int .i64 0, .string ⟨#[]⟩, .int .i64 0] 30) := ⟨_, rfl⟩
  have b0 : Blk w0 w.heap.size 30 #[.int .i64 0, .string ⟨#[]⟩, .int .i64 0] := by rw [hw0]; exact Blk.new w _ _
  have hB : Below w.heap.size w w0 := by rw [hw0]; exact (Below.refl _ _).alloc (Nat.le_refl _) _
  have HW := Lib.hid hw0
  have r0 : w0.cell? ⟨w.heap.size, 0, none⟩ = some (.int .i64 0) := b0.cell 0
  have r1 : w0.cell? ⟨w.heap.size, 1, none⟩ = some (.string ⟨#[]⟩) := b0.cell 1
  have r2 : w0.cell? ⟨w.heap.size, 2, none⟩ = some (.int .i64 0) := b0.cell 2
  have f0 := b0.frozen 0
  have f1 := b0.frozen 1
  have f2 := b0.frozen 2
  have HB0 := Lib.hid b0
  have HBB := Lib.hid hB
  clear hw0 b0 hB
  have hrest := drop_byt ha
  obtain ⟨c, hc⟩ : ∃ c, s[a].toNat = c := ⟨_, rfl⟩
  rw [hc] at hrest
  have HR := Lib.hid hrest
  have hai : (a : Int) < (s.size : Int) := by omega
  have hal : decide ((a : Int) < (s.size : Int)) = true := decide_eq_true hai
  have hw1 : IntKind.i64.wrap ((a : Int) + 1) = ((a + 1 : Nat) : Int) := (IntWalk.i64_in _ (by omega)).trans (by omega)
  have hw2 : IntKind.i64.wrap ((a : Int) + 2) = ((a + 2 : Nat) : Int) := (IntWalk.i64_in _ (by omega)).trans (by omega)
  clear hrest
  go_enter Try.func26, Try.ntmps26
  go_wp2_with fail
  rw [← HW.out]
  refine (specL_any _ _).mono ?_
  rintro e w' ⟨rfl, rfl⟩
  cases hL : isL ((c : Nat) : Int)
  case true =>
    have HF := Lib.hid (lexV_some (s := s) (a := a) (by rw [HR.out]; exact lex_L hL))
    rw [← HR.out] at HF
    have HE : Hid (wordN ((byt s).drop a) ≤ s.size - a) := by show _ ≤ _; have := wordN_le ((byt s).drop a); rwa [List.length_drop, byt_length] at this
    clear hL
    go_wp2_with fail
    refine (l05Word_any (by omega) hs _).mono ?_
    rintro e w' ⟨rfl, rfl⟩
    obtain ⟨E, hE⟩ : ∃ E, E = a + wordN ((byt s).drop a) := ⟨_, rfl⟩
    rw [← hE] at HF ⊢
    have hE1 : (a : Int) ≤ (E : Int) := by omega
    have hE2 : (E : Int) ≤ (s.size : Int) := by have := HE.out; omega
    have hE3 : (0 : Int) ≤ (a : Int) := by omega
    clear hE HE
    go_wp2_with fail
    have bN : Blk (((w0.setCell ⟨w.heap.size, 0, none⟩ (.int .i64 1)).setCell ⟨w.heap.size, 1, none⟩ (.string (s.extract a E))).setCell ⟨w.heap.size, 2, none⟩ (.int .i64 0)) w.heap.size 30 #[.int .i64 1, .string (s.extract a E), .int .i64 0] := by
      have := ((HB0.out.set_ 0 (.int .i64 1)).set_ 1 (.string (s.extract a E))).set_ 2 (.int .i64 0)
      simpa using this
    have n0 := bN.cell 0
    have n1 := bN.cell 1
    have n2 := bN.cell 2
    refine bodyPost_ret (v := .tuple #[.agg #[.int .i64 1, .string (s.extract a E), .int .i64 0], .int .i64 E]) (by simp [results, Try.results26, go_sem, n0, n1, n2]) rfl ⟨by rw [HF.out], ?_⟩
    repeat (first | exact HBB.out | refine Below.setCell ?_ (by simp) _)
  go_wp2_with fail
  refine (specD_any _ _).mono ?_
  rintro e w' ⟨rfl, rfl⟩
  cases hD : isD ((c : Nat) : Int)
  case true =>
    have HF := Lib.hid (lexV_some (s := s) (a := a) (by rw [HR.out]; exact lex_D hL hD))
    rw [← HR.out] at HF
    have HE : Hid (numN ((byt s).drop a) ≤ s.size - a) := by show _ ≤ _; have := numN_le ((byt s).drop a); rwa [List.length_drop, byt_length] at this
    clear hD
    go_wp2_with fail
    refine (l05Number_any (by omega) hs _).mono ?_
    rintro e w' ⟨rfl, rfl⟩
    obtain ⟨E, hE⟩ : ∃ E, E = a + numN ((byt s).drop a) := ⟨_, rfl⟩
    rw [← hE] at HF ⊢
    have hE1 : (a : Int) ≤ (E : Int) := by omega
    have hE2 : (E : Int) ≤ (s.size : Int) := by have := HE.out; omega
    have hE3 : (0 : Int) ≤ (a : Int) := by omega
    clear hE HE
    go_wp2_with fail
    have bN : Blk (((w0.setCell ⟨w.heap.size, 0, none⟩ (.int .i64 2)).setCell ⟨w.heap.size, 1, none⟩ (.string (s.extract a E))).setCell ⟨w.heap.size, 2, none⟩ (.int .i64 0)) w.heap.size 30 #[.int .i64 2, .string (s.extract a E), .int .i64 0] := by
      have := ((HB0.out.set_ 0 (.int .i64 2)).set_ 1 (.string (s.extract a E))).set_ 2 (.int .i64 0)
      simpa using this
    have n0 := bN.cell 0
    have n1 := bN.cell 1
    have n2 := bN.cell 2
    refine bodyPost_ret (v := .tuple #[.agg #[.int .i64 2, .string (s.extract a E), .int .i64 0], .int .i64 E]) (by simp [results, Try.results26, go_sem, n0, n1, n2]) rfl ⟨by rw [HF.out], ?_⟩
    repeat (first | exact HBB.out | refine Below.setCell ?_ (by simp) _)
  by_cases h45 : c = 45
  case neg =>
    have e45 : (((c : Nat) : Int) == 45) = false := by simp; omega
    have H3 : Hid (((c : Nat) : Int) = 45 → hdP (fun x => decide (x = 62)) ((byt s).drop (a + 1)) = false) := fun e => by omega
    go_wp2_with fail
    refine (specS_any _ _).mono ?_
    rintro e w' ⟨rfl, rfl⟩
    cases hS : isS ((c : Nat) : Int)
    case true =>
      have HF := Lib.hid (lexV_some (s := s) (a := a) (by rw [HR.out]; exact lex_S hL hD H3.out hS))
      have hE2 : ((a + 1 : Nat) : Int) ≤ (s.size : Int) := by omega
      have hE1 : (a : Int) ≤ ((a + 1 : Nat) : Int) := by omega
      obtain ⟨E, hE⟩ : ∃ E, E = a + 1 := ⟨_, rfl⟩
      rw [← hE] at HF hw1 hE2 hE1
      have hE3 : (0 : Int) ≤ (a : Int) := by omega
      clear hE
      go_wp2_with fail
      have bN : Blk (((w0.setCell ⟨w.heap.size, 0, none⟩ (.int .i64 3)).setCell ⟨w.heap.size, 1, none⟩ (.string (s.extract a E))).setCell ⟨w.heap.size, 2, none⟩ (.int .i64 0)) w.heap.size 30 #[.int .i64 3, .string (s.extract a E), .int .i64 0] := by
        have := ((HB0.out.set_ 0 (.int .i64 3)).set_ 1 (.string (s.extract a E))).set_ 2 (.int .i64 0)
        simpa using this
      have n0 := bN.cell 0
      have n1 := bN.cell 1
      have n2 := bN.cell 2
      refine bodyPost_ret (v := .tuple #[.agg #[.int .i64 3, .string (s.extract a E), .int .i64 0], .int .i64 E]) (by simp [results, Try.results26, go_sem, n0, n1, n2]) rfl ⟨by rw [HF.out], ?_⟩
      repeat (first | exact HBB.out | refine Below.setCell ?_ (by simp) _)
    have HF := Lib.hid (lexV_none (s := s) (a := a) (by rw [HR.out]; exact lex_N hL hD H3.out hS))
    go_wp2_with fail
    have bN : Blk (((w0.setCell ⟨w.heap.size, 0, none⟩ (.int .i64 0)).setCell ⟨w.heap.size, 1, none⟩ (.string ⟨#[]⟩)).setCell ⟨w.heap.size, 2, none⟩ (.int .i64 0)) w.heap.size 30 #[.int .i64 0, .string ⟨#[]⟩, .int .i64 0] := by
      have := ((HB0.out.set_ 0 (.int .i64 0)).set_ 1 (.string ⟨#[]⟩)).set_ 2 (.int .i64 0)
      simpa using this
    have n0 := bN.cell 0
    have n1 := bN.cell 1
    have n2 := bN.cell 2
    refine bodyPost_ret (v := .tuple #[.agg #[.int .i64 0, .string ⟨#[]⟩, .int .i64 0], .int .i64 0]) (by simp [results, Try.results26, go_sem, n0, n1, n2]) rfl ⟨by rw [HF.out], ?_⟩
    repeat (first | exact HBB.out | refine Below.setCell ?_ (by simp) _)
  subst h45
  by_cases h1k : a + 1 < s.size
  case neg =>
    have hd : decide (((a + 1 : Nat) : Int) < (s.size : Int)) = false := decide_eq_false (by omega)
    have hd2 : decide ((a : Int) + 1 < (s.size : Int)) = false := decide_eq_false (by omega)
    have H3 : Hid (((45 : Nat) : Int) = 45 → hdP (fun x => decide (x = 62)) ((byt s).drop (a + 1)) = false) := fun _ => by rw [drop_byt_end (by omega)]; rfl
    go_wp2_with fail
    refine (specS_any _ _).mono ?_
    rintro e w' ⟨rfl, rfl⟩
    cases hS : isS ((45 : Nat) : Int)
    case true =>
      have HF := Lib.hid (lexV_some (s := s) (a := a) (by rw [HR.out]; exact lex_S hL hD H3.out hS))
      have hE2 : ((a + 1 : Nat) : Int) ≤ (s.size : Int) := by omega
      have hE1 : (a : Int) ≤ ((a + 1 : Nat) : Int) := by omega
      obtain ⟨E, hE⟩ : ∃ E, E = a + 1 := ⟨_, rfl⟩
      rw [← hE] at HF hw1 hE2 hE1
      have hE3 : (0 : Int) ≤ (a : Int) := by omega
      clear hE
      go_wp2_with fail
      have bN : Blk (((w0.setCell ⟨w.heap.size, 0, none⟩ (.int .i64 3)).setCell ⟨w.heap.size, 1, none⟩ (.string (s.extract a E))).setCell ⟨w.heap.size, 2, none⟩ (.int .i64 0)) w.heap.size 30 #[.int .i64 3, .string (s.extract a E), .int .i64 0] := by
        have := ((HB0.out.set_ 0 (.int .i64 3)).set_ 1 (.string (s.extract a E))).set_ 2 (.int .i64 0)
        simpa using this
      have n0 := bN.cell 0
      have n1 := bN.cell 1
      have n2 := bN.cell 2
      refine bodyPost_ret (v := .tuple #[.agg #[.int .i64 3, .string (s.extract a E), .int .i64 0], .int .i64 E]) (by simp [results, Try.results26, go_sem, n0, n1, n2]) rfl ⟨by rw [HF.out], ?_⟩
      repeat (first | exact HBB.out | refine Below.setCell ?_ (by simp) _)
    have HF := Lib.hid (lexV_none (s := s) (a := a) (by rw [HR.out]; exact lex_N hL hD H3.out hS))
    go_wp2_with fail
    have bN : Blk (((w0.setCell ⟨w.heap.size, 0, none⟩ (.int .i64 0)).setCell ⟨w.heap.size, 1, none⟩ (.string ⟨#[]⟩)).setCell ⟨w.heap.size, 2, none⟩ (.int .i64 0)) w.heap.size 30 #[.int .i64 0, .string ⟨#[]⟩, .int .i64 0] := by
      have := ((HB0.out.set_ 0 (.int .i64 0)).set_ 1 (.string ⟨#[]⟩)).set_ 2 (.int .i64 0)
      simpa using this
    have n0 := bN.cell 0
    have n1 := bN.cell 1
    have n2 := bN.cell 2
    refine bodyPost_ret (v := .tuple #[.agg #[.int .i64 0, .string ⟨#[]⟩, .int .i64 0], .int .i64 0]) (by simp [results, Try.results26, go_sem, n0, n1, n2]) rfl ⟨by rw [HF.out], ?_⟩
    repeat (first | exact HBB.out | refine Below.setCell ?_ (by simp) _)
  have hr2 := drop_byt h1k
  obtain ⟨d, hd⟩ : ∃ d, s[a + 1].toNat = d := ⟨_, rfl⟩
  rw [hd] at hr2
  have HR2 := Lib.hid hr2
  have hl3 : (a : Int) + 1 < (s.size : Int) := by omega
  have hl4 : (0 : Int) ≤ (a : Int) + 1 := by omega
  have hl5 : ((a + 1 : Nat) : Int) < (s.size : Int) := by omega
  have hd1 : decide ((a : Int) + 1 < (s.size : Int)) = true := decide_eq_true (by omega)
  have hd3 : decide (((a + 1 : Nat) : Int) < (s.size : Int)) = true := decide_eq_true (by omega)
  clear hr2
  by_cases h62 : d = 62
  case neg =>
    have ed : (((d : Nat) : Int) == 62) = false := by simp; omega
    have H3 : Hid (((45 : Nat) : Int) = 45 → hdP (fun x => decide (x = 62)) ((byt s).drop (a + 1)) = false) := fun _ => by rw [HR2.out]; exact decide_eq_false (by omega)
    go_wp2_with fail
    refine (specS_any _ _).mono ?_
    rintro e w' ⟨rfl, rfl⟩
    cases hS : isS ((45 : Nat) : Int)
    case true =>
      have HF := Lib.hid (lexV_some (s := s) (a := a) (by rw [HR.out]; exact lex_S hL hD H3.out hS))
      have hE2 : ((a + 1 : Nat) : Int) ≤ (s.size : Int) := by omega
      have hE1 : (a : Int) ≤ ((a + 1 : Nat) : Int) := by omega
      obtain ⟨E, hE⟩ : ∃ E, E = a + 1 := ⟨_, rfl⟩
      rw [← hE] at HF hw1 hE2 hE1
      have hE3 : (0 : Int) ≤ (a : Int) := by omega
      clear hE
      go_wp2_with fail
      have bN : Blk (((w0.setCell ⟨w.heap.size, 0, none⟩ (.int .i64 3)).setCell ⟨w.heap.size, 1, none⟩ (.string (s.extract a E))).setCell ⟨w.heap.size, 2, none⟩ (.int .i64 0)) w.heap.size 30 #[.int .i64 3, .string (s.extract a E), .int .i64 0] := by
        have := ((HB0.out.set_ 0 (.int .i64 3)).set_ 1 (.string (s.extract a E))).set_ 2 (.int .i64 0)
        simpa using this
      have n0 := bN.cell 0
      have n1 := bN.cell 1
      have n2 := bN.cell 2
      refine bodyPost_ret (v := .tuple #[.agg #[.int .i64 3, .string (s.extract a E), .int .i64 0], .int .i64 E]) (by simp [results, Try.results26, go_sem, n0, n1, n2]) rfl ⟨by rw [HF.out], ?_⟩
      repeat (first | exact HBB.out | refine Below.setCell ?_ (by simp) _)
    have HF := Lib.hid (lexV_none (s := s) (a := a) (by rw [HR.out]; exact lex_N hL hD H3.out hS))
    go_wp2_with fail
    have bN : Blk (((w0.setCell ⟨w.heap.size, 0, none⟩ (.int .i64 0)).setCell ⟨w.heap.size, 1, none⟩ (.string ⟨#[]⟩)).setCell ⟨w.heap.size, 2, none⟩ (.int .i64 0)) w.heap.size 30 #[.int .i64 0, .string ⟨#[]⟩, .int .i64 0] := by
      have := ((HB0.out.set_ 0 (.int .i64 0)).set_ 1 (.string ⟨#[]⟩)).set_ 2 (.int .i64 0)
      simpa using this
    have n0 := bN.cell 0
    have n1 := bN.cell 1
    have n2 := bN.cell 2
    refine bodyPost_ret (v := .tuple #[.agg #[.int .i64 0, .string ⟨#[]⟩, .int .i64 0], .int .i64 0]) (by simp [results, Try.results26, go_sem, n0, n1, n2]) rfl ⟨by rw [HF.out], ?_⟩
    repeat (first | exact HBB.out | refine Below.setCell ?_ (by simp) _)
  subst h62
  have HF := Lib.hid (lexV_some (s := s) (a := a) (by rw [HR.out]; exact lex_A (by rw [HR2.out]; rfl)))
  have hex : s.extract a (a + 2) = ⟨#[45, 62]⟩ := by
    refine byt_inj ?_
    rw [byt_slice, List.drop_take, HR.out, HR2.out]
    have : a + 2 - a = 2 := by omega
    rw [this]; rfl
  rw [hex] at HF
  clear hex
  obtain ⟨E, hE⟩ : ∃ E, E = a + 2 := ⟨_, rfl⟩
  rw [← hE] at HF hw2
  clear hE
  go_wp2_with fail
  have bN : Blk (((w0.setCell ⟨w.heap.size, 0, none⟩ (.int .i64 3)).setCell ⟨w.heap.size, 1, none⟩ (.string ⟨#[45, 62]⟩)).setCell ⟨w.heap.size, 2, none⟩ (.int .i64 0)) w.heap.size 30 #[.int .i64 3, .string ⟨#[45, 62]⟩, .int .i64 0] := by
    have := ((HB0.out.set_ 0 (.int .i64 3)).set_ 1 (.string ⟨#[45, 62]⟩)).set_ 2 (.int .i64 0)
    simpa using this
  have n0 := bN.cell 0
  have n1 := bN.cell 1
  have n2 := bN.cell 2
  refine bodyPost_ret (v := .tuple #[.agg #[.int .i64 3, .string ⟨#[45, 62]⟩, .int .i64 0], .int .i64 E]) (by simp [results, Try.results26, go_sem, n0, n1, n2]) rfl ⟨by rw [HF.out], ?_⟩
  repeat (first | exact HBB.out | refine Below.setCell ?_ (by simp) _)
end Go.Proofs.Ytfnncclplbbghaa

