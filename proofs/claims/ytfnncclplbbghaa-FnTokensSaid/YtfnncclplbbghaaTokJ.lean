/-
  Tokens: impl's lexer: skip; impl.Tokens (by program: gen_tokj.py).
-/
import Derived.Test.YtfnncclplbbghaaTokI
import Derived.Test.YtfnncclplbbghaaTokT
import Derived.Deep.RegionHeld3
namespace Go.Proofs.Ytfnncclplbbghaa
open Go.RowKit
set_option linter.unusedVariables false
set_option linter.unusedSimpArgs false
set_option linter.unnecessarySimpa false
set_option maxRecDepth 16000

/-- where the lexer stands -/
def atOf (W : World) (p : Nat) : Nat := match W.cell? ⟨p, 1, none⟩ with
  | some (.int _ i) => i.toNat
  | _ => 0
theorem atOf_blk {W : World} {p k : Nat} {t : TypeId} {x y z : Value} (h : Blk W p t #[x, .int .i64 (k : Int), y, z]) : atOf W p = k := by
  have : W.cell? ⟨p, 1, none⟩ = some (.int .i64 (k : Int)) := h.cell 1
  rw [atOf, this]; simp
theorem meas {W0 W1 : World} {p k0 k1 n : Nat} {t : TypeId} {x y z x' y' z' : Value} (h1 : Blk W1 p t #[x, .int .i64 (k1 : Int), y, z]) (h0 : Blk W0 p t #[x', .int .i64 (k0 : Int), y', z']) (h : k0 < k1) (hn : k1 ≤ n) : n - atOf W1 p < n - atOf W0 p := by
  rw [atOf_blk h1, atOf_blk h0]; omega
theorem keep_drewN {lo hi : Nat} {w W : World} (h : Keep lo hi w W) (q : Nat) : Keep lo hi w (W.drewN q) := ⟨h.os, h.tape, h.output, h.size, h.block⟩
theorem blk_drewN {W : World} {p : Nat} {t : TypeId} {cs : Array Value} (h : Blk W p t cs) (q : Nat) : Blk (W.drewN q) p t cs := h
theorem skip_fs {c : Nat} {r : List Int} (h1 : ¬ c = 10) (h2 : ¬ c = 32) (h : ¬ (c = 47 ∧ hdP (fun x => decide (x = 47)) r = true)) : skipM false ((c : Int) :: r) = (0, 0) := by
  refine skip_no (by omega) (by omega) fun e => ?_
  have : c = 47 := by omega
  cases hh : hdP (fun x => decide (x = 47)) r
  · rfl
  · exact absurd ⟨this, hh⟩ h
set_option maxHeartbeats 6400000 in
theorem skip_tok {p a n0 : Nat} {s : ByteArray} {v : Value} {w : World} (h : Blk w p 37 #[.string s, .int .i64 (a : Nat), .int .i64 (n0 : Nat), v]) (ha : a ≤ s.size) (hs : s.size ≤ 1048576) (hn : n0 ≤ 10000000) :
    Calls Try.prog 12 #[.pointer (some ⟨p, 0, none⟩)] w fun e w' => e = .returned (.tuple #[]) ∧ Blk w' p 37 #[.string s, .int .i64 (a + (skipM false ((byt s).drop a)).1 : Nat), .int .i64 (n0 + (skipM false ((byt s).drop a)).2 : Nat), v] ∧ Keep p (p + 1) w w' := by
  obtain ⟨M, hM⟩ : ∃ M, M = a + (skipM false ((byt s).drop a)).1 := ⟨_, rfl⟩
  obtain ⟨Q, hQ⟩ : ∃ M, M = n0 + (skipM false ((byt s).drop a)).2 := ⟨_, rfl⟩
  rw [← hM, ← hQ]
  have hQ9 : Q ≤ 20000000 := by have := (skip_le false ((byt s).drop a)).2; rw [List.length_drop, byt_length] at this; omega
  have HB0 := Lib.hid h
  have HM0 := Lib.hid hM.symm
  have HQ0 := Lib.hid hQ.symm
  have HK0 := Lib.hid (Keep.refl p (p + 1) w)
  clear h hM hQ
  go_enter Try.func12, Try.ntmps12
  go_wp2_with fail
  go_loopw [] (fun wr => ∃ k n : Nat, k ≤ s.size ∧ Hid (Blk wr p 37 #[.string s, .int .i64 (k : Nat), .int .i64 (n : Nat), v]) ∧ Hid (k + (skipM false ((byt s).drop k)).1 = M) ∧ Hid (n + (skipM false ((byt s).drop k)).2 = Q) ∧ Hid (Keep p (p + 1) w wr)) (fun wr => s.size - atOf wr p)
  case atStart => exact ⟨a, n0, ha, HB0, HM0, HQ0, HK0⟩
  case round =>
    clear HM0 HQ0 HB0 HK0
    obtain ⟨k, n, hk, HB, HM, HQ, HK⟩ := hrel
    have hnq : n ≤ Q := by have := HQ.out; omega
    have c0 : wr.cell? ⟨p, 0, none⟩ = some (.string s) := HB.out.cell 0
    have c1 : wr.cell? ⟨p, 1, none⟩ = some (.int .i64 (k : Nat)) := HB.out.cell 1
    have c2 : wr.cell? ⟨p, 2, none⟩ = some (.int .i64 (n : Nat)) := HB.out.cell 2
    have hki : IntKind.i64.wrap ((k : Int) + 1) = ((k + 1 : Nat) : Int) := (IntWalk.i64_in _ (by omega)).trans (by omega)
    have hni : IntKind.i64.wrap ((n : Int) + 1) = ((n + 1 : Nat) : Int) := (IntWalk.i64_in _ (by omega)).trans (by omega)
    by_cases hlt : k < s.size
    case neg =>
      have HF : Hid (k = M ∧ n = Q) := by
        have h1 := HM.out
        have h2 := HQ.out
        rw [drop_byt_end (by omega)] at h1 h2
        exact ⟨by simpa [skipM] using h1, by simpa [skipM] using h2⟩
      have hd : decide ((k : Int) < (s.size : Int)) = false := decide_eq_false (by omega)
      go_wp2_with fail
      go_quiet (fail)
      go_wp2_with fail
      go_end0
      have hf := HF.out
      rw [← hf.1, ← hf.2]
      exact ⟨rfl, blk_drewN HB.out _, keep_drewN HK.out _⟩
    have hrest := drop_byt hlt
    obtain ⟨c, hc⟩ : ∃ c, s[k].toNat = c := ⟨_, rfl⟩
    have hc256 : c < 256 := by rw [← hc]; exact s[k].toNat_lt
    have hnx : nxB s k = c := by rw [nxB_yes hlt, hc]
    rw [hc] at hrest
    have HR := Lib.hid hrest
    have HNX := Lib.hid hnx
    have hlti : decide ((k : Int) < (s.size : Int)) = true := decide_eq_true (by omega)
    have hltj : (k : Int) < (s.size : Int) := by omega
    have hkl : (k : Int) ≤ (s.size : Int) := by omega
    have hk0 : (0 : Int) ≤ (k : Int) := by omega
    clear hrest hnx
    go_wp2_with fail
    go_quiet (fail)
    obtain ⟨W1, hW1⟩ : ∃ V, V = wr.drewN nq := ⟨_, rfl⟩
    have HBW1 : Hid (Blk W1 p 37 #[.string s, .int .i64 (k : Nat), .int .i64 (n : Nat), v]) := by show Blk _ _ _ _; rw [hW1]; exact HB.out
    have HKW1 : Hid (Keep p (p + 1) w W1) := by show Keep _ _ _ _; rw [hW1]; exact keep_drewN HK.out _
    rw [← hW1]
    clear hW1
    clear c0 c1 c2
    have c0 : W1.cell? ⟨p, 0, none⟩ = some (.string s) := HBW1.out.cell 0
    have c1 : W1.cell? ⟨p, 1, none⟩ = some (.int .i64 (k : Nat)) := HBW1.out.cell 1
    have c2 : W1.cell? ⟨p, 2, none⟩ = some (.int .i64 (n : Nat)) := HBW1.out.cell 2
    go_wp2_with fail
    go_quiet (fail)
    obtain ⟨W2, hW2⟩ : ∃ V, V = W1.drewN nq := ⟨_, rfl⟩
    have HBW2 : Hid (Blk W2 p 37 #[.string s, .int .i64 (k : Nat), .int .i64 (n : Nat), v]) := by show Blk _ _ _ _; rw [hW2]; exact HBW1.out
    have HKW2 : Hid (Keep p (p + 1) w W2) := by show Keep _ _ _ _; rw [hW2]; exact keep_drewN HKW1.out _
    rw [← hW2]
    clear hW2
    clear c0 c1 c2
    have c0 : W2.cell? ⟨p, 0, none⟩ = some (.string s) := HBW2.out.cell 0
    have c1 : W2.cell? ⟨p, 1, none⟩ = some (.int .i64 (k : Nat)) := HBW2.out.cell 1
    have c2 : W2.cell? ⟨p, 2, none⟩ = some (.int .i64 (n : Nat)) := HBW2.out.cell 2
    have f1 := HBW2.out.frozen 1
    have f2 := HBW2.out.frozen 2
    clear HBW1 HKW1
    by_cases h10 : c = 10
    case pos =>
      subst h10
      have HBN : Hid (Blk ((W2.setCell ⟨p, 2, none⟩ (.int .i64 ((n + 1 : Nat) : Int))).setCell ⟨p, 1, none⟩ (.int .i64 ((k + 1 : Nat) : Int))) p 37 #[.string s, .int .i64 (k + 1 : Nat), .int .i64 (n + 1 : Nat), v]) := by
        show Blk _ _ _ _
        have := ((HBW2.out.set_ 2 (.int .i64 ((n + 1 : Nat) : Int))).set_ 1 (.int .i64 ((k + 1 : Nat) : Int)))
        simpa using this
      have HKN : Hid (Keep p (p + 1) w ((W2.setCell ⟨p, 2, none⟩ (.int .i64 ((n + 1 : Nat) : Int))).setCell ⟨p, 1, none⟩ (.int .i64 ((k + 1 : Nat) : Int)))) := ((HKW2.out.setCell (p := ⟨p, 2, none⟩) (Nat.le_refl _) (Nat.lt_succ_self _) (.int .i64 ((n + 1 : Nat) : Int))).setCell (p := ⟨p, 1, none⟩) (Nat.le_refl _) (Nat.lt_succ_self _) (.int .i64 ((k + 1 : Nat) : Int)))
      have HM2 : Hid (k + 1 + (skipM false ((byt s).drop (k + 1))).1 = M) := by show _ = _; have h := HM.out; rw [HR.out] at h; rw [show ((10 : Nat) : Int) = 10 from rfl, skip_nl] at h; dsimp only at h; omega
      have HQ2 : Hid (n + 1 + (skipM false ((byt s).drop (k + 1))).2 = Q) := by show _ = _; have h := HQ.out; rw [HR.out] at h; rw [show ((10 : Nat) : Int) = 10 from rfl, skip_nl] at h; dsimp only at h; omega
      go_wp2_with fail
      go_roundw
      case rel => exact ⟨k + 1, n + 1, by omega, HBN, HM2, HQ2, HKN⟩
      case measure => exact meas HBN.out HB.out (by omega) (by omega)
    have e10 : (((c : Nat) : Int) == 10) = false := by simp; omega
    by_cases h32 : c = 32
    case pos =>
      subst h32
      have HBN : Hid (Blk (W2.setCell ⟨p, 1, none⟩ (.int .i64 ((k + 1 : Nat) : Int))) p 37 #[.string s, .int .i64 (k + 1 : Nat), .int .i64 (n : Nat), v]) := by
        show Blk _ _ _ _
        have := (HBW2.out.set_ 1 (.int .i64 ((k + 1 : Nat) : Int)))
        simpa using this
      have HKN : Hid (Keep p (p + 1) w (W2.setCell ⟨p, 1, none⟩ (.int .i64 ((k + 1 : Nat) : Int)))) := (HKW2.out.setCell (p := ⟨p, 1, none⟩) (Nat.le_refl _) (Nat.lt_succ_self _) (.int .i64 ((k + 1 : Nat) : Int)))
      have HM2 : Hid (k + 1 + (skipM false ((byt s).drop (k + 1))).1 = M) := by show _ = _; have h := HM.out; rw [HR.out] at h; rw [show ((32 : Nat) : Int) = 32 from rfl, skip_sp] at h; dsimp only at h; omega
      have HQ2 : Hid (n + (skipM false ((byt s).drop (k + 1))).2 = Q) := by show _ = _; have h := HQ.out; rw [HR.out] at h; rw [show ((32 : Nat) : Int) = 32 from rfl, skip_sp] at h; exact h
      go_wp2_with fail
      go_roundw
      case rel => exact ⟨k + 1, n, by omega, HBN, HM2, HQ2, HKN⟩
      case measure => exact meas HBN.out HB.out (by omega) (by omega)
    have e32 : (((c : Nat) : Int) == 32) = false := by simp; omega
    have HP : Hid (∀ W, Calls Try.prog 20 #[.string (s.extract k s.size), .string ⟨#[47, 47]⟩] W fun e w' => e = .returned (.bool (pre2 s k 47 47)) ∧ w' = W) := fun W => prefix2_any (by omega) (by decide) (by decide) ⟨#[47, 47]⟩ rfl W
    have HPV : Hid (pre2 s k 47 47 = (decide (c = 47) && hdP (fun x => decide (x = 47)) ((byt s).drop (k + 1)))) := by
      show _ = _
      rw [hd_nx (by decide), pre2, decide_eq_true hlt, Bool.true_and, HNX.out]
      by_cases h1 : k + 1 < s.size
      · rw [decide_eq_true h1, Bool.true_and]
        congr 1
        rw [decide_eq_decide]; omega
      · rw [decide_eq_false h1, nxB_no h1]; simp
    cases hp : pre2 s k 47 47
    case false =>
      have HP2 : Hid (∀ W, Calls Try.prog 20 #[.string (s.extract k s.size), .string ⟨#[47, 47]⟩] W fun e w' => e = .returned (.bool false) ∧ w' = W) := by have := HP.out; rw [hp] at this; exact this
      have HF : Hid (k = M ∧ n = Q) := by
        have h1 := HM.out
        have h2 := HQ.out
        have hv := HPV.out
        rw [hp] at hv
        rw [HR.out, skip_fs h10 h32 (fun e => by rw [decide_eq_true e.1, e.2] at hv; cases hv)] at h1 h2
        exact ⟨h1, h2⟩
      clear hp HP HPV hc
      go_wp2_with fail
      go_quiet (first | (go_at_call 20; exact Calls.quiet_of_same (HP2.out _)))
      go_wp2_with fail
      refine bodyPost_ret (v := .tuple #[]) (results_none Try.results12 _ _ _) rfl ?_
      have hf := HF.out
      rw [← hf.1, ← hf.2]
      exact ⟨rfl, blk_drewN HBW2.out _, keep_drewN HKW2.out _⟩
    have HP2 : Hid (∀ W, Calls Try.prog 20 #[.string (s.extract k s.size), .string ⟨#[47, 47]⟩] W fun e w' => e = .returned (.bool true) ∧ w' = W) := by have := HP.out; rw [hp] at this; exact this
    have hv := HPV.out
    rw [hp] at hv
    replace hv := hv.symm
    rw [Bool.and_eq_true, decide_eq_true_eq] at hv
    obtain ⟨h47, hh⟩ := hv
    have HC : Hid (skipM false ((byt s).drop k) = skipM true ((byt s).drop k)) := by
      show _ = _
      rw [HR.out, h47]
      exact skip_cm hh
    have HMT : Hid (k + (skipM true ((byt s).drop k)).1 = M) := by show _ = _; rw [← HC.out]; exact HM.out
    have HQT : Hid (n + (skipM true ((byt s).drop k)).2 = Q) := by show _ = _; rw [← HC.out]; exact HQ.out
    clear hp HP HPV HM HQ HC hh
    go_wp2_with fail
    go_quiet (first | (go_at_call 20; exact Calls.quiet_of_same (HP2.out _)))
    obtain ⟨W3, hW3⟩ : ∃ V, V = W2.drewN nq := ⟨_, rfl⟩
    have HBW3 : Hid (Blk W3 p 37 #[.string s, .int .i64 (k : Nat), .int .i64 (n : Nat), v]) := by show Blk _ _ _ _; rw [hW3]; exact HBW2.out
    have HKW3 : Hid (Keep p (p + 1) w W3) := by show Keep _ _ _ _; rw [hW3]; exact keep_drewN HKW2.out _
    rw [← hW3]
    clear hW3
    clear c0 c1 c2
    have c0 : W3.cell? ⟨p, 0, none⟩ = some (.string s) := HBW3.out.cell 0
    have c1 : W3.cell? ⟨p, 1, none⟩ = some (.int .i64 (k : Nat)) := HBW3.out.cell 1
    have c2 : W3.cell? ⟨p, 2, none⟩ = some (.int .i64 (n : Nat)) := HBW3.out.cell 2
    clear f1 f2 hki
    have HWR := Lib.hid HB.out
    clear HBW2 HKW2 HB HK HP2 HNX HR
    obtain ⟨wo, rfl⟩ : ∃ wo : World, wo = wr := ⟨_, rfl⟩
    go_wp2_with fail
    go_loopw [] (fun wr => ∃ j : Nat, k ≤ j ∧ j ≤ s.size ∧ Hid (Blk wr p 37 #[.string s, .int .i64 (j : Nat), .int .i64 (n : Nat), v]) ∧ Hid (j + (skipM true ((byt s).drop j)).1 = M) ∧ Hid (n + (skipM true ((byt s).drop j)).2 = Q) ∧ Hid (Keep p (p + 1) w wr)) (fun wr => s.size - atOf wr p)
    case atStart => exact ⟨k, Nat.le_refl _, hk, HBW3, HMT, HQT, HKW3⟩
    case round =>
      clear HMT HQT HBW3 HKW3 c0 c1 c2
      obtain ⟨j, hkj, hj, HB, HM, HQ, HK⟩ := hrel
      have c0 : wr.cell? ⟨p, 0, none⟩ = some (.string s) := HB.out.cell 0
      have c1 : wr.cell? ⟨p, 1, none⟩ = some (.int .i64 (j : Nat)) := HB.out.cell 1
      have c2 : wr.cell? ⟨p, 2, none⟩ = some (.int .i64 (n : Nat)) := HB.out.cell 2
      have hji : IntKind.i64.wrap ((j : Int) + 1) = ((j + 1 : Nat) : Int) := (IntWalk.i64_in _ (by omega)).trans (by omega)
      by_cases hjl : j < s.size
      case neg =>
        have hdj : decide ((j : Int) < (s.size : Int)) = false := decide_eq_false (by omega)
        have HM2 : Hid (j + (skipM false ((byt s).drop j)).1 = M) := by show _ = _; have h := HM.out; rw [drop_byt_end (by omega)] at h ⊢; exact h
        have HQ2 : Hid (n + (skipM false ((byt s).drop j)).2 = Q) := by show _ = _; have h := HQ.out; rw [drop_byt_end (by omega)] at h ⊢; exact h
        go_wp2_with fail
        go_quiet (fail)
        go_wp2_with fail
        go_roundw
        case rel => exact ⟨j, n, hj, Lib.hid (blk_drewN HB.out _), HM2, HQ2, Lib.hid (keep_drewN HK.out _)⟩
        case measure => exact meas (blk_drewN HB.out _) HWR.out (by omega) (by omega)
      have hrest := drop_byt hjl
      obtain ⟨x, hx⟩ : ∃ x, s[j].toNat = x := ⟨_, rfl⟩
      rw [hx] at hrest
      have hjlt : decide ((j : Int) < (s.size : Int)) = true := decide_eq_true (by omega)
      have hjlj : (j : Int) < (s.size : Int) := by omega
      have hj0 : (0 : Int) ≤ (j : Int) := by omega
      have HR := Lib.hid hrest
      clear hrest
      by_cases hx10 : x = 10
      case pos =>
        subst hx10
        have hne : k ≠ j := fun e => by subst e; rw [hc] at hx; omega
        have HM2 : Hid (j + (skipM false ((byt s).drop j)).1 = M) := by show _ = _; have h := HM.out; rw [HR.out] at h ⊢; rw [show ((10 : Nat) : Int) = 10 from rfl, skip_nl] at h ⊢; exact h
        have HQ2 : Hid (n + (skipM false ((byt s).drop j)).2 = Q) := by show _ = _; have h := HQ.out; rw [HR.out] at h ⊢; rw [show ((10 : Nat) : Int) = 10 from rfl, skip_nl] at h ⊢; exact h
        go_wp2_with fail
        go_quiet (fail)
        go_wp2_with fail
        go_roundw
        case rel => exact ⟨j, n, hj, Lib.hid (blk_drewN HB.out _), HM2, HQ2, Lib.hid (keep_drewN HK.out _)⟩
        case measure => exact meas (blk_drewN HB.out _) HWR.out (by omega) (by omega)
      have ex : (((x : Nat) : Int) == 10) = false := by simp; omega
      have HM2 : Hid (j + 1 + (skipM true ((byt s).drop (j + 1))).1 = M) := by show _ = _; have h := HM.out; rw [HR.out, skip_in (by omega)] at h; dsimp only at h; omega
      have HQ2 : Hid (n + (skipM true ((byt s).drop (j + 1))).2 = Q) := by show _ = _; have h := HQ.out; rw [HR.out, skip_in (by omega)] at h; exact h
      go_wp2_with fail
      go_quiet (fail)
      obtain ⟨W4, hW4⟩ : ∃ V, V = wr.drewN nq := ⟨_, rfl⟩
      have HBW4 : Hid (Blk W4 p 37 #[.string s, .int .i64 (j : Nat), .int .i64 (n : Nat), v]) := by show Blk _ _ _ _; rw [hW4]; exact HB.out
      have HKW4 : Hid (Keep p (p + 1) w W4) := by show Keep _ _ _ _; rw [hW4]; exact keep_drewN HK.out _
      rw [← hW4]
      clear hW4
      clear c0 c1 c2
      have c0 : W4.cell? ⟨p, 0, none⟩ = some (.string s) := HBW4.out.cell 0
      have c1 : W4.cell? ⟨p, 1, none⟩ = some (.int .i64 (j : Nat)) := HBW4.out.cell 1
      have c2 : W4.cell? ⟨p, 2, none⟩ = some (.int .i64 (n : Nat)) := HBW4.out.cell 2
      have f1 := HBW4.out.frozen 1
      have HBN : Hid (Blk (W4.setCell ⟨p, 1, none⟩ (.int .i64 ((j + 1 : Nat) : Int))) p 37 #[.string s, .int .i64 (j + 1 : Nat), .int .i64 (n : Nat), v]) := by
        show Blk _ _ _ _
        have := (HBW4.out.set_ 1 (.int .i64 ((j + 1 : Nat) : Int)))
        simpa using this
      have HKN : Hid (Keep p (p + 1) w (W4.setCell ⟨p, 1, none⟩ (.int .i64 ((j + 1 : Nat) : Int)))) := (HKW4.out.setCell (p := ⟨p, 1, none⟩) (Nat.le_refl _) (Nat.lt_succ_self _) (.int .i64 ((j + 1 : Nat) : Int)))
      go_wp2_with fail
      go_roundw
      case rel => exact ⟨j + 1, by omega, by omega, HBN, HM2, HQ2, HKN⟩
      case measure => exact meas HBN.out HB.out (by omega) (by omega)
end Go.Proofs.Ytfnncclplbbghaa

