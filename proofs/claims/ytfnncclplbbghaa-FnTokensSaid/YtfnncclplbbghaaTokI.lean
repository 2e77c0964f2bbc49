/-
  Tokens: impl's lexer: byteAt, wordEnd, next (by program: gen_toki.py).
-/
import Derived.Test.YtfnncclplbbghaaTokL
import Derived.Test.YtfnncclplbbghaaIdx
import Derived.Deep.QuietTactic
namespace Go.Proofs.Ytfnncclplbbghaa
open Go.RowKit
set_option linter.unusedVariables false
set_option linter.unusedSimpArgs false
set_option linter.unnecessarySimpa false
set_option maxRecDepth 16000

/-- the byte at a place, 0 behind the end -/
def nxB (s : ByteArray) (k : Nat) : Nat := if h : k < s.size then s[k].toNat else 0
theorem nxB_yes {s : ByteArray} {k : Nat} (h : k < s.size) : nxB s k = s[k].toNat := dif_pos h
theorem nxB_no {s : ByteArray} {k : Nat} (h : ¬ k < s.size) : nxB s k = 0 := dif_neg h
theorem hd_nx {s : ByteArray} {k : Nat} {p : Int → Bool} (h0 : p 0 = false) : hdP p ((byt s).drop k) = p (nxB s k) := by
  by_cases h : k < s.size
  · rw [drop_byt h, nxB_yes h]; rfl
  · rw [drop_byt_end (by omega), nxB_no h]; exact h0.symm
theorem byteAt_any {p : Nat} {s : ByteArray} {x y v : Value} {w : World} (h : Blk w p 37 #[.string s, x, y, v]) (k : Nat) (hs : s.size ≤ 1048576) : Calls Try.prog 32 #[.pointer (some ⟨p, 0, none⟩), .int .i64 k] w fun e w' => e = .returned (.int .u8 (nxB s k)) ∧ w' = w := by
  have c0 : w.cell? ⟨p, 0, none⟩ = some (.string s) := h.cell 0
  by_cases hk : k < s.size
  · have hd : decide ((s.size : Int) ≤ (k : Int)) = false := decide_eq_false (by omega)
    rw [nxB_yes hk]
    go_enter Try.func32, Try.ntmps32
    go_wp2_with fail
    go_ret
    exact ⟨rfl, rfl⟩
  · have hd : decide ((s.size : Int) ≤ (k : Int)) = true := decide_eq_true (by omega)
    rw [nxB_no hk]
    go_enter Try.func32, Try.ntmps32
    go_wp2_with fail
    go_ret
    exact ⟨rfl, rfl⟩
theorem hasPrefix_short {t p : ByteArray} (h : t.size < p.size) (w : World) : Calls Try.prog 20 #[.string t, .string p] w fun e w' => e = .returned (.bool false) ∧ w' = w := by
  have hd : decide ((p.size : Int) ≤ (t.size : Int)) = false := decide_eq_false (by omega)
  have HI : Hid (∀ W, Calls Try.prog 31 #[.string t, .string p] W fun e w' => e = .returned (.bool false) ∧ w' = W) := by
    intro W
    go_enter Try.func31, Try.ntmps31
    go_wp2_with fail
    go_ret
    exact ⟨rfl, rfl⟩
  go_enter Try.func20, Try.ntmps20
  go_wp2_with fail
  refine (HI.out _).mono ?_
  rintro e w' ⟨rfl, rfl⟩
  go_wp2_with fail
  go_ret
  exact ⟨rfl, rfl⟩
theorem hasPrefix_yes {t p : ByteArray} (h : p.size ≤ t.size) (he : t.extract 0 p.size = p) (w : World) : Calls Try.prog 20 #[.string t, .string p] w fun e w' => e = .returned (.bool true) ∧ w' = w := by
  have hd : decide ((p.size : Int) ≤ (t.size : Int)) = true := decide_eq_true (by omega)
  have hl : (p.size : Int) ≤ (t.size : Int) := by omega
  have hl0 : (0 : Int) ≤ (p.size : Int) := by omega
  have HI : Hid (∀ W, Calls Try.prog 31 #[.string t, .string p] W fun e w' => e = .returned (.bool true) ∧ w' = W) := by
    intro W
    go_enter Try.func31, Try.ntmps31
    go_wp2_with fail
    go_ret
    exact ⟨rfl, rfl⟩
  go_enter Try.func20, Try.ntmps20
  go_wp2_with fail
  refine (HI.out _).mono ?_
  rintro e w' ⟨rfl, rfl⟩
  go_wp2_with fail
  go_ret
  exact ⟨rfl, rfl⟩
theorem hasPrefix_ne {t p : ByteArray} (h : p.size ≤ t.size) (he : ¬ t.extract 0 p.size = p) (w : World) : Calls Try.prog 20 #[.string t, .string p] w fun e w' => e = .returned (.bool false) ∧ w' = w := by
  have hd : decide ((p.size : Int) ≤ (t.size : Int)) = true := decide_eq_true (by omega)
  have hl : (p.size : Int) ≤ (t.size : Int) := by omega
  have hl0 : (0 : Int) ≤ (p.size : Int) := by omega
  have hne := str_ne2 he
  have HI : Hid (∀ W, Calls Try.prog 31 #[.string t, .string p] W fun e w' => e = .returned (.bool false) ∧ w' = W) := by
    intro W
    go_enter Try.func31, Try.ntmps31
    go_wp2_with fail
    go_ret
    exact ⟨rfl, rfl⟩
  go_enter Try.func20, Try.ntmps20
  go_wp2_with fail
  refine (HI.out _).mono ?_
  rintro e w' ⟨rfl, rfl⟩
  go_wp2_with fail
  go_ret
  exact ⟨rfl, rfl⟩
/-- HasPrefix(s[k:], two bytes) -/
def pre2 (s : ByteArray) (k x y : Nat) : Bool := decide (k < s.size) && (decide (nxB s k = x) && (decide (k + 1 < s.size) && decide (nxB s (k + 1) = y)))
theorem prefix2_any {s : ByteArray} {k x y : Nat} (hk : k ≤ s.size) (hx : x < 256) (hy : y < 256) (P2 : ByteArray) (hP : byt P2 = [(x : Int), (y : Int)]) (w : World) :
    Calls Try.prog 20 #[.string (s.extract k s.size), .string P2] w fun e w' => e = .returned (.bool (pre2 s k x y)) ∧ w' = w := by
  have hp2 : P2.size = 2 := by rw [← byt_length, hP]; rfl
  have hts : (s.extract k s.size).size = s.size - k := by rw [ByteArray.size_extract]; omega
  by_cases h2 : k + 1 < s.size
  · have hb : byt ((s.extract k s.size).extract 0 P2.size) = [((nxB s k : Nat) : Int), ((nxB s (k + 1) : Nat) : Int)] := by
      rw [byt_extract, byt_drop, hp2, drop_byt (by omega : k < s.size), drop_byt h2, nxB_yes (by omega : k < s.size), nxB_yes h2]
      rfl
    by_cases he : nxB s k = x ∧ nxB s (k + 1) = y
    · have e : pre2 s k x y = true := by unfold pre2; rw [decide_eq_true (by omega : k < s.size), decide_eq_true he.1, decide_eq_true h2, decide_eq_true he.2]; rfl
      rw [e]
      exact hasPrefix_yes (by omega) (byt_inj (by rw [hb, hP, he.1, he.2])) w
    · have e : pre2 s k x y = false := by
        rw [← Bool.not_eq_true]
        intro h
        unfold pre2 at h
        simp only [Bool.and_eq_true, decide_eq_true_eq] at h
        exact he ⟨h.2.1, h.2.2.2⟩
      rw [e]
      refine hasPrefix_ne (by omega) (fun h => he ?_) w
      rw [h, hP] at hb
      injection hb with h1 h3
      injection h3 with h3 h4
      exact ⟨by omega, by omega⟩
  · have e : pre2 s k x y = false := by unfold pre2; rw [decide_eq_false h2]; simp
    rw [e]
    exact hasPrefix_short (by omega) w
set_option maxHeartbeats 3200000 in
theorem wordEndW_any {p a : Nat} {s : ByteArray} {x y v : Value} {w : World} (h : Blk w p 37 #[.string s, x, y, v]) (ha : a < s.size) (hs : s.size ≤ 1048576) (hl : isL ((s[a].toNat : Nat) : Int) = true) :
    Calls Try.prog 22 #[.pointer (some ⟨p, 0, none⟩), .int .i64 a] w fun e w' => e = .returned (.int .i64 ((a + wordN ((byt s).drop a) : Nat) : Int)) ∧ ∃ q, w' = w.drewN q := by
  have c0 : w.cell? ⟨p, 0, none⟩ = some (.string s) := h.cell 0
  have HBL := Lib.hid h
  obtain ⟨N, hN⟩ : ∃ N, N = a + wordN ((byt s).drop a) := ⟨_, rfl⟩
  rw [← hN]
  have HN : Hid (a + 1 + wordN ((byt s).drop (a + 1)) = N) := by
    show _ = _
    rw [hN, drop_byt ha, word_yes (.inl (isLD_l hl))]
    omega
  have ha1 : IntKind.i64.wrap ((a : Int) + 1) = ((a + 1 : Nat) : Int) := (IntWalk.i64_in _ (by omega)).trans (by omega)
  have hai : (a : Int) < (s.size : Int) := by omega
  have HL := Lib.hid hl
  clear hN h hl
  go_enter Try.func22, Try.ntmps22
  go_wp2_with fail
  refine (implL_any _ _).mono ?_
  rintro e w' ⟨rfl, rfl⟩
  rw [HL.out]
  go_wp2_with fail
  go_loopw [1] (fun i wr => ∃ k q : Nat, i = .int .i64 k ∧ k ≤ s.size ∧ Hid (k + wordN ((byt s).drop k) = N) ∧ wr = w.drewN q) (fun i _ => s.size - (intOf i).toNat)
  case atStart => exact ⟨a + 1, 0, rfl, ha, HN, rfl⟩
  case round =>
    clear HN
    obtain ⟨k, q, rfl, hk, HK, hwr⟩ := hrel
    have HWR := Lib.hid hwr
    have c0 : wr.cell? ⟨p, 0, none⟩ = some (.string s) := by rw [hwr]; exact HBL.out.cell 0
    clear hwr
    have hki : IntKind.i64.wrap ((k : Int) + 1) = (k : Int) + 1 := IntWalk.i64_in _ (by omega)
    by_cases hlt : k < s.size
    case neg =>
      have HF : Hid (k = N) := by show _ = _; have := HK.out; rw [drop_byt_end (by omega)] at this; simpa [wordN] using this
      have hd : decide ((k : Int) < (s.size : Int)) = false := decide_eq_false (by omega)
      go_wp2_with fail
      go_ret
      exact ⟨ret_int (by rw [HF.out]), _, HWR.out⟩
    have hrest := drop_byt hlt
    obtain ⟨c, hc⟩ : ∃ c, s[k].toNat = c := ⟨_, rfl⟩
    rw [hc] at hrest
    have hlti : decide ((k : Int) < (s.size : Int)) = true := decide_eq_true (by omega)
    have hltj : (k : Int) < (s.size : Int) := by omega
    obtain ⟨d, hd⟩ : ∃ d, d = nxB s (k + 1) := ⟨_, rfl⟩
    have HBA : Hid (∀ n, Calls Try.prog 32 #[.pointer (some ⟨p, 0, none⟩), .int .i64 ((k : Int) + 1)] (wr.drewN n) fun e w' => e = .returned (.int .u8 (d : Int)) ∧ w' = wr.drewN n) := by
      intro n
      have hb : Blk (wr.drewN n) p 37 #[.string s, x, y, v] := by rw [HWR.out]; exact HBL.out
      have := byteAt_any hb (k + 1) hs
      rw [← hd] at this
      exact this
    have HR := Lib.hid hrest
    have HDX := Lib.hid hd
    have HYES : Hid (wordN (((c : Nat) : Int) :: (byt s).drop (k + 1)) = wordN ((byt s).drop (k + 1)) + 1 → k + 1 + wordN ((byt s).drop (k + 1)) = N) := fun h => by have := HK.out; rw [HR.out, h] at this; omega
    have HNO : Hid (wordN (((c : Nat) : Int) :: (byt s).drop (k + 1)) = 0 → k = N) := fun h => by have := HK.out; rw [HR.out, h] at this; omega
    clear hrest hd
    go_wp2_with fail
    go_quiet (first | (go_at_call 32; exact Calls.quiet_of_same (HBA.out _)))
    have HWQ : Hid (wr.drewN nq = w.drewN (q + nq)) := by show _ = _; rw [HWR.out]; exact World.drewN_drewN _ _ _
    clear HBA
    go_wp2_with fail
    refine (implD_any _ _).mono ?_
    rintro e w' ⟨rfl, rfl⟩
    cases hD : isD ((c : Nat) : Int)
    case true =>
      have e45 : (((c : Nat) : Int) == 45) = false := by have := isD_rng hD; simp; omega
      have HG := Lib.hid (HYES.out (word_yes (.inl (isLD_d hD))))
      clear hD
      go_wp2_with fail
      go_roundw
      case rel => exact ⟨k + 1, _, by go_num, by omega, HG, HWQ.out⟩
      case measure => simp [intOf]; omega
    go_wp2_with fail
    refine (implL_any _ _).mono ?_
    rintro e w' ⟨rfl, rfl⟩
    cases hL : isL ((c : Nat) : Int)
    case true =>
      have e45 : (((c : Nat) : Int) == 45) = false := by have := isL_rng hL; simp; omega
      have HG := Lib.hid (HYES.out (word_yes (.inl (isLD_l hL))))
      clear hL
      go_wp2_with fail
      go_roundw
      case rel => exact ⟨k + 1, _, by go_num, by omega, HG, HWQ.out⟩
      case measure => simp [intOf]; omega
    have HNF := Lib.hid (isLD_no hL hD)
    clear hL hD
    by_cases h45 : c = 45
    case neg =>
      have e45 : (((c : Nat) : Int) == 45) = false := by simp; omega
      have HF := Lib.hid (HNO.out (word_no HNF.out (fun e => by omega)))
      go_wp2_with fail
      go_ret
      exact ⟨ret_int (by rw [HF.out]), _, HWQ.out⟩
    subst h45
    go_wp2_with fail
    refine (implL_any _ _).mono ?_
    rintro e w' ⟨rfl, rfl⟩
    cases gL : isL ((d : Nat) : Int)
    case true =>
      have HG := Lib.hid (HYES.out (word_yes (.inr ⟨rfl, by rw [hd_nx (by decide), ← HDX.out]; exact isLD_l gL⟩)))
      clear gL
      go_wp2_with fail
      go_roundw
      case rel => exact ⟨k + 1, _, by go_num, by omega, HG, HWQ.out⟩
      case measure => simp [intOf]; omega
    go_wp2_with fail
    refine (implD_any _ _).mono ?_
    rintro e w' ⟨rfl, rfl⟩
    cases gD : isD ((d : Nat) : Int)
    case true =>
      have HG := Lib.hid (HYES.out (word_yes (.inr ⟨rfl, by rw [hd_nx (by decide), ← HDX.out]; exact isLD_d gD⟩)))
      clear gD
      go_wp2_with fail
      go_roundw
      case rel => exact ⟨k + 1, _, by go_num, by omega, HG, HWQ.out⟩
      case measure => simp [intOf]; omega
    have HF := Lib.hid (HNO.out (word_no HNF.out (fun e => by rw [hd_nx (by decide), ← HDX.out]; exact isLD_no gL gD)))
    go_wp2_with fail
    go_ret
    exact ⟨ret_int (by rw [HF.out]), _, HWQ.out⟩
set_option maxHeartbeats 3200000 in
theorem wordEndN_any {p a : Nat} {s : ByteArray} {x y v : Value} {w : World} (h : Blk w p 37 #[.string s, x, y, v]) (ha : a < s.size) (hs : s.size ≤ 1048576) (hl : isL ((s[a].toNat : Nat) : Int) = false) (hdg : isD ((s[a].toNat : Nat) : Int) = true) :
    Calls Try.prog 22 #[.pointer (some ⟨p, 0, none⟩), .int .i64 a] w fun e w' => e = .returned (.int .i64 ((a + numN ((byt s).drop a) : Nat) : Int)) ∧ ∃ q, w' = w.drewN q := by
  have c0 : w.cell? ⟨p, 0, none⟩ = some (.string s) := h.cell 0
  have HBL := Lib.hid h
  obtain ⟨N, hN⟩ : ∃ N, N = a + numN ((byt s).drop a) := ⟨_, rfl⟩
  rw [← hN]
  have HN : Hid (a + 1 + numN ((byt s).drop (a + 1)) = N) := by
    show _ = _
    rw [hN, drop_byt ha, num_yes (.inl hdg)]
    omega
  have ha1 : IntKind.i64.wrap ((a : Int) + 1) = ((a + 1 : Nat) : Int) := (IntWalk.i64_in _ (by omega)).trans (by omega)
  have hai : (a : Int) < (s.size : Int) := by omega
  have HL := Lib.hid hl
  clear hN h hl
  go_enter Try.func22, Try.ntmps22
  go_wp2_with fail
  refine (implL_any _ _).mono ?_
  rintro e w' ⟨rfl, rfl⟩
  rw [HL.out]
  go_wp2_with fail
  go_loopw [1] (fun i wr => ∃ k q : Nat, i = .int .i64 k ∧ k ≤ s.size ∧ Hid (k + numN ((byt s).drop k) = N) ∧ wr = w.drewN q) (fun i _ => s.size - (intOf i).toNat)
  case atStart => exact ⟨a + 1, 0, rfl, ha, HN, rfl⟩
  case round =>
    clear HN
    obtain ⟨k, q, rfl, hk, HK, hwr⟩ := hrel
    have HWR := Lib.hid hwr
    have c0 : wr.cell? ⟨p, 0, none⟩ = some (.string s) := by rw [hwr]; exact HBL.out.cell 0
    clear hwr
    have hki : IntKind.i64.wrap ((k : Int) + 1) = (k : Int) + 1 := IntWalk.i64_in _ (by omega)
    by_cases hlt : k < s.size
    case neg =>
      have HF : Hid (k = N) := by show _ = _; have := HK.out; rw [drop_byt_end (by omega)] at this; simpa [numN] using this
      have hd : decide ((k : Int) < (s.size : Int)) = false := decide_eq_false (by omega)
      go_wp2_with fail
      go_ret
      exact ⟨ret_int (by rw [HF.out]), _, HWR.out⟩
    have hrest := drop_byt hlt
    obtain ⟨c, hc⟩ : ∃ c, s[k].toNat = c := ⟨_, rfl⟩
    rw [hc] at hrest
    have hlti : decide ((k : Int) < (s.size : Int)) = true := decide_eq_true (by omega)
    have hltj : (k : Int) < (s.size : Int) := by omega
    obtain ⟨d, hd⟩ : ∃ d, d = nxB s (k + 1) := ⟨_, rfl⟩
    have HBA : Hid (∀ n, Calls Try.prog 32 #[.pointer (some ⟨p, 0, none⟩), .int .i64 ((k : Int) + 1)] (wr.drewN n) fun e w' => e = .returned (.int .u8 (d : Int)) ∧ w' = wr.drewN n) := by
      intro n
      have hb : Blk (wr.drewN n) p 37 #[.string s, x, y, v] := by rw [HWR.out]; exact HBL.out
      have := byteAt_any hb (k + 1) hs
      rw [← hd] at this
      exact this
    have HR := Lib.hid hrest
    have HDX := Lib.hid hd
    have HYES : Hid (numN (((c : Nat) : Int) :: (byt s).drop (k + 1)) = numN ((byt s).drop (k + 1)) + 1 → k + 1 + numN ((byt s).drop (k + 1)) = N) := fun h => by have := HK.out; rw [HR.out, h] at this; omega
    have HNO : Hid (numN (((c : Nat) : Int) :: (byt s).drop (k + 1)) = 0 → k = N) := fun h => by have := HK.out; rw [HR.out, h] at this; omega
    clear hrest hd
    go_wp2_with fail
    go_quiet (first | (go_at_call 32; exact Calls.quiet_of_same (HBA.out _)))
    have HWQ : Hid (wr.drewN nq = w.drewN (q + nq)) := by show _ = _; rw [HWR.out]; exact World.drewN_drewN _ _ _
    clear HBA
    go_wp2_with fail
    refine (implD_any _ _).mono ?_
    rintro e w' ⟨rfl, rfl⟩
    cases hD : isD ((c : Nat) : Int)
    case true =>
      have e45 : (((c : Nat) : Int) == 46) = false := by have := isD_rng hD; simp; omega
      have HG := Lib.hid (HYES.out (num_yes (.inl hD)))
      clear hD
      go_wp2_with fail
      go_roundw
      case rel => exact ⟨k + 1, _, by go_num, by omega, HG, HWQ.out⟩
      case measure => simp [intOf]; omega
    have HNF := Lib.hid hD
    clear hD
    by_cases h45 : c = 46
    case neg =>
      have e45 : (((c : Nat) : Int) == 46) = false := by simp; omega
      have HF := Lib.hid (HNO.out (num_no HNF.out (fun e => by omega)))
      go_wp2_with fail
      go_ret
      exact ⟨ret_int (by rw [HF.out]), _, HWQ.out⟩
    subst h45
    go_wp2_with fail
    refine (implD_any _ _).mono ?_
    rintro e w' ⟨rfl, rfl⟩
    cases gD : isD ((d : Nat) : Int)
    case true =>
      have HG := Lib.hid (HYES.out (num_yes (.inr ⟨rfl, by rw [hd_nx (by decide), ← HDX.out]; exact gD⟩)))
      clear gD
      go_wp2_with fail
      go_roundw
      case rel => exact ⟨k + 1, _, by go_num, by omega, HG, HWQ.out⟩
      case measure => simp [intOf]; omega
    have HF := Lib.hid (HNO.out (num_no HNF.out (fun e => by rw [hd_nx (by decide), ← HDX.out]; exact gD)))
    go_wp2_with fail
    go_ret
    exact ⟨ret_int (by rw [HF.out]), _, HWQ.out⟩
theorem sign_idx : ∀ c : Fin 256, decide ((0 : Int) ≤ Lib.indexByte (⟨#[123, 125, 40, 41, 60, 62, 44, 59, 58, 61, 46, 47, 64, 95]⟩ : ByteArray).data.toList (c.val.toUInt8)) = isS (c.val : Int) := by decide
theorem indexSign_any {c : Nat} (hc : c < 256) (w : World) : ∃ r : Int, decide ((0 : Int) ≤ r) = isS (c : Int) ∧ Calls Try.prog 24 #[.string ⟨#[123, 125, 40, 41, 60, 62, 44, 59, 58, 61, 46, 47, 64, 95]⟩, .int .u8 (c : Int)] w fun e w' => e = .returned (.int .i64 r) ∧ w = w' := by
  have h := indexByte_any ⟨#[123, 125, 40, 41, 60, 62, 44, 59, 58, 61, 46, 47, 64, 95]⟩ (c : Int) w
  rw [Int.toNat_natCast] at h
  exact ⟨_, sign_idx ⟨c, hc⟩, h⟩
/-- what next answers -/
def nextV (s : ByteArray) (a : Nat) : Value := match lexN ((byt s).drop a) with
  | none => .tuple #[.int .i64 0, .int .i64 0]
  | some (kd, n) => .tuple #[.int .i64 kd, .int .i64 ((a + n : Nat) : Int)]
theorem nextV_some {s : ByteArray} {a : Nat} {kd : Int} {n : Nat} (h : lexN ((byt s).drop a) = some (kd, n)) : nextV s a = .tuple #[.int .i64 kd, .int .i64 ((a + n : Nat) : Int)] := by rw [nextV, h]
theorem nextV_none {s : ByteArray} {a : Nat} (h : lexN ((byt s).drop a) = none) : nextV s a = .tuple #[.int .i64 0, .int .i64 0] := by rw [nextV, h]
theorem drewN2 (w : World) (a b : Nat) : ∃ c, (w.drewN a).drewN b = w.drewN c := ⟨a + b, World.drewN_drewN _ _ _⟩
set_option maxHeartbeats 3200000 in
theorem next_tok {p a : Nat} {s : ByteArray} {y v : Value} {w : World} (h : Blk w p 37 #[.string s, .int .i64 a, y, v]) (ha : a < s.size) (hs : s.size ≤ 1048576) :
    Calls Try.prog 13 #[.pointer (some ⟨p, 0, none⟩)] w fun e w' => e = .returned (nextV s a) ∧ ∃ q, w' = w.drewN q := by
  have c0 : w.cell? ⟨p, 0, none⟩ = some (.string s) := h.cell 0
  have c1 : w.cell? ⟨p, 1, none⟩ = some (.int .i64 a) := h.cell 1
  have HBL := Lib.hid h
  have hrest := drop_byt ha
  obtain ⟨c, hc⟩ : ∃ c, s[a].toNat = c := ⟨_, rfl⟩
  have hc256 : c < 256 := by rw [← hc]; exact s[a].toNat_lt
  have hnx : nxB s a = c := by rw [nxB_yes ha, hc]
  rw [hc] at hrest
  have HNX := Lib.hid hnx
  have HR := Lib.hid hrest
  have hai : (a : Int) < (s.size : Int) := by omega
  have hal : (a : Int) ≤ (s.size : Int) := by omega
  have ha0 : (0 : Int) ≤ (a : Int) := by omega
  have hw1 : IntKind.i64.wrap ((a : Int) + 1) = ((a + 1 : Nat) : Int) := (IntWalk.i64_in _ (by omega)).trans (by omega)
  have hw2 : IntKind.i64.wrap ((a : Int) + 2) = ((a + 2 : Nat) : Int) := (IntWalk.i64_in _ (by omega)).trans (by omega)
  have HP : Hid (∀ W, Calls Try.prog 20 #[.string (s.extract a s.size), .string ⟨#[45, 62]⟩] W fun e w' => e = .returned (.bool (pre2 s a 45 62)) ∧ w' = W) := fun W => prefix2_any (by omega) (by decide) (by decide) ⟨#[45, 62]⟩ rfl W
  have HPV : Hid (pre2 s a 45 62 = (decide (c = 45) && hdP (fun x => decide (x = 62)) ((byt s).drop (a + 1)))) := by
    show _ = _
    rw [hd_nx (by decide), pre2, decide_eq_true ha, Bool.true_and, hnx]
    by_cases h1 : a + 1 < s.size
    · rw [decide_eq_true h1, Bool.true_and]
      congr 1
      rw [decide_eq_decide]; omega
    · rw [decide_eq_false h1, nxB_no h1]; simp
  clear h hrest hnx
  go_enter Try.func13, Try.ntmps13
  go_wp2_with fail
  go_quiet (fail)
  obtain ⟨W1, hW1⟩ : ∃ V, V = w.drewN nq := ⟨_, rfl⟩
  have HBL1 : Hid (Blk W1 p 37 #[.string s, .int .i64 a, y, v]) := by rw [hW1]; exact HBL.out
  have c0 : W1.cell? ⟨p, 0, none⟩ = some (.string s) := HBL1.out.cell 0
  have c1 : W1.cell? ⟨p, 1, none⟩ = some (.int .i64 a) := HBL1.out.cell 1
  have HW1 : Hid (∃ q, W1 = w.drewN q) := ⟨_, hW1⟩
  rw [← hW1]
  clear hW1
  go_wp2_with fail
  refine (implL_any _ _).mono ?_
  rintro e w' ⟨rfl, rfl⟩
  cases hL : isL ((c : Nat) : Int)
  case true =>
    have HF := Lib.hid (nextV_some (s := s) (a := a) (by rw [HR.out]; exact lex_L hL))
    rw [← HR.out] at HF
    have HWE := Lib.hid (wordEndW_any HBL1.out ha hs (by rw [hc]; exact hL))
    clear hL
    go_wp2_with fail
    refine HWE.out.mono ?_
    rintro e w2 ⟨rfl, q, rfl⟩
    go_wp2_with fail
    go_ret2
    refine ⟨by rw [HF.out]; rfl, ?_⟩
    obtain ⟨q0, hq0⟩ := HW1.out
    obtain ⟨q1, hq1⟩ := drewN2 w q0 q
    exact ⟨q1, by rw [hq0, hq1]⟩
  go_wp2_with fail
  refine (implD_any _ _).mono ?_
  rintro e w' ⟨rfl, rfl⟩
  cases hD : isD ((c : Nat) : Int)
  case true =>
    have HF := Lib.hid (nextV_some (s := s) (a := a) (by rw [HR.out]; exact lex_D hL hD))
    rw [← HR.out] at HF
    have HWE := Lib.hid (wordEndN_any HBL1.out ha hs (by rw [hc]; exact hL) (by rw [hc]; exact hD))
    clear hD
    go_wp2_with fail
    refine HWE.out.mono ?_
    rintro e w2 ⟨rfl, q, rfl⟩
    go_wp2_with fail
    go_ret2
    refine ⟨by rw [HF.out]; rfl, ?_⟩
    obtain ⟨q0, hq0⟩ := HW1.out
    obtain ⟨q1, hq1⟩ := drewN2 w q0 q
    exact ⟨q1, by rw [hq0, hq1]⟩
  have HLN := Lib.hid hL
  have HDN := Lib.hid hD
  clear hL hD
  cases hp : pre2 s a 45 62
  case true =>
    have HP2 : Hid (∀ W, Calls Try.prog 20 #[.string (s.extract a s.size), .string ⟨#[45, 62]⟩] W fun e w' => e = .returned (.bool true) ∧ w' = W) := by have := HP.out; rw [hp] at this; exact this
    have hpv := HPV.out
    rw [hp] at hpv
    replace hpv := hpv.symm
    rw [Bool.and_eq_true, decide_eq_true_eq] at hpv
    obtain ⟨h45, hh⟩ := hpv
    have HF := Lib.hid (nextV_some (s := s) (a := a) (by rw [HR.out, h45]; exact lex_A hh))
    clear hp hh HP HPV hc hc256 h45
    go_wp2_with fail
    go_quiet (first | (go_at_call 20; exact Calls.quiet_of_same (HP2.out _)))
    obtain ⟨W2, hW2⟩ : ∃ V, V = W1.drewN nq := ⟨_, rfl⟩
    have c0 : W2.cell? ⟨p, 0, none⟩ = some (.string s) := by rw [hW2]; exact HBL1.out.cell 0
    have c1 : W2.cell? ⟨p, 1, none⟩ = some (.int .i64 a) := by rw [hW2]; exact HBL1.out.cell 1
    have HW2 : Hid (∃ q, W2 = w.drewN q) := by
      obtain ⟨q0, hq0⟩ := HW1.out
      obtain ⟨q1, hq1⟩ := drewN2 w q0 nq
      exact ⟨q1, by rw [hW2, hq0, hq1]⟩
    rw [← hW2]
    clear hW2
    go_wp2_with fail
    go_quiet (fail)
    go_wp2_with fail
    go_ret2
    refine ⟨by rw [HF.out]; rfl, ?_⟩
    obtain ⟨q0, hq0⟩ := HW2.out
    obtain ⟨q1, hq1⟩ := drewN2 w q0 nq
    exact ⟨q1, by rw [hq0, hq1]⟩
  have HP2 : Hid (∀ W, Calls Try.prog 20 #[.string (s.extract a s.size), .string ⟨#[45, 62]⟩] W fun e w' => e = .returned (.bool false) ∧ w' = W) := by have := HP.out; rw [hp] at this; exact this
  have H3 : Hid (((c : Nat) : Int) = 45 → hdP (fun x => decide (x = 62)) ((byt s).drop (a + 1)) = false) := by
    intro e
    have hpv := HPV.out
    rw [hp, decide_eq_true (by omega : c = 45), Bool.true_and] at hpv
    exact hpv.symm
  clear hp HP HPV
  go_wp2_with fail
  go_quiet (first | (go_at_call 20; exact Calls.quiet_of_same (HP2.out _)))
  obtain ⟨W2, hW2⟩ : ∃ V, V = W1.drewN nq := ⟨_, rfl⟩
  have c0 : W2.cell? ⟨p, 0, none⟩ = some (.string s) := by rw [hW2]; exact HBL1.out.cell 0
  have c1 : W2.cell? ⟨p, 1, none⟩ = some (.int .i64 a) := by rw [hW2]; exact HBL1.out.cell 1
  have HW2 : Hid (∃ q, W2 = w.drewN q) := by
    obtain ⟨q0, hq0⟩ := HW1.out
    obtain ⟨q1, hq1⟩ := drewN2 w q0 nq
    exact ⟨q1, by rw [hW2, hq0, hq1]⟩
  rw [← hW2]
  clear hW2
  obtain ⟨r, hr, HIX⟩ := indexSign_any hc256 W2
  have HIX := Lib.hid HIX
  cases hS : isS ((c : Nat) : Int)
  case true =>
    have HF := Lib.hid (nextV_some (s := s) (a := a) (by rw [HR.out]; exact lex_S HLN.out HDN.out H3.out hS))
    rw [hS] at hr
    clear hS
    go_wp2_with fail
    refine HIX.out.mono ?_
    rintro e w' ⟨rfl, rfl⟩
    go_wp2_with fail
    go_quiet (fail)
    go_wp2_with fail
    go_ret2
    refine ⟨by rw [HF.out]; rfl, ?_⟩
    obtain ⟨q0, hq0⟩ := HW2.out
    obtain ⟨q1, hq1⟩ := drewN2 w q0 nq
    exact ⟨q1, by rw [hq0, hq1]⟩
  have HF := Lib.hid (nextV_none (s := s) (a := a) (by rw [HR.out]; exact lex_N HLN.out HDN.out H3.out hS))
  rw [hS] at hr
  clear hS
  go_wp2_with fail
  refine HIX.out.mono ?_
  rintro e w' ⟨rfl, rfl⟩
  go_wp2_with fail
  go_ret2
  exact ⟨by rw [HF.out]; rfl, HW2.out⟩
end Go.Proofs.Ytfnncclplbbghaa

