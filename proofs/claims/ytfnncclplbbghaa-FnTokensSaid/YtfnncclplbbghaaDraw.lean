/-
  spec's draws: next, pick, one, among, word.
-/
import Derived.Test.YtfnncclplbbghaaCode
import Derived.Laws.BitsAllLaws
import Derived.Laws.Shifts
import Derived.Laws.Bits64b
namespace Go.Proofs.Ytfnncclplbbghaa
open Go.RowKit
set_option linter.unusedVariables false
set_option linter.unusedSimpArgs false
set_option linter.unnecessarySimpa false
set_option maxRecDepth 16000

/-- the source of draws in block q, K draws at most taken -/
def Src (W : World) (q K : Nat) : Prop := ∃ (A : Option Addr) (n c a : Nat) (s : Int), Blk W q 48 #[.slice A n c, .int .i64 a, .int .u64 s] ∧ n ≤ 1048576 ∧ a ≤ K ∧ 0 ≤ s ∧ s < 18446744073709551616 ∧ BytesAt W q A n
theorem Src.more {W : World} {q K L : Nat} (h : Src W q K) (hl : K ≤ L) : Src W q L := by
  obtain ⟨A, n, c, a, s, h1, h2, h3, h4⟩ := h
  exact ⟨A, n, c, a, s, h1, h2, by omega, h4⟩
theorem Src.lt {W : World} {q K : Nat} (h : Src W q K) : q < W.heap.size := by
  obtain ⟨A, n, c, a, s, h1, _⟩ := h
  exact h1.lt
theorem Src.step {W W' : World} {q K : Nat} (h : Src W q K) (hb : Below W.heap.size W W') : Src W' q K := by
  obtain ⟨A, n, c, a, s, h1, h2, h3, h4, h5, h6⟩ := h
  exact ⟨A, n, c, a, s, h1.step hb, h2, h3, h4, h5, h6.below hb (by have := h1.lt; omega)⟩
theorem wrap_u64 (x : Int) : 0 ≤ IntKind.u64.wrap x ∧ IntKind.u64.wrap x < 18446744073709551616 := by
  have h : IntKind.u64.wrap x = x % 18446744073709551616 := by simp [IntKind.wrap, IntKind.signed, IntKind.bits]
  rw [h]
  exact ⟨Int.emod_nonneg _ (by decide), Int.emod_lt_of_pos _ (by decide)⟩
theorem and255u (x : Int) (h0 : 0 ≤ x) (h1 : x < 18446744073709551616) : ∃ b : Nat, b ≤ 255 ∧ wrap64 (bits .and .u64 x 255) = (b : Int) := by
  obtain ⟨a, rfl⟩ := Int.eq_ofNat_of_zero_le h0
  have e := bits_and_u64_nat a 255 (by omega) (by decide)
  have hle : a &&& 255 ≤ 255 := Nat.and_le_right
  refine ⟨a &&& 255, hle, ?_⟩
  rw [show (255 : Int) = ((255 : Nat) : Int) from rfl, e]
  exact IntWalk.wrap64_in _ ⟨by omega, by omega⟩
theorem shr40 (x : Int) : 0 ≤ IntKind.u64.wrap x / 1099511627776 ∧ IntKind.u64.wrap x / 1099511627776 < 18446744073709551616 := by
  have h := wrap_u64 x
  omega
def NextQ (w : World) (q K : Nat) (e : Ending) (w' : World) : Prop := ∃ b : Nat, b ≤ 255 ∧ e = .returned (.int .i64 b) ∧ Src w' q (K + 1) ∧ Keep q (q + 1) w w'
theorem next_end {w : World} {q K n c a : Nat} {A : Option Addr} {s x : Int} {m1 m2 : Nat} (h : Blk w q 48 #[.slice A n c, .int .i64 a, .int .u64 s]) (hn : n ≤ 1048576) (ha : a ≤ K) (hb : BytesAt w q A n) :
    Src ((((w.drewN m1).setCell ⟨q, 1, none⟩ (.int .i64 ((a : Int) + 1))).setCell ⟨q, 2, none⟩ (.int .u64 (IntKind.u64.wrap x))).drewN m2) q (K + 1) ∧ Keep q (q + 1) w ((((w.drewN m1).setCell ⟨q, 1, none⟩ (.int .i64 ((a : Int) + 1))).setCell ⟨q, 2, none⟩ (.int .u64 (IntKind.u64.wrap x))).drewN m2) := by
  have k0 : Keep q (q + 1) w (w.drewN m1) := Keep.of_below (below_drewN (Below.refl _ _) _)
  have k1 := (k0.setCell (p := ⟨q, 1, none⟩) (Nat.le_refl _) (Nat.lt_succ_self _) (.int .i64 ((a : Int) + 1))).setCell (p := ⟨q, 2, none⟩) (Nat.le_refl _) (Nat.lt_succ_self _) (.int .u64 (IntKind.u64.wrap x))
  have k2 : Keep q (q + 1) _ ((((w.drewN m1).setCell ⟨q, 1, none⟩ (.int .i64 ((a : Int) + 1))).setCell ⟨q, 2, none⟩ (.int .u64 (IntKind.u64.wrap x))).drewN m2) := Keep.of_below (below_drewN (Below.refl _ _) m2)
  have k3 := k1.trans k2
  refine ⟨⟨A, n, c, a + 1, IntKind.u64.wrap x, ?_, hn, by omega, (wrap_u64 x).1, (wrap_u64 x).2, hb.below (k3.below (Nat.le_of_lt h.lt)) (Nat.le_refl _)⟩, k3⟩
  have b := (((h.step (below_drewN (Below.refl _ _) m1)).set_ 1 (.int .i64 ((a : Int) + 1))).set_ 2 (.int .u64 (IntKind.u64.wrap x))).step (below_drewN (Below.refl _ _) m2)
  simpa using b
set_option maxHeartbeats 3200000 in
theorem next_any {q K : Nat} {w : World} (h : Src w q K) (hK : K ≤ 4000000000) : Calls Try.prog 30 #[.pointer (some ⟨q, 0, none⟩)] w fun e w' => NextQ w q K e w' := by
  obtain ⟨A, n, c, a, s, h1, h2, h3, h4, h5, h6⟩ := h
  have c0 : w.cell? ⟨q, 0, none⟩ = some (.slice A n c) := h1.cell 0
  have c1 : w.cell? ⟨q, 1, none⟩ = some (.int .i64 a) := h1.cell 1
  have c2 : w.cell? ⟨q, 2, none⟩ = some (.int .u64 s) := h1.cell 2
  have g1 := h1.frozen 1
  have g2 := h1.frozen 2
  have x1 : IntKind.i64.wrap ((a : Int) + 1) = (a : Int) + 1 := IntWalk.i64_in _ (by omega)
  have H1 := Lib.hid h1
  have H6 := Lib.hid h6
  clear h1 h6
  go_enter Try.func30, Try.ntmps30
  go_wp2_with fail
  go_quiet (fail)
  have hd : decide ((a : Int) < (n : Int)) = decide (a < n) := by by_cases h : a < n <;> simp [h]
  by_cases hlt : a < n
  case pos =>
    obtain ⟨g, off, rfl, hg, hb⟩ := H6.out (by omega)
    obtain ⟨b, hb1, hb2⟩ := hb a hlt
    have hlt2 : (a : Int) < (n : Int) := by omega
    clear hb hd
    go_wp2_with fail
    go_quiet (fail)
    go_wp2_with fail
    go_quiet (fail)
    have hd3 : decide ((a : Int) + 1 ≤ (n : Int)) = true := decide_eq_true (by omega)
    go_wp2_with fail
    go_ret
    obtain ⟨e1, e2⟩ := next_end H1.out h2 h3 H6.out
    exact ⟨b, hb1, rfl, e1, e2⟩
  case neg =>
    have hlt2 : decide ((a : Int) < (n : Int)) = false := decide_eq_false (by omega)
    clear hd
    go_wp2_with fail
    go_quiet (fail)
    have hd3 : decide ((a : Int) + 1 ≤ (n : Int)) = false := decide_eq_false (by omega)
    have HX := Lib.hid (fun x => and255u _ (shr40 x).1 (shr40 x).2)
    go_wp2_with fail
    go_ret
    obtain ⟨b, hb1, hb2⟩ := HX.out (IntKind.u64.wrap (IntKind.u64.wrap (s * 6364136223846793005)) + 1442695040888963407)
    obtain ⟨e1, e2⟩ := next_end H1.out h2 h3 H6.out
    exact ⟨b, hb1, ret_int hb2, e1, e2⟩
def PickQ (n : Int) (w : World) (q K : Nat) (e : Ending) (w' : World) : Prop := ∃ b : Nat, (b : Int) < max n 1 ∧ e = .returned (.int .i64 b) ∧ Src w' q (K + 2) ∧ Keep q (q + 1) w w'
set_option maxHeartbeats 1600000 in
theorem pick_any {q K : Nat} {n : Int} {w : World} (h : Src w q K) (hK : K ≤ 3000000000) (hn : n ≤ 1000000) : Calls Try.prog 18 #[.pointer (some ⟨q, 0, none⟩), .int .i64 n] w fun e w' => PickQ n w q K e w' := by
  by_cases h1 : n ≤ 1
  · have hd : decide (n ≤ 1) = true := decide_eq_true h1
    go_enter Try.func18, Try.ntmps18
    go_wp2_with fail
    go_ret
    exact ⟨0, by omega, rfl, h.more (by omega), Keep.refl _ _ _⟩
  obtain ⟨k, rfl⟩ : ∃ k : Nat, n = (k : Int) := ⟨n.toNat, by omega⟩
  have hd : decide ((k : Int) ≤ 1) = false := decide_eq_false h1
  have hk0 : (k : Int) ≠ 0 := by omega
  have hk1 : ((k : Int) == 0) = false := by simpa using hk0
  have hk3 : ((k : Int) == -1) = false := by simp
  have hkk : 1 < k := by omega
  have HS := Lib.hid h
  have HR : Hid (∀ m : Nat, ∃ x : Nat, (m : Int) % (k : Int) = (x : Int) ∧ (x : Int) < max (k : Int) 1) := fun m => ⟨m % k, (Int.natCast_emod m k).symm, by have := Nat.mod_lt m (show 0 < k by omega); omega⟩
  clear h h1
  go_enter Try.func18, Try.ntmps18
  go_wp2_with fail
  refine (next_any HS.out (by omega)).mono ?_
  rintro e w1 ⟨b, hb, rfl, S1, k1⟩
  have HS1 := Lib.hid S1
  clear S1
  by_cases h2 : 200 < k
  case neg =>
    have hd2 : decide ((200 : Int) < (k : Int)) = false := decide_eq_false (by omega)
    go_wp2_with fail
    go_ret
    obtain ⟨x, hx, hxk⟩ := HR.out b
    exact ⟨x, hxk, ret_int hx, HS1.out.more (by omega), k1⟩
  have hd2 : decide ((200 : Int) < (k : Int)) = true := decide_eq_true (by omega)
  have x1 : IntKind.i64.wrap ((b : Int) * 256) = (b : Int) * 256 := IntWalk.i64_in _ (by omega)
  go_wp2_with fail
  refine (next_any HS1.out (by omega)).mono ?_
  rintro e w2 ⟨d, hd3, rfl, S2, k2⟩
  have HS2 := Lib.hid S2
  have x2 : IntKind.i64.wrap ((b : Int) * 256 + (d : Int)) = ((b * 256 + d : Nat) : Int) := (IntWalk.i64_in _ (by omega)).trans (by omega)
  clear S2
  go_wp2_with fail
  go_ret
  obtain ⟨x, hx, hxk⟩ := HR.out (b * 256 + d)
  exact ⟨x, hxk, ret_int hx, HS2.out, k1.trans k2⟩
theorem from_any {A : Option Addr} {n c : Nat} {w : World} (hn : n ≤ 1048576) (h : BytesAt w w.heap.size A n) : Calls Try.prog 11 #[.slice A n c] w fun e w' => e = .returned (.pointer (some ⟨w.heap.size, 0, none⟩)) ∧ Src w' w.heap.size 0 ∧ Below w.heap.size w w' := by
  go_enter Try.func11, Try.ntmps11
  go_wp2_with fail
  go_ret
  exact ⟨rfl, ⟨A, n, c, 0, 0, Blk.new w _ _, hn, Nat.le_refl _, by decide, by decide, h.below ((Below.refl _ _).alloc (Nat.le_refl _) _) (Nat.le_refl _)⟩, (Below.refl _ _).alloc (Nat.le_refl _) _⟩
end Go.Proofs.Ytfnncclplbbghaa

