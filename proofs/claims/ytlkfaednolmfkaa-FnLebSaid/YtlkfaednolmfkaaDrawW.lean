/-
  spec's draws: word.
-/
import Derived.Test.YtlkfaednolmfkaaDraw
import Derived.Test.YtlkfaednolmfkaaGrw
import Derived.Laws.BytesArg
import Derived.Laws.BitsLemmas
import Derived.Laws.AppendOwnNone
namespace Go.Proofs.Ytlkfaednolmfkaa
open Go.RowKit
set_option linter.unusedVariables false
set_option linter.unusedSimpArgs false
set_option linter.unnecessarySimpa false
set_option maxRecDepth 16000

def u8V (xs : List Int) : List Value := xs.map (Value.int .u8)
theorem u8V_append (xs ys : List Int) : u8V (xs ++ ys) = u8V xs ++ u8V ys := by simp [u8V]
theorem one_u8 (xs : List Int) : ∀ u ∈ u8V xs, u.oneCell' = true := by
  intro u hu
  obtain ⟨x, _, rfl⟩ := List.mem_map.1 hu
  rfl
theorem u8_info : (Try.prog.info? 5).map (fun i => (i.zero, i.size, i.bytes)) = some (some (.int .u8 0), 1, 1) := by kernel_rfl
theorem str_u8 {w : World} {B m c : Nat} {A : Option Addr} {zs : List Int} (h : w.ownsRow B 5 1 (.slice A m c) m (u8V zs)) :
    (convert 28 9 (.slice A m c)).run Try.prog w = .ok (.string (strOfNums zs)) w := by
  have hlz : zs.length = m := by simpa [u8V] using h.1
  rcases h.2 with ⟨e, h0⟩ | ⟨g, cap, cur, e, h0⟩
  · injection e with e1 e2 e3
    subst e1 e2 e3
    have : zs = [] := List.length_eq_zero_iff.1 hlz
    subst this
    exact run_convert_bytes_nil _ _ _ Try.underlying28 Try.underlying5 _ _ _ Try.underlying9
  · injection e with e1 e2 e3
    subst e1 e3
    refine run_convert_bytes_arg _ _ _ Try.underlying28 Try.underlying5 _ 0 _ _ zs hlz (fun i hi => ?_) _ Try.underlying9
    have hi' : i < zs.length := by omega
    have := h.cells (g := g) rfl i (.int .u8 (zs[i])) (by simp [u8V, hi'])
    have e : (⟨g, 0, none⟩ : Addr).add i = ⟨g, 0 + i, none⟩ := by unfold Addr.add; split <;> simp_all
    rw [e] at this
    simpa [hi'] using this
theorem Keep.grown {lo hi : Nat} {w w1 w2 : World} {row : Option Nat} (h : Keep lo hi w w1) (hg : w1.grownBy w2 row) (hr : ∀ k, row = some k → w.heap.size ≤ k) : Keep lo hi w w2 :=
  ⟨hg.os.trans h.os, hg.tape.trans h.tape, hg.output.trans h.output, Nat.le_trans h.size hg.size, fun k hk ho => (hg.block k (Nat.lt_of_lt_of_le hk h.size) (fun e => by have := hr k e.symm; omega)).trans (h.block k hk ho)⟩
theorem owns_keep {w w' : World} {base sz n lo hi : Nat} {e : TypeId} {v : Value} {xs : List Value} (h : w.ownsRow base e sz v n xs) (hk : Keep lo hi w w') (hb : hi ≤ base) : w'.ownsRow base e sz v n xs := by
  obtain ⟨h1, h2⟩ := h
  refine ⟨h1, ?_⟩
  rcases h2 with h2 | ⟨g, cap, cur, hv, hbb, hh, hr⟩
  · exact .inl h2
  · exact .inr ⟨g, cap, cur, hv, hbb, (hk.block g (Array.getElem?_eq_some_iff.1 hh).1 (.inr (by omega))).trans hh, hr⟩
theorem Src.grown {w w' : World} {q K base sz n : Nat} {e : TypeId} {v : Value} {xs : List Value} (h : Src w q K) (hg : w.grownBy w' v.ownBlock) (ho : w.ownsRow base e sz v n xs) (hq : q < base) (hl : base ≤ w.heap.size) : Src w' q K := by
  obtain ⟨A, n, c, a, s, h1, h2, h3, h4, h5, h6⟩ := h
  have hb : Below base w w' := ⟨hg.os, hg.tape, hg.output, hg.size, fun k hk => hg.block k (by omega) (fun e => by have := (ho.lt k e.symm).1; omega)⟩
  exact ⟨A, n, c, a, s, h1.below hb hq, h2, h3, h4, h5, h6.below hb (by omega)⟩
theorem Keep.high {lo hi : Nat} {w W : World} (h : Keep lo hi w W) {p : Addr} (hp : w.heap.size ≤ p.block) (u : Value) : Keep lo hi w (W.setCell p u) :=
  ⟨h.os, h.tape, h.output, by simpa [World.setCell] using h.size, fun k hk ho => (Below.heap_setCell _ _ _ _ (by omega)).trans (h.block k hk ho)⟩
theorem Src.below {W W' : World} {q K B : Nat} (h : Src W q K) (hb : Below B W W') (hq : q < B) : Src W' q K := by
  obtain ⟨A, n, c, a, s, h1, h2, h3, h4, h5, h6⟩ := h
  exact ⟨A, n, c, a, s, h1.below hb hq, h2, h3, h4, h5, h6.below hb (by omega)⟩
def WordQ (n : Int) (w : World) (q K : Nat) (e : Ending) (w' : World) : Prop := ∃ s : ByteArray, (s.size : Int) < max n 1 ∧ e = .returned (.string s) ∧ Src w' q (K + 1002) ∧ Keep q (q + 1) w w'
set_option maxHeartbeats 3200000 in
theorem word_any {q K : Nat} {n : Int} {w : World} (h : Src w q K) (hK : K ≤ 2000000000) (hn : n ≤ 1000) : Calls Try.prog 45 #[.pointer (some ⟨q, 0, none⟩), .int .i64 n] w fun e w' => WordQ n w q K e w' := by
  obtain ⟨i0, hi, hz0, hz1, hz2⟩ := info_parts u8_info
  have hq := h.lt
  have HS0 := Lib.hid (h.step ((Below.refl _ _).alloc (Nat.le_refl _) (.cells #[] 5)))
  have HO0 : Hid ((w.alloc (.cells #[] 5)).ownsRow w.heap.size 5 1 (.slice (some ⟨w.heap.size, 0, none⟩) 0 0) 0 (u8V [])) := World.ownsRow_made w #[] 0 (Nat.le_refl _) (by simp) (by simp [u8V])
  have HK0 : Hid (Keep q (q + 1) w (w.alloc (.cells #[] 5))) := (Keep.refl _ _ _).alloc _
  go_enter Try.func45, Try.ntmps45
  go_wp2_with fail
  refine (pick_any HS0.out (by omega) (by omega)).mono ?_
  rintro e w1 ⟨b, hb, rfl, S1, k1⟩
  have HS1 := Lib.hid S1
  have HK1 := Lib.hid (HK0.out.trans k1)
  have HO1 := Lib.hid (owns_keep HO0.out k1 (by omega))
  have hb1 : b ≤ 1000 := by omega
  obtain ⟨N, hN⟩ : ∃ N, N = b := ⟨_, rfl⟩
  have HBN : Hid ((N : Int) < max n 1) := by show _ < _; rw [hN]; exact hb
  clear S1 k1 hb
  go_wp2_with fail
  go_loopw [5, 6] (fun o k wr => ∃ (j m : Nat) (v : Value) (zs : List Int), v = o ∧ k = .int .i64 j ∧ j + m = N ∧ zs.length = m ∧ Hid (Src wr q (K + 2 + m)) ∧ Hid (Keep q (q + 1) w wr) ∧ Hid (wr.ownsRow w.heap.size 5 1 v m (u8V zs))) (fun _ k _ => (intOf k).toNat)
  case atStart => exact ⟨b, 0, _, [], rfl, rfl, by omega, rfl, Lib.hid (HS1.out.more (by omega)), HK1, HO1⟩
  case round =>
    clear HS0 HO0 HK0 HS1 HK1 HO1
    obtain ⟨j, m, v, zs, rfl, rfl, hjm, hzs, HS, HK, HO⟩ := hrel
    have HZ := Lib.hid hzs
    clear hzs
    obtain ⟨uA, uN, uC, rfl, _⟩ := (Own.of_own HO.out).form
    by_cases hj : 0 < j
    case neg =>
      have hj0 : j = 0 := by omega
      subst hj0
      have huN : uN = m := by
        rcases HO.out.2 with ⟨e, h0⟩ | ⟨g, cap, cur, e, h0⟩
        · injection e with e1 e2 e3; omega
        · injection e with e1 e2 e3
      subst huN
      have hst := str_u8 HO.out
      go_wp2_with fail
      go_ret
      exact ⟨_, by rw [strOfNums_size]; have := HZ.out; have := HBN.out; omega, rfl, HS.out.more (by omega), HK.out⟩
    have hj2 : (0 : Int) < (j : Int) := by omega
    have hjw : IntKind.i64.wrap ((j : Int) - 1) = (j : Int) - 1 := IntWalk.i64_in _ (by omega)
    have hjw2 : wrap64 ((j : Int) - 1) = (j : Int) - 1 := IntWalk.wrap64_in _ (by omega)
    go_wp2_with fail
    refine (next_any HS.out (by omega)).mono ?_
    rintro e w2 ⟨d, hd, rfl, S2, k2⟩
    have HS2 := Lib.hid S2
    have HK2 := Lib.hid (HK.out.trans k2)
    have HO2 := Lib.hid (owns_keep HO.out k2 (by omega))
    have hdw : IntKind.u8.wrap (d : Int) = (d : Int) := IntWalk.u8_in _ (by omega)
    clear S2 k2
    have hs1 := HO2.out.alloc (.cells #[.int .u8 (d : Int)] 5)
    have HC : Hid (SrcOk (w2.alloc (.cells #[.int .u8 (d : Int)] 5)) (.slice (some ⟨w2.heap.size, 0, none⟩) 1 1) 1 1 (u8V [(d : Int)])) := .inr ⟨⟨w2.heap.size, 0, none⟩, 1, rfl, rfl, World.news_of_block (heap_alloc_new w2 _)⟩
    have hsz : w.heap.size ≤ (w2.alloc (.cells #[.int .u8 (d : Int)] 5)).heap.size := by have := HK2.out.size; simp; omega
    go_wp2_with (at_builtin; go_loud (refine wpList_append_src rfl _ _ 28 rfl w.heap.size 5 i0 (.int .u8 0) 1 1 Try.underlying28 hi hz0 hz1 hz2 rfl (by decide) (.slice uA uN uC) _ _ rfl hs1 _ _ _ rfl HC.out (one_u8 _) (by simp only [maxLen]; omega) (by omega) hsz ?_); intro v' w3 hown' hgrow hor)
    have HK3 := (HK2.out.alloc (.cells #[.int .u8 (d : Int)] 5)).grown hgrow (fun k e => (hs1.lt k e).1)
    have HS3 : Src w3 q (K + 2 + m + 1) := by
      have h1 := HS2.out.step ((Below.refl _ _).alloc (Nat.le_refl _) (.cells #[.int .u8 (d : Int)] 5))
      exact h1.grown hgrow hs1 hq hsz
    go_roundw
    case rel => exact ⟨j - 1, m + 1, _, zs ++ [(d : Int)], rfl, by go_num, by omega, by have := HZ.out; simp; omega, Lib.hid (HS3.more (by omega)), Lib.hid HK3, Lib.hid (by rw [u8V_append]; exact hown')⟩
    case measure => simp [intOf]; omega
end Go.Proofs.Ytlkfaednolmfkaa

