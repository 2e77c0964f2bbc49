/-
  spec.l12Join and impl.joined return the join of two rows of kinds, in new memory.
-/
import Derived.Test.YtmmeaakhikcigaaFlMath
import Derived.Test.YtmmeaakhikcigaaLaySpec
import Derived.Deep.RegionHeld3
namespace Go.Proofs.Ytmmeaakhikcigaa
open Go.RowKit
set_option linter.unusedVariables false
set_option linter.unusedSimpArgs false
set_option linter.unnecessarySimpa false
set_option maxRecDepth 16000

set_option maxHeartbeats 1600000 in
theorem implJoined_any (A B : Option Addr) (n m c d L : Nat) (xs ys : List Int) (w : World) (hn : n ≤ 16777216) (hm : m ≤ 16777216) (hL : L ≤ w.heap.size) (h : RdI w L A n xs) (k : RdI w L B m ys) :
    Calls Try.prog 150 #[.slice A n c, .slice B m d] w fun e w' => ∃ v, e = .returned v ∧ w'.ownsRow w.heap.size 2 1 v (max n m) (i64s (joinK xs ys)) ∧ Below w.heap.size w w' := by
  obtain ⟨i0, hi, hz0, hz1, hz2⟩ := info_parts info_i64
  have hat := fun (h0 : 0 < n) => h.at_ h0
  have kat := fun (h0 : 0 < m) => k.at_ h0
  have HN := Lib.hid h.1
  have HM := Lib.hid k.1
  clear h k
  obtain ⟨N, hN⟩ : ∃ N, N = max n m := ⟨_, rfl⟩
  have hN1 : n ≤ N := by omega
  have hN2 : m ≤ N := by omega
  have hN3 : N ≤ 16777216 := by omega
  have HMX := Lib.hid hN
  clear hN
  have hif1 : (if (n : Int) < (m : Int) then (m : Int) else (n : Int)) = (N : Int) := by have := HMX.out; split <;> omega
  have hif2 : (if n < m then (m : Int) else (n : Int)) = (N : Int) := by have := HMX.out; split <;> omega
  go_enter Try.func150, Try.ntmps150
  go_wp2_with fail
  clear hif1 hif2
  go_loopw [5, 14] (fun v i wr => ∃ k : Nat, k ≤ N ∧ i = .int .i64 k ∧ wr.ownsRow w.heap.size 2 1 v k (i64s (joinTo xs ys k)) ∧ Below w.heap.size w wr)
    (fun _ i _ => N - (intOf i).toNat)
  case atStart => exact ⟨0, Nat.zero_le _, rfl, World.ownsRow_made w #[] 0 (Nat.le_refl _) (by simp) (by simp), (Below.refl _ _).alloc (Nat.le_refl _) _⟩
  case round =>
    obtain ⟨k, hk, rfl, hown, hbr⟩ := hrel
    have hsz := hbr.size
    by_cases hlt : k < N
    · have hX : (k < n ∧ ∃ x, xs[k]? = some x ∧ ∃ g off, A = some ⟨g, off, none⟩ ∧ wr.cell? ⟨g, off + k, none⟩ = some (.int .i64 x)) ∨ (¬ k < n ∧ xs[k]? = none) := by
        by_cases h : k < n
        · obtain ⟨x, hx, _⟩ := at_lt HN.out h
          obtain ⟨g, off, hA, hg, hc⟩ := hat (by omega)
          exact .inl ⟨h, x, hx, g, off, hA, (hbr.cell (by show g < _; omega)).trans (hc k x hx)⟩
        · exact .inr ⟨h, List.getElem?_eq_none (by have := HN.out; omega)⟩
      have hY : (k < m ∧ ∃ y, ys[k]? = some y ∧ ∃ g off, B = some ⟨g, off, none⟩ ∧ wr.cell? ⟨g, off + k, none⟩ = some (.int .i64 y)) ∨ (¬ k < m ∧ ys[k]? = none) := by
        by_cases h : k < m
        · obtain ⟨y, hy, _⟩ := at_lt HM.out h
          obtain ⟨g, off, hB, hg, hc⟩ := kat (by omega)
          exact .inl ⟨h, y, hy, g, off, hB, (hbr.cell (by show g < _; omega)).trans (hc k y hy)⟩
        · exact .inr ⟨h, List.getElem?_eq_none (by have := HM.out; omega)⟩
      clear hat kat
      obtain ⟨z, hz⟩ : ∃ z, z = joinAt xs ys k := ⟨_, rfl⟩
      have hs1 := hown.alloc (.cells #[Value.int .i64 z] 2)
      have hc1 := cell_one_new wr (Value.int .i64 z) 2
      have hbr1 : Below w.heap.size w (wr.alloc (.cells #[Value.int .i64 z] 2)) := hbr.alloc hsz _
      have HZ := Lib.hid hz
      have key : (z = 2 ∧ ∃ x, xs[k]? = some x ∧ k < n ∧ (x == 2) = true ∧ ∃ g off, A = some ⟨g, off, none⟩ ∧ wr.cell? ⟨g, off + k, none⟩ = some (.int .i64 x)) ∨
          (z = 2 ∧ (∃ x, xs[k]? = some x ∧ k < n ∧ (x == 2) = false ∧ ∃ g off, A = some ⟨g, off, none⟩ ∧ wr.cell? ⟨g, off + k, none⟩ = some (.int .i64 x)) ∧
            ∃ y, ys[k]? = some y ∧ k < m ∧ (y == 2) = true ∧ ∃ g off, B = some ⟨g, off, none⟩ ∧ wr.cell? ⟨g, off + k, none⟩ = some (.int .i64 y)) ∨
          (z = 2 ∧ ¬ k < n ∧ ∃ y, ys[k]? = some y ∧ k < m ∧ (y == 2) = true ∧ ∃ g off, B = some ⟨g, off, none⟩ ∧ wr.cell? ⟨g, off + k, none⟩ = some (.int .i64 y)) ∨
          (z = 1 ∧ (∃ x, xs[k]? = some x ∧ k < n ∧ (x == 2) = false ∧ ∃ g off, A = some ⟨g, off, none⟩ ∧ wr.cell? ⟨g, off + k, none⟩ = some (.int .i64 x)) ∧
            ∃ y, ys[k]? = some y ∧ k < m ∧ (y == 2) = false ∧ ∃ g off, B = some ⟨g, off, none⟩ ∧ wr.cell? ⟨g, off + k, none⟩ = some (.int .i64 y)) ∨
          (z = 1 ∧ (∃ x, xs[k]? = some x ∧ k < n ∧ (x == 2) = false ∧ ∃ g off, A = some ⟨g, off, none⟩ ∧ wr.cell? ⟨g, off + k, none⟩ = some (.int .i64 x)) ∧ ¬ k < m) ∨
          (z = 1 ∧ ¬ k < n ∧ ∃ y, ys[k]? = some y ∧ k < m ∧ (y == 2) = false ∧ ∃ g off, B = some ⟨g, off, none⟩ ∧ wr.cell? ⟨g, off + k, none⟩ = some (.int .i64 y)) := by
        rcases hX with ⟨hkn, x, hx, ha⟩ | ⟨hkn, hx⟩
        · by_cases e : x = 2
          · exact .inl ⟨by rw [hz]; simp [joinAt, hx, e], x, hx, hkn, by simp [e], ha⟩
          · have hb : (x == 2) = false := by simpa using e
            rcases hY with ⟨hkm, y, hy, hb'⟩ | ⟨hkm, hy⟩
            · by_cases e' : y = 2
              · exact .inr (.inl ⟨by rw [hz]; simp [joinAt, hy, e'], ⟨x, hx, hkn, hb, ha⟩, y, hy, hkm, by simp [e'], hb'⟩)
              · exact .inr (.inr (.inr (.inl ⟨by rw [hz]; simp [joinAt, hx, hy, e, e'], ⟨x, hx, hkn, hb, ha⟩, y, hy, hkm, by simpa using e', hb'⟩)))
            · exact .inr (.inr (.inr (.inr (.inl ⟨by rw [hz]; simp [joinAt, hx, hy, e], ⟨x, hx, hkn, hb, ha⟩, hkm⟩))))
        · rcases hY with ⟨hkm, y, hy, hb'⟩ | ⟨hkm, hy⟩
          · by_cases e' : y = 2
            · exact .inr (.inr (.inl ⟨by rw [hz]; simp [joinAt, hy, e'], hkn, y, hy, hkm, by simp [e'], hb'⟩))
            · exact .inr (.inr (.inr (.inr (.inr ⟨by rw [hz]; simp [joinAt, hx, hy, e'], hkn, y, hy, hkm, by simpa using e', hb'⟩))))
          · have := HMX.out; omega
      clear hX hY hz hbr hown
      have HK := Lib.hid key
      clear key
      rcases HK.out with ⟨rfl, x, _, hkn, hbx, g, off, rfl, hcx⟩ | ⟨rfl, ⟨x, _, hkn, hbx, g, off, rfl, hcx⟩, y, _, hkm, hby, g', off', rfl, hcy⟩ | ⟨rfl, hkn, y, _, hkm, hby, g', off', rfl, hcy⟩ | ⟨rfl, ⟨x, _, hkn, hbx, g, off, rfl, hcx⟩, y, _, hkm, hby, g', off', rfl, hcy⟩ | ⟨rfl, ⟨x, _, hkn, hbx, g, off, rfl, hcx⟩, hkm⟩ | ⟨rfl, hkn, y, _, hkm, hby, g', off', rfl, hcy⟩
      all_goals
        clear HK
        try (have hdn : decide ((k : Int) < (n : Int)) = false := by simpa using hkn)
        try (have hdm : decide ((k : Int) < (m : Int)) = false := by simpa using hkm)
        go_wp2_with (first | (at_builtin; refine wpList_append_own _ rfl _ _ 59 rfl w.heap.size 2 i0 (.int .i64 0) 1 8 Try.underlying59 hi hz0 hz1 hz2 rfl (by decide) _ _ _ rfl hs1 ⟨wr.heap.size, 0, none⟩ 1 1 [_] rfl rfl hc1 (one64' _) (by simp only [maxLen]; omega) (by omega) (by simp; omega) ?_; intro v' w1 hown' hgrow _))
        have hbr2 := hbr1.grown hgrow (by simp; omega) (fun g hg => (hs1.lt g hg).1)
        go_roundw
        case rel => exact ⟨k + 1, by omega, by go_num, by have := HZ.out; rw [joinTo_succ, i64s_append, ← this]; exact hown', hbr2⟩
        case measure => simp [intOf]; omega
    · have hkN : k = N := by omega
      subst hkN
      go_wp2_with fail
      go_ret
      refine ⟨_, rfl, ?_, hbr⟩
      have : joinK xs ys = joinTo xs ys k := by unfold joinK; rw [← HN.out, ← HM.out, ← HMX.out]
      rw [this, ← HMX.out]
      exact hown

set_option maxHeartbeats 1600000 in
theorem specJoin_any (A B : Option Addr) (n m c d L : Nat) (xs ys : List Int) (w : World) (hn : n ≤ 16777216) (hm : m ≤ 16777216) (hL : L ≤ w.heap.size) (h : RdI w L A n xs) (k : RdI w L B m ys)
    (hkx : two xs) (hky : two ys) :
    Calls Try.prog 149 #[.slice A n c, .slice B m d] w fun e w' => ∃ v, e = .returned v ∧ w'.ownsRow w.heap.size 2 1 v (max n m) (i64s (joinK xs ys)) ∧ Below w.heap.size w w' := by
  obtain ⟨i0, hi, hz0, hz1, hz2⟩ := info_parts info_i64
  have hat := fun (h0 : 0 < n) => h.at_ h0
  have kat := fun (h0 : 0 < m) => k.at_ h0
  have HN := Lib.hid h.1
  have HM := Lib.hid k.1
  have HKX := Lib.hid hkx
  have HKY := Lib.hid hky
  clear h k hkx hky
  go_enter Try.func149, Try.ntmps149
  go_wp2_with fail
  go_loopw [5, 6] (fun v i wr => ∃ k : Nat, k ≤ max n m ∧ i = .int .i64 k ∧ wr.ownsRow w.heap.size 2 1 v k (i64s (joinTo xs ys k)) ∧ Below w.heap.size w wr)
    (fun _ i _ => max n m - (intOf i).toNat)
  case atStart => exact ⟨0, Nat.zero_le _, rfl, World.ownsRow_made w #[] 0 (Nat.le_refl _) (by simp) (by simp), (Below.refl _ _).alloc (Nat.le_refl _) _⟩
  case round =>
    obtain ⟨k, hk, rfl, hown, hbr⟩ := hrel
    have hsz := hbr.size
    have hkb : k ≤ 16777216 := by omega
    by_cases hkn : k < n
    · obtain ⟨x, hx, _⟩ := at_lt HN.out hkn
      obtain ⟨g, off, rfl, hg, hc⟩ := hat (by omega)
      have hcx : wr.cell? ⟨g, off + k, none⟩ = some (.int .i64 x) := (hbr.cell (by show g < _; omega)).trans (hc k x hx)
      have HX := Lib.hid hx
      clear hx hc
      by_cases hkm : k < m
      · obtain ⟨y, hy, _⟩ := at_lt HM.out hkm
        obtain ⟨g', off', rfl, hg', hc'⟩ := kat (by omega)
        have hcy : wr.cell? ⟨g', off' + k, none⟩ = some (.int .i64 y) := (hbr.cell (by show g' < _; omega)).trans (hc' k y hy)
        have HZ : Hid (max x y = joinAt xs ys k) := by
          have h1 := two_at HKX.out HX.out
          have h2 := two_at HKY.out hy
          have hx := HX.out
          show max x y = _
          rcases h1 with rfl | rfl <;> rcases h2 with rfl | rfl <;> simp [joinAt, hx, hy] <;> decide
        clear hy hc' hat kat
        go_wp2_with fail
        have hgb : g < wr.heap.size := by omega
        have hgb' : g' < wr.heap.size := by omega
        have hag : some g ≠ u5.ownBlock := fun e => by have := (hown.lt g e.symm).1; omega
        have hag' : some g' ≠ u5.ownBlock := fun e => by have := (hown.lt g' e.symm).1; omega
        go_region_held3 (fun w' => w'.cell? ⟨g, off + k, none⟩ = some (.int .i64 x) ∧ w'.cell? ⟨g', off' + k, none⟩ = some (.int .i64 y))
          (first
            | go_keep
            | exact ⟨hgrow.cell ((World.cell?_alloc_lt wr _ ⟨g, off + k, none⟩ hgb).trans hcx) hag, hgrow.cell ((World.cell?_alloc_lt wr _ ⟨g', off' + k, none⟩ hgb').trans hcy) hag'⟩)
          (first
            | (go_at_call 147; refine (l00Max_any _ _ _).mono ?_; rintro e w' ⟨rfl, rfl⟩)
            | ((refine step_append_lies _ (by rfl) _ _ _ (by rfl) w.heap.size 2 i0 _ 1 8 Try.underlying59 hi hz0 hz1 hz2 rfl (by omega) _ _ _ (by rfl) ((hown.alloc _).drew) ⟨wr.heap.size, 0, none⟩ 1 1 [.int .i64 (max x y)] (by rfl) (by rfl) (World.news_of_block (cs := #[.int .i64 (max x y)]) (t := 2) (fr := (0, 0)) (heap_alloc_new wr _)) (one64' _) (by omega) (by simp only [maxLen]; omega) (by omega) (by simp; omega) (wr.heap.size + 1) (by simp) ?_; intro gg cap w1 hown1 hgrow hat hlt)))
        have hbr2 : Below w.heap.size w w1 := (hbr.alloc hsz _).drew.grown hgrow (by simp; omega) (fun b e => (hown.lt b e).1)
        clear hown hgrow hat hlt hbr hag hag'
        go_wp2_with fail
        go_roundw
        case rel => exact ⟨k + 1, by omega, by go_num, by have := HZ.out; rw [joinTo_succ, i64s_append, ← this]; exact hown1, hbr2⟩
        case measure => simp [intOf]; omega
      · have hyn : ys[k]? = none := List.getElem?_eq_none (by have := HM.out; omega)
        have HZ : Hid (x = joinAt xs ys k) := by
          have h1 := two_at HKX.out HX.out
          have hx := HX.out
          show x = _
          rcases h1 with rfl | rfl <;> simp [joinAt, hx, hyn]
        have hge : decide ((m : Int) ≤ (k : Int)) = true := by simp; omega
        clear hyn hat kat
        have hs1 := hown.alloc (.cells #[Value.int .i64 x] 2)
        have hc1 := cell_one_new wr (Value.int .i64 x) 2
        have hbr1 : Below w.heap.size w (wr.alloc (.cells #[Value.int .i64 x] 2)) := hbr.alloc hsz _
        clear hown hbr
        go_wp2_with (first | (at_builtin; refine wpList_append_own _ rfl _ _ 59 rfl w.heap.size 2 i0 (.int .i64 0) 1 8 Try.underlying59 hi hz0 hz1 hz2 rfl (by decide) _ _ _ rfl hs1 ⟨wr.heap.size, 0, none⟩ 1 1 [_] rfl rfl hc1 (one64' _) (by simp only [maxLen]; omega) (by omega) (by simp; omega) ?_; intro v' w1 hown' hgrow _))
        have hbr2 := hbr1.grown hgrow (by simp; omega) (fun g hg => (hs1.lt g hg).1)
        go_roundw
        case rel => exact ⟨k + 1, by omega, by go_num, by have := HZ.out; rw [joinTo_succ, i64s_append, ← this]; exact hown', hbr2⟩
        case measure => simp [intOf]; omega
    · by_cases hkm : k < m
      · obtain ⟨y, hy, _⟩ := at_lt HM.out hkm
        obtain ⟨g, off, rfl, hg, hc⟩ := kat (by omega)
        have hcy : wr.cell? ⟨g, off + k, none⟩ = some (.int .i64 y) := (hbr.cell (by show g < _; omega)).trans (hc k y hy)
        have hxn : xs[k]? = none := List.getElem?_eq_none (by have := HN.out; omega)
        have HZ : Hid (y = joinAt xs ys k) := by
          have h1 := two_at HKY.out hy
          show y = _
          rcases h1 with rfl | rfl <;> simp [joinAt, hxn, hy]
        have hge : decide ((n : Int) ≤ (k : Int)) = true := by simp; omega
        have hge2 : decide ((m : Int) ≤ (k : Int)) = false := by simp; omega
        have hdn : decide ((k : Int) < (n : Int)) = false := by simp; omega
        clear hy hc hxn hat kat
        have hs1 := hown.alloc (.cells #[Value.int .i64 y] 2)
        have hc1 := cell_one_new wr (Value.int .i64 y) 2
        have hbr1 : Below w.heap.size w (wr.alloc (.cells #[Value.int .i64 y] 2)) := hbr.alloc hsz _
        clear hown hbr
        go_wp2_with (first | (at_builtin; refine wpList_append_own _ rfl _ _ 59 rfl w.heap.size 2 i0 (.int .i64 0) 1 8 Try.underlying59 hi hz0 hz1 hz2 rfl (by decide) _ _ _ rfl hs1 ⟨wr.heap.size, 0, none⟩ 1 1 [_] rfl rfl hc1 (one64' _) (by simp only [maxLen]; omega) (by omega) (by simp; omega) ?_; intro v' w1 hown' hgrow _))
        have hbr2 := hbr1.grown hgrow (by simp; omega) (fun g hg => (hs1.lt g hg).1)
        go_roundw
        case rel => exact ⟨k + 1, by omega, by go_num, by have := HZ.out; rw [joinTo_succ, i64s_append, ← this]; exact hown', hbr2⟩
        case measure => simp [intOf]; omega
      · have hkN : k = max n m := by omega
        have hdn : decide ((k : Int) < (n : Int)) = false := by simp; omega
        have hdm : decide ((k : Int) < (m : Int)) = false := by simp; omega
        have HKN := Lib.hid hkN
        clear hkN
        go_wp2_with fail
        go_ret
        refine ⟨_, rfl, ?_, hbr⟩
        have : joinK xs ys = joinTo xs ys k := by unfold joinK; rw [← HN.out, ← HM.out, ← HKN.out]
        rw [this, ← HKN.out]
        exact hown


def JoinC (fn : Nat) : Prop := ∀ {b1 b2 n m : Nat} {u v : Value} {xs ys : List Int} {w : World}, n ≤ 16777216 → m ≤ 16777216 → two xs → two ys → w.ownsRow b1 2 1 u n (i64s xs) → w.ownsRow b2 2 1 v m (i64s ys) →
  Calls Try.prog fn #[u, v] w fun e w' => ∃ r, e = .returned r ∧ w'.ownsRow w.heap.size 2 1 r (max n m) (i64s (joinK xs ys)) ∧ Below w.heap.size w w'
theorem implJoined_row : JoinC 150 := fun hn hm h2 k2 h k => by
  obtain ⟨A, c, rfl, hr⟩ := owns_rdI h h2
  obtain ⟨A', c', rfl, hr'⟩ := owns_rdI k k2
  exact implJoined_any _ _ _ _ _ _ _ _ _ _ hn hm (Nat.le_refl _) hr hr'
theorem specJoin_row : JoinC 149 := fun hn hm h2 k2 h k => by
  obtain ⟨A, c, rfl, hr⟩ := owns_rdI h h2
  obtain ⟨A', c', rfl, hr'⟩ := owns_rdI k k2
  exact specJoin_any _ _ _ _ _ _ _ _ _ _ hn hm (Nat.le_refl _) hr hr' h2 k2
end Go.Proofs.Ytmmeaakhikcigaa

