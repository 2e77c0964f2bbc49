/-
  The code points of a text: spec.l04Points, TextOk, PointsOf; impl.TextOk, pointsOf, PointsOf.
-/
import Derived.Test.YtdmmiboefdbcdaaDoorPt
import Derived.Test.YtdmmiboefdbcdaaDoorTxt
import Derived.Test.YtdmmiboefdbcdaaDoorRowI
import Derived.Test.YtdmmiboefdbcdaaDoorTab
import Derived.Lib.OthersKept
import Derived.Laws.RangeAny
namespace Go.Proofs.YtdmmiboefdbcdaaDoor
open Go.RowKit
set_option linter.unusedVariables false
set_option linter.unusedSimpArgs false
set_option linter.unnecessarySimpa false
set_option maxRecDepth 16000

theorem one64 (x : Int) : ∀ u ∈ [Value.int .i64 x], u.oneCell' = true := by
  intro u hu
  rw [List.mem_singleton.1 hu]
  rfl
theorem owns_base {w : World} {base base' sz n : Nat} {e : TypeId} {v : Value} {xs : List Value} (h : w.ownsRow base e sz v n xs) (hb : base' ≤ base) : w.ownsRow base' e sz v n xs := by
  obtain ⟨h1, h2⟩ := h
  refine ⟨h1, ?_⟩
  rcases h2 with h2 | ⟨g, cap, cur, hv, hbb, hh, hr⟩
  · exact .inl h2
  · exact .inr ⟨g, cap, cur, hv, Nat.le_trans hb hbb, hh, hr⟩
/-- 'row of the call's own, and true', or 'nil, false' -/
def PtsR (w w' : World) (o : Option (List Int)) (e : Ending) : Prop := match o with
  | some xs => ∃ u n, e = .returned (.tuple #[u, .bool true]) ∧ w'.ownsRow w.heap.size 2 1 u n (i64s xs)
  | none => e = .returned (.tuple #[.slice none 0 0, .bool false])
theorem enc_le {xs : List Int} {l : List Int} (h : l = encs xs) : xs.length ≤ l.length := by rw [h]; exact encs_len xs
set_option maxHeartbeats 3200000 in
theorem l04Points_any (s : ByteArray) (hs : s.size ≤ 1048576) (w : World) : Calls Tryd.prog 21 #[.string s] w fun e w' => PtsR w w' (ptsQ (byt s)) e ∧ Below w.heap.size w w' := by
  obtain ⟨i0, hi, hz0, hz1, hz2⟩ := info_parts info_i64
  have ho0 : (w.alloc (.cells #[] 2)).ownsRow w.heap.size 2 1 (.slice (some ⟨w.heap.size, 0, none⟩) 0 0) 0 (i64s []) := World.ownsRow_made w #[] 0 (Nat.le_refl _) (by simp) (by simp [i64s])
  have hb0 : Below w.heap.size w (w.alloc (.cells #[] 2)) := (Below.refl _ _).alloc (Nat.le_refl _) _
  go_enter Tryd.func21, Tryd.ntmps21
  go_wp2_with fail
  go_loopw [0, 4] (fun sv u wr => ∃ (t : ByteArray) (m : Nat) (u' : Value) (acc : List Int), u' = u ∧ sv = .string t ∧ t.size ≤ s.size ∧ m + t.size ≤ s.size ∧ Hid (ptsQ (byt s) = (ptsQ (byt t)).map (acc ++ ·)) ∧ wr.ownsRow w.heap.size 2 1 u' m (i64s acc) ∧ Below w.heap.size w wr) (fun sv _ _ => (match sv with | .string t => t.size | _ => 0))
  case atStart => exact ⟨s, 0, _, [], rfl, rfl, Nat.le_refl _, by omega, Lib.hid (by cases ptsQ (byt s) <;> rfl), ho0, hb0⟩
  case round =>
    clear ho0 hb0
    obtain ⟨t, m, u, acc, rfl, rfl, ht, hmt, HQ, hown, hbr⟩ := hrel
    have hsz := hbr.size
    obtain ⟨uA, uN, uC, rfl, _⟩ := (Own.of_own hown).form
    by_cases h0 : 0 < t.size
    case neg =>
      have hHF : Hid (ptsQ (byt s) = some acc) := by
        show _ = _
        have : byt t = [] := List.eq_nil_of_length_eq_zero (by rw [byt_length]; omega)
        rw [HQ.out, this, ptsQ_nil]; simp
      go_wp2_with fail
      go_ret2
      exact ⟨by rw [hHF.out]; exact ⟨_, _, rfl, hown⟩, hbr⟩
    have HP := Lib.hid (l04Point_any t (by unfold maxLen; omega) wr)
    cases hp : pt1 (byt t) with
    | none =>
      rw [hp] at HP
      have hHF : Hid (ptsQ (byt s) = none) := by
        show _ = _
        rw [HQ.out]
        cases hl : byt t with
        | nil => have := congrArg List.length hl; rw [byt_length] at this; simp only [List.length_nil] at this; omega
        | cons b r => rw [hl] at hp; rw [ptsQ_step_none hp]; rfl
      clear hp
      go_wp2_with fail
      refine HP.out.mono ?_
      rintro e w1 ⟨he, hb1⟩
      replace he : e = .returned (.tuple #[.int .i64 0, .int .i64 0]) := he
      obtain rfl := he
      go_wp2_with fail
      go_ret2
      exact ⟨by rw [hHF.out]; rfl, hbr.trans (hb1.mono hsz)⟩
    | some p =>
      obtain ⟨n, k⟩ := p
      rw [hp] at HP
      obtain ⟨g1, g2, g3, g4⟩ := pt1_some hp
      have gl := Lib.encodeRuneZ_length n
      rw [byt_length] at g3
      have hk1 : 1 ≤ k := by omega
      have hHQ : Hid (ptsQ (byt s) = (ptsQ (byt (t.extract k t.size))).map ((acc ++ [n]) ++ ·)) := by
        show _ = _
        rw [HQ.out, ptsQ_step hp, byt_drop]
        cases ptsQ ((byt t).drop k) <;> simp
      have hk0 : ((k : Int) == 0) = false := by simp; omega
      have hkt : (k : Int) ≤ (t.size : Int) := by omega
      have hex : (t.extract k t.size).size = t.size - k := by simp
      clear hp g1 g2 g4 gl
      go_wp2_with fail
      refine HP.out.mono ?_
      rintro e w1 ⟨he, hb1⟩
      replace he : e = .returned (.tuple #[.int .i64 n, .int .i64 k]) := he
      obtain rfl := he
      have ho1 := owns_step hown hb1
      have hB1 := hbr.trans (hb1.mono hsz)
      have hsz1 := hB1.size
      have hs1 := ho1.alloc (.cells #[Value.int .i64 n] 2)
      have hc1 := cell_one_new w1 (Value.int .i64 n) 2
      have hB2 : Below w.heap.size w (w1.alloc (.cells #[Value.int .i64 n] 2)) := hB1.alloc hsz1 _
      clear hown ho1
      go_wp2_with (at_builtin; refine wpList_append_own _ rfl _ _ 22 rfl w.heap.size 2 i0 (.int .i64 0) 1 8 Tryd.underlying22 hi hz0 hz1 hz2 rfl (by decide) _ _ _ rfl hs1 ⟨w1.heap.size, 0, none⟩ 1 1 [_] rfl rfl hc1 (one64 _) (by simp only [maxLen]; omega) (by omega) hB2.size ?_; intro v' w3 hown' hgrow _)
      have hB3 := hB2.grown hgrow hB2.size (fun g hg => (hs1.lt g hg).1)
      go_roundw
      case rel => exact ⟨_, m + 1, _, acc ++ [n], rfl, rfl, by omega, by omega, hHQ, by rw [i64s_append]; exact hown', hB3⟩
      case measure => simp; omega
theorem specTextOk_any (s : ByteArray) (hs : s.size ≤ maxLen) (w : World) : Calls Tryd.prog 25 #[.string s] w fun e w' => e = .returned (.bool (decide (s.size ≤ 24) && (ptsQ (byt s)).isSome)) ∧ Below w.heap.size w w' := by
  unfold maxLen at hs
  by_cases h : s.size ≤ 24
  · have HP := Lib.hid (l04Points_any s (by omega) w)
    have h' : ¬ (24 : Int) < (s.size : Int) := by omega
    rw [decide_eq_true h, Bool.true_and]
    go_enter Tryd.func25, Tryd.ntmps25
    go_wp2_with fail
    refine HP.out.mono ?_
    rintro e w1 ⟨he, hb1⟩
    cases hq : ptsQ (byt s) with
    | none =>
      rw [hq] at he
      replace he : e = .returned (.tuple #[.slice none 0 0, .bool false]) := he
      obtain rfl := he
      go_wp2_with fail
      go_ret
      exact ⟨by rw [hq]; rfl, hb1⟩
    | some xs =>
      rw [hq] at he
      obtain ⟨u, n, rfl, ho⟩ := he
      obtain ⟨uA, uN, uC, rfl, _⟩ := (Own.of_own ho).form
      go_wp2_with fail
      go_ret
      exact ⟨by rw [hq]; rfl, hb1⟩
  · have h' : (24 : Int) < (s.size : Int) := by omega
    rw [decide_eq_false h, Bool.false_and]
    go_enter Tryd.func25, Tryd.ntmps25
    go_wp2_with fail
    go_ret
    exact ⟨rfl, Below.refl _ _⟩
theorem implTextOk_any (s : ByteArray) (hs : s.size ≤ maxLen) (w : World) (hT : TabW w) : Calls Tryd.prog 22 #[.string s] w fun e w' => e = .returned (.bool (decide (s.size ≤ 24) && (ptsQ (byt s)).isSome)) ∧ Below w.heap.size w w' := by
  have HV := Lib.hid (validString_any s w hs hT)
  unfold maxLen at hs
  obtain ⟨q, hq⟩ : ∃ q, q = (ptsQ (byt s)).isSome := ⟨_, rfl⟩
  rw [← hq] at HV ⊢
  clear hq
  by_cases h : s.size ≤ 24
  · have h' : (s.size : Int) ≤ 24 := by omega
    rw [decide_eq_true h, Bool.true_and]
    go_enter Tryd.func22, Tryd.ntmps22
    go_wp2_with fail
    refine HV.out.mono ?_
    rintro e w1 ⟨rfl, hb1⟩
    go_wp2_with fail
    go_ret
    exact ⟨rfl, hb1⟩
  · have h' : ¬ (s.size : Int) ≤ 24 := by omega
    rw [decide_eq_false h, Bool.false_and]
    clear HV
    go_enter Tryd.func22, Tryd.ntmps22
    go_wp2_with fail
    go_ret
    exact ⟨rfl, Below.refl _ _⟩
theorem iter_own {w w' : World} {row : Option Nat} {K : Nat} {s : ByteArray} {pos : Nat} {b : Nat} {e : TypeId} {sz n : Nat} {v : Value} {xs : List Value} (h : w.heap[K]? = some (.stringIter s pos)) (ho : w.ownsRow b e sz v n xs) (hg : w.grownBy w' v.ownBlock) : w'.heap[K]? = some (.stringIter s pos) := by
  have hK := (Array.getElem?_eq_some_iff.1 h).1
  rw [hg.block K hK, h]
  intro hc
  rcases ho.2 with ⟨rfl, _⟩ | ⟨g, cap, cur, rfl, _, hh, _⟩
  · cases hc
  · have : g = K := by
      simp only [Value.ownBlock, Option.map_some, Option.some.injEq] at hc
      first | exact hc | exact hc.symm
    subst this
    rw [hh] at h
    cases h
theorem owns_iter {w : World} {K : Nat} {s : ByteArray} {pos pos' : Nat} {b : Nat} {e : TypeId} {sz n : Nat} {v : Value} {xs : List Value} (h : w.heap[K]? = some (.stringIter s pos)) (ho : w.ownsRow b e sz v n xs) : (w.iterAt K s pos').ownsRow b e sz v n xs := by
  refine ⟨ho.1, ?_⟩
  rcases ho.2 with h2 | ⟨g, cap, cur, hv, hb, hh, hr⟩
  · exact .inl h2
  · refine .inr ⟨g, cap, cur, hv, hb, ?_, hr⟩
    rw [Lib.iterAt_other _ _ _ _ _ (fun e => by subst e; rw [hh] at h; cases h)]
    exact hh
set_option maxHeartbeats 3200000 in
theorem pointsOf_any (s : ByteArray) (xs : List Int) (hx : ptsQ (byt s) = some xs) (hs : s.size ≤ 1048576) (w : World) : Calls Tryd.prog 23 #[.string s] w fun e w' => ∃ u n, e = .returned u ∧ w'.ownsRow w.heap.size 2 1 u n (i64s xs) ∧ Below w.heap.size w w' := by
  obtain ⟨i0, hi, hz0, hz1, hz2⟩ := info_parts info_i64
  obtain ⟨hok, hen⟩ := ptsQ_iff.1 hx
  have HOK := Lib.hid hok
  have HEN := Lib.hid hen
  have hxl := enc_le hen
  rw [byt_length] at hxl
  clear hx hok hen
  have ho0 : (w.alloc (.cells #[] 2)).ownsRow w.heap.size 2 1 (.slice (some ⟨w.heap.size, 0, none⟩) 0 0) 0 (i64s []) := World.ownsRow_made w #[] 0 (Nat.le_refl _) (by simp) (by simp [i64s])
  have hb0 : Below w.heap.size w (w.alloc (.cells #[] 2)) := (Below.refl _ _).alloc (Nat.le_refl _) _
  have ho1 := ho0.alloc (.stringIter s 0)
  have hb1 : Below w.heap.size w ((w.alloc (.cells #[] 2)).alloc (.stringIter s 0)) := hb0.alloc (by simp) _
  have hit : ((w.alloc (.cells #[] 2)).alloc (.stringIter s 0)).heap[w.heap.size + 1]? = some (.stringIter s 0) := by
    have := World.iter_heap (w.alloc (.cells #[] 2)) s 0
    simpa [World.iter] using this
  go_enter Tryd.func23, Tryd.ntmps23
  go_wp2_with fail
  go_loopw [3] (fun u wr => ∃ (k pos : Nat) (u' : Value), u' = u ∧ k ≤ xs.length ∧ Hid (pos = (encs (xs.take k)).length) ∧ pos ≤ s.size ∧ wr.heap[w.heap.size + 1]? = some (.stringIter s pos) ∧ wr.ownsRow w.heap.size 2 1 u' k (i64s (xs.take k)) ∧ Below w.heap.size w wr) (fun _ wr => s.size - wr.iterPos (w.heap.size + 1))
  case atStart => exact ⟨0, 0, _, rfl, Nat.zero_le _, Lib.hid rfl, Nat.zero_le _, hit, ho1, hb1⟩
  case round =>
    clear ho0 hb0 ho1 hb1 hit
    obtain ⟨k, pos, u, rfl, hk, HPOS, hps, hit, hown, hbr⟩ := hrel
    have hsz := hbr.size
    obtain ⟨uA, uN, uC, rfl, _⟩ := (Own.of_own hown).form
    by_cases hlt : k < xs.length
    case neg =>
      have hkx : k = xs.length := by omega
      subst hkx
      have hpe : ¬ pos < s.size := by
        have h1 := HPOS.out
        rw [List.take_of_length_le (Nat.le_refl _), ← HEN.out, byt_length] at h1
        omega
      have hnx := fun ty => Lib.run_next_end_at (P := Tryd.prog) wr (w.heap.size + 1) s pos ty hit hpe
      rw [List.take_of_length_le (Nat.le_refl _)] at hown
      go_wp2_with fail
      go_ret
      exact ⟨_, _, rfl, hown, hbr⟩
    obtain ⟨x, hxk, hmem⟩ := at_lt rfl hlt
    have hcx := HOK.out x hmem
    have hdr : (byt s).drop pos = Lib.encodeRuneZ x ++ encs (xs.drop (k + 1)) := by
      have h2 : xs.drop k = x :: xs.drop (k + 1) := by
        obtain ⟨hk', he⟩ := List.getElem?_eq_some_iff.1 hxk
        rw [← he]; exact List.drop_eq_getElem_cons hk'
      have h1 : encs xs = encs (xs.take k) ++ (Lib.encodeRuneZ x ++ encs (xs.drop (k + 1))) := by
        conv => lhs; rw [← List.take_append_drop k xs]
        rw [encs_append, h2, encs_cons]
      rw [HEN.out, HPOS.out, h1, List.drop_left]
    have hxr := charOk_rune hcx
    have hxn : ((x.toNat : Nat) : Int) = x := by omega
    have hdec := decode_txt (xs := xs) hdr hcx
    have gl := Lib.encodeRuneZ_length x
    have hp2 : pos + (Lib.encodeRuneZ x).length ≤ s.size := by
      have := congrArg List.length hdr
      simp at this
      omega
    have hplt : pos < s.size := by omega
    have hnx := fun ty => Lib.run_next_any_at (P := Tryd.prog) wr (w.heap.size + 1) s pos ty hit hplt
    rw [hdec] at hnx
    simp only [hxn] at hnx
    have HPOS2 : Hid (pos + (Lib.encodeRuneZ x).length = (encs (xs.take (k + 1))).length) := by
      show _ = _
      rw [encs_succ hxk, List.length_append, HPOS.out]
    have htk : i64s (xs.take k) ++ [Value.int .i64 x] = i64s (xs.take (k + 1)) := by rw [List.take_add_one, hxk, Option.toList_some, i64s_append]; rfl
    obtain ⟨el, hel⟩ : ∃ el, el = (Lib.encodeRuneZ x).length := ⟨_, rfl⟩
    rw [← hel] at hnx hp2 HPOS2 gl
    have h64 : IntKind.i64.wrap x = x := IntWalk.i64_in _ (by omega)
    have hoi := owns_iter (pos' := pos + el) hit hown
    have hii := Lib.iterAt_heap wr (w.heap.size + 1) s pos (pos + el) hit
    have hbi := Lib.below_iterAt hbr (k := w.heap.size + 1) (by omega) s (pos + el)
    have hszi := Lib.iterAt_size wr (w.heap.size + 1) s (pos + el)
    obtain ⟨wi, hwi⟩ : ∃ W, W = wr.iterAt (w.heap.size + 1) s (pos + el) := ⟨_, rfl⟩
    rw [← hwi] at hnx hoi hii hbi hszi
    have HT := Lib.hid htk
    have hm0 : wr.iterPos (w.heap.size + 1) = pos := by simp [World.iterPos, hit]
    have hs0i : w.heap.size ≤ wi.heap.size := hbi.size
    clear hszi hwi hel hdec hdr hxk hmem hcx htk hown hit
    have hs1 := hoi.alloc (.cells #[Value.int .i64 x] 2)
    have hc1 := cell_one_new wi (Value.int .i64 x) 2
    have hB2 : Below w.heap.size w (wi.alloc (.cells #[Value.int .i64 x] 2)) := hbi.alloc (by omega) _
    have hi2 : (wi.alloc (.cells #[Value.int .i64 x] 2)).heap[w.heap.size + 1]? = some (.stringIter s (pos + el)) := by
      rw [Below.heap_alloc wi _ _ (Array.getElem?_eq_some_iff.1 hii).1]; exact hii
    clear hoi
    go_wp2_with (at_builtin; refine wpList_append_own _ rfl _ _ 22 rfl w.heap.size 2 i0 (.int .i64 0) 1 8 Tryd.underlying22 hi hz0 hz1 hz2 rfl (by decide) _ _ _ rfl hs1 ⟨wi.heap.size, 0, none⟩ 1 1 [_] rfl rfl hc1 (one64 _) (by simp only [maxLen]; omega) (by omega) hB2.size ?_; intro v' w3 hown' hgrow _)
    have hB3 := hB2.grown hgrow hB2.size (fun g hg => (hs1.lt g hg).1)
    have hi3 := iter_own (row := none) hi2 hs1 hgrow
    have hm1 : w3.iterPos (w.heap.size + 1) = pos + el := by simp [World.iterPos, hi3]
    go_roundw
    case rel => exact ⟨k + 1, pos + el, _, rfl, by omega, HPOS2, hp2, hi3, by rw [HT.out] at hown'; exact hown', hB3⟩
    case measure => simp only [hm0, hm1]; omega
/-- the law's own: list or nil -/
theorem specPointsOf_any (s : ByteArray) (hs : s.size ≤ maxLen) (w : World) : Calls Tryd.prog 8 #[.string s] w fun e w' => PtsR w w' (if s.size ≤ 24 then ptsQ (byt s) else none) e ∧ Below w.heap.size w w' := by
  unfold maxLen at hs
  by_cases h : s.size ≤ 24
  · have HP := Lib.hid (l04Points_any s (by omega) w)
    have h' : ¬ (24 : Int) < (s.size : Int) := by omega
    rw [if_pos h]
    go_enter Tryd.func8, Tryd.ntmps8
    go_wp2_with fail
    refine HP.out.mono ?_
    rintro e w1 ⟨he, hb1⟩
    cases hq : ptsQ (byt s) with
    | none =>
      rw [hq] at he
      replace he : e = .returned (.tuple #[.slice none 0 0, .bool false]) := he
      obtain rfl := he
      go_wp2_with fail
      go_ret2
      exact ⟨by rw [hq]; rfl, hb1⟩
    | some xs =>
      rw [hq] at he
      obtain ⟨u, n, rfl, ho⟩ := he
      obtain ⟨uA, uN, uC, rfl, _⟩ := (Own.of_own ho).form
      go_wp2_with fail
      go_ret2
      exact ⟨by rw [hq]; exact ⟨_, _, rfl, ho⟩, hb1⟩
  · have h' : (24 : Int) < (s.size : Int) := by omega
    rw [if_neg h]
    go_enter Tryd.func8, Tryd.ntmps8
    go_wp2_with fail
    go_ret2
    exact ⟨rfl, Below.refl _ _⟩
theorem implPointsOf_any (s : ByteArray) (hs : s.size ≤ maxLen) (w : World) (hT : TabW w) : Calls Tryd.prog 9 #[.string s] w fun e w' => PtsR w w' (if s.size ≤ 24 then ptsQ (byt s) else none) e ∧ Below w.heap.size w w' := by
  have HV := Lib.hid (implTextOk_any s hs w hT)
  by_cases h : s.size ≤ 24
  · rw [if_pos h]
    rw [decide_eq_true h, Bool.true_and] at HV
    cases hq : ptsQ (byt s) with
    | none =>
      rw [hq] at HV
      go_enter Tryd.func9, Tryd.ntmps9
      go_wp2_with fail
      refine HV.out.mono ?_
      rintro e w1 ⟨he, hb1⟩
      replace he : e = .returned (.bool false) := he
      obtain rfl := he
      go_wp2_with fail
      go_ret2
      exact ⟨rfl, hb1⟩
    | some xs =>
      have HP := Lib.hid (fun W => pointsOf_any s xs hq (by omega) W)
      rw [hq] at HV
      go_enter Tryd.func9, Tryd.ntmps9
      go_wp2_with fail
      refine HV.out.mono ?_
      rintro e w1 ⟨he, hb1⟩
      replace he : e = .returned (.bool true) := he
      obtain rfl := he
      go_wp2_with fail
      refine (HP.out w1).mono ?_
      rintro e w2 ⟨u, n, rfl, ho, hb2⟩
      obtain ⟨uA, uN, uC, rfl, _⟩ := (Own.of_own ho).form
      go_wp2_with fail
      go_ret2
      exact ⟨⟨_, _, rfl, owns_base ho hb1.size⟩, hb1.trans (hb2.mono hb1.size)⟩
  · rw [if_neg h]
    rw [decide_eq_false h, Bool.false_and] at HV
    go_enter Tryd.func9, Tryd.ntmps9
    go_wp2_with fail
    refine HV.out.mono ?_
    rintro e w1 ⟨rfl, hb1⟩
    go_wp2_with fail
    go_ret2
    exact ⟨rfl, hb1⟩
end Go.Proofs.YtdmmiboefdbcdaaDoor

