/-
  spec's draws of chapter 1: text, l01Num, l01Bend, DrawPutSleb, DrawGetLeb, DrawPutHex.
-/
import Derived.Test.YtlkfaednolmfkaaDrawW
import Derived.Test.YtlkfaednolmfkaaRowX
namespace Go.Proofs.Ytlkfaednolmfkaa
open Go.RowKit
set_option linter.unusedVariables false
set_option linter.unusedSimpArgs false
set_option linter.unnecessarySimpa false
set_option maxRecDepth 16000

/-- a row of bytes as '[]byte(s)' lays it: no cell of it is marked -/
def RowY (B g cap : Nat) (s : ByteArray) (w : World) : Prop :=
  ∃ cur fz, B ≤ g ∧ w.heap[g]? = some (.cells cur 5 fz) ∧ cur.size ≤ fz.1 ∧ s.size ≤ cap ∧ cap ≤ maxLen ∧ cur.size = cap ∧ cur.toList.take s.size = Lib.strCells s
theorem RowY.x {B g cap : Nat} {s : ByteArray} {w : World} (h : RowY B g cap s w) : RowX B (.slice (some ⟨g, 0, none⟩) s.size cap) s w := by
  obtain ⟨cur, fz, h1, h2, h3, h4⟩ := h
  exact ⟨g, cap, cur, fz, rfl, h1, h2, .inr h3, h4⟩
theorem RowY.conv {w : World} {s : ByteArray} (hs : s.size ≤ maxLen) : RowY w.heap.size w.heap.size (grownCap w s.size 0 5) s (Lib.bytesWorld w 5 s) := by
  have hge := grownCap_ge w s.size 0 5
  have hsz : (Lib.bytesCells w 5 s).size = grownCap w s.size 0 5 := by simp only [Lib.bytesCells, Array.size_append, Array.size_map, Array.size_replicate]; have e : s.data.size = s.size := rfl; omega
  refine ⟨_, _, Nat.le_refl _, Lib.bytesWorld_at_new w 5 s, Nat.le_refl _, hge, grownCap_le_maxLen w s.size 0 5 hs, hsz, ?_⟩
  simp only [Lib.bytesCells, Array.toList_append, Array.toList_map]
  have hl : s.size = (s.data.toList.map fun b => Value.int .u8 b.toNat).length := by simp
  exact (congrArg (fun k => List.take k _) hl).trans List.take_left
theorem RowY.keep {B g cap lo hi : Nat} {s : ByteArray} {w w' : World} (h : RowY B g cap s w) (hk : Keep lo hi w w') (hb : hi ≤ B) : RowY B g cap s w' := by
  obtain ⟨cur, fz, hbg, hg, rest⟩ := h
  exact ⟨cur, fz, hbg, (hk.block g (Array.getElem?_eq_some_iff.1 hg).1 (.inr (by omega))).trans hg, rest⟩
theorem RowY.cell {B g cap : Nat} {s : ByteArray} {w : World} (h : RowY B g cap s w) {j : Nat} (hj : j < s.size) : (∃ b : Nat, b ≤ 255 ∧ w.cell? ⟨g, j, none⟩ = some (.int .u8 b)) ∧ w.frozen? ⟨g, j, none⟩ = false := by
  obtain ⟨cur, fz, hbg, hg, hfz, hnc, hcm, hcs, ht⟩ := h
  have h1 : (Lib.strCells s)[j]? = some (.int .u8 (s[j].toNat : Int)) := by
    simp only [Lib.strCells, List.getElem?_map]
    have : s.data.toList[j]? = some s[j] := Go.Proofs.byte_at s j hj
    rw [this]; rfl
  rw [← ht, List.getElem?_take, if_pos hj] at h1
  refine ⟨⟨s[j].toNat, by have := s[j].toNat_lt; omega, by simp [World.cell?, hg]; simpa using h1⟩, ?_⟩
  obtain ⟨lo, hi⟩ := fz
  simp only at hfz
  simp only [World.frozen?, hg, Bool.and_eq_false_iff, decide_eq_false_iff_not]
  left; omega
theorem RowY.set {B g cap : Nat} {s : ByteArray} {w : World} (h : RowY B g cap s w) {j b : Nat} (hj : j < s.size) (hb : b ≤ 255) : ∃ s' : ByteArray, s'.size = s.size ∧ RowY B g cap s' (w.setCell ⟨g, j, none⟩ (.int .u8 b)) := by
  obtain ⟨cur, fz, hbg, hg, hfz, hnc, hcm, hcs, ht⟩ := h
  have hsz : (⟨s.data.setIfInBounds j b.toUInt8⟩ : ByteArray).size = s.size := by
    show (s.data.setIfInBounds j b.toUInt8).size = s.data.size
    rw [Array.size_setIfInBounds]
  refine ⟨⟨s.data.setIfInBounds j b.toUInt8⟩, hsz, ?_⟩
  rw [setCell_eq_setRow w g j cur _ fz _ hg]
  refine ⟨_, fz, hbg, setRow_heap w g cur _ _ _ hg, by simpa using hfz, by rw [hsz]; exact hnc, hcm, by simpa using hcs, ?_⟩
  rw [hsz, Array.toList_setIfInBounds, List.take_set, ht]
  simp only [Lib.strCells, Array.toList_setIfInBounds, List.map_set]
  congr 2
  simp only [Nat.toUInt8, UInt8.toNat_ofNat']
  omega
theorem lit_i64 {W : World} {g : Nat} {t : TypeId} {xs : List Int} {cs : Array Value} (h : Blk W g t cs) (hc : cs = (i64s xs).toArray) : ∀ (j : Nat) (x : Int), xs[j]? = some x → W.cell? ⟨g, j, none⟩ = some (.int .i64 x) := by
  intro j x hx
  rw [h.cell j, hc]
  simp [i64s, hx]
theorem lit_strs {W : World} {g : Nat} {t : TypeId} {xs : List ByteArray} {cs : Array Value} (h : Blk W g t cs) (hc : cs = (xs.map Value.string).toArray) : ∀ (j : Nat) (x : ByteArray), xs[j]? = some x → W.cell? ⟨g, j, none⟩ = some (.string x) := by
  intro j x hx
  rw [h.cell j, hc]
  simp [hx]
theorem wf_i64wrap (x : Int) : (Lit.int .i64 (IntKind.i64.wrap x)).wf = true := by
  rw [IntKind.wrap_i64]
  exact WalkArith.wf_i64 (by omega)
theorem wf_wrap64 (x : Int) : (Lit.int .i64 (wrap64 x)).wf = true := by
  rw [wrap64]
  exact WalkArith.wf_i64 (by omega)
/-- one of a row of texts: whatever all of them are, it is -/
theorem text_any {q K g c : Nat} {xs : List ByteArray} {w : World} (h : Src w q K) (hK : K ≤ 3000000000) (h0 : 0 < xs.length) (hl : xs.length ≤ 1000) (hg : g ≠ q) (hx : ∀ (j : Nat) (x : ByteArray), xs[j]? = some x → w.cell? ⟨g, j, none⟩ = some (.string x)) :
    Calls Try.prog 41 #[.pointer (some ⟨q, 0, none⟩), .slice (some ⟨g, 0, none⟩) xs.length c] w fun e w' => ∃ x, x ∈ xs ∧ e = .returned (.string x) ∧ Src w' q (K + 2) ∧ Keep q (q + 1) w w' := by
  obtain ⟨n, hn⟩ : ∃ n, n = xs.length := ⟨_, rfl⟩
  have HN := Lib.hid hn
  have HX := Lib.hid hx
  rw [← hn] at h0 hl ⊢
  clear hn hx
  go_enter Try.func41, Try.ntmps41
  go_wp2_with fail
  refine (pick_any h hK (by omega)).mono ?_
  rintro e w1 ⟨b, hb, rfl, S1, k1⟩
  have HS1 := Lib.hid S1
  have hbn : b < n := by omega
  obtain ⟨x, hx, hm⟩ := at_lt HN.out hbn
  have c0 : w1.cell? ⟨g, b, none⟩ = some (.string x) := by
    have := HX.out b x hx
    exact (k1.cell (p := ⟨g, b, none⟩) (World.block_lt_of_cell? w _ this) (by show g < q ∨ q + 1 ≤ g; omega)).trans this
  clear hx S1 hb
  go_wp2_with fail
  go_ret
  exact ⟨x, hm, rfl, HS1.out, k1⟩
def NumQ (w : World) (q K : Nat) (e : Ending) (w' : World) : Prop := ∃ n, (Lit.int .i64 n).wf = true ∧ e = .returned (.int .i64 n) ∧ Src w' q (K + 10) ∧ Keep q (q + 1) w w'
set_option maxHeartbeats 3200000 in
theorem l01Num_any {q K : Nat} {w : World} (h : Src w q K) (hK : K ≤ 2000000000) : Calls Try.prog 37 #[.pointer (some ⟨q, 0, none⟩)] w fun e w' => NumQ w q K e w' := by
  have hq := h.lt
  obtain ⟨xs, hxs⟩ : ∃ xs : List Int, xs = [0, 1, 63, 64, 127, 128, 255, 256, 8191, 8192, 16384, 2147483648, 4294967296, 4611686018427387904, 9223372036854775807, -9223372036854775808, -1, -64, -65, -8192, -8193] := ⟨_, rfl⟩
  have hw : ∀ x ∈ xs, (Lit.int .i64 x).wf = true := by rw [hxs]; decide
  have hl : xs.length = 21 := by rw [hxs]; rfl
  obtain ⟨w0, hw0⟩ : ∃ W, W = w.alloc (.cells #[.int .i64 0, .int .i64 1, .int .i64 63, .int .i64 64, .int .i64 127, .int .i64 128, .int .i64 255, .int .i64 256, .int .i64 8191, .int .i64 8192, .int .i64 16384, .int .i64 2147483648, .int .i64 4294967296, .int .i64 4611686018427387904, .int .i64 9223372036854775807, .int .i64 (-9223372036854775808), .int .i64 (-1), .int .i64 (-64), .int .i64 (-65), .int .i64 (-8192), .int .i64 (-8193)] 2) := ⟨_, rfl⟩
  have HS0 : Hid (Src w0 q K) := by show Src _ _ _; rw [hw0]; exact h.step ((Below.refl _ _).alloc (Nat.le_refl _) _)
  have HK0 : Hid (Keep q (q + 1) w w0) := by show Keep _ _ _ _; rw [hw0]; exact (Keep.refl _ _ _).alloc _
  have HA : Hid (∀ (j : Nat) (x : Int), xs[j]? = some x → w0.cell? ⟨w.heap.size, j, none⟩ = some (.int .i64 x)) := by
    rw [hw0]
    exact lit_i64 (Blk.new w _ _) (by rw [hxs]; rfl)
  have HAM : Hid (Calls Try.prog 65 #[.pointer (some ⟨q, 0, none⟩), .slice (some ⟨w.heap.size, 0, none⟩) 21 21] w0 fun e w' => ∃ x, x ∈ xs ∧ e = .returned (.int .i64 x) ∧ Src w' q (K + 2) ∧ Keep q (q + 1) w0 w') := by
    have := among_any (c := 21) (xs := xs) HS0.out (by omega) (by omega) (by omega) (by omega) HA.out
    rw [hl] at this
    exact this
  have HW := Lib.hid hw0
  clear hw0 hxs h hl
  go_enter Try.func37, Try.ntmps37
  go_wp2_with fail
  rw [← HW.out]
  refine HAM.out.mono ?_
  rintro e w1 ⟨x, hx, rfl, S1, k1⟩
  have hx := hw x hx
  have HS1 := Lib.hid S1
  have HK1 := Lib.hid (HK0.out.trans k1)
  clear S1 k1 HW HA HAM HS0 HK0 hw
  go_wp2_with fail
  refine (one_any HS1.out (by omega) (by omega)).mono ?_
  rintro e w2 ⟨b, rfl, S2, k2⟩
  have HS2 := Lib.hid S2
  have HK2 := Lib.hid (HK1.out.trans k2)
  clear S2 k2 HS1 HK1
  cases b with
  | false =>
    go_wp2_with fail
    refine (one_any HS2.out (by omega) (by omega)).mono ?_
    rintro e w3 ⟨b2, rfl, S3, k3⟩
    have HS3 := Lib.hid S3
    have HK3 := Lib.hid (HK2.out.trans k3)
    clear S3 k3 HS2 HK2
    cases b2 with
    | false =>
      go_wp2_with fail
      go_ret
      exact ⟨x, hx, rfl, HS3.out.more (by omega), HK3.out⟩
    | true =>
      go_wp2_with fail
      go_ret
      refine ⟨_, ?_, rfl, HS3.out.more (by omega), HK3.out⟩
      first | exact wf_i64wrap _ | exact wf_wrap64 _
  | true =>
    go_wp2_with fail
    refine (pick_any HS2.out (by omega) (by omega)).mono ?_
    rintro e w3 ⟨y, hy, rfl, S3, k3⟩
    have HS3 := Lib.hid S3
    have HK3 := Lib.hid (HK2.out.trans k3)
    clear S3 k3 HS2 HK2
    go_wp2_with fail
    refine (pick_any HS3.out (by omega) (by omega)).mono ?_
    rintro e w4 ⟨z, hz, rfl, S4, k4⟩
    have HS4 := Lib.hid S4
    have HK4 := Lib.hid (HK3.out.trans k4)
    clear S4 k4 HS3 HK3
    go_wp2_with fail
    refine (one_any HS4.out (by omega) (by omega)).mono ?_
    rintro e w5 ⟨b2, rfl, S5, k5⟩
    have HS5 := Lib.hid S5
    have HK5 := Lib.hid (HK4.out.trans k5)
    clear S5 k5 HS4 HK4
    cases b2 with
    | false =>
      go_wp2_with fail
      go_ret
      refine ⟨_, ?_, rfl, HS5.out.more (by omega), HK5.out⟩
      first | exact wf_i64wrap _ | exact wf_wrap64 _
    | true =>
      go_wp2_with fail
      go_ret
      refine ⟨_, ?_, rfl, HS5.out.more (by omega), HK5.out⟩
      first | exact wf_i64wrap _ | exact wf_wrap64 _
theorem DrawPutSleb_any {A : Option Addr} {n c : Nat} {w : World} (hn : n ≤ 1048576) (h : BytesAt w w.heap.size A n) : Calls Try.prog 11 #[.slice A n c] w fun e w' => ∃ x, (Lit.int .i64 x).wf = true ∧ e = .returned (.int .i64 x) ∧ Below w.heap.size w w' := by
  go_enter Try.func11, Try.ntmps11
  go_wp2_with fail
  refine (from_any hn h).mono ?_
  rintro e w1 ⟨rfl, S1, b1⟩
  have HS1 := Lib.hid S1
  clear S1
  go_wp2_with fail
  refine (l01Num_any HS1.out (by omega)).mono ?_
  rintro e w2 ⟨x, hx, rfl, S2, k2⟩
  go_wp2_with fail
  go_ret
  exact ⟨x, hx, rfl, b1.trans (k2.below b1.size)⟩
theorem DrawPutHex_any {A : Option Addr} {n c : Nat} {w : World} (hn : n ≤ 1048576) (h : BytesAt w w.heap.size A n) : Calls Try.prog 17 #[.slice A n c] w fun e w' => ∃ x : ByteArray, x.size < 9 ∧ e = .returned (.string x) ∧ Below w.heap.size w w' := by
  go_enter Try.func17, Try.ntmps17
  go_wp2_with fail
  refine (from_any hn h).mono ?_
  rintro e w1 ⟨rfl, S1, b1⟩
  have HS1 := Lib.hid S1
  clear S1
  go_wp2_with fail
  refine (word_any HS1.out (by omega) (by omega)).mono ?_
  rintro e w2 ⟨x, hx, rfl, S2, k2⟩
  go_wp2_with fail
  go_ret
  exact ⟨x, by omega, rfl, b1.trans (k2.below b1.size)⟩
theorem l00Max_any (a b : Int) (w : World) : Calls Try.prog 44 #[.int .i64 a, .int .i64 b] w fun e w' => e = .returned (.int .i64 (max a b)) ∧ w = w' := by
  by_cases h : b < a
  · have e : max a b = a := by omega
    rw [e]
    clear e
    go_enter Try.func44, Try.ntmps44
    go_wp2_with fail
    go_ret
    exact ⟨rfl, rfl⟩
  · have e : max a b = b := by omega
    have hd : decide (b < a) = false := decide_eq_false h
    rw [e]
    clear e
    go_enter Try.func44, Try.ntmps44
    go_wp2_with fail
    go_ret
    exact ⟨rfl, rfl⟩
def BendQ (w : World) (q K n : Nat) (e : Ending) (w' : World) : Prop := ∃ r : ByteArray, r.size ≤ n + 3 ∧ e = .returned (.string r) ∧ Src w' q (K + 2000) ∧ Keep q (q + 1) w w'
set_option maxHeartbeats 3200000 in
theorem l01Bend_any {q K : Nat} {t : ByteArray} {w : World} (h : Src w q K) (hK : K ≤ 1000000000) (ht : t.size ≤ 1000) : Calls Try.prog 42 #[.pointer (some ⟨q, 0, none⟩), .string t] w fun e w' => BendQ w q K t.size e w' := by
  have hq := h.lt
  have cv := conv_rule w t
  have HX0 := Lib.hid (RowY.conv (w := w) (s := t) (by unfold maxLen; omega))
  have hB := conv_below (w := w) (s := t) (Nat.le_refl w.heap.size)
  have HS0 := Lib.hid (h.step hB)
  have HK0 : Hid (Keep q (q + 1) w (Lib.bytesWorld w 5 t)) := Keep.of_below hB
  obtain ⟨cap, hcap⟩ : ∃ c, c = grownCap w t.size 0 5 := ⟨_, rfl⟩
  rw [← hcap] at cv HX0
  clear hcap hB h
  go_enter Try.func42, Try.ntmps42
  go_wp2_with fail
  refine (pick_any HS0.out (by omega) (by omega)).mono ?_
  rintro e w1 ⟨b, hb, rfl, S1, k1⟩
  have HS1 := Lib.hid S1
  have HK1 := Lib.hid (HK0.out.trans k1)
  have HX1 := Lib.hid (HX0.out.keep k1 (by omega))
  have hb4 : b < 4 := by omega
  clear S1 k1 HS0 HK0 HX0 cv hb
  rcases (show b = 0 ∨ b = 1 ∨ b = 2 ∨ b = 3 by omega) with rfl | rfl | rfl | rfl
  · go_wp2_with fail
    refine (word_any HS1.out (by omega) (by omega)).mono ?_
    rintro e w2 ⟨r, hr, rfl, S2, k2⟩
    have HS2 := Lib.hid S2
    have hr3 : r.size ≤ 3 := by omega
    clear S2 hr
    go_wp2_with fail
    go_ret
    exact ⟨_, by rw [ByteArray.size_append]; omega, rfl, HS2.out.more (by omega), HK1.out.trans k2⟩
  · have x1 : IntKind.i64.wrap ((t.size : Int) + 1) = ((t.size + 1 : Nat) : Int) := (IntWalk.i64_in _ (by omega)).trans (by omega)
    go_wp2_with fail
    refine (pick_any HS1.out (by omega) (by omega)).mono ?_
    rintro e w2 ⟨r, hr, rfl, S2, k2⟩
    have HS2 := Lib.hid S2
    have hr1 : (r : Int) ≤ (t.size : Int) := by omega
    have hr0 : (0 : Int) ≤ (r : Int) := by omega
    clear S2 hr
    go_wp2_with fail
    go_ret
    exact ⟨_, by rw [ByteArray.size_extract]; omega, rfl, HS2.out.more (by omega), HK1.out.trans k2⟩
  · by_cases h0 : 0 < t.size
    case neg =>
      have hz : decide ((0 : Int) < (t.size : Int)) = false := decide_eq_false (by omega)
      have hst := HX1.out.x.str
      go_wp2_with fail
      go_ret
      exact ⟨_, by omega, rfl, HS1.out.more (by omega), HK1.out⟩
    have hz : decide ((0 : Int) < (t.size : Int)) = true := decide_eq_true (by omega)
    go_wp2_with fail
    refine (pick_any HS1.out (by omega) (by omega)).mono ?_
    rintro e w2 ⟨r, hr, rfl, S2, k2⟩
    have HS2 := Lib.hid S2
    have HK2 := Lib.hid (HK1.out.trans k2)
    have HX2 := Lib.hid (HX1.out.keep k2 (by omega))
    have hrt : r < t.size := by omega
    clear S2 k2 HS1 HK1 HX1 hr
    go_wp2_with fail
    refine (next_any HS2.out (by omega)).mono ?_
    rintro e w3 ⟨y, hy, rfl, S3, k3⟩
    have HS3 := Lib.hid S3
    have HK3 := Lib.hid (HK2.out.trans k3)
    have HX3 := Lib.hid (HX2.out.keep k3 (by omega))
    clear S3 k3 HS2 HK2 HX2
    obtain ⟨⟨z, hz9, c0⟩, f0⟩ := HX3.out.cell hrt
    obtain ⟨t2, hts, RX⟩ := HX3.out.set (b := y) hrt hy
    have hst := RX.x.str
    rw [hts] at hst
    have hyw : IntKind.u8.wrap (y : Int) = (y : Int) := IntWalk.u8_in _ (by omega)
    have HT := Lib.hid hts
    clear hts RX
    go_wp2_with fail
    go_ret
    refine ⟨_, by rw [HT.out]; omega, rfl, (HS3.out.below ((Below.refl w.heap.size _).setCell (p := ⟨w.heap.size, r, none⟩) (Nat.le_refl _) _) hq).more (by omega), HK3.out.high (p := ⟨w.heap.size, r, none⟩) (Nat.le_refl _) _⟩
  · have hst := HX1.out.x.str
    go_wp2_with fail
    go_ret
    exact ⟨_, by omega, rfl, HS1.out.more (by omega), HK1.out⟩
set_option maxHeartbeats 3200000 in
theorem DrawGetLeb_any {A : Option Addr} {n c : Nat} {w : World} (hn : n ≤ 1048576) (h : BytesAt w w.heap.size A n) : Calls Try.prog 16 #[.slice A n c] w fun e w' => ∃ x : ByteArray, x.size ≤ 20 ∧ e = .returned (.string x) ∧ Below w.heap.size w w' := by
  go_enter Try.func16, Try.ntmps16
  go_wp2_with fail
  refine (from_any hn h).mono ?_
  rintro e w1 ⟨rfl, S1, b1⟩
  have HS1 := Lib.hid S1
  clear S1
  go_wp2_with fail
  refine (one_any HS1.out (by omega) (by omega)).mono ?_
  rintro e w2 ⟨b, rfl, S2, k2⟩
  have HS2 := Lib.hid S2
  have HB2 := Lib.hid (b1.trans (k2.below b1.size))
  have hsz := HS2.out.lt
  clear S2 k2 HS1 b1
  cases b with
  | true =>
    obtain ⟨xs, hxs⟩ : ∃ xs : List ByteArray, xs = [⟨#[]⟩, ⟨#[128]⟩, ⟨#[128, 0]⟩, ⟨#[129, 128, 0]⟩, ⟨#[255, 255, 255, 255, 255, 255, 255, 255, 127]⟩, ⟨#[255, 255, 255, 255, 255, 255, 255, 255, 255, 1]⟩] := ⟨_, rfl⟩
    have hw : ∀ x ∈ xs, x.size ≤ 20 := by rw [hxs]; decide
    have hl : xs.length = 6 := by rw [hxs]; rfl
    obtain ⟨w3, hw3⟩ : ∃ W, W = w2.alloc (.cells #[.string ⟨#[]⟩, .string ⟨#[128]⟩, .string ⟨#[128, 0]⟩, .string ⟨#[129, 128, 0]⟩, .string ⟨#[255, 255, 255, 255, 255, 255, 255, 255, 127]⟩, .string ⟨#[255, 255, 255, 255, 255, 255, 255, 255, 255, 1]⟩] 9) := ⟨_, rfl⟩
    have HS3 : Hid (Src w3 w.heap.size 2) := by show Src _ _ _; rw [hw3]; exact HS2.out.step ((Below.refl _ _).alloc (Nat.le_refl _) _)
    have HB3 : Hid (Below w.heap.size w w3) := by show Below _ _ _; rw [hw3]; exact HB2.out.alloc HB2.out.size _
    have HAM : Hid (Calls Try.prog 41 #[.pointer (some ⟨w.heap.size, 0, none⟩), .slice (some ⟨w2.heap.size, 0, none⟩) 6 6] w3 fun e w' => ∃ x, x ∈ xs ∧ e = .returned (.string x) ∧ Src w' w.heap.size (2 + 2) ∧ Keep w.heap.size (w.heap.size + 1) w3 w') := by
      have := text_any (c := 6) (xs := xs) (g := w2.heap.size) HS3.out (by omega) (by omega) (by omega) (by omega) (by rw [hw3]; exact lit_strs (Blk.new w2 _ _) (by rw [hxs]; rfl))
      rw [hl] at this
      exact this
    have HW := Lib.hid hw3
    clear hw3 hxs hl
    go_wp2_with fail
    rw [← HW.out]
    refine HAM.out.mono ?_
    rintro e w4 ⟨x, hx, rfl, S4, k4⟩
    have hx := hw x hx
    clear hw HW HAM S4
    go_wp2_with fail
    go_ret
    exact ⟨x, hx, rfl, HB3.out.trans (k4.below HB3.out.size)⟩
  | false =>
    go_wp2_with fail
    refine (l01Num_any HS2.out (by omega)).mono ?_
    rintro e w3 ⟨x, hx, rfl, S3, k3⟩
    have HS3 := Lib.hid S3
    have HB3 := Lib.hid (HB2.out.trans (k3.below HB2.out.size))
    have hxb := wf64 hx
    clear S3 k3 HS2 HB2 hx
    go_wp2_with fail
    refine (l00Max_any 0 x w3).mono ?_
    rintro e w4 ⟨rfl, rfl⟩
    have hm0 : 0 ≤ max 0 x := by omega
    have hmw : (Lit.int .i64 (max 0 x)).wf = true := WalkArith.wf_i64 (by omega)
    obtain ⟨y, hy⟩ : ∃ y, y = max 0 x := ⟨_, rfl⟩
    rw [← hy] at hm0 hmw ⊢
    clear hy hxb
    have hten := leb_ten hm0 hmw
    have HP := Lib.hid (specPutLeb_any y hm0 hmw w3)
    obtain ⟨p, hp⟩ : ∃ p, p = strOfNums (leb y) := ⟨_, rfl⟩
    have hps : p.size ≤ 10 := by rw [hp, strOfNums_size]; exact hten
    rw [← hp] at HP
    clear hp hten hm0 hmw
    go_wp2_with fail
    refine HP.out.mono ?_
    rintro e w5 ⟨rfl, b5⟩
    have HS5 := Lib.hid (HS3.out.step b5)
    have HB5 := Lib.hid (HB3.out.trans (b5.mono HB3.out.size))
    clear HP b5 HS3 HB3
    go_wp2_with fail
    refine (l01Bend_any HS5.out (by omega) (by omega)).mono ?_
    rintro e w6 ⟨r, hr, rfl, S6, k6⟩
    have hr2 : r.size ≤ 20 := by omega
    clear S6
    go_wp2_with fail
    go_ret
    exact ⟨r, hr2, rfl, HB5.out.trans (k6.below HB5.out.size)⟩
end Go.Proofs.Ytlkfaednolmfkaa

