/-
  Tokens: spec.l05Draw, spec.A8Chars (by program: gen_tokd.py).
-/
import Derived.Test.YtfnncclplbbghaaDraw
import Derived.Test.YtfnncclplbbghaaGrw
import Derived.Test.YtfnncclplbbghaaByt
import Derived.Lib.SlBytesRow
namespace Go.Proofs.Ytfnncclplbbghaa
open Go.RowKit
set_option linter.unusedVariables false
set_option linter.unusedSimpArgs false
set_option linter.unnecessarySimpa false
set_option maxRecDepth 16000

theorem lit_strs {W : World} {g : Nat} {t : TypeId} {xs : List ByteArray} {cs : Array Value} (h : Blk W g t cs) (hc : cs = (xs.map Value.string).toArray) : ∀ (j : Nat) (x : ByteArray), xs[j]? = some x → W.cell? ⟨g, j, none⟩ = some (.string x) := by
  intro j x hx
  rw [h.cell j, hc]
  simp [hx]
theorem text_any {q K g c : Nat} {xs : List ByteArray} {w : World} (h : Src w q K) (hK : K ≤ 3000000000) (h0 : 0 < xs.length) (hl : xs.length ≤ 1000) (hg : g ≠ q) (hx : ∀ (j : Nat) (x : ByteArray), xs[j]? = some x → w.cell? ⟨g, j, none⟩ = some (.string x)) :
    Calls Try.prog 19 #[.pointer (some ⟨q, 0, none⟩), .slice (some ⟨g, 0, none⟩) xs.length c] w fun e w' => ∃ x, x ∈ xs ∧ e = .returned (.string x) ∧ Src w' q (K + 2) ∧ Keep q (q + 1) w w' := by
  obtain ⟨n, hn⟩ : ∃ n, n = xs.length := ⟨_, rfl⟩
  have HN := Lib.hid hn
  have HX := Lib.hid hx
  rw [← hn] at h0 hl ⊢
  clear hn hx
  go_enter Try.func19, Try.ntmps19
  go_wp2_with fail
  refine (pick_any h hK (by omega)).mono ?_
  rintro e w1 ⟨b, hb, rfl, S1, k1⟩
  have HS1 := Lib.hid S1
  have hbn : b < n := by omega
  obtain ⟨x, hx, hm⟩ := at_lt HN.out hbn
  have c0 : w1.cell? ⟨g, b, none⟩ = some (.string x) := by
    have := HX.out b x hx
    exact (k1.cell (p := ⟨g, b, none⟩) (World.block_lt_of_cell? w _ this) (by show g < q ∨ q + 1 ≤ g; omega)).trans this
  clear hx S1 hb
  go_wp2_with fail
  go_ret
  exact ⟨x, hm, rfl, HS1.out, k1⟩
theorem keep_high {lo hi : Nat} {w W : World} (h : Keep lo hi w W) (q : Nat) : Keep lo hi w (W.drewN q) := ⟨h.os, h.tape, h.output, h.size, h.block⟩
theorem u8z_info : (Try.prog.info? 5).map (fun i => (i.zero, i.size, i.bytes)) = some (some (.int .u8 0), 1, 1) := by kernel_rfl
def zerosT (n : Nat) : ByteArray := ⟨Array.replicate n 0⟩
theorem zerosT_size (n : Nat) : (zerosT n).size = n := by simp [zerosT, ByteArray.size]
theorem zerosT_byt (n : Nat) : byt (zerosT (n + 1)) = 0 :: byt (zerosT n) := by simp [byt, zerosT, List.replicate_succ]
theorem conv_zeros {w : World} {g n c : Nat} {cur : Array Value} (hg : w.heap[g]? = some (.cells cur 5 (0, 0))) (hc : cur.toList = List.replicate n (.int .u8 0)) : (convert 22 9 (.slice (some ⟨g, 0, none⟩) n c)).run Try.prog w = .ok (.string (zerosT n)) w := by
  have hz := zerosT_size n
  have := Lib.run_convert_whole w _ _ _ Try.underlying22 Try.underlying5 Try.underlying9 g 0 (zerosT n) (fun i hi => ?_) c
  · rwa [hz] at this
  · rw [Nat.zero_add, cell_of_row w g i cur _ (0, 0) hg, ← Array.getElem?_toList, hc, List.getElem?_replicate, if_pos (by omega)]
    have e : (zerosT n)[i] = 0 := by simp [zerosT, ByteArray.getElem_eq_getElem_data]
    rw [e]; rfl
/-- what a drawn source is: short, or zeros that are too long -/
def DrawnS (t : ByteArray) : Prop := t.size ≤ 1000 ∨ (30000 ≤ t.size ∧ t.size ≤ 30001 ∧ ∃ r, byt t = 0 :: r)
set_option maxHeartbeats 6400000 in
theorem l05Draw_any {q : Nat} {w : World} (h : Src w q 0) : Calls Try.prog 10 #[.pointer (some ⟨q, 0, none⟩)] w fun e w' => ∃ t, DrawnS t ∧ e = .returned (.string t) ∧ Keep q (q + 1) w w' := by
  obtain ⟨j0, hj, hz0, hz1, hz2⟩ := info_parts u8z_info
  go_enter Try.func10, Try.ntmps10
  go_wp2_with fail
  refine (pick_any h (by omega) (by omega)).mono ?_
  rintro e w1 ⟨b, hb, rfl, S1, k1⟩
  have HS1 : Hid (Src w1 q (2 + 2 * (b - b))) := S1.more (by omega)
  have HK1 := Lib.hid k1
  have hb14 : b < 14 := by omega
  clear S1 k1 hb h
  go_wp2_with fail
  go_loopw [3, 4] (fun tv i wr => ∃ (t : ByteArray) (k : Nat), tv = .string t ∧ i = .int .i64 k ∧ k ≤ b ∧ t.size ≤ 5 * (b - k) ∧ Hid (Src wr q (2 + 2 * (b - k))) ∧ Hid (Keep q (q + 1) w wr)) (fun _ i _ => (intOf i).toNat)
  case atStart => exact ⟨⟨#[]⟩, b, rfl, rfl, Nat.le_refl _, Nat.zero_le _, HS1, HK1⟩
  case round =>
    clear HS1 HK1
    obtain ⟨t, k, rfl, rfl, hk, hts, HS, HK⟩ := hrel
    by_cases h0 : 0 < k
    case pos =>
      have hd : decide ((0 : Int) < (k : Int)) = true := decide_eq_true (by omega)
      obtain ⟨K, hK⟩ : ∃ K, K = 2 + 2 * (b - k) := ⟨_, rfl⟩
      have hK9 : K ≤ 1000 := by omega
      rw [← hK] at HS
      obtain ⟨xs, hxs⟩ : ∃ xs : List ByteArray, xs = [⟨#[97]⟩, ⟨#[98, 45, 99]⟩, ⟨#[117, 56]⟩, ⟨#[108, 105, 115, 116]⟩, ⟨#[60]⟩, ⟨#[62]⟩, ⟨#[45, 62]⟩, ⟨#[45]⟩, ⟨#[49]⟩, ⟨#[49, 46, 50, 46, 48]⟩, ⟨#[49, 46]⟩, ⟨#[46]⟩, ⟨#[123]⟩, ⟨#[125]⟩, ⟨#[40]⟩, ⟨#[41]⟩, ⟨#[44]⟩, ⟨#[59]⟩, ⟨#[58]⟩, ⟨#[61]⟩, ⟨#[47]⟩, ⟨#[47, 47]⟩, ⟨#[64]⟩, ⟨#[95]⟩, ⟨#[32]⟩, ⟨#[10]⟩, ⟨#[47, 47, 32, 120, 10]⟩, ⟨#[97, 49, 45, 50]⟩, ⟨#[102, 117, 110, 99]⟩] := ⟨_, rfl⟩
      have hxw : ∀ x ∈ xs, x.size ≤ 5 := by rw [hxs]; decide
      have hxl : xs.length = 29 := by rw [hxs]; rfl
      obtain ⟨wx, hwx⟩ : ∃ W, W = wr.alloc (.cells #[.string ⟨#[97]⟩, .string ⟨#[98, 45, 99]⟩, .string ⟨#[117, 56]⟩, .string ⟨#[108, 105, 115, 116]⟩, .string ⟨#[60]⟩, .string ⟨#[62]⟩, .string ⟨#[45, 62]⟩, .string ⟨#[45]⟩, .string ⟨#[49]⟩, .string ⟨#[49, 46, 50, 46, 48]⟩, .string ⟨#[49, 46]⟩, .string ⟨#[46]⟩, .string ⟨#[123]⟩, .string ⟨#[125]⟩, .string ⟨#[40]⟩, .string ⟨#[41]⟩, .string ⟨#[44]⟩, .string ⟨#[59]⟩, .string ⟨#[58]⟩, .string ⟨#[61]⟩, .string ⟨#[47]⟩, .string ⟨#[47, 47]⟩, .string ⟨#[64]⟩, .string ⟨#[95]⟩, .string ⟨#[32]⟩, .string ⟨#[10]⟩, .string ⟨#[47, 47, 32, 120, 10]⟩, .string ⟨#[97, 49, 45, 50]⟩, .string ⟨#[102, 117, 110, 99]⟩] 9) := ⟨_, rfl⟩
      have HSX : Hid (Src wx q K) := by show Src _ _ _; rw [hwx]; exact HS.out.step ((Below.refl _ _).alloc (Nat.le_refl _) _)
      have HKX : Hid (Keep q (q + 1) w wx) := by show Keep _ _ _ _; rw [hwx]; exact HK.out.alloc _
      have HTX : Hid (Calls Try.prog 19 #[.pointer (some ⟨q, 0, none⟩), .slice (some ⟨wr.heap.size, 0, none⟩) 29 29] wx fun e w' => ∃ x, x ∈ xs ∧ e = .returned (.string x) ∧ Src w' q (K + 2) ∧ Keep q (q + 1) wx w') := by
        have := text_any (c := 29) (xs := xs) (g := wr.heap.size) HSX.out (by omega) (by omega) (by omega) (by have := HS.out.lt; omega) (by rw [hwx]; exact lit_strs (Blk.new wr _ _) (by rw [hxs]; rfl))
        rw [hxl] at this
        exact this
      have HWX := Lib.hid hwx
      have HXW := Lib.hid hxw
      clear hxs hxl hwx hxw
      have hkw : IntKind.i64.wrap ((k : Int) - 1) = ((k - 1 : Nat) : Int) := (IntWalk.i64_in _ (by omega)).trans (by omega)
      go_wp2_with fail
      rw [← HWX.out]
      refine HTX.out.mono ?_
      rintro e w2 ⟨x, hx, rfl, S2, k2⟩
      have hx5 : x.size ≤ 5 := HXW.out x hx
      have hcat : (9223372036854775807 < t.size + x.size) = False := eq_false (by omega)
      have HS2 := Lib.hid S2
      have HK2 := Lib.hid (HKX.out.trans k2)
      clear hx S2 k2
      go_wp2_with fail
      go_roundw
      case rel => exact ⟨_, k - 1, rfl, rfl, by omega, by rw [ByteArray.size_append]; omega, Lib.hid (HS2.out.more (by omega)), HK2⟩
      case measure => simp [intOf]; omega
    obtain rfl : k = 0 := by omega
    have hts9 : t.size ≤ 100 := by omega
    go_wp2_with fail
    refine (pick_any HS.out (by omega) (by omega)).mono ?_
    rintro e w2 ⟨c, hc, rfl, S2, k2⟩
    obtain ⟨K, hK⟩ : ∃ K, K = 2 + 2 * (b - 0) + 2 := ⟨_, rfl⟩
    have hK9 : K ≤ 1000 := by omega
    rw [← hK] at S2
    have HS2 := Lib.hid S2
    have HK2 := Lib.hid (HK.out.trans k2)
    clear S2 k2 HS HK hK hts
    by_cases hc0 : c = 0
    case pos =>
      subst hc0
      obtain ⟨xs, hxs⟩ : ∃ xs : List ByteArray, xs = [⟨#[65]⟩, ⟨#[9]⟩, ⟨#[34]⟩, ⟨#[0]⟩, ⟨#[45]⟩, ⟨#[43]⟩, ⟨#[37]⟩] := ⟨_, rfl⟩
      have hxw : ∀ x ∈ xs, x.size ≤ 5 := by rw [hxs]; decide
      have hxl : xs.length = 7 := by rw [hxs]; rfl
      obtain ⟨wx, hwx⟩ : ∃ W, W = w2.alloc (.cells #[.string ⟨#[65]⟩, .string ⟨#[9]⟩, .string ⟨#[34]⟩, .string ⟨#[0]⟩, .string ⟨#[45]⟩, .string ⟨#[43]⟩, .string ⟨#[37]⟩] 9) := ⟨_, rfl⟩
      have HSX : Hid (Src wx q K) := by show Src _ _ _; rw [hwx]; exact HS2.out.step ((Below.refl _ _).alloc (Nat.le_refl _) _)
      have HKX : Hid (Keep q (q + 1) w wx) := by show Keep _ _ _ _; rw [hwx]; exact HK2.out.alloc _
      have HTX : Hid (Calls Try.prog 19 #[.pointer (some ⟨q, 0, none⟩), .slice (some ⟨w2.heap.size, 0, none⟩) 7 7] wx fun e w' => ∃ x, x ∈ xs ∧ e = .returned (.string x) ∧ Src w' q (K + 2) ∧ Keep q (q + 1) wx w') := by
        have := text_any (c := 7) (xs := xs) (g := w2.heap.size) HSX.out (by omega) (by omega) (by omega) (by have := HS2.out.lt; omega) (by rw [hwx]; exact lit_strs (Blk.new w2 _ _) (by rw [hxs]; rfl))
        rw [hxl] at this
        exact this
      have HWX := Lib.hid hwx
      have HXW := Lib.hid hxw
      clear hxs hxl hwx hxw
      go_wp2_with fail
      rw [← HWX.out]
      refine HTX.out.mono ?_
      rintro e w3 ⟨x, hx, rfl, S3, k3⟩
      have hx5 : x.size ≤ 5 := HXW.out x hx
      have hcat : (9223372036854775807 < t.size + x.size) = False := eq_false (by omega)
      have HK3 := Lib.hid (HKX.out.trans k3)
      clear hx S3 k3
      go_wp2_with fail
      go_ret
      exact ⟨_, .inl (by rw [ByteArray.size_append]; omega), rfl, HK3.out⟩
    have e0 : ((c : Int) == 0) = false := by simp; omega
    by_cases hc1 : c = 1
    case pos =>
      subst hc1
      go_wp2_with fail
      refine (pick_any HS2.out (by omega) (by omega)).mono ?_
      rintro e w3 ⟨x, hx, rfl, S3, k3⟩
      obtain ⟨N, hN⟩ : ∃ N, N = 30000 + x := ⟨_, rfl⟩
      have hN1 : N ≤ 30001 ∧ 30000 ≤ N := by omega
      have hNw : IntKind.i64.wrap (30000 + (x : Int)) = (N : Int) := (IntWalk.i64_in _ (by omega)).trans (by omega)
      have HK3 := Lib.hid (HK2.out.trans k3)
      clear hN hx S3 k3
      have hmk := run_make_rowN (P := Try.prog) 22 5 j0 _ Try.underlying22 hj hz0 .i64 .i64 N N (Nat.le_refl _) (by rw [hz2]; omega) (by omega) w3
      rw [hz1, Nat.mul_one, show (Value.int .u8 0).cells = #[Value.int .u8 0] from rfl] at hmk
      have hml : (madeCells #[Value.int .u8 0] N).toList = List.replicate N (.int .u8 0) := toList_madeCells_one _ _
      obtain ⟨w4, hw4⟩ : ∃ V, V = w3.alloc (.cells (madeCells #[Value.int .u8 0] N) 5) := ⟨_, rfl⟩
      have cv : (convert 22 9 (.slice (some ⟨w3.heap.size, 0, none⟩) N N)).run Try.prog w4 = .ok (.string (zerosT N)) w4 := by rw [hw4]; exact conv_zeros (heap_alloc_new w3 _) hml
      have HK4 : Hid (Keep q (q + 1) w w4) := by show Keep _ _ _ _; rw [hw4]; exact HK3.out.alloc _
      rw [← hw4] at hmk
      clear hw4 hml hj hz0 hz1 hz2
      go_wp2_with fail
      go_ret
      refine ⟨_, .inr ⟨by rw [zerosT_size]; omega, by rw [zerosT_size]; omega, ?_⟩, rfl, HK4.out⟩
      obtain ⟨M, rfl⟩ : ∃ M, N = M + 1 := ⟨N - 1, by omega⟩
      exact ⟨_, zerosT_byt M⟩
    have e1 : ((c : Int) == 1) = false := by simp; omega
    go_wp2_with fail
    go_ret
    exact ⟨_, .inl (by omega), rfl, HK2.out⟩
theorem A8Chars_any {A : Option Addr} {n c : Nat} {w : World} (hn : n ≤ 1048576) (h : BytesAt w w.heap.size A n) : Calls Try.prog 4 #[.slice A n c] w fun e w' => ∃ t, DrawnS t ∧ e = .returned (.string t) ∧ Below w.heap.size w w' := by
  go_enter Try.func4, Try.ntmps4
  go_wp2_with fail
  refine (from_any hn h).mono ?_
  rintro e w1 ⟨rfl, S1, b1⟩
  have HS1 := Lib.hid S1
  clear S1
  go_wp2_with fail
  refine (l05Draw_any HS1.out).mono ?_
  rintro e w2 ⟨t, ht, rfl, k2⟩
  go_wp2_with fail
  go_ret
  exact ⟨t, ht, rfl, b1.trans (k2.below b1.size)⟩
end Go.Proofs.Ytfnncclplbbghaa

