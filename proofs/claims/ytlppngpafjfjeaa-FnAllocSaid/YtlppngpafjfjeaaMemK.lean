/-
  spec.MemoryOk and impl.MemoryOk return the same bool.
-/
import Derived.Test.YtlppngpafjfjeaaFam
import Derived.Test.YtlppngpafjfjeaaTy
import Derived.Test.YtlppngpafjfjeaaIdx
import Derived.Test.YtlppngpafjfjeaaSmall
import Derived.Deep.RegionHeld3
namespace Go.Proofs.Ytlppngpafjfjeaa
open Go.RowKit
set_option linter.unusedVariables false
set_option linter.unusedSimpArgs false
set_option linter.unnecessarySimpa false

def Block.wf (b : Block) : Prop := (Lit.int .i64 b.at_).wf = true ∧ (Lit.int .i64 b.size).wf = true
def blocks (bs : List Block) : PD := .row 2 (bs.flatMap Block.pd)
theorem block_info : (Try.prog.info? 49).map (fun i => (i.zero, i.size, i.bytes)) = some (some (.agg #[.int .i64 0, .int .i64 0]), 2, 16) := by kernel_rfl
def stepOk (last n : Int) (b : Block) : Bool := decide (0 < b.size) && decide (last < b.at_) && decide (b.at_ ≤ n) && decide (b.size ≤ n - b.at_)
def blkOk (n : Int) : Int → List Block → Bool
  | _, [] => true
  | last, b :: bs => stepOk last n b && blkOk n (b.at_ + b.size) bs
def memOk (s : ByteArray) (bs : List Block) : Bool := decide (s.size ≤ 4096) && blkOk s.size 7 bs
theorem step_cases (last n : Int) (b : Block) : (stepOk last n b = true ∧ 0 < b.size ∧ last < b.at_ ∧ b.at_ ≤ n ∧ b.size ≤ n - b.at_) ∨
    (stepOk last n b = false ∧ (b.size ≤ 0 ∨ (0 < b.size ∧ b.at_ ≤ last) ∨ (0 < b.size ∧ last < b.at_ ∧ n < b.at_) ∨ (0 < b.size ∧ last < b.at_ ∧ b.at_ ≤ n ∧ n - b.at_ < b.size))) := by
  by_cases h : 0 < b.size ∧ last < b.at_ ∧ b.at_ ≤ n ∧ b.size ≤ n - b.at_
  · refine .inl ⟨?_, h⟩
    simp only [stepOk, Bool.and_eq_true, decide_eq_true_eq]
    omega
  · refine .inr ⟨?_, by omega⟩
    rw [Bool.eq_false_iff]
    simp only [stepOk, ne_eq, Bool.and_eq_true, decide_eq_true_eq]
    omega
theorem blkOk_at {n last : Int} {bs : List Block} {k : Nat} {b : Block} (h : bs[k]? = some b) : blkOk n last (bs.drop k) = (stepOk last n b && blkOk n (b.at_ + b.size) (bs.drop (k + 1))) := by
  obtain ⟨hk, hb⟩ := List.getElem?_eq_some_iff.1 h
  rw [List.drop_eq_getElem_cons hk, hb]
  rfl
theorem blkOk_len {n : Int} : ∀ {bs : List Block} {last : Int}, blkOk n last bs = true → bs = [] ∨ last + bs.length ≤ n
  | [], last, _ => .inl rfl
  | b :: bs, last, h => by
    rw [blkOk, Bool.and_eq_true] at h
    obtain ⟨h1, h2⟩ := h
    simp only [stepOk, Bool.and_eq_true, decide_eq_true_eq] at h1
    refine .inr ?_
    simp only [List.length_cons]
    rcases blkOk_len h2 with rfl | h3
    · simp; omega
    · omega

theorem blocksOk_any {v : Value} {B : Nat} {bs : List Block} {w : World} (n : Int) (h0 : 0 ≤ n) (h1 : n ≤ 4096) (hB : B ≤ w.heap.size) (h : Rep w B (blocks bs) v) (hw : ∀ b ∈ bs, b.wf) :
    Calls Try.prog 38 #[v, .int .i64 n] w fun e w' => e = .returned (.bool (blkOk n 7 bs)) ∧ Below w.heap.size w w' := by
  obtain ⟨A, m, c, rfl, hnl, hm, hat⟩ := rep_row Block.pd_length (by decide) h
  unfold maxLen at hm
  have HN := Lib.hid hnl
  have HW := Lib.hid hw
  clear h hnl hw
  go_enter Try.func38, Try.ntmps38
  go_wp2_with fail
  go_loopw [5, 10] (fun l i wr => ∃ (k : Nat) (last : Int), k ≤ m ∧ i = .int .i64 k ∧ l = .int .i64 last ∧ 7 ≤ last ∧ (last ≤ 7 ∨ last ≤ n) ∧ blkOk n 7 bs = blkOk n last (bs.drop k) ∧ Below w.heap.size w wr) (fun _ i _ => m - (intOf i).toNat)
  case atStart => exact ⟨0, 7, Nat.zero_le _, rfl, rfl, by omega, by omega, rfl, Below.refl _ _⟩
  case round =>
    obtain ⟨k, last, hk, rfl, rfl, hl1, hl2, he, hbr⟩ := hrel
    have HE := Lib.hid he
    clear he
    have hsz := hbr.size
    by_cases hlt : k < m
    · obtain ⟨g, off, rfl, hg, hcell⟩ := hat (by omega)
      obtain ⟨b, hx, hmem⟩ := at_lt HN.out hlt
      have c0 : wr.cell? ⟨g, off + k * 2, none⟩ = some (.int .i64 b.at_) := by
        obtain ⟨u, hu, hr⟩ := hcell k 0 b _ hx rfl
        rw [hr.of_lit] at hu
        exact (hbr.cell (by show g < _; omega)).trans hu
      have c1 : wr.cell? ⟨g, off + k * 2 + 1, none⟩ = some (.int .i64 b.size) := by
        obtain ⟨u, hu, hr⟩ := hcell k 1 b _ hx rfl
        rw [hr.of_lit] at hu
        exact (hbr.cell (by show g < _; omega)).trans hu
      have w0 := wf64 (HW.out b hmem).1
      have w1 := wf64 (HW.out b hmem).2
      obtain ⟨x, hxx⟩ : ∃ x, x = b.at_ := ⟨_, rfl⟩
      obtain ⟨y, hyy⟩ : ∃ y, y = b.size := ⟨_, rfl⟩
      have HS := Lib.hid (step_cases last n b)
      have HB := Lib.hid ((HE.out).trans (blkOk_at (n := n) (last := last) hx))
      rw [← hxx] at c0 w0
      rw [← hyy] at c1 w1
      obtain ⟨w00, w01⟩ := w0
      obtain ⟨w10, w11⟩ := w1
      have HXX := Lib.hid hxx
      have HYY := Lib.hid hyy
      clear hx hcell hxx hyy
      rcases HS.out with ⟨hok, h2, h3, h4, h5⟩ | ⟨hno, hcs⟩
      · rw [← HXX.out] at h3 h4 h5
        rw [← HYY.out] at h2 h5
        have HO := Lib.hid hok
        clear hok HS
        have hbn := (hbr.alloc hsz (.cells #[.int .i64 x, .int .i64 y] 49))
        clear hbr
        go_wp2_with fail
        go_roundw
        case rel => exact ⟨k + 1, x + y, by omega, by go_num, rfl, by omega, by omega, by rw [HB.out, HO.out, Bool.true_and, HXX.out, HYY.out], hbn⟩
        case measure => simp [intOf]; omega
      · have HF : Hid (blkOk n 7 bs = false) := by show _ = _; rw [HB.out, hno, Bool.false_and]
        rw [← HXX.out, ← HYY.out] at hcs
        clear hno HS
        have hbn := (hbr.alloc hsz (.cells #[.int .i64 x, .int .i64 y] 49))
        clear hbr
        rcases hcs with hc | ⟨hc, hc2⟩ | ⟨hc, hc2, hc3⟩ | ⟨hc, hc2, hc3, hc4⟩
        all_goals
          go_wp2_with fail
          go_ret
          exact ⟨ret_bool HF.out.symm, hbn⟩
    · have hkn : k = m := by omega
      have HF : Hid (blkOk n 7 bs = true) := by
        show _ = _
        rw [HE.out, List.drop_of_length_le (by have := HN.out; omega)]
        rfl
      subst hkn
      go_wp2_with fail
      go_ret
      exact ⟨ret_bool HF.out.symm, hbr⟩

theorem length_any (s : ByteArray) (hs : s.size ≤ maxLen) (w : World) : Calls Try.prog 39 #[.string s] w fun e w' => e = .returned (.int .i64 s.size) ∧ w = w' := by
  unfold maxLen at hs
  go_enter Try.func39, Try.ntmps39
  go_wp2
  go_ret
  exact ⟨rfl, rfl⟩

theorem implMemoryOk_any {s : ByteArray} {v : Value} {B : Nat} {bs : List Block} {w : World} (hs : s.size ≤ maxLen) (hB : B ≤ w.heap.size) (h : Rep w B (blocks bs) v) (hw : ∀ b ∈ bs, b.wf) :
    Calls Try.prog 18 #[.agg #[.string s, v]] w fun e w' => e = .returned (.bool (memOk s bs)) ∧ Below w.heap.size w w' := by
  have H := Lib.hid h
  have HW := Lib.hid hw
  have HL := Lib.hid (fun W => length_any s hs W)
  have hs' := hs
  unfold maxLen at hs'
  clear h hw hs
  by_cases hl : s.size ≤ 4096
  · have HF : Hid (memOk s bs = blkOk s.size 7 bs) := by show _ = _; simp [memOk, hl]
    have hd : decide ((s.size : Int) ≤ 4096) = true := by simp; omega
    go_enter Try.func18, Try.ntmps18
    go_wp2_with fail
    have hb0 : Below w.heap.size w (w.alloc (.cells #[.string s, v] 29)) := (Below.refl _ _).alloc (Nat.le_refl _) _
    have c0 : (w.alloc (.cells #[.string s, v] 29)).cell? ⟨w.heap.size, 0, none⟩ = some (.string s) := cell_of_row _ _ 0 _ _ _ (heap_alloc_new w _)
    have c1 : (w.alloc (.cells #[.string s, v] 29)).cell? ⟨w.heap.size, 1, none⟩ = some v := cell_of_row _ _ 1 _ _ _ (heap_alloc_new w _)
    go_region_held3 (fun w' => w'.cell? ⟨w.heap.size, 0, none⟩ = some (.string s) ∧ w'.cell? ⟨w.heap.size, 1, none⟩ = some v)
      (first | go_keep | exact ⟨(hbq.cell (p := ⟨w.heap.size, 0, none⟩) (by simp)).trans c0, (hbq.cell (p := ⟨w.heap.size, 1, none⟩) (by simp)).trans c1⟩)
      (first | (go_at_call 39; refine (HL.out _).mono ?_; rintro e wq ⟨rfl, rfl⟩) | (go_at_call 38; refine (blocksOk_any (B := B) (s.size : Int) (by omega) (by omega) (by simp; omega) (by exact H.out.below ((hb0.mono hB).drew)) HW.out).mono ?_; rintro e wq ⟨rfl, hbq⟩))
    go_wp2_with fail
    go_ret
    exact ⟨ret_bool HF.out.symm, hb0.drew.trans (hbq.mono (B' := w.heap.size) (by simp))⟩
  · have HF : Hid (memOk s bs = false) := by show _ = _; simp [memOk, hl]
    have hd : decide ((s.size : Int) ≤ 4096) = false := by simp; omega
    go_enter Try.func18, Try.ntmps18
    go_wp2_with fail
    go_quiet (fail)
    go_wp2_with fail
    go_ret
    exact ⟨ret_bool HF.out.symm, below_drewN ((Below.refl _ _).alloc (Nat.le_refl _) _) _⟩

set_option maxHeartbeats 1600000 in
theorem specMemoryOk_any {s : ByteArray} {v : Value} {B : Nat} {bs : List Block} {w : World} (hs : s.size ≤ maxLen) (hB : B ≤ w.heap.size) (h : Rep w B (blocks bs) v) (hw : ∀ b ∈ bs, b.wf) :
    Calls Try.prog 17 #[.agg #[.string s, v]] w fun e w' => e = .returned (.bool (memOk s bs)) ∧ Below w.heap.size w w' := by
  obtain ⟨A, m, c, rfl, hnl, hm, hat⟩ := rep_row Block.pd_length (by decide) h
  unfold maxLen at hm hs
  have HN := Lib.hid hnl
  have HW := Lib.hid hw
  clear h hw
  by_cases hl : s.size ≤ 4096
  · by_cases hmm : m ≤ 4096
    · have HF : Hid (memOk s bs = blkOk s.size 7 bs) := by show _ = _; simp [memOk, hl]
      obtain ⟨n, hn⟩ : ∃ n : Int, n = s.size := ⟨_, rfl⟩
      have h0 : 0 ≤ n := by omega
      have h1 : n ≤ 4096 := by omega
      have HNN := Lib.hid hn
      have hd1 : decide ((4096 : Int) < (s.size : Int)) = false := by simp; omega
      have hd2 : decide ((4096 : Int) < (m : Int)) = false := by simp; omega
      clear hnl hn
      go_enter Try.func17, Try.ntmps17
      go_wp2_with fail
      rw [← HNN.out]
      obtain ⟨W1, hW1⟩ : ∃ W1, W1 = w.alloc (.cells #[.string s, .slice A m c] 29) := ⟨_, rfl⟩
      rw [← hW1]
      have bA : Blk W1 w.heap.size 29 #[.string s, .slice A m c] := by rw [hW1]; exact Blk.new w _ _
      have hb0 : Below w.heap.size w W1 := by rw [hW1]; exact (Below.refl _ _).alloc (Nat.le_refl _) _
      clear hW1
      go_loopw [4, 5] (fun l i wr => ∃ (k : Nat) (last : Int), k ≤ m ∧ i = .int .i64 k ∧ l = .int .i64 last ∧ 7 ≤ last ∧ (last ≤ 7 ∨ last ≤ n) ∧ blkOk n 7 bs = blkOk n last (bs.drop k) ∧ Below w.heap.size w wr ∧ Blk wr w.heap.size 29 #[.string s, .slice A m c]) (fun _ i _ => m - (intOf i).toNat)
      case atStart => exact ⟨0, 7, Nat.zero_le _, rfl, rfl, by omega, by omega, rfl, hb0, bA⟩
      case round =>
        obtain ⟨k, last, hk, rfl, rfl, hl1, hl2, he, hbr, hbk⟩ := hrel
        clear hb0 bA
        have HE := Lib.hid he
        clear he
        have hsz := hbr.size
        have a1 : wr.cell? ⟨w.heap.size, 1, none⟩ = some (.slice A m c) := hbk.cell 1
        by_cases hlt : k < m
        · obtain ⟨g, off, rfl, hg, hcell⟩ := hat (by omega)
          obtain ⟨b, hx, hmem⟩ := at_lt HN.out hlt
          have c0 : wr.cell? ⟨g, off + k * 2, none⟩ = some (.int .i64 b.at_) := by
            obtain ⟨u, hu, hr⟩ := hcell k 0 b _ hx rfl
            rw [hr.of_lit] at hu
            exact (hbr.cell (by show g < _; omega)).trans hu
          have c1 : wr.cell? ⟨g, off + k * 2 + 1, none⟩ = some (.int .i64 b.size) := by
            obtain ⟨u, hu, hr⟩ := hcell k 1 b _ hx rfl
            rw [hr.of_lit] at hu
            exact (hbr.cell (by show g < _; omega)).trans hu
          have w0 := wf64 (HW.out b hmem).1
          have w1 := wf64 (HW.out b hmem).2
          obtain ⟨x, hxx⟩ : ∃ x, x = b.at_ := ⟨_, rfl⟩
          obtain ⟨y, hyy⟩ : ∃ y, y = b.size := ⟨_, rfl⟩
          have HS := Lib.hid (step_cases last n b)
          have HB := Lib.hid ((HE.out).trans (blkOk_at (n := n) (last := last) hx))
          rw [← hxx] at c0 w0
          rw [← hyy] at c1 w1
          obtain ⟨w00, w01⟩ := w0
          obtain ⟨w10, w11⟩ := w1
          have HXX := Lib.hid hxx
          have HYY := Lib.hid hyy
          clear hx hcell hxx hyy
          have hbn := (hbr.alloc hsz (.cells #[.int .i64 x, .int .i64 y] 49))
          have hbk' := hbk.alloc (.cells #[.int .i64 x, .int .i64 y] 49)
          clear hbr hbk
          rcases HS.out with ⟨hok, h2, h3, h4, h5⟩ | ⟨hno, hcs⟩
          · rw [← HXX.out] at h3 h4 h5
            rw [← HYY.out] at h2 h5
            have HO := Lib.hid hok
            clear hok HS
            go_wp2_with fail
            go_roundw
            case rel => exact ⟨k + 1, x + y, by omega, by go_num, rfl, by omega, by omega, by rw [HB.out, HO.out, Bool.true_and, HXX.out, HYY.out], hbn, hbk'⟩
            case measure => simp [intOf]; omega
          · have HG : Hid (blkOk n 7 bs = false) := by show _ = _; rw [HB.out, hno, Bool.false_and]
            rw [← HXX.out, ← HYY.out] at hcs
            clear hno HS
            rcases hcs with hc | ⟨hc, hc2⟩ | ⟨hc, hc2, hc3⟩ | ⟨hc, hc2, hc3, hc4⟩
            all_goals
              go_wp2_with fail
              go_ret
              exact ⟨ret_bool (by rw [HF.out, ← HNN.out, HG.out]), hbn⟩
        · have hkn : k = m := by omega
          have HG : Hid (blkOk n 7 bs = true) := by
            show _ = _
            rw [HE.out, List.drop_of_length_le (by have := HN.out; omega)]
            rfl
          subst hkn
          go_wp2_with fail
          go_ret
          exact ⟨ret_bool (by rw [HF.out, ← HNN.out, HG.out]), hbr⟩
    · have HF : Hid (memOk s bs = false) := by
        show _ = _
        cases hb : memOk s bs
        · rfl
        · simp only [memOk, Bool.and_eq_true, decide_eq_true_eq] at hb
          have h2 := HN.out
          rcases blkOk_len hb.2 with h3 | h3
          · subst h3; simp at h2; omega
          · omega
      clear hnl
      have hd : decide ((4096 : Int) < (s.size : Int)) = false := by simp; omega
      go_enter Try.func17, Try.ntmps17
      go_wp2_with fail
      go_ret
      exact ⟨ret_bool HF.out.symm, (Below.refl _ _).alloc (Nat.le_refl _) _⟩
  · have HF : Hid (memOk s bs = false) := by show _ = _; simp [memOk, hl]
    clear hnl
    go_enter Try.func17, Try.ntmps17
    go_wp2_with fail
    go_ret
    exact ⟨ret_bool HF.out.symm, (Below.refl _ _).alloc (Nat.le_refl _) _⟩
end Go.Proofs.Ytlppngpafjfjeaa
