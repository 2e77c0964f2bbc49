/-
  Contracts of the laws' own helpers over int64 slices: toInt64S copies, eqInt64S compares, markInt64S writes, heldInt64S asks.
-/
import Derived.Test.YtoeaihancoglpaaRows
import Derived.Test.YtoeaihancoglpaaBase
namespace Go.Proofs.Ytoeaihancoglpaa
open Go.RowKit
set_option linter.unusedVariables false

theorem i64_info : (Try.prog.info? 2).map (fun i => (i.zero, i.size, i.bytes)) = some (some (.int .i64 0), 1, 8) := by kernel_rfl

theorem made_i64 (n : Nat) : (madeCells #[Value.int .i64 0] n).toList = i64s (List.replicate n 0) := by
  apply List.ext_getElem?
  intro j
  have h1 : j % 1 = 0 := by omega
  by_cases hj : j < n
  · simp [madeCells, i64s, hj, h1]
  · simp [madeCells, i64s, hj]

/-- 'toInt64S': a fresh copy -/
theorem toI_any (A : Option Addr) (n c B : Nat) (xs : List Int) (w : World) (hB : B ≤ w.heap.size) (hn : n ≤ 1048576) (h : RdI w B A n xs) :
    Calls Try.prog 26 #[.slice A n c] w fun e w' => ∃ v, e = .returned v ∧ OwI w' w.heap.size w'.heap.size v xs ∧ Below w.heap.size w w' := by
  obtain ⟨i0, hi, hz0, hz1, hz2⟩ := info_parts i64_info
  have hnl := h.1
  have hat := fun (h0 : 0 < n) => h.at_ h0
  have hwx := h.2.2
  clear h
  have hmk := fun W => run_make_rowN (P := Try.prog) 25 2 i0 (.int .i64 0) Try.underlying25 hi hz0 .i64 .i64 n n (Nat.le_refl _) (by rw [hz2]; omega) (by omega) W
  rw [hz1, Nat.mul_one] at hmk
  have HN := Lib.hid hnl
  clear hnl hz0 hz1 hz2 hi
  go_enter Try.func26, Try.ntmps26
  go_wp2
  clear hmk
  obtain ⟨W1, hW1⟩ : ∃ W1, W1 = w.alloc (.cells (madeCells #[Value.int .i64 0] n) 2) := ⟨_, rfl⟩
  rw [← hW1]
  have hO : OwAt W1 w.heap.size 0 (i64s (List.replicate n 0)) := by
    rw [hW1, ← made_i64]; exact OwAt.new w _ _
  have hb : Below w.heap.size w W1 := by rw [hW1]; exact (Below.refl _ _).alloc (Nat.le_refl _) _
  have hs : w.heap.size + 1 ≤ W1.heap.size := by rw [hW1]; simp
  clear hW1
  go_loopw [4] (fun i wr => ∃ k : Nat, k ≤ n ∧ i = .int .i64 k ∧ OwAt wr w.heap.size 0 (i64s (xs.take k ++ List.replicate (xs.length - k) 0)) ∧ Below w.heap.size w wr ∧ w.heap.size + 1 ≤ wr.heap.size)
    (fun i _ => n - (intOf i).toNat)
  case atStart => exact ⟨0, Nat.zero_le _, rfl, by have := HN.out; subst this; simpa using hO, hb, hs⟩
  case round =>
    obtain ⟨k, hk, rfl, ho, hbr, hsr⟩ := hrel
    clear hO hb hs
    by_cases hlt : k < n
    · obtain ⟨g, off, rfl, hg, hcell⟩ := hat (by omega)
      obtain ⟨x, hx, hxm⟩ := at_lt HN.out hlt
      have hc1 : wr.cell? ⟨g, off + k, none⟩ = some (.int .i64 x) := (hbr.cell (by show g < _; omega)).trans (hcell k x hx)
      have hlen0 : k < xs.length := by have := HN.out; omega
      have hlen : k < (i64s (xs.take k ++ List.replicate (xs.length - k) 0)).length := by simp; omega
      obtain ⟨u, hc2⟩ : ∃ u, wr.cell? ⟨w.heap.size, k, none⟩ = some u := ⟨_, by have := ho.cell (List.getElem?_eq_getElem hlen); rwa [Nat.zero_add] at this⟩
      have hf2 := ho.frozen k
      have hset := ho.set hlen (.int .i64 x)
      rw [Nat.zero_add, i64s_set, take_set_rep hx] at hset
      have hbn : Below w.heap.size w (wr.setCell ⟨w.heap.size, k, none⟩ (.int .i64 x)) := hbr.setCell (Nat.le_refl _) _
      have hsn : w.heap.size + 1 ≤ (wr.setCell ⟨w.heap.size, k, none⟩ (.int .i64 x)).heap.size := by simpa [World.setCell] using hsr
      clear ho hlen hlen0 hbr hcell hx hxm
      go_wp2
      go_roundw
      case rel => exact ⟨k + 1, by omega, by go_num, hset, hbn, hsn⟩
      case measure => simp [intOf]; omega
    · have hkn : k = n := by omega
      subst hkn
      have hx : xs.take k ++ List.replicate (xs.length - k) 0 = xs := by have := HN.out; subst this; simp
      rw [hx] at ho
      have hl1 : (i64s xs).length = k * 1 := by have := HN.out; simp; omega
      have hfin := fun (e : Nat) => Own.mk_at (lo := w.heap.size) (hi := wr.heap.size) (sz := 1) (n := k) (c := k) ho (Nat.le_refl _) (by omega) hl1 (Nat.le_refl _) (by simp only [maxLen]; omega)
      clear hx hl1 ho
      go_wp2
      go_ret
      exact ⟨_, rfl, ⟨hfin 0, hwx⟩, hbr⟩

/-- 'eqInt64S' -/
theorem eqI_any (A B : Option Addr) (n m c d L : Nat) (xs ys : List Int) (w : World) (hn : n ≤ maxLen) (hm : m ≤ maxLen) (h : RdI w L A n xs) (k : RdI w L B m ys) :
    Calls Try.prog 28 #[.slice A n c, .slice B m d] w fun e w' => e = .returned (.bool (decide (xs = ys))) ∧ ∃ q, w' = w.drewN q := by
  unfold maxLen at hn hm
  have hnl := h.1
  have hml := k.1
  have hat := fun (h0 : 0 < n) => h.at_ h0
  have kat := fun (h0 : 0 < m) => k.at_ h0
  clear h k
  have HN := Lib.hid hnl
  have HM := Lib.hid hml
  clear hnl hml
  by_cases hnm : n = m
  · subst hnm
    go_enter Try.func28, Try.ntmps28
    go_wp2
    go_loopw [5] (fun i wr => ∃ k : Nat, k ≤ n ∧ i = .int .i64 k ∧ xs.take k = ys.take k ∧ ∃ q, wr = w.drewN q) (fun i _ => n - (intOf i).toNat)
    case atStart => exact ⟨0, Nat.zero_le _, rfl, rfl, 0, rfl⟩
    case round =>
      obtain ⟨k, hk, rfl, hpre, q, rfl⟩ := hrel
      have HP := Lib.hid hpre
      clear hpre
      by_cases hlt : k < n
      · obtain ⟨g, off, rfl, hg, hc1⟩ := hat (by omega)
        obtain ⟨g', off', rfl, hg', hc2⟩ := kat (by omega)
        obtain ⟨x, hx, _⟩ := at_lt HN.out hlt
        obtain ⟨y, hy, _⟩ := at_lt HM.out hlt
        have hcx := hc1 k x hx
        have hcy := hc2 k y hy
        have hlt' : (k : Int) < (n : Int) := by omega
        have HX := Lib.hid hx
        have HY := Lib.hid hy
        clear hx hy hc1 hc2
        by_cases hxy : x = y
        · have hb : (x == y) = true := by simp [hxy]
          have hb2 : (x != y) = false := by simp [hxy]
          have HXY := Lib.hid hxy
          clear hxy
          go_wp2
          go_quiet (fail)
          go_wp2
          go_roundw
          case rel => exact ⟨k + 1, by omega, by go_num, by rw [List.take_add_one, List.take_add_one, HP.out, HX.out, HY.out, HXY.out], _, rfl⟩
          case measure => simp [intOf]; omega
        · have hb : (x == y) = false := by simp [hxy]
          have hb2 : (x != y) = true := by simp [hxy]
          have HXY := Lib.hid hxy
          clear hxy
          go_wp2
          go_quiet (fail)
          go_wp2
          go_ret
          refine ⟨ret_bool ?_, _, World.drewN_drewN _ _ _⟩
          symm
          rw [decide_eq_false_iff_not]
          intro e
          have := HX.out
          rw [e, HY.out] at this
          exact HXY.out (by injection this with h; exact h.symm)
      · have hkn : k = n := by omega
        subst hkn
        go_wp2
        go_ret
        refine ⟨ret_bool ?_, _, rfl⟩
        symm
        rw [decide_eq_true_iff]
        have := HP.out
        rwa [List.take_of_length_le (by have := HN.out; omega), List.take_of_length_le (by have := HM.out; omega)] at this
  · have hb : ((n : Int) == (m : Int)) = false := by simp; omega
    have hb2 : ((n : Int) != (m : Int)) = true := by simp; omega
    go_enter Try.func28, Try.ntmps28
    go_wp2
    go_ret
    refine ⟨ret_bool ?_, 0, rfl⟩
    symm
    rw [decide_eq_false_iff_not]
    intro e
    subst e
    have h1 := HN.out
    have h2 := HM.out
    omega

/-- the same, the world behind it said by 'Below' -/
theorem eqIB_any (A B : Option Addr) (n m c d L : Nat) (xs ys : List Int) (w : World) (hn : n ≤ maxLen) (hm : m ≤ maxLen) (h : RdI w L A n xs) (k : RdI w L B m ys) :
    Calls Try.prog 28 #[.slice A n c, .slice B m d] w fun e w' => e = .returned (.bool (decide (xs = ys))) ∧ Below w.heap.size w w' :=
  (eqI_any A B n m c d L xs ys w hn hm h k).mono fun e w' ⟨he, q, hw⟩ => ⟨he, by rw [hw]; exact below_drewN (Below.refl _ _) q⟩

theorem toI_V {v : Value} {B : Nat} {xs : List Int} {w : World} (hB : B ≤ w.heap.size) (hn : xs.length ≤ 1048576) (h : IsI w B v xs) :
    Calls Try.prog 26 #[v] w fun e w' => ∃ u, e = .returned u ∧ LvI w' w.heap.size w'.heap.size u xs ∧ Below w.heap.size w w' := by
  obtain ⟨A, n, c, rfl, hm, hr⟩ := h
  exact (toI_any A n c B xs w hB (by have := hr.1; omega) hr).mono fun e w' ⟨u, he, ho, hb⟩ => ⟨u, he, ⟨ho, Nat.le_refl _⟩, hb⟩
theorem eqI_V {v u : Value} {B : Nat} {xs ys : List Int} {w : World} (h : IsI w B v xs) (k : IsI w B u ys) :
    Calls Try.prog 28 #[v, u] w fun e w' => e = .returned (.bool (decide (xs = ys))) ∧ Below w.heap.size w w' := by
  obtain ⟨A, n, c, rfl, hm, hr⟩ := h
  obtain ⟨A', n', c', rfl, hm', hr'⟩ := k
  exact eqIB_any A A' n n' c c' B xs ys w hm hm' hr hr'

theorem marks_set {xs : List Int} {k : Int} {i : Nat} (h : i < xs.length) : (marks k i ++ xs.drop i).set i (k + (i : Int)) = marks k (i + 1) ++ xs.drop (i + 1) := by
  rw [List.set_append_right (h := by simp), List.drop_eq_getElem_cons h, marks_length, Nat.sub_self, List.set_cons_zero]
  simp [marks, List.range_succ]

/-- 'markInt64S' -/
theorem markI_any (v : Value) (lo hi : Nat) (xs : List Int) (k0 : Int) (w : World) (hk0 : 0 ≤ k0) (hk1 : k0 + xs.length ≤ 4611686018427387904) (h : OwI w lo hi v xs) :
    Calls Try.prog 38 #[v, .int .i64 k0] w fun e w' => e = .returned (.int .i64 (k0 + xs.length)) ∧ OwI w' lo hi v (marks k0 xs.length) ∧ Keep lo hi w w' := by
  obtain ⟨⟨A, n, c, rfl, hl, hnc, hcm, hb⟩, hwx⟩ := h
  have hnl : n = xs.length := by simpa using hl.symm
  by_cases h0 : n = 0
  · subst h0
    have hx : xs = [] := List.eq_nil_of_length_eq_zero (by omega)
    subst hx
    have hfin : OwI w lo hi (.slice A 0 c) (marks k0 0) := ⟨⟨A, 0, c, rfl, by simp [marks, i64s], hnc, hcm, fun h => absurd h (by omega)⟩, by simp [marks]⟩
    clear hl hnl hb hwx hnc hcm hk1
    go_enter Try.func38, Try.ntmps38
    go_wp2
    go_loopw [1, 5] (fun kk i wr => i = .int .i64 0 ∧ kk = .int .i64 k0 ∧ wr = w) (fun _ i _ => 0)
    case atStart => exact ⟨rfl, rfl, rfl⟩
    obtain ⟨rfl, rfl, rfl⟩ := hrel
    go_wp2
    go_ret
    exact ⟨ret_int (by simp), hfin, Keep.refl _ _ _⟩
  · obtain ⟨g, off, rfl, h1, h2, ho⟩ := hb (by omega)
    have HN := Lib.hid hnl
    clear hb hnl hl
    unfold maxLen at hcm
    go_enter Try.func38, Try.ntmps38
    go_wp2
    go_loopw [1, 5] (fun kk i wr => ∃ j : Nat, j ≤ n ∧ i = .int .i64 j ∧ kk = .int .i64 (k0 + j) ∧ OwAt wr g off (i64s (marks k0 j ++ xs.drop j)) ∧ Keep lo hi w wr)
      (fun _ i _ => n - (intOf i).toNat)
    case atStart => exact ⟨0, Nat.zero_le _, rfl, by simp, by simpa [marks] using ho, Keep.refl _ _ _⟩
    case round =>
      obtain ⟨j, hj, rfl, rfl, hor, hkr⟩ := hrel
      clear ho
      by_cases hlt : j < n
      · have hjl : j < xs.length := by have := HN.out; omega
        have hlen : j < (i64s (marks k0 j ++ xs.drop j)).length := by simp; omega
        obtain ⟨u, hc2⟩ : ∃ u, wr.cell? ⟨g, off + j, none⟩ = some u := ⟨_, hor.cell (List.getElem?_eq_getElem hlen)⟩
        have hf2 := hor.frozen (off + j)
        have hset := hor.set hlen (.int .i64 (k0 + j))
        rw [i64s_set, marks_set hjl] at hset
        have hkn : Keep lo hi w (wr.setCell ⟨g, off + j, none⟩ (.int .i64 (k0 + j))) := hkr.setCell h1 h2 _
        have hb1 : k0 + (j : Int) ≤ 4611686018427387904 := by have := HN.out; omega
        clear hor hlen hkr hjl
        go_wp2
        go_roundw
        case rel => exact ⟨j + 1, by omega, by go_num, by go_num, hset, hkn⟩
        case measure => simp [intOf]; omega
      · have hjn : j = n := by omega
        subst hjn
        have hx : marks k0 j ++ xs.drop j = marks k0 xs.length := by have := HN.out; subst this; simp
        rw [hx] at hor
        clear hx
        go_wp2
        go_ret
        exact ⟨ret_int (by rw [HN.out]), ⟨Own.mk_at hor h1 h2 (by simp; exact HN.out.symm) hnc (by unfold maxLen; omega), marks_wf hk0 (by omega)⟩, hkr⟩

/-- 'heldInt64S' behind the mark -/
theorem heldI_any (A : Option Addr) (n c B : Nat) (k0 : Int) (w : World) (hk0 : 0 ≤ k0) (hk1 : k0 + n ≤ 4611686018427387904) (h : RdI w B A n (marks k0 n)) :
    Calls Try.prog 39 #[.slice A n c, .int .i64 k0] w fun e w' => e = .returned (.int .i64 (k0 + n)) ∧ ∃ q, w' = w.drewN q := by
  have hat := fun (h0 : 0 < n) => h.at_ h0
  clear h
  go_enter Try.func39, Try.ntmps39
  go_wp2
  go_loopw [1, 5] (fun kk i wr => ∃ j : Nat, j ≤ n ∧ i = .int .i64 j ∧ kk = .int .i64 (k0 + j) ∧ ∃ q, wr = w.drewN q) (fun _ i _ => n - (intOf i).toNat)
  case atStart => exact ⟨0, Nat.zero_le _, rfl, by simp, 0, rfl⟩
  case round =>
    obtain ⟨j, hj, rfl, rfl, q, rfl⟩ := hrel
    by_cases hlt : j < n
    · obtain ⟨g, off, rfl, hg, hc1⟩ := hat (by omega)
      have hc2 := hc1 j (k0 + j) (by simp [marks, hlt])
      have hb1 : ((k0 + (j : Int)) != (k0 + (j : Int))) = false := by simp
      clear hc1
      go_wp2
      go_roundw
      case rel => exact ⟨j + 1, by omega, by go_num, by go_num, _, rfl⟩
      case measure => simp [intOf]; omega
    · have hjn : j = n := by omega
      subst hjn
      go_wp2
      go_ret
      exact ⟨rfl, _, rfl⟩

theorem markI_V {v : Value} {lo hi : Nat} {xs : List Int} {k0 : Int} {w : World} (hk0 : 0 ≤ k0) (hk1 : k0 + xs.length ≤ 4611686018427387904) (h : LvI w lo hi v xs) :
    Calls Try.prog 38 #[v, .int .i64 k0] w fun e w' => e = .returned (.int .i64 (k0 + xs.length)) ∧ LvI w' lo hi v (marks k0 xs.length) ∧ Keep lo hi w w' :=
  (markI_any v lo hi xs k0 w hk0 hk1 h.1).mono fun e w' ⟨he, ho, hk⟩ => ⟨he, ⟨ho, Nat.le_trans h.2 hk.size⟩, hk⟩
theorem heldI_V {v : Value} {B : Nat} {n : Nat} {k0 : Int} {w : World} (hk0 : 0 ≤ k0) (hk1 : k0 + n ≤ 4611686018427387904) (h : IsI w B v (marks k0 n)) :
    Calls Try.prog 39 #[v, .int .i64 k0] w fun e w' => e = .returned (.int .i64 (k0 + n)) ∧ Below w.heap.size w w' := by
  obtain ⟨A, m, c, rfl, hm, hr⟩ := h
  have hmn : m = n := by have := hr.1; simpa using this
  subst hmn
  exact (heldI_any A m c B k0 w hk0 hk1 hr).mono fun e w' ⟨he, q, hw⟩ => ⟨he, by rw [hw]; exact below_drewN (Below.refl _ _) q⟩
end Go.Proofs.Ytoeaihancoglpaa
