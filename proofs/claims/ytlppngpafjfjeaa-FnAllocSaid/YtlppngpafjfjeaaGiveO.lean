/-
  spec.l10Give hands on a row of its own (by program: gen_giveo.py).
-/
import Derived.Test.YtlppngpafjfjeaaRelG
namespace Go.Proofs.Ytlppngpafjfjeaa
open Go.RowKit
set_option linter.unusedVariables false
set_option linter.unusedSimpArgs false
set_option linter.unnecessarySimpa false
set_option maxRecDepth 16000

theorem bvals_len (l : List Block) : (bvals l).length = l.length * 2 := by
  induction l with
  | nil => rfl
  | cons b r ih =>
    have e : bvals (b :: r) = bvals [b] ++ bvals r := bvals_append [b] r
    rw [e, List.length_append, ih, List.length_cons]
    simp [bvals, blkC]
    omega
theorem own_done {w : World} {base n : Nat} {e : TypeId} {v : Value} {a b c : List Block} (h : w.ownsRow base e 2 v n (bvals a ++ bvals b ++ bvals c)) : w.ownsRow base e 2 v (a ++ b ++ c).length (bvals (a ++ b ++ c)) := by
  rw [← bvals_append, ← bvals_append] at h
  have hl := h.1
  rw [bvals_len] at hl
  have hn : n = (a ++ b ++ c).length := by omega
  rw [← hn]
  exact h
def GiveOP (w : World) (l : List Block) (b : Block) (e : Ending) (w' : World) : Prop := ∃ u, e = .returned u ∧ w'.ownsRow (w.heap.size + 1) 49 2 u (giveL l b).length (bvals (giveL l b)) ∧ Below w.heap.size w w'
set_option maxHeartbeats 25600000 in
theorem l10Give_own {l : List Block} {ba bz : Int} {g off n c : Nat} {w : World} (hn : n = l.length) (hnc : n ≤ c) (hat : AtB w g off l) (hg : g < w.heap.size) (hfs : Fits l) (hb : 0 ≤ ba ∧ ba ≤ 8192 ∧ 0 ≤ bz ∧ bz ≤ 8192) :
    Calls Try.prog 53 #[.slice (some ⟨g, off, none⟩) n c, .agg #[.int .i64 ba, .int .i64 bz]] w fun e w' => GiveOP w l ⟨ba, bz⟩ e w' := by
  obtain ⟨i0, hi, hy0, hy1, hy2⟩ := info_parts block_info
  have hn4 : n ≤ 4096 := by rw [hn]; exact hfs.1
  have HN := Lib.hid hn
  have HFS := Lib.hid hfs.2
  have HAT := Lib.hid hat
  obtain ⟨w1, hw1⟩ : ∃ W, W = w.alloc (.cells #[.int .i64 ba, .int .i64 bz] 49) := ⟨_, rfl⟩
  have e1 : w1.heap.size = w.heap.size + 1 := by rw [hw1]; simp
  have hB1 : Below w.heap.size w w1 := by rw [hw1]; exact (Below.refl _ _).alloc (Nat.le_refl _) _
  have S0 : GS w (w1.alloc (.cells #[] 49)) g off l [] (.slice (some ⟨w.heap.size + 1, 0, none⟩) 0 0) ba bz :=
    ⟨by rw [← e1]; exact World.ownsRow_made w1 #[] 0 (Nat.le_refl _) (by simp) (by simp [bvals]), by rw [hw1]; exact (Blk.new w _ _).alloc _, hat.below (hB1.alloc hB1.size _) hg, hB1.alloc hB1.size _, by simp; omega⟩
  have HW := Lib.hid hw1
  clear hn hfs hat e1 hw1 hB1
  go_enter Try.func53, Try.ntmps53
  go_wp2_with fail
  rw [← HW.out]
  go_loopw [5, 6] (fun u i wr => ∃ (k : Nat) (acc : List Block) (u' : Value), u' = u ∧ i = .int .i64 k ∧ k ≤ n ∧ Hid (acc = l.take k ∧ acc.length = k) ∧ Hid (∀ (j : Nat) (x : Block), j < k → l[j]? = some x → x.at_ + x.size < ba) ∧ GS w wr g off l acc u' ba bz) (fun _ i _ => n - (intOf i).toNat)
  case atStart => exact ⟨0, [], _, rfl, rfl, Nat.zero_le _, Lib.hid ⟨rfl, rfl⟩, Lib.hid fun j x h => absurd h (by omega), S0⟩
  case round =>
    clear S0
    obtain ⟨k, acc, u', rfl, rfl, hk, HAC, HP, S⟩ := hrel
    obtain ⟨uA, uN, uC, rfl, _⟩ := (Own.of_own S.own).form
    by_cases hlt : k < n
    case neg =>
      have hkn : k = n := by omega
      have HF : Hid (giveL l ⟨ba, bz⟩ = acc ++ [⟨ba, bz⟩] ++ l.drop k) := by
        show _ = _
        have hl := HN.out
        rw [giveL_at k (by omega) HP.out (fun x hx => by have := (List.getElem?_eq_some_iff.1 hx).1; omega), HAC.out.1, hkn, List.drop_of_length_le (by omega)]
        simp [giveM]
      have HACC : Hid (acc.length = n) := by have := HAC.out.2; show _ = _; omega
      subst hkn
      have c0 := S.box.cell 0
      have c1 := S.box.cell 1
      go_wp2_with fail
      go_quiet (fail)
      obtain ⟨wd, hwd⟩ : ∃ V, V = wr.drewN nq := ⟨_, rfl⟩
      rw [← hwd]
      have S2 := S.drewN nq
      rw [← hwd] at S2
      clear hwd c0 c1 
      have c0 := S2.box.cell 0
      have c1 := S2.box.cell 1
      go_wp2_with fail
      go_quiet (fail)
      obtain ⟨we, hwd⟩ : ∃ V, V = wd.drewN nq := ⟨_, rfl⟩
      rw [← hwd]
      have S3 := S2.drewN nq
      rw [← hwd] at S3
      clear hwd c0 c1 
      have c0 := S3.box.cell 0
      have c1 := S3.box.cell 1
      go_wp2_with fail
      go_quiet (fail)
      obtain ⟨wf, hwd⟩ : ∃ V, V = we.drewN nq := ⟨_, rfl⟩
      rw [← hwd]
      have S4 := S3.drewN nq
      rw [← hwd] at S4
      clear hwd c0 c1 
      have c0 := S4.box.cell 0
      have c1 := S4.box.cell 1
      have hs1 := S4.own.alloc (.cells #[Value.int .i64 (ba), Value.int .i64 (bz)] 49)
      have hc1 := news_blk wf ⟨ba, bz⟩
      have hB2 : Below w.heap.size w (wf.alloc (.cells #[Value.int .i64 (ba), Value.int .i64 (bz)] 49)) := S4.below.alloc S4.below.size _
      have hz2 : w.heap.size + 1 ≤ (wf.alloc (.cells #[Value.int .i64 (ba), Value.int .i64 (bz)] 49)).heap.size := by have := S4.size; simp; omega
      go_wp2_with (first | (at_builtin; refine wpList_append_own _ rfl _ _ 27 rfl (w.heap.size + 1) 49 i0 (.agg #[.int .i64 0, .int .i64 0]) 2 16 Try.underlying27 hi hy0 hy1 hy2 rfl (by decide) _ _ _ rfl hs1 ⟨wf.heap.size, 0, none⟩ 1 1 (bvals [⟨ba, bz⟩]) rfl rfl hc1 (one_blk _) (by have := HACC.out; simp only [maxLen]; omega) (by have := HACC.out; omega) hz2 ?_; intro v' w3 hown' hgrow _; have hB3 := hB2.grown hgrow (by omega) (fun g hg => by have := (hs1.lt g hg).1; omega); have hz3 : w.heap.size + 1 ≤ w3.heap.size := Nat.le_trans hz2 hgrow.size; have HAT3 := Lib.hid (HAT.out.below hB3 hg); have hg3 : g < w3.heap.size := (by omega); obtain ⟨gg, cc, rfl, _, _⟩ := hown'.form (by omega)) | (at_builtin; go_loud (refine wpList_append_src rfl _ _ 27 rfl (w.heap.size + 1) 49 i0 (.agg #[.int .i64 0, .int .i64 0]) 2 16 Try.underlying27 hi hy0 hy1 hy2 rfl (by decide) _ _ _ rfl hown' _ _ _ rfl (src_suffix (j := k) HAT3.out hg3 HN.out hn4 (by omega) (by first | rfl | omega) (by intro hj; first | exact absurd hj (by omega) | rfl | rw [if_neg (by omega)])) (one_blk _) (by have := HACC.out; have := HN.out; simp only [maxLen, List.length_drop]; omega) (by have := HACC.out; have := HN.out; simp only [List.length_drop]; omega) hz3 ?_); intro v2 w4 hown2 hgrow2 hat2; have hB4 := hB3.grown hgrow2 (by omega) (fun g hg => by have := (hown'.lt g hg).1; omega); clear hs1 hown'; obtain ⟨g2, c2, rfl, _, _⟩ := hown2.form (by omega)))
      all_goals
        go_wp2_with fail
        go_ret
        rw [List.length_drop] at hown2
        exact ⟨_, rfl, by rw [HF.out]; exact own_done hown2, hB4⟩
    obtain ⟨x, hx, hmem⟩ := at_lt HN.out hlt
    have hxb := HFS.out x hmem
    have HX := Lib.hid hx
    clear hx hmem
    have HACC : Hid (acc.length = k) := HAC.out.2
    obtain ⟨q0, q1⟩ := S.at_ k x HX.out
    obtain ⟨xa, xz⟩ := x
    have c0 := S.box.cell 0
    have c1 := S.box.cell 1
    simp only at q0 q1 hxb
    have hwr : IntKind.i64.wrap (xa + xz) = xa + xz := IntWalk.i64_in _ (by omega)
    by_cases hlx : xa + xz < ba
    case pos =>
      have hd3 : decide (xa + xz < ba) = true := decide_eq_true hlx
      have HQ : Hid (∀ (j : Nat) (x : Block), j < k + 1 → l[j]? = some x → x.at_ + x.size < ba) := fun j y hj hy => by
        rcases Nat.lt_succ_iff_lt_or_eq.1 hj with h | rfl
        · exact HP.out j y h hy
        · rw [HX.out] at hy; cases hy; exact hlx
      have hac2 : acc ++ [(⟨xa, xz⟩ : Block)] = l.take (k + 1) ∧ (acc ++ [(⟨xa, xz⟩ : Block)]).length = k + 1 := ⟨by rw [List.take_add_one, HX.out, HAC.out.1]; rfl, by have := HACC.out; simp; omega⟩
      have HAC2 := Lib.hid hac2
      clear hac2
      clear hlx
      go_wp2_with fail
      go_quiet (fail)
      obtain ⟨wd, hwd⟩ : ∃ V, V = wr.drewN nq := ⟨_, rfl⟩
      rw [← hwd]
      have S2 := S.drewN nq
      rw [← hwd] at S2
      clear hwd c0 c1 q0 q1
      have c0 := S2.box.cell 0
      have c1 := S2.box.cell 1
      obtain ⟨q0, q1⟩ := S2.at_ k _ HX.out
      simp only at q0 q1
      have hs1 := S2.own.alloc (.cells #[Value.int .i64 (xa), Value.int .i64 (xz)] 49)
      have hc1 := news_blk wd ⟨xa, xz⟩
      have hB2 : Below w.heap.size w (wd.alloc (.cells #[Value.int .i64 (xa), Value.int .i64 (xz)] 49)) := S2.below.alloc S2.below.size _
      have hz2 : w.heap.size + 1 ≤ (wd.alloc (.cells #[Value.int .i64 (xa), Value.int .i64 (xz)] 49)).heap.size := by have := S2.size; simp; omega
      go_wp2_with (at_builtin; refine wpList_append_own _ rfl _ _ 27 rfl (w.heap.size + 1) 49 i0 (.agg #[.int .i64 0, .int .i64 0]) 2 16 Try.underlying27 hi hy0 hy1 hy2 rfl (by decide) _ _ _ rfl hs1 ⟨wd.heap.size, 0, none⟩ 1 1 (bvals [⟨xa, xz⟩]) rfl rfl hc1 (one_blk _) (by have := HACC.out; simp only [maxLen]; omega) (by have := HACC.out; omega) hz2 ?_; intro v' w3 hown' hgrow _)
      have hB3 := hB2.grown hgrow (by omega) (fun g hg => by have := (hs1.lt g hg).1; omega)
      have hz3 : w.heap.size + 1 ≤ w3.heap.size := Nat.le_trans hz2 hgrow.size
      have bx3 : Blk w3 w.heap.size 49 #[.int .i64 ba, .int .i64 bz] := by
        have := S2.box.alloc (.cells #[Value.int .i64 xa, Value.int .i64 xz] 49)
        exact (hgrow.block _ this.lt (fun e => by have := (hs1.lt _ e.symm).1; omega)).trans this
      go_roundw
      case rel => exact ⟨k + 1, acc ++ [⟨xa, xz⟩], _, rfl, by go_num, by omega, HAC2, HQ, ⟨by rw [bvals_append, List.length_append]; exact hown', bx3, HAT.out.below hB3 hg, hB3, hz3⟩⟩
      case measure => simp [intOf]; omega
    have hd3 : decide (xa + xz < ba) = false := decide_eq_false hlx
    have HE : Hid (giveL l ⟨ba, bz⟩ = acc ++ giveM (⟨xa, xz⟩ :: l.drop (k + 1)) ⟨ba, bz⟩) := by
      show _ = _
      have hl := HN.out
      rw [giveL_at k (by omega) HP.out (fun x hx => by rw [HX.out] at hx; cases hx; exact hlx), HAC.out.1, drop_cons HX.out]
    by_cases heq : xa + xz = ba
    case pos =>
      have hd6 : (xa + xz == ba) = true := by simpa using heq
      have hws : IntKind.i64.wrap (xz + bz) = xz + bz := IntWalk.i64_in _ (by omega)
      have hws2 : IntKind.i64.wrap (xa + (xz + bz)) = xa + (xz + bz) := IntWalk.i64_in _ (by omega)
      have HE2 : Hid (giveL l ⟨ba, bz⟩ = acc ++ giveN (l.drop (k + 1)) ⟨xa, xz + bz⟩) := by
        show _ = _
        rw [HE.out, giveM, if_pos (by exact heq)]
      by_cases hk1 : k + 1 < n
      case neg =>
        have hkn : k + 1 = n := by omega
        have HF : Hid (giveL l ⟨ba, bz⟩ = acc ++ [⟨xa, xz + bz⟩] ++ l.drop (k + 1)) := by
          show _ = _
          have hl := HN.out
          rw [HE2.out, List.drop_of_length_le (i := k + 1) (by omega)]
          simp [giveN]
        clear hlx heq hk1
        go_wp2_with fail
        go_quiet (fail)
        obtain ⟨wd, hwd⟩ : ∃ V, V = wr.drewN nq := ⟨_, rfl⟩
        rw [← hwd]
        have S2 := S.drewN nq
        rw [← hwd] at S2
        clear hwd c0 c1 q0 q1
        have c0 := S2.box.cell 0
        have c1 := S2.box.cell 1
        obtain ⟨q0, q1⟩ := S2.at_ k _ HX.out
        simp only at q0 q1
        go_wp2_with fail
        go_quiet (fail)
        obtain ⟨we, hwd⟩ : ∃ V, V = wd.drewN nq := ⟨_, rfl⟩
        rw [← hwd]
        have S3 := S2.drewN nq
        rw [← hwd] at S3
        clear hwd c0 c1 q0 q1
        have c0 := S3.box.cell 0
        have c1 := S3.box.cell 1
        obtain ⟨q0, q1⟩ := S3.at_ k _ HX.out
        simp only at q0 q1
        have f0 := S3.box.frozen 0
        have f1 := S3.box.frozen 1
        go_wp2_with fail
        go_region
        have S4 := (S3.set hg (xa) (xz + bz)).drew
        obtain ⟨wf, hwf⟩ : ∃ V, V = ((we.setCell ⟨w.heap.size, 0, none⟩ (.int .i64 (xa))).setCell ⟨w.heap.size, 1, none⟩ (.int .i64 (xz + bz))).drew := ⟨_, rfl⟩
        rw [← hwf]
        rw [← hwf] at S4
        clear hwf c0 c1 q0 q1 f0 f1
        have c0 := S4.box.cell 0
        have c1 := S4.box.cell 1
        obtain ⟨q0, q1⟩ := S4.at_ k _ HX.out
        simp only at q0 q1
        subst hkn
        go_wp2_with fail
        go_quiet (fail)
        obtain ⟨wg, hwd⟩ : ∃ V, V = wf.drewN nq := ⟨_, rfl⟩
        rw [← hwd]
        have S5 := S4.drewN nq
        rw [← hwd] at S5
        clear hwd c0 c1 q0 q1
        have c0 := S5.box.cell 0
        have c1 := S5.box.cell 1
        obtain ⟨q0, q1⟩ := S5.at_ k _ HX.out
        simp only at q0 q1
        have hs1 := S5.own.alloc (.cells #[Value.int .i64 (xa), Value.int .i64 (xz + bz)] 49)
        have hc1 := news_blk wg ⟨xa, xz + bz⟩
        have hB2 : Below w.heap.size w (wg.alloc (.cells #[Value.int .i64 (xa), Value.int .i64 (xz + bz)] 49)) := S5.below.alloc S5.below.size _
        have hz2 : w.heap.size + 1 ≤ (wg.alloc (.cells #[Value.int .i64 (xa), Value.int .i64 (xz + bz)] 49)).heap.size := by have := S5.size; simp; omega
        go_wp2_with (first | (at_builtin; refine wpList_append_own _ rfl _ _ 27 rfl (w.heap.size + 1) 49 i0 (.agg #[.int .i64 0, .int .i64 0]) 2 16 Try.underlying27 hi hy0 hy1 hy2 rfl (by decide) _ _ _ rfl hs1 ⟨wg.heap.size, 0, none⟩ 1 1 (bvals [⟨xa, xz + bz⟩]) rfl rfl hc1 (one_blk _) (by have := HACC.out; simp only [maxLen]; omega) (by have := HACC.out; omega) hz2 ?_; intro v' w3 hown' hgrow _; have hB3 := hB2.grown hgrow (by omega) (fun g hg => by have := (hs1.lt g hg).1; omega); have hz3 : w.heap.size + 1 ≤ w3.heap.size := Nat.le_trans hz2 hgrow.size; have HAT3 := Lib.hid (HAT.out.below hB3 hg); have hg3 : g < w3.heap.size := (by omega); obtain ⟨gg, cc, rfl, _, _⟩ := hown'.form (by omega)) | (at_builtin; go_loud (refine wpList_append_src rfl _ _ 27 rfl (w.heap.size + 1) 49 i0 (.agg #[.int .i64 0, .int .i64 0]) 2 16 Try.underlying27 hi hy0 hy1 hy2 rfl (by decide) _ _ _ rfl hown' _ _ _ rfl (src_suffix (j := (k + 1)) HAT3.out hg3 HN.out hn4 (by omega) (by first | rfl | omega) (by intro hj; first | exact absurd hj (by omega) | rfl | rw [if_neg (by omega)])) (one_blk _) (by have := HACC.out; have := HN.out; simp only [maxLen, List.length_drop]; omega) (by have := HACC.out; have := HN.out; simp only [List.length_drop]; omega) hz3 ?_); intro v2 w4 hown2 hgrow2 hat2; have hB4 := hB3.grown hgrow2 (by omega) (fun g hg => by have := (hown'.lt g hg).1; omega); clear hs1 hown'; obtain ⟨g2, c2, rfl, _, _⟩ := hown2.form (by omega)))
        all_goals
          go_wp2_with fail
          go_ret
          rw [List.length_drop] at hown2
          exact ⟨_, rfl, by rw [HF.out]; exact own_done hown2, hB4⟩
      obtain ⟨y, hy, hmy⟩ := at_lt HN.out hk1
      have hyb := HFS.out y hmy
      have HY := Lib.hid hy
      clear hy hmy
      obtain ⟨ya, yz⟩ := y
      have hk8 : (k : Int) + 1 < (n : Int) := by omega
      have hd8 : decide ((k : Int) + 1 < (n : Int)) = true := decide_eq_true hk8
      simp only at hyb
      have hwt : IntKind.i64.wrap (xz + bz + yz) = xz + bz + yz := IntWalk.i64_in _ (by omega)
      have HE3 : Hid (giveL l ⟨ba, bz⟩ = acc ++ giveN (⟨ya, yz⟩ :: l.drop (k + 2)) ⟨xa, xz + bz⟩) := by
        show _ = _
        rw [HE2.out, drop_cons HY.out]
      by_cases hy6 : ya = xa + (xz + bz)
      case pos =>
        have hd9 : (ya == xa + (xz + bz)) = true := by simpa using hy6
        have HF : Hid (giveL l ⟨ba, bz⟩ = acc ++ [⟨xa, xz + bz + yz⟩] ++ l.drop (k + 2)) := by
          show _ = _
          rw [HE3.out, giveN, if_pos (by exact hy6)]
          simp
        clear hlx heq hy6
        go_wp2_with fail
        go_quiet (fail)
        obtain ⟨wd, hwd⟩ : ∃ V, V = wr.drewN nq := ⟨_, rfl⟩
        rw [← hwd]
        have S2 := S.drewN nq
        rw [← hwd] at S2
        clear hwd c0 c1 q0 q1
        have c0 := S2.box.cell 0
        have c1 := S2.box.cell 1
        obtain ⟨q0, q1⟩ := S2.at_ k _ HX.out
        simp only at q0 q1
        go_wp2_with fail
        go_quiet (fail)
        obtain ⟨we, hwd⟩ : ∃ V, V = wd.drewN nq := ⟨_, rfl⟩
        rw [← hwd]
        have S3 := S2.drewN nq
        rw [← hwd] at S3
        clear hwd c0 c1 q0 q1
        have c0 := S3.box.cell 0
        have c1 := S3.box.cell 1
        obtain ⟨q0, q1⟩ := S3.at_ k _ HX.out
        simp only at q0 q1
        have f0 := S3.box.frozen 0
        have f1 := S3.box.frozen 1
        go_wp2_with fail
        go_region
        have S4 := (S3.set hg (xa) (xz + bz)).drew
        obtain ⟨wf, hwf⟩ : ∃ V, V = ((we.setCell ⟨w.heap.size, 0, none⟩ (.int .i64 (xa))).setCell ⟨w.heap.size, 1, none⟩ (.int .i64 (xz + bz))).drew := ⟨_, rfl⟩
        rw [← hwf]
        rw [← hwf] at S4
        clear hwf c0 c1 q0 q1 f0 f1
        have c0 := S4.box.cell 0
        have c1 := S4.box.cell 1
        obtain ⟨q0, q1⟩ := S4.at_ (k + 1) _ HY.out
        simp only at q0 q1
        go_wp2_with fail
        go_quiet (fail)
        obtain ⟨wg, hwd⟩ : ∃ V, V = wf.drewN nq := ⟨_, rfl⟩
        rw [← hwd]
        have S5 := S4.drewN nq
        rw [← hwd] at S5
        clear hwd c0 c1 q0 q1
        have c0 := S5.box.cell 0
        have c1 := S5.box.cell 1
        obtain ⟨q0, q1⟩ := S5.at_ (k + 1) _ HY.out
        simp only at q0 q1
        have f0 := S5.box.frozen 0
        have f1 := S5.box.frozen 1
        go_wp2_with fail
        go_region
        have S6 := (S5.set1 hg (xz + bz + yz)).drew
        obtain ⟨wh, hwf⟩ : ∃ V, V = (wg.setCell ⟨w.heap.size, 1, none⟩ (.int .i64 (xz + bz + yz))).drew := ⟨_, rfl⟩
        rw [← hwf]
        rw [← hwf] at S6
        clear hwf c0 c1 q0 q1 f0 f1
        have c0 := S6.box.cell 0
        have c1 := S6.box.cell 1
        have hs1 := S6.own.alloc (.cells #[Value.int .i64 (xa), Value.int .i64 (xz + bz + yz)] 49)
        have hc1 := news_blk wh ⟨xa, xz + bz + yz⟩
        have hB2 : Below w.heap.size w (wh.alloc (.cells #[Value.int .i64 (xa), Value.int .i64 (xz + bz + yz)] 49)) := S6.below.alloc S6.below.size _
        have hz2 : w.heap.size + 1 ≤ (wh.alloc (.cells #[Value.int .i64 (xa), Value.int .i64 (xz + bz + yz)] 49)).heap.size := by have := S6.size; simp; omega
        go_wp2_with (first | (at_builtin; refine wpList_append_own _ rfl _ _ 27 rfl (w.heap.size + 1) 49 i0 (.agg #[.int .i64 0, .int .i64 0]) 2 16 Try.underlying27 hi hy0 hy1 hy2 rfl (by decide) _ _ _ rfl hs1 ⟨wh.heap.size, 0, none⟩ 1 1 (bvals [⟨xa, xz + bz + yz⟩]) rfl rfl hc1 (one_blk _) (by have := HACC.out; simp only [maxLen]; omega) (by have := HACC.out; omega) hz2 ?_; intro v' w3 hown' hgrow _; have hB3 := hB2.grown hgrow (by omega) (fun g hg => by have := (hs1.lt g hg).1; omega); have hz3 : w.heap.size + 1 ≤ w3.heap.size := Nat.le_trans hz2 hgrow.size; have HAT3 := Lib.hid (HAT.out.below hB3 hg); have hg3 : g < w3.heap.size := (by omega); obtain ⟨gg, cc, rfl, _, _⟩ := hown'.form (by omega)) | (at_builtin; go_loud (refine wpList_append_src rfl _ _ 27 rfl (w.heap.size + 1) 49 i0 (.agg #[.int .i64 0, .int .i64 0]) 2 16 Try.underlying27 hi hy0 hy1 hy2 rfl (by decide) _ _ _ rfl hown' _ _ _ rfl (src_suffix (j := (k + 2)) HAT3.out hg3 HN.out hn4 (by omega) (by first | rfl | omega) (by intro hj; first | exact absurd hj (by omega) | rfl | rw [if_neg (by omega)])) (one_blk _) (by have := HACC.out; have := HN.out; simp only [maxLen, List.length_drop]; omega) (by have := HACC.out; have := HN.out; simp only [List.length_drop]; omega) hz3 ?_); intro v2 w4 hown2 hgrow2 hat2; have hB4 := hB3.grown hgrow2 (by omega) (fun g hg => by have := (hown'.lt g hg).1; omega); clear hs1 hown'; obtain ⟨g2, c2, rfl, _, _⟩ := hown2.form (by omega)))
        all_goals
          go_wp2_with fail
          go_ret
          rw [List.length_drop] at hown2
          exact ⟨_, rfl, by rw [HF.out]; exact own_done hown2, hB4⟩
      case neg =>
        have hd9 : (ya == xa + (xz + bz)) = false := by simpa using hy6
        have HF : Hid (giveL l ⟨ba, bz⟩ = acc ++ [⟨xa, xz + bz⟩] ++ l.drop (k + 1)) := by
          show _ = _
          rw [HE3.out, giveN, if_neg (by exact hy6), drop_cons HY.out]
          simp
        clear hlx heq hy6
        go_wp2_with fail
        go_quiet (fail)
        obtain ⟨wd, hwd⟩ : ∃ V, V = wr.drewN nq := ⟨_, rfl⟩
        rw [← hwd]
        have S2 := S.drewN nq
        rw [← hwd] at S2
        clear hwd c0 c1 q0 q1
        have c0 := S2.box.cell 0
        have c1 := S2.box.cell 1
        obtain ⟨q0, q1⟩ := S2.at_ k _ HX.out
        simp only at q0 q1
        go_wp2_with fail
        go_quiet (fail)
        obtain ⟨we, hwd⟩ : ∃ V, V = wd.drewN nq := ⟨_, rfl⟩
        rw [← hwd]
        have S3 := S2.drewN nq
        rw [← hwd] at S3
        clear hwd c0 c1 q0 q1
        have c0 := S3.box.cell 0
        have c1 := S3.box.cell 1
        obtain ⟨q0, q1⟩ := S3.at_ k _ HX.out
        simp only at q0 q1
        have f0 := S3.box.frozen 0
        have f1 := S3.box.frozen 1
        go_wp2_with fail
        go_region
        have S4 := (S3.set hg (xa) (xz + bz)).drew
        obtain ⟨wf, hwf⟩ : ∃ V, V = ((we.setCell ⟨w.heap.size, 0, none⟩ (.int .i64 (xa))).setCell ⟨w.heap.size, 1, none⟩ (.int .i64 (xz + bz))).drew := ⟨_, rfl⟩
        rw [← hwf]
        rw [← hwf] at S4
        clear hwf c0 c1 q0 q1 f0 f1
        have c0 := S4.box.cell 0
        have c1 := S4.box.cell 1
        obtain ⟨q0, q1⟩ := S4.at_ (k + 1) _ HY.out
        simp only at q0 q1
        go_wp2_with fail
        go_quiet (fail)
        obtain ⟨wg, hwd⟩ : ∃ V, V = wf.drewN nq := ⟨_, rfl⟩
        rw [← hwd]
        have S5 := S4.drewN nq
        rw [← hwd] at S5
        clear hwd c0 c1 q0 q1
        have c0 := S5.box.cell 0
        have c1 := S5.box.cell 1
        obtain ⟨q0, q1⟩ := S5.at_ (k + 1) _ HY.out
        simp only at q0 q1
        have hs1 := S5.own.alloc (.cells #[Value.int .i64 (xa), Value.int .i64 (xz + bz)] 49)
        have hc1 := news_blk wg ⟨xa, xz + bz⟩
        have hB2 : Below w.heap.size w (wg.alloc (.cells #[Value.int .i64 (xa), Value.int .i64 (xz + bz)] 49)) := S5.below.alloc S5.below.size _
        have hz2 : w.heap.size + 1 ≤ (wg.alloc (.cells #[Value.int .i64 (xa), Value.int .i64 (xz + bz)] 49)).heap.size := by have := S5.size; simp; omega
        go_wp2_with (first | (at_builtin; refine wpList_append_own _ rfl _ _ 27 rfl (w.heap.size + 1) 49 i0 (.agg #[.int .i64 0, .int .i64 0]) 2 16 Try.underlying27 hi hy0 hy1 hy2 rfl (by decide) _ _ _ rfl hs1 ⟨wg.heap.size, 0, none⟩ 1 1 (bvals [⟨xa, xz + bz⟩]) rfl rfl hc1 (one_blk _) (by have := HACC.out; simp only [maxLen]; omega) (by have := HACC.out; omega) hz2 ?_; intro v' w3 hown' hgrow _; have hB3 := hB2.grown hgrow (by omega) (fun g hg => by have := (hs1.lt g hg).1; omega); have hz3 : w.heap.size + 1 ≤ w3.heap.size := Nat.le_trans hz2 hgrow.size; have HAT3 := Lib.hid (HAT.out.below hB3 hg); have hg3 : g < w3.heap.size := (by omega); obtain ⟨gg, cc, rfl, _, _⟩ := hown'.form (by omega)) | (at_builtin; go_loud (refine wpList_append_src rfl _ _ 27 rfl (w.heap.size + 1) 49 i0 (.agg #[.int .i64 0, .int .i64 0]) 2 16 Try.underlying27 hi hy0 hy1 hy2 rfl (by decide) _ _ _ rfl hown' _ _ _ rfl (src_suffix (j := (k + 1)) HAT3.out hg3 HN.out hn4 (by omega) (by first | rfl | omega) (by intro hj; first | exact absurd hj (by omega) | rfl | rw [if_neg (by omega)])) (one_blk _) (by have := HACC.out; have := HN.out; simp only [maxLen, List.length_drop]; omega) (by have := HACC.out; have := HN.out; simp only [List.length_drop]; omega) hz3 ?_); intro v2 w4 hown2 hgrow2 hat2; have hB4 := hB3.grown hgrow2 (by omega) (fun g hg => by have := (hown'.lt g hg).1; omega); clear hs1 hown'; obtain ⟨g2, c2, rfl, _, _⟩ := hown2.form (by omega)))
        all_goals
          go_wp2_with fail
          go_ret
          rw [List.length_drop] at hown2
          exact ⟨_, rfl, by rw [HF.out]; exact own_done hown2, hB4⟩
    have hd6 : (xa + xz == ba) = false := by simpa using heq
    have hws : IntKind.i64.wrap (ba + bz) = ba + bz := IntWalk.i64_in _ (by omega)
    have hws2 : IntKind.i64.wrap (bz + xz) = bz + xz := IntWalk.i64_in _ (by omega)
    have HE2 : Hid (giveL l ⟨ba, bz⟩ = acc ++ giveN (⟨xa, xz⟩ :: l.drop (k + 1)) ⟨ba, bz⟩) := by
      show _ = _
      rw [HE.out, giveM, if_neg (by exact heq)]
    by_cases hx6 : xa = ba + bz
    · have hd9 : (xa == ba + bz) = true := by simpa using hx6
      have HF : Hid (giveL l ⟨ba, bz⟩ = acc ++ [⟨ba, bz + xz⟩] ++ l.drop (k + 1)) := by
        show _ = _
        rw [HE2.out, giveN, if_pos (by exact hx6)]
        simp
      clear hlx heq hx6
      go_wp2_with fail
      go_quiet (fail)
      obtain ⟨wd, hwd⟩ : ∃ V, V = wr.drewN nq := ⟨_, rfl⟩
      rw [← hwd]
      have S2 := S.drewN nq
      rw [← hwd] at S2
      clear hwd c0 c1 q0 q1
      have c0 := S2.box.cell 0
      have c1 := S2.box.cell 1
      obtain ⟨q0, q1⟩ := S2.at_ k _ HX.out
      simp only at q0 q1
      go_wp2_with fail
      go_quiet (fail)
      obtain ⟨we, hwd⟩ : ∃ V, V = wd.drewN nq := ⟨_, rfl⟩
      rw [← hwd]
      have S3 := S2.drewN nq
      rw [← hwd] at S3
      clear hwd c0 c1 q0 q1
      have c0 := S3.box.cell 0
      have c1 := S3.box.cell 1
      obtain ⟨q0, q1⟩ := S3.at_ k _ HX.out
      simp only at q0 q1
      go_wp2_with fail
      go_quiet (fail)
      obtain ⟨wf, hwd⟩ : ∃ V, V = we.drewN nq := ⟨_, rfl⟩
      rw [← hwd]
      have S4 := S3.drewN nq
      rw [← hwd] at S4
      clear hwd c0 c1 q0 q1
      have c0 := S4.box.cell 0
      have c1 := S4.box.cell 1
      obtain ⟨q0, q1⟩ := S4.at_ k _ HX.out
      simp only at q0 q1
      have f0 := S4.box.frozen 0
      have f1 := S4.box.frozen 1
      go_wp2_with fail
      go_region
      have S5 := (S4.set1 hg (bz + xz)).drew
      obtain ⟨wg, hwf⟩ : ∃ V, V = (wf.setCell ⟨w.heap.size, 1, none⟩ (.int .i64 (bz + xz))).drew := ⟨_, rfl⟩
      rw [← hwf]
      rw [← hwf] at S5
      clear hwf c0 c1 q0 q1 f0 f1
      have c0 := S5.box.cell 0
      have c1 := S5.box.cell 1
      have hs1 := S5.own.alloc (.cells #[Value.int .i64 (ba), Value.int .i64 (bz + xz)] 49)
      have hc1 := news_blk wg ⟨ba, bz + xz⟩
      have hB2 : Below w.heap.size w (wg.alloc (.cells #[Value.int .i64 (ba), Value.int .i64 (bz + xz)] 49)) := S5.below.alloc S5.below.size _
      have hz2 : w.heap.size + 1 ≤ (wg.alloc (.cells #[Value.int .i64 (ba), Value.int .i64 (bz + xz)] 49)).heap.size := by have := S5.size; simp; omega
      go_wp2_with (first | (at_builtin; refine wpList_append_own _ rfl _ _ 27 rfl (w.heap.size + 1) 49 i0 (.agg #[.int .i64 0, .int .i64 0]) 2 16 Try.underlying27 hi hy0 hy1 hy2 rfl (by decide) _ _ _ rfl hs1 ⟨wg.heap.size, 0, none⟩ 1 1 (bvals [⟨ba, bz + xz⟩]) rfl rfl hc1 (one_blk _) (by have := HACC.out; simp only [maxLen]; omega) (by have := HACC.out; omega) hz2 ?_; intro v' w3 hown' hgrow _; have hB3 := hB2.grown hgrow (by omega) (fun g hg => by have := (hs1.lt g hg).1; omega); have hz3 : w.heap.size + 1 ≤ w3.heap.size := Nat.le_trans hz2 hgrow.size; have HAT3 := Lib.hid (HAT.out.below hB3 hg); have hg3 : g < w3.heap.size := (by omega); obtain ⟨gg, cc, rfl, _, _⟩ := hown'.form (by omega)) | (at_builtin; go_loud (refine wpList_append_src rfl _ _ 27 rfl (w.heap.size + 1) 49 i0 (.agg #[.int .i64 0, .int .i64 0]) 2 16 Try.underlying27 hi hy0 hy1 hy2 rfl (by decide) _ _ _ rfl hown' _ _ _ rfl (src_suffix (j := (k + 1)) HAT3.out hg3 HN.out hn4 (by omega) (by first | rfl | omega) (by intro hj; first | exact absurd hj (by omega) | rfl | rw [if_neg (by omega)])) (one_blk _) (by have := HACC.out; have := HN.out; simp only [maxLen, List.length_drop]; omega) (by have := HACC.out; have := HN.out; simp only [List.length_drop]; omega) hz3 ?_); intro v2 w4 hown2 hgrow2 hat2; have hB4 := hB3.grown hgrow2 (by omega) (fun g hg => by have := (hown'.lt g hg).1; omega); clear hs1 hown'; obtain ⟨g2, c2, rfl, _, _⟩ := hown2.form (by omega)))
      all_goals
        go_wp2_with fail
        go_ret
        rw [List.length_drop] at hown2
        exact ⟨_, rfl, by rw [HF.out]; exact own_done hown2, hB4⟩
    · have hd9 : (xa == ba + bz) = false := by simpa using hx6
      have HF : Hid (giveL l ⟨ba, bz⟩ = acc ++ [⟨ba, bz⟩] ++ l.drop k) := by
        show _ = _
        rw [HE2.out, giveN, if_neg (by exact hx6), drop_cons HX.out]
        simp
      clear hlx heq hx6
      go_wp2_with fail
      go_quiet (fail)
      obtain ⟨wd, hwd⟩ : ∃ V, V = wr.drewN nq := ⟨_, rfl⟩
      rw [← hwd]
      have S2 := S.drewN nq
      rw [← hwd] at S2
      clear hwd c0 c1 q0 q1
      have c0 := S2.box.cell 0
      have c1 := S2.box.cell 1
      obtain ⟨q0, q1⟩ := S2.at_ k _ HX.out
      simp only at q0 q1
      go_wp2_with fail
      go_quiet (fail)
      obtain ⟨we, hwd⟩ : ∃ V, V = wd.drewN nq := ⟨_, rfl⟩
      rw [← hwd]
      have S3 := S2.drewN nq
      rw [← hwd] at S3
      clear hwd c0 c1 q0 q1
      have c0 := S3.box.cell 0
      have c1 := S3.box.cell 1
      obtain ⟨q0, q1⟩ := S3.at_ k _ HX.out
      simp only at q0 q1
      go_wp2_with fail
      go_quiet (fail)
      obtain ⟨wf, hwd⟩ : ∃ V, V = we.drewN nq := ⟨_, rfl⟩
      rw [← hwd]
      have S4 := S3.drewN nq
      rw [← hwd] at S4
      clear hwd c0 c1 q0 q1
      have c0 := S4.box.cell 0
      have c1 := S4.box.cell 1
      obtain ⟨q0, q1⟩ := S4.at_ k _ HX.out
      simp only at q0 q1
      have hs1 := S4.own.alloc (.cells #[Value.int .i64 (ba), Value.int .i64 (bz)] 49)
      have hc1 := news_blk wf ⟨ba, bz⟩
      have hB2 : Below w.heap.size w (wf.alloc (.cells #[Value.int .i64 (ba), Value.int .i64 (bz)] 49)) := S4.below.alloc S4.below.size _
      have hz2 : w.heap.size + 1 ≤ (wf.alloc (.cells #[Value.int .i64 (ba), Value.int .i64 (bz)] 49)).heap.size := by have := S4.size; simp; omega
      go_wp2_with (first | (at_builtin; refine wpList_append_own _ rfl _ _ 27 rfl (w.heap.size + 1) 49 i0 (.agg #[.int .i64 0, .int .i64 0]) 2 16 Try.underlying27 hi hy0 hy1 hy2 rfl (by decide) _ _ _ rfl hs1 ⟨wf.heap.size, 0, none⟩ 1 1 (bvals [⟨ba, bz⟩]) rfl rfl hc1 (one_blk _) (by have := HACC.out; simp only [maxLen]; omega) (by have := HACC.out; omega) hz2 ?_; intro v' w3 hown' hgrow _; have hB3 := hB2.grown hgrow (by omega) (fun g hg => by have := (hs1.lt g hg).1; omega); have hz3 : w.heap.size + 1 ≤ w3.heap.size := Nat.le_trans hz2 hgrow.size; have HAT3 := Lib.hid (HAT.out.below hB3 hg); have hg3 : g < w3.heap.size := (by omega); obtain ⟨gg, cc, rfl, _, _⟩ := hown'.form (by omega)) | (at_builtin; go_loud (refine wpList_append_src rfl _ _ 27 rfl (w.heap.size + 1) 49 i0 (.agg #[.int .i64 0, .int .i64 0]) 2 16 Try.underlying27 hi hy0 hy1 hy2 rfl (by decide) _ _ _ rfl hown' _ _ _ rfl (src_suffix (j := k) HAT3.out hg3 HN.out hn4 (by omega) (by first | rfl | omega) (by intro hj; first | exact absurd hj (by omega) | rfl | rw [if_neg (by omega)])) (one_blk _) (by have := HACC.out; have := HN.out; simp only [maxLen, List.length_drop]; omega) (by have := HACC.out; have := HN.out; simp only [List.length_drop]; omega) hz3 ?_); intro v2 w4 hown2 hgrow2 hat2; have hB4 := hB3.grown hgrow2 (by omega) (fun g hg => by have := (hown'.lt g hg).1; omega); clear hs1 hown'; obtain ⟨g2, c2, rfl, _, _⟩ := hown2.form (by omega)))
      all_goals
        go_wp2_with fail
        go_ret
        rw [List.length_drop] at hown2
        exact ⟨_, rfl, by rw [HF.out]; exact own_done hown2, hB4⟩
set_option maxHeartbeats 12800000 in
theorem l10Give_ownNil {ba bz : Int} {A : Option Addr} {c : Nat} {w : World} (hb : 0 ≤ ba ∧ ba ≤ 8192 ∧ 0 ≤ bz ∧ bz ≤ 8192) :
    Calls Try.prog 53 #[.slice A 0 c, .agg #[.int .i64 ba, .int .i64 bz]] w fun e w' => GiveOP w [] ⟨ba, bz⟩ e w' := by
  obtain ⟨i0, hi, hy0, hy1, hy2⟩ := info_parts block_info
  obtain ⟨w1, hw1⟩ : ∃ W, W = w.alloc (.cells #[.int .i64 ba, .int .i64 bz] 49) := ⟨_, rfl⟩
  have e1 : w1.heap.size = w.heap.size + 1 := by rw [hw1]; simp
  have hB1 : Below w.heap.size w w1 := by rw [hw1]; exact (Below.refl _ _).alloc (Nat.le_refl _) _
  have S0 : GS w (w1.alloc (.cells #[] 49)) 0 0 [] [] (.slice (some ⟨w.heap.size + 1, 0, none⟩) 0 0) ba bz :=
    ⟨by rw [← e1]; exact World.ownsRow_made w1 #[] 0 (Nat.le_refl _) (by simp) (by simp [bvals]), by rw [hw1]; exact (Blk.new w _ _).alloc _, fun k x h => by simp at h, hB1.alloc hB1.size _, by simp; omega⟩
  have HW := Lib.hid hw1
  clear e1 hw1 hB1
  cases A
  all_goals
    go_enter Try.func53, Try.ntmps53
    go_wp2_with fail
    rw [← HW.out]
    go_loopw [5, 6] (fun u i wr => ∃ u' : Value, u' = u ∧ i = .int .i64 0 ∧ GS w wr 0 0 [] [] u' ba bz) (fun _ _ _ => 0)
    case atStart => exact ⟨_, rfl, rfl, S0⟩
    case round =>
      clear S0
      obtain ⟨u', rfl, rfl, S⟩ := hrel
      obtain ⟨uA, uN, uC, rfl, _⟩ := (Own.of_own S.own).form
      have c0 := S.box.cell 0
      have c1 := S.box.cell 1
      go_wp2_with fail
      go_quiet (fail)
      obtain ⟨wd, hwd⟩ : ∃ V, V = wr.drewN nq := ⟨_, rfl⟩
      rw [← hwd]
      have S2 := S.drewN nq
      rw [← hwd] at S2
      clear hwd c0 c1 
      have c0 := S2.box.cell 0
      have c1 := S2.box.cell 1
      go_wp2_with fail
      go_quiet (fail)
      obtain ⟨we, hwd⟩ : ∃ V, V = wd.drewN nq := ⟨_, rfl⟩
      rw [← hwd]
      have S3 := S2.drewN nq
      rw [← hwd] at S3
      clear hwd c0 c1 
      have c0 := S3.box.cell 0
      have c1 := S3.box.cell 1
      go_wp2_with fail
      go_quiet (fail)
      obtain ⟨wf, hwd⟩ : ∃ V, V = we.drewN nq := ⟨_, rfl⟩
      rw [← hwd]
      have S4 := S3.drewN nq
      rw [← hwd] at S4
      clear hwd c0 c1 
      have c0 := S4.box.cell 0
      have c1 := S4.box.cell 1
      have hs1 := S4.own.alloc (.cells #[Value.int .i64 (ba), Value.int .i64 (bz)] 49)
      have hc1 := news_blk wf ⟨ba, bz⟩
      have hB2 : Below w.heap.size w (wf.alloc (.cells #[Value.int .i64 (ba), Value.int .i64 (bz)] 49)) := S4.below.alloc S4.below.size _
      have hz2 : w.heap.size + 1 ≤ (wf.alloc (.cells #[Value.int .i64 (ba), Value.int .i64 (bz)] 49)).heap.size := by have := S4.size; simp; omega
      go_wp2_with (first | (at_builtin; refine wpList_append_own _ rfl _ _ 27 rfl (w.heap.size + 1) 49 i0 (.agg #[.int .i64 0, .int .i64 0]) 2 16 Try.underlying27 hi hy0 hy1 hy2 rfl (by decide) _ _ _ rfl hs1 ⟨wf.heap.size, 0, none⟩ 1 1 (bvals [⟨ba, bz⟩]) rfl rfl hc1 (one_blk _) (by simp only [maxLen, List.length_nil]; omega) (by simp only [List.length_nil]; omega) hz2 ?_; intro v' w3 hown' hgrow _; have hB3 := hB2.grown hgrow (by omega) (fun g hg => by have := (hs1.lt g hg).1; omega); have hz3 : w.heap.size + 1 ≤ w3.heap.size := Nat.le_trans hz2 hgrow.size; obtain ⟨gg, cc, rfl, _, _⟩ := hown'.form (by simp)) | (at_builtin; refine wpList_append_src rfl _ _ 27 rfl (w.heap.size + 1) 49 i0 (.agg #[.int .i64 0, .int .i64 0]) 2 16 Try.underlying27 hi hy0 hy1 hy2 rfl (by decide) _ _ _ rfl hown' _ _ _ rfl (src_blk (rep_nil w3 w3.heap.size _ _)) (one_blk _) (by simp only [maxLen, List.length_nil]; omega) (by simp only [List.length_nil]; omega) hz3 ?_; intro v2 w4 hown2 hgrow2 hat2; have hB4 := hB3.grown hgrow2 (by omega) (fun g hg => by have := (hown'.lt g hg).1; omega); clear hs1 hown'; obtain ⟨g2, c2, rfl, _, _⟩ := hown2.form (by omega)))
      all_goals
        go_wp2_with fail
        go_ret
        exact ⟨_, rfl, own_done (a := []) (b := [⟨ba, bz⟩]) (c := []) hown2, hB4⟩
theorem give_own {fs : List Block} {ba bz : Int} {fv : Value} {w : World} (hR : Rep w w.heap.size (blocks fs) fv) (hcap : ∀ A n c, fv = .slice A n c → n ≤ c) (hf : Fits fs) (hb : 0 ≤ ba ∧ ba ≤ 8192 ∧ 0 ≤ bz ∧ bz ≤ 8192) :
    Calls Try.prog 53 #[fv, .agg #[.int .i64 ba, .int .i64 bz]] w fun e w' => GiveOP w fs ⟨ba, bz⟩ e w' := by
  rcases rep_cases hR with ⟨A, c, rfl, rfl⟩ | ⟨g, off, n, c, rfl, hn, hat, hg⟩
  · exact l10Give_ownNil hb
  · exact l10Give_own hn (hcap _ _ _ rfl) hat hg hf hb
end Go.Proofs.Ytlppngpafjfjeaa

