/-
  spec.l10Give, l10Own (by program: gen_give.py).
-/
import Derived.Test.YtlppngpafjfjeaaPut
namespace Go.Proofs.Ytlppngpafjfjeaa
open Go.RowKit
set_option linter.unusedVariables false
set_option linter.unusedSimpArgs false
set_option linter.unnecessarySimpa false
set_option maxRecDepth 16000

def giveN (l : List Block) (b : Block) : List Block := match l with
  | [] => [b]
  | x :: r => if x.at_ = b.at_ + b.size then ⟨b.at_, b.size + x.size⟩ :: r else b :: x :: r
def giveM (l : List Block) (b : Block) : List Block := match l with
  | [] => [b]
  | x :: r => if x.at_ + x.size = b.at_ then giveN r ⟨x.at_, x.size + b.size⟩ else giveN (x :: r) b
def giveL : List Block → Block → List Block
  | [], b => [b]
  | x :: r, b => if x.at_ + x.size < b.at_ then x :: giveL r b else giveM (x :: r) b
theorem giveL_at : ∀ {l : List Block} {b : Block} (k : Nat), k ≤ l.length → (∀ (j : Nat) (x : Block), j < k → l[j]? = some x → x.at_ + x.size < b.at_) → (∀ x : Block, l[k]? = some x → ¬ x.at_ + x.size < b.at_) → giveL l b = l.take k ++ giveM (l.drop k) b
  | [], b, k, hk, _, _ => by
    have : k = 0 := by simpa using hk
    subst this
    rfl
  | x :: r, b, 0, _, _, h2 => by
    rw [giveL, if_neg (h2 x rfl)]; rfl
  | x :: r, b, k + 1, hk, h1, h2 => by
    rw [giveL, if_pos (h1 0 x (by omega) rfl), giveL_at k (by simpa using hk) (fun j y hj hy => h1 (j + 1) y (by omega) (by simpa using hy)) (fun y hy => h2 y (by simpa using hy))]
    rfl
theorem drop_cons {l : List Block} {k : Nat} {x : Block} (h : l[k]? = some x) : l.drop k = x :: l.drop (k + 1) := by
  obtain ⟨hk, he⟩ := List.getElem?_eq_some_iff.1 h
  rw [← he]; exact List.drop_eq_getElem_cons hk
theorem news_blk (w : World) (b : Block) : ∀ (j : Nat) (u : Value), (bvals [b])[j]? = some u → (w.alloc (.cells #[Value.int .i64 b.at_, Value.int .i64 b.size] 49)).cell? ((⟨w.heap.size, 0, none⟩ : Addr).add j) = some u := fun j u hu =>
  World.news_of_block (cs := #[Value.int .i64 b.at_, Value.int .i64 b.size]) (t := 49) (fr := (0, 0)) (heap_alloc_new w _) j u (by simpa [bvals, blkC] using hu)
theorem at_rep {w : World} {B g off n c : Nat} {l : List Block} (h : Rep w B (blocks l) (.slice (some ⟨g, off, none⟩) n c)) (hn : 0 < n) : AtB w g off l ∧ g < B := by
  obtain ⟨A, n', c', e, hl, _, hx⟩ := rep_row Block.pd_length (by decide) h
  injection e with e1 e2 e3
  subst e2 e3
  obtain ⟨g', off', e4, hg, hc⟩ := hx hn
  subst e1
  injection e4 with e4
  injection e4 with e5 e6
  subst e5 e6
  refine ⟨fun k x hk => ?_, hg⟩
  obtain ⟨u0, hu0, hr0⟩ := hc k 0 x (.lit (.int .i64 x.at_)) hk (by cases x; rfl)
  obtain ⟨u1, hu1, hr1⟩ := hc k 1 x (.lit (.int .i64 x.size)) hk (by cases x; rfl)
  rw [Rep] at hr0 hr1
  subst hr0 hr1
  exact ⟨by simpa using hu0, by rw [Nat.add_assoc]; exact hu1⟩
theorem bvals_take {l : List Block} {k : Nat} {x : Block} (h : l[k]? = some x) : bvals (l.take k) ++ bvals [x] = bvals (l.take (k + 1)) := by
  rw [← bvals_append, List.take_add_one, h]; rfl

theorem src_suffix {W : World} {g off n j N C : Nat} {A : Option Addr} {l : List Block} (h : AtB W g off l) (hg : g < W.heap.size) (hn : n = l.length) (hm : n ≤ 4096) (hj : j ≤ n) (hN : N = n - j) (ho : j < n → A = some ⟨g, off + j * 2, none⟩) : SrcOk W (.slice A N C) 2 (l.drop j).length (bvals (l.drop j)) := by
  by_cases hlt : j < n
  · have e := ho hlt
    subst e
    exact src_blk (rep_at (n := N) (c := C) (AtB.drop h j) hg (by rw [List.length_drop]; omega) (by unfold maxLen; omega))
  · have hd : l.drop j = [] := List.drop_of_length_le (by omega)
    have h0 : N = 0 := by omega
    subst h0
    rw [hd]
    exact src_blk (rep_nil W W.heap.size C _)
def GiveP (w : World) (l : List Block) (b : Block) (e : Ending) (w' : World) : Prop := ∃ u, e = .returned u ∧ Lv w' w.heap.size w'.heap.size (blocks (giveL l b)) u ∧ Below w.heap.size w w'

theorem lv_done {w : World} {base lo n : Nat} {e : TypeId} {v : Value} {a b c : List Block} (h : w.ownsRow base e 2 v n (bvals a ++ bvals b ++ bvals c)) (hl : lo ≤ base) : Lv w lo w.heap.size (blocks (a ++ b ++ c)) v := by
  rw [← bvals_append, ← bvals_append] at h
  obtain ⟨F, h1, h2, h3⟩ := lv_blk h
  exact ⟨F, h1, h2.more hl (Nat.le_refl _), h3⟩
theorem lv_two {w : World} {base lo n : Nat} {e : TypeId} {v : Value} {a b : List Block} (h : w.ownsRow base e 2 v n (bvals a ++ bvals b)) (hl : lo ≤ base) : Lv w lo w.heap.size (blocks (a ++ b)) v := by
  rw [← bvals_append] at h
  obtain ⟨F, h1, h2, h3⟩ := lv_blk h
  exact ⟨F, h1, h2.more hl (Nat.le_refl _), h3⟩
/-- where the walk of l10Give stands: the row out, the box, the row that is read -/
structure GS (w W : World) (g off : Nat) (l acc : List Block) (u : Value) (xa xz : Int) : Prop where
  own : W.ownsRow (w.heap.size + 1) 49 2 u acc.length (bvals acc)
  box : Blk W w.heap.size 49 #[.int .i64 xa, .int .i64 xz]
  at_ : AtB W g off l
  below : Below w.heap.size w W
  size : w.heap.size + 1 ≤ W.heap.size
theorem GS.drewN {w W : World} {g off : Nat} {l acc : List Block} {u : Value} {xa xz : Int} (h : GS w W g off l acc u xa xz) (n : Nat) : GS w (W.drewN n) g off l acc u xa xz :=
  ⟨owns_step h.own (below_drewN (Below.refl _ _) n), h.box.step (below_drewN (Below.refl _ _) n), h.at_.below (below_drewN (Below.refl (g + 1) _) n) (Nat.lt_succ_self _), below_drewN h.below n, by simpa using h.size⟩
theorem GS.drew {w W : World} {g off : Nat} {l acc : List Block} {u : Value} {xa xz : Int} (h : GS w W g off l acc u xa xz) : GS w W.drew g off l acc u xa xz :=
  ⟨owns_step h.own (Below.refl _ _).drew, h.box.step (Below.refl _ _).drew, h.at_.below (Below.refl (g + 1) _).drew (Nat.lt_succ_self _), h.below.drew, by simpa using h.size⟩
theorem owns_far {w : World} {base sz n : Nat} {e : TypeId} {v : Value} {xs : List Value} (h : w.ownsRow base e sz v n xs) {p : Addr} (hp : p.block < base) (c : Value) : (w.setCell p c).ownsRow base e sz v n xs := by
  obtain ⟨h1, h2⟩ := h
  refine ⟨h1, ?_⟩
  rcases h2 with h2 | ⟨g, cap, cur, hv, hbb, hh, hr⟩
  · exact .inl h2
  · exact .inr ⟨g, cap, cur, hv, hbb, by rw [Below.heap_setCell w p c g (by omega)]; exact hh, hr⟩
theorem GS.set {w W : World} {g off : Nat} {l acc : List Block} {u : Value} {xa xz : Int} (h : GS w W g off l acc u xa xz) (hg : g < w.heap.size) (ya yz : Int) : GS w ((W.setCell ⟨w.heap.size, 0, none⟩ (.int .i64 ya)).setCell ⟨w.heap.size, 1, none⟩ (.int .i64 yz)) g off l acc u ya yz := by
  have hB : Below w.heap.size W ((W.setCell ⟨w.heap.size, 0, none⟩ (.int .i64 ya)).setCell ⟨w.heap.size, 1, none⟩ (.int .i64 yz)) := ((Below.refl w.heap.size W).setCell (p := ⟨w.heap.size, 0, none⟩) (Nat.le_refl _) _).setCell (p := ⟨w.heap.size, 1, none⟩) (Nat.le_refl _) _
  refine ⟨owns_far (owns_far h.own (Nat.lt_succ_self _) _) (Nat.lt_succ_self _) _, ?_, h.at_.below hB hg, h.below.trans hB, by simpa using h.size⟩
  have := (h.box.set_ 0 (.int .i64 ya)).set_ 1 (.int .i64 yz)
  simpa using this
set_option maxHeartbeats 12800000 in
theorem l10Give_end {l : List Block} {ba bz : Int} {g off n c : Nat} {w : World} (hn : n = l.length) (hnc : n ≤ c) (hat : AtB w g off l) (hg : g < w.heap.size) (hfs : Fits l) (hb : 0 ≤ ba ∧ ba ≤ 8192 ∧ 0 ≤ bz ∧ bz ≤ 8192)
    (hord : ∀ (j k : Nat) (x y : Block), j < k → l[j]? = some x → l[k]? = some y → x.at_ + x.size < y.at_) (hend : ∀ x ∈ l, x.at_ + x.size ≤ ba ∧ 0 < x.size) :
    Calls Try.prog 53 #[.slice (some ⟨g, off, none⟩) n c, .agg #[.int .i64 ba, .int .i64 bz]] w fun e w' => GiveP w l ⟨ba, bz⟩ e w' := by
  obtain ⟨i0, hi, hy0, hy1, hy2⟩ := info_parts block_info
  have hn4 : n ≤ 4096 := by rw [hn]; exact hfs.1
  have HN := Lib.hid hn
  have HFS := Lib.hid hfs.2
  have HAT := Lib.hid hat
  have HOR := Lib.hid hord
  have HEN := Lib.hid hend
  obtain ⟨w1, hw1⟩ : ∃ W, W = w.alloc (.cells #[.int .i64 ba, .int .i64 bz] 49) := ⟨_, rfl⟩
  have e1 : w1.heap.size = w.heap.size + 1 := by rw [hw1]; simp
  have hB1 : Below w.heap.size w w1 := by rw [hw1]; exact (Below.refl _ _).alloc (Nat.le_refl _) _
  have S0 : GS w (w1.alloc (.cells #[] 49)) g off l [] (.slice (some ⟨w.heap.size + 1, 0, none⟩) 0 0) ba bz :=
    ⟨by rw [← e1]; exact World.ownsRow_made w1 #[] 0 (Nat.le_refl _) (by simp) (by simp [bvals]), by rw [hw1]; exact (Blk.new w _ _).alloc _, hat.below (hB1.alloc hB1.size _) hg, hB1.alloc hB1.size _, by simp; omega⟩
  have HW := Lib.hid hw1
  clear hn hfs hat e1 hw1 hB1 hord hend
  go_enter Try.func53, Try.ntmps53
  go_wp2_with fail
  rw [← HW.out]
  go_loopw [5, 6] (fun u i wr => ∃ (k : Nat) (acc : List Block) (u' : Value), u' = u ∧ i = .int .i64 k ∧ k ≤ n ∧ Hid (acc = l.take k ∧ acc.length = k) ∧ Hid (∀ (j : Nat) (x : Block), j < k → l[j]? = some x → x.at_ + x.size < ba) ∧ GS w wr g off l acc u' ba bz) (fun _ i _ => n - (intOf i).toNat)
  case atStart => exact ⟨0, [], _, rfl, rfl, Nat.zero_le _, Lib.hid ⟨rfl, rfl⟩, Lib.hid fun j x h => absurd h (by omega), S0⟩
  case round =>
    clear S0
    obtain ⟨k, acc, u', rfl, rfl, hk, HAC, HP, S⟩ := hrel
    obtain ⟨uA, uN, uC, rfl, _⟩ := (Own.of_own S.own).form
    by_cases hlt : k < n
    case neg =>
      have hkn : k = n := by omega
      have HF : Hid (giveL l ⟨ba, bz⟩ = acc ++ [⟨ba, bz⟩] ++ l.drop k) := by
        show _ = _
        have hl := HN.out
        rw [giveL_at k (by omega) HP.out (fun x hx => by have := (List.getElem?_eq_some_iff.1 hx).1; omega), HAC.out.1, hkn, List.drop_of_length_le (by omega)]
        simp [giveM]
      have HACC : Hid (acc.length = n) := by have := HAC.out.2; show _ = _; omega
      subst hkn
      have c0 := S.box.cell 0
      have c1 := S.box.cell 1
      go_wp2_with fail
      go_quiet (fail)
      obtain ⟨wd, hwd⟩ : ∃ V, V = wr.drewN nq := ⟨_, rfl⟩
      rw [← hwd]
      have S2 := S.drewN nq
      rw [← hwd] at S2
      clear hwd c0 c1 
      have c0 := S2.box.cell 0
      have c1 := S2.box.cell 1
      go_wp2_with fail
      go_quiet (fail)
      obtain ⟨we, hwd⟩ : ∃ V, V = wd.drewN nq := ⟨_, rfl⟩
      rw [← hwd]
      have S3 := S2.drewN nq
      rw [← hwd] at S3
      clear hwd c0 c1 
      have c0 := S3.box.cell 0
      have c1 := S3.box.cell 1
      go_wp2_with fail
      go_quiet (fail)
      obtain ⟨wf, hwd⟩ : ∃ V, V = we.drewN nq := ⟨_, rfl⟩
      rw [← hwd]
      have S4 := S3.drewN nq
      rw [← hwd] at S4
      clear hwd c0 c1 
      have c0 := S4.box.cell 0
      have c1 := S4.box.cell 1
      have hs1 := S4.own.alloc (.cells #[Value.int .i64 (ba), Value.int .i64 (bz)] 49)
      have hc1 := news_blk wf ⟨ba, bz⟩
      have hB2 : Below w.heap.size w (wf.alloc (.cells #[Value.int .i64 (ba), Value.int .i64 (bz)] 49)) := S4.below.alloc S4.below.size _
      have hz2 : w.heap.size + 1 ≤ (wf.alloc (.cells #[Value.int .i64 (ba), Value.int .i64 (bz)] 49)).heap.size := by have := S4.size; simp; omega
      go_wp2_with (first | (at_builtin; refine wpList_append_own _ rfl _ _ 27 rfl (w.heap.size + 1) 49 i0 (.agg #[.int .i64 0, .int .i64 0]) 2 16 Try.underlying27 hi hy0 hy1 hy2 rfl (by decide) _ _ _ rfl hs1 ⟨wf.heap.size, 0, none⟩ 1 1 (bvals [⟨ba, bz⟩]) rfl rfl hc1 (one_blk _) (by have := HACC.out; simp only [maxLen]; omega) (by have := HACC.out; omega) hz2 ?_; intro v' w3 hown' hgrow _; have hB3 := hB2.grown hgrow (by omega) (fun g hg => by have := (hs1.lt g hg).1; omega); have hz3 : w.heap.size + 1 ≤ w3.heap.size := Nat.le_trans hz2 hgrow.size; have HAT3 := Lib.hid (HAT.out.below hB3 hg); have hg3 : g < w3.heap.size := (by omega); obtain ⟨gg, cc, rfl, _, _⟩ := hown'.form (by omega)) | (at_builtin; go_loud (refine wpList_append_src rfl _ _ 27 rfl (w.heap.size + 1) 49 i0 (.agg #[.int .i64 0, .int .i64 0]) 2 16 Try.underlying27 hi hy0 hy1 hy2 rfl (by decide) _ _ _ rfl hown' _ _ _ rfl (src_suffix (j := k) HAT3.out hg3 HN.out hn4 (by omega) (by first | rfl | omega) (by intro hj; first | exact absurd hj (by omega) | rfl | rw [if_neg (by omega)])) (one_blk _) (by have := HACC.out; have := HN.out; simp only [maxLen, List.length_drop]; omega) (by have := HACC.out; have := HN.out; simp only [List.length_drop]; omega) hz3 ?_); intro v2 w4 hown2 hgrow2 hat2; have hB4 := hB3.grown hgrow2 (by omega) (fun g hg => by have := (hown'.lt g hg).1; omega); clear hs1 hown'; obtain ⟨g2, c2, rfl, _, _⟩ := hown2.form (by omega)))
      all_goals
        go_wp2_with fail
        go_ret
        rw [List.length_drop] at hown2
        exact ⟨_, rfl, by rw [HF.out]; exact lv_done hown2 (Nat.le_succ _), hB4⟩
    obtain ⟨x, hx, hmem⟩ := at_lt HN.out hlt
    have hxb := HFS.out x hmem
    have hxe := HEN.out x hmem
    have HX := Lib.hid hx
    clear hx hmem
    have HACC : Hid (acc.length = k) := HAC.out.2
    obtain ⟨q0, q1⟩ := S.at_ k x HX.out
    obtain ⟨xa, xz⟩ := x
    have c0 := S.box.cell 0
    have c1 := S.box.cell 1
    simp only at q0 q1 hxb hxe
    have hwr : IntKind.i64.wrap (xa + xz) = xa + xz := IntWalk.i64_in _ (by omega)
    by_cases hlx : xa + xz < ba
    case pos =>
      have hd3 : decide (xa + xz < ba) = true := decide_eq_true hlx
      have HQ : Hid (∀ (j : Nat) (x : Block), j < k + 1 → l[j]? = some x → x.at_ + x.size < ba) := fun j y hj hy => by
        rcases Nat.lt_succ_iff_lt_or_eq.1 hj with h | rfl
        · exact HP.out j y h hy
        · rw [HX.out] at hy; cases hy; exact hlx
      have hac2 : acc ++ [(⟨xa, xz⟩ : Block)] = l.take (k + 1) ∧ (acc ++ [(⟨xa, xz⟩ : Block)]).length = k + 1 := ⟨by rw [List.take_add_one, HX.out, HAC.out.1]; rfl, by have := HACC.out; simp; omega⟩
      have HAC2 := Lib.hid hac2
      clear hac2
      clear hlx
      go_wp2_with fail
      go_quiet (fail)
      obtain ⟨wd, hwd⟩ : ∃ V, V = wr.drewN nq := ⟨_, rfl⟩
      rw [← hwd]
      have S2 := S.drewN nq
      rw [← hwd] at S2
      clear hwd c0 c1 q0 q1
      have c0 := S2.box.cell 0
      have c1 := S2.box.cell 1
      obtain ⟨q0, q1⟩ := S2.at_ k _ HX.out
      simp only at q0 q1
      have hs1 := S2.own.alloc (.cells #[Value.int .i64 (xa), Value.int .i64 (xz)] 49)
      have hc1 := news_blk wd ⟨xa, xz⟩
      have hB2 : Below w.heap.size w (wd.alloc (.cells #[Value.int .i64 (xa), Value.int .i64 (xz)] 49)) := S2.below.alloc S2.below.size _
      have hz2 : w.heap.size + 1 ≤ (wd.alloc (.cells #[Value.int .i64 (xa), Value.int .i64 (xz)] 49)).heap.size := by have := S2.size; simp; omega
      go_wp2_with (at_builtin; refine wpList_append_own _ rfl _ _ 27 rfl (w.heap.size + 1) 49 i0 (.agg #[.int .i64 0, .int .i64 0]) 2 16 Try.underlying27 hi hy0 hy1 hy2 rfl (by decide) _ _ _ rfl hs1 ⟨wd.heap.size, 0, none⟩ 1 1 (bvals [⟨xa, xz⟩]) rfl rfl hc1 (one_blk _) (by have := HACC.out; simp only [maxLen]; omega) (by have := HACC.out; omega) hz2 ?_; intro v' w3 hown' hgrow _)
      have hB3 := hB2.grown hgrow (by omega) (fun g hg => by have := (hs1.lt g hg).1; omega)
      have hz3 : w.heap.size + 1 ≤ w3.heap.size := Nat.le_trans hz2 hgrow.size
      have bx3 : Blk w3 w.heap.size 49 #[.int .i64 ba, .int .i64 bz] := by
        have := S2.box.alloc (.cells #[Value.int .i64 xa, Value.int .i64 xz] 49)
        exact (hgrow.block _ this.lt (fun e => by have := (hs1.lt _ e.symm).1; omega)).trans this
      go_roundw
      case rel => exact ⟨k + 1, acc ++ [⟨xa, xz⟩], _, rfl, by go_num, by omega, HAC2, HQ, ⟨by rw [bvals_append, List.length_append]; exact hown', bx3, HAT.out.below hB3 hg, hB3, hz3⟩⟩
      case measure => simp [intOf]; omega
    have hd3 : decide (xa + xz < ba) = false := decide_eq_false hlx
    have heq : xa + xz = ba := by omega
    have hd6 : (xa + xz == ba) = true := by simpa using heq
    have hkn : k + 1 = n := by
      by_cases h : k + 1 < n
      · obtain ⟨y, hy, hmy⟩ := at_lt HN.out h
        have h1 := HOR.out k (k + 1) _ y (Nat.lt_succ_self _) HX.out hy
        have h2 := HEN.out y hmy
        simp only at h1
        omega
      · omega
    have HF : Hid (giveL l ⟨ba, bz⟩ = acc ++ [⟨xa, xz + bz⟩] ++ l.drop (k + 1)) := by
      show _ = _
      have hl := HN.out
      rw [giveL_at k (by omega) HP.out (fun x hx => by rw [HX.out] at hx; cases hx; exact hlx), HAC.out.1, drop_cons HX.out, List.drop_of_length_le (i := k + 1) (by omega)]
      simp [giveM, heq, giveN]
    have hws : IntKind.i64.wrap (xz + bz) = xz + bz := IntWalk.i64_in _ (by omega)
    clear hlx
    go_wp2_with fail
    go_quiet (fail)
    obtain ⟨wd, hwd⟩ : ∃ V, V = wr.drewN nq := ⟨_, rfl⟩
    rw [← hwd]
    have S2 := S.drewN nq
    rw [← hwd] at S2
    clear hwd c0 c1 q0 q1
    have c0 := S2.box.cell 0
    have c1 := S2.box.cell 1
    obtain ⟨q0, q1⟩ := S2.at_ k _ HX.out
    simp only at q0 q1
    go_wp2_with fail
    go_quiet (fail)
    obtain ⟨we, hwd⟩ : ∃ V, V = wd.drewN nq := ⟨_, rfl⟩
    rw [← hwd]
    have S3 := S2.drewN nq
    rw [← hwd] at S3
    clear hwd c0 c1 q0 q1
    have c0 := S3.box.cell 0
    have c1 := S3.box.cell 1
    obtain ⟨q0, q1⟩ := S3.at_ k _ HX.out
    simp only at q0 q1
    have f0 := S3.box.frozen 0
    have f1 := S3.box.frozen 1
    go_wp2_with fail
    go_region
    have S4 := (S3.set hg xa (xz + bz)).drew
    obtain ⟨wf, hwf⟩ : ∃ V, V = ((we.setCell ⟨w.heap.size, 0, none⟩ (.int .i64 xa)).setCell ⟨w.heap.size, 1, none⟩ (.int .i64 (xz + bz))).drew := ⟨_, rfl⟩
    rw [← hwf]
    rw [← hwf] at S4
    clear hwf c0 c1 q0 q1 f0 f1
    have c0 := S4.box.cell 0
    have c1 := S4.box.cell 1
    obtain ⟨q0, q1⟩ := S4.at_ k _ HX.out
    simp only at q0 q1
    subst hkn
    go_wp2_with fail
    go_quiet (fail)
    obtain ⟨wg, hwd⟩ : ∃ V, V = wf.drewN nq := ⟨_, rfl⟩
    rw [← hwd]
    have S5 := S4.drewN nq
    rw [← hwd] at S5
    clear hwd c0 c1 q0 q1
    have c0 := S5.box.cell 0
    have c1 := S5.box.cell 1
    obtain ⟨q0, q1⟩ := S5.at_ k _ HX.out
    simp only at q0 q1
    have hs1 := S5.own.alloc (.cells #[Value.int .i64 (xa), Value.int .i64 (xz + bz)] 49)
    have hc1 := news_blk wg ⟨xa, xz + bz⟩
    have hB2 : Below w.heap.size w (wg.alloc (.cells #[Value.int .i64 (xa), Value.int .i64 (xz + bz)] 49)) := S5.below.alloc S5.below.size _
    have hz2 : w.heap.size + 1 ≤ (wg.alloc (.cells #[Value.int .i64 (xa), Value.int .i64 (xz + bz)] 49)).heap.size := by have := S5.size; simp; omega
    go_wp2_with (first | (at_builtin; refine wpList_append_own _ rfl _ _ 27 rfl (w.heap.size + 1) 49 i0 (.agg #[.int .i64 0, .int .i64 0]) 2 16 Try.underlying27 hi hy0 hy1 hy2 rfl (by decide) _ _ _ rfl hs1 ⟨wg.heap.size, 0, none⟩ 1 1 (bvals [⟨xa, xz + bz⟩]) rfl rfl hc1 (one_blk _) (by have := HACC.out; simp only [maxLen]; omega) (by have := HACC.out; omega) hz2 ?_; intro v' w3 hown' hgrow _; have hB3 := hB2.grown hgrow (by omega) (fun g hg => by have := (hs1.lt g hg).1; omega); have hz3 : w.heap.size + 1 ≤ w3.heap.size := Nat.le_trans hz2 hgrow.size; have HAT3 := Lib.hid (HAT.out.below hB3 hg); have hg3 : g < w3.heap.size := (by omega); obtain ⟨gg, cc, rfl, _, _⟩ := hown'.form (by omega)) | (at_builtin; go_loud (refine wpList_append_src rfl _ _ 27 rfl (w.heap.size + 1) 49 i0 (.agg #[.int .i64 0, .int .i64 0]) 2 16 Try.underlying27 hi hy0 hy1 hy2 rfl (by decide) _ _ _ rfl hown' _ _ _ rfl (src_suffix (j := (k + 1)) HAT3.out hg3 HN.out hn4 (by omega) (by first | rfl | omega) (by intro hj; first | exact absurd hj (by omega) | rfl | rw [if_neg (by omega)])) (one_blk _) (by have := HACC.out; have := HN.out; simp only [maxLen, List.length_drop]; omega) (by have := HACC.out; have := HN.out; simp only [List.length_drop]; omega) hz3 ?_); intro v2 w4 hown2 hgrow2 hat2; have hB4 := hB3.grown hgrow2 (by omega) (fun g hg => by have := (hown'.lt g hg).1; omega); clear hs1 hown'; obtain ⟨g2, c2, rfl, _, _⟩ := hown2.form (by omega)))
    all_goals
      go_wp2_with fail
      go_ret
      rw [List.length_drop] at hown2
      exact ⟨_, rfl, by rw [HF.out]; exact lv_done hown2 (Nat.le_succ _), hB4⟩

end Go.Proofs.Ytlppngpafjfjeaa

