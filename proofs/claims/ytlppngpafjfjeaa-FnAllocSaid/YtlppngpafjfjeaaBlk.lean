/-
  Rows of blocks: Clone, Grow, Concat at []Block.
-/
import Derived.Test.YtlppngpafjfjeaaMemK
import Derived.Test.YtlppngpafjfjeaaGrw
import Derived.Lib.SliceRun
import Derived.Lib.AppendZeros
namespace Go.Proofs.Ytlppngpafjfjeaa
open Go.RowKit
set_option linter.unusedVariables false
set_option linter.unusedSimpArgs false
set_option linter.unnecessarySimpa false
set_option maxRecDepth 16000

def blkC (b : Block) : List Value := [.int .i64 b.at_, .int .i64 b.size]
def bvals (bs : List Block) : List Value := bs.flatMap blkC
theorem blkC_length (b : Block) : (blkC b).length = 2 := rfl
theorem bvals_length (bs : List Block) : (bvals bs).length = bs.length * 2 := flatMap_length blkC_length bs
theorem bvals_append (a b : List Block) : bvals (a ++ b) = bvals a ++ bvals b := List.flatMap_append
theorem pd_blkC (bs : List Block) : bs.flatMap Block.pd = (bvals bs).map PD.lit := by
  induction bs with
  | nil => rfl
  | cons b l ih =>
    rw [List.flatMap_cons, ih, bvals, bvals, List.flatMap_cons, List.map_append]
    rfl
theorem one_blk (bs : List Block) : ∀ u ∈ bvals bs, u.oneCell' = true := by
  intro u hu
  obtain ⟨b, _, hb⟩ := List.mem_flatMap.1 hu
  simp only [blkC, List.mem_cons, List.not_mem_nil, or_false] at hb
  rcases hb with rfl | rfl <;> rfl
theorem holdL_lits' (w : World) : ∀ l : List Value, HoldL w (l.map PD.lit) l []
  | [] => by rw [List.map_nil, HoldL]; exact ⟨rfl, rfl⟩
  | u :: l => by
    rw [List.map_cons, HoldL]
    exact ⟨_, _, [], [], rfl, rfl, by rw [Hold]; exact ⟨rfl, rfl⟩, holdL_lits' w l⟩
theorem lv_blk {w : World} {base n : Nat} {e : TypeId} {v : Value} {bs : List Block} (h : w.ownsRow base e 2 v n (bvals bs)) : Lv w base w.heap.size (blocks bs) v := by
  obtain ⟨A, n', c, rfl, hl, hnc, hcm, hg⟩ := Own.of_own h
  have hlen : (bs.flatMap Block.pd).length = n' * 2 := by rw [pd_blkC, List.length_map]; omega
  by_cases h0 : 0 < n'
  · obtain ⟨g, off, rfl, h1, h2, ho⟩ := hg h0
    exact ⟨[g], by rw [blocks, Hold]; exact ⟨_, n', c, rfl, hlen, hnc, hcm, .inr ⟨h0, g, off, [], _, rfl, rfl, ho, by rw [pd_blkC]; exact holdL_lits' w _⟩⟩, ⟨by simp, fun b hb => by rw [List.mem_singleton.1 hb]; exact ⟨h1, h2⟩⟩, Nat.le_refl _⟩
  · exact ⟨[], by rw [blocks, Hold]; exact ⟨_, n', c, rfl, hlen, hnc, hcm, .inl ⟨by omega, rfl⟩⟩, In.nil _ _, Nat.le_refl _⟩
theorem src_blk {w : World} {B : Nat} {v : Value} {bs : List Block} (h : Rep w B (blocks bs) v) : SrcOk w v 2 bs.length (bvals bs) := by
  rw [blocks, Rep] at h
  obtain ⟨A, n, c, rfl, hl, _, hat⟩ := h
  rw [flatMap_length Block.pd_length] at hl
  have hn : n = bs.length := by omega
  subst hn
  by_cases h0 : 0 < bs.length
  · obtain ⟨g, off, rfl, hg, hr⟩ := hat h0
    refine .inr ⟨_, c, rfl, bvals_length bs, fun j u hu => ?_⟩
    obtain ⟨q, h1, h2⟩ := repL_iff.1 hr j (.lit u) (by rw [pd_blkC, List.getElem?_map, hu]; rfl)
    rw [h2.of_lit] at h1
    have hadd : (⟨g, off, none⟩ : Addr).add j = ⟨g, off + j, none⟩ := by unfold Addr.add; split <;> simp_all
    rw [hadd]
    exact h1
  · have hx : bs = [] := List.eq_nil_of_length_eq_zero (by omega)
    subst hx
    cases A with
    | none => exact .inl ⟨c, rfl, rfl, rfl⟩
    | some a => exact .inr ⟨a, c, rfl, rfl, fun j u hu => by simp [bvals] at hu⟩
theorem nil_blk (w : World) (lo : Nat) (h : lo ≤ w.heap.size) : Lv w lo w.heap.size (blocks []) (.slice none 0 0) := ⟨[], by rw [blocks, Hold]; exact ⟨none, 0, 0, rfl, rfl, Nat.le_refl _, by decide, .inl ⟨rfl, rfl⟩⟩, In.nil _ _, Nat.le_refl _⟩
theorem rep_nil (w : World) (B c : Nat) (A : Option Addr) : Rep w B (blocks []) (.slice A 0 c) := by rw [blocks, Rep]; exact ⟨A, 0, c, rfl, rfl, by decide, fun h => absurd h (by decide)⟩

set_option maxHeartbeats 800000 in
theorem cloneB_any {bs : List Block} (hl : bs.length ≤ 1048576) {B : Nat} {v : Value} {w : World} (hB : B ≤ w.heap.size) (h : Rep w B (blocks bs) v) :
    Calls Try.prog 66 #[v] w fun e w' => ∃ u, e = .returned u ∧ Lv w' w.heap.size w'.heap.size (blocks bs) u ∧ Below w.heap.size w w' := by
  obtain ⟨i0, hi, hz0, hz1, hz2⟩ := info_parts block_info
  have hb0 : Below B w (w.alloc (.cells #[] 49)) := (Below.refl _ _).alloc hB _
  have hsrc := src_blk (h.below hb0)
  obtain ⟨A, n, c, rfl, hnl, hm, hat⟩ := rep_row Block.pd_length (by decide) h
  have q22 : ∀ (w : World) (a : Option Addr) (n c n' c' : Nat), (binOp .eql 27 (.slice a n c) (.slice none n' c')).run Try.prog w = .ok (.bool a.isNone) w := fun w a n c n' c' => Lib.run_eql_slice_nil w _ _ a n c n' c' Try.underlying27
  cases A with
  | none =>
    have hn0 : n = 0 := Nat.eq_zero_of_not_pos fun h0 => by obtain ⟨g, off, he, _⟩ := hat h0; cases he
    have hl0 : bs = [] := List.eq_nil_of_length_eq_zero (by omega)
    subst hn0 hl0
    clear hsrc hat hnl hl hm hb0 h
    go_enter Try.func66, Try.ntmps66
    go_wp2_with fail
    go_ret
    exact ⟨_, rfl, nil_blk _ _ (Nat.le_refl _), Below.refl _ _⟩
  | some a =>
    have hown := World.ownsRow_made (base := w.heap.size) (e := 49) (size := 2) w #[] 0 (Nat.le_refl _) (by simp) (by simp)
    have HSRC := Lib.hid hsrc
    have hB1 : Below w.heap.size w (w.alloc (.cells #[] 49)) := (Below.refl _ _).alloc (Nat.le_refl _) _
    clear hat hsrc hnl hm hb0 h
    go_enter Try.func66, Try.ntmps66
    go_wp2_with (at_builtin; refine wpList_append_src rfl _ _ 27 rfl w.heap.size 49 i0 (.agg #[.int .i64 0, .int .i64 0]) 2 16 Try.underlying27 hi hz0 hz1 hz2 rfl (by decide) _ _ _ rfl hown _ _ _ rfl HSRC.out (one_blk _) (by simp only [maxLen]; omega) (by omega) hB1.size ?_; intro v' w3 hown' hgrow hat2)
    have hB3 := hB1.grown hgrow hB1.size (fun g hg => (hown.lt g hg).1)
    go_ret
    exact ⟨_, rfl, lv_blk hown', hB3⟩
theorem zc2 (n : Nat) : (Builtin.zeroCells (Value.agg #[.int .i64 0, .int .i64 0]).cells n).size = n * 2 := by simp [Builtin.zeroCells, Value.cells]
set_option maxHeartbeats 800000 in
theorem growB_any (n : Nat) (h0 : 0 < n) (h1 : n ≤ 4000000) (w : World) :
    Calls Try.prog 75 #[.slice none 0 0, .int .i64 n] w fun e w' => ∃ A c, e = .returned (.slice A 0 c) ∧ w'.ownsRow w.heap.size 49 2 (.slice A 0 c) 0 [] ∧ Below w.heap.size w w' := by
  obtain ⟨i0, hi, hz0, hz1, hz2⟩ := info_parts block_info
  have hrun := fun ty => Lib.run_append_nil_zeros (P := Try.prog) w 27 3 ty 49 i0 (.agg #[.int .i64 0, .int .i64 0]) .i64 .i64 Try.underlying27 Try.underlying3 hi hz0 n h0 (by rw [hz1]; decide) (by omega) (by rw [hz2]; omega)
  have hge := grownCap_ge w n 0 49
  have hle := grownCap_le_maxLen w n 0 49 (by simp only [maxLen]; omega)
  have hown := World.ownsRow_made (base := w.heap.size) (e := 49) (size := 2) w.drew (Builtin.zeroCells (Value.agg #[.int .i64 0, .int .i64 0]).cells n ++ Builtin.zeroCells (Value.agg #[.int .i64 0, .int .i64 0]).cells (grownCap w n 0 49 - n)) (grownCap w n 0 49) (Nat.le_refl _) hle (by rw [Array.size_append, zc2, zc2]; omega)
  have HO := Lib.hid hown
  have HR := Lib.hid hrun
  have hb : Below w.heap.size w (w.drew.alloc (.cells (Builtin.zeroCells (Value.agg #[.int .i64 0, .int .i64 0]).cells n ++ Builtin.zeroCells (Value.agg #[.int .i64 0, .int .i64 0]).cells (grownCap w n 0 49 - n)) 49)) := ((Below.refl _ _).drew).alloc (Nat.le_refl _) _
  obtain ⟨cap, hcap⟩ : ∃ c, c = grownCap w n 0 49 := ⟨_, rfl⟩
  rw [← hcap] at HO HR hb hge
  obtain ⟨ob, hob⟩ : ∃ o, o = Obj.cells (Builtin.zeroCells (Value.agg #[.int .i64 0, .int .i64 0]).cells n ++ Builtin.zeroCells (Value.agg #[.int .i64 0, .int .i64 0]).cells (cap - n)) 49 := ⟨_, rfl⟩
  rw [← hob] at HO HR hb
  clear hob hcap hown hrun hle hi hz0 hz1 hz2
  go_enter Try.func75, Try.ntmps75
  go_wp2_with (at_builtin; refine Lib.wpList_append_run _ rfl _ _ _ _ rfl _ _ rfl rfl _ _ (HR.out _) ?_)
  go_ret
  exact ⟨_, _, rfl, HO.out, hb⟩
end Go.Proofs.Ytlppngpafjfjeaa

