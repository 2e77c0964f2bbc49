/-
  Free blocks: the type, and the laws' own helpers over it.
-/
import Derived.Test.YtlppngpafjfjeaaRows
import Derived.Test.YtlppngpafjfjeaaPD
import Derived.Deep.RegionHeld3
namespace Go.Proofs.Ytlppngpafjfjeaa
open Go.RowKit
set_option linter.unusedVariables false

structure Block where
  at_ : Int
  size : Int
  deriving DecidableEq
def Block.pd (b : Block) : List PD := [.lit (.int .i64 b.at_), .lit (.int .i64 b.size)]
theorem Block.pd_length (b : Block) : b.pd.length = 2 := rfl
def Block.wf (b : Block) : Prop := (Lit.int .i64 b.at_).wf = true ∧ (Lit.int .i64 b.size).wf = true
def blocks (bs : List Block) : PD := .row 2 (bs.flatMap Block.pd)

theorem toBlock_any (x y : Int) (w : World) :
    Calls Try.prog 62 #[.agg #[.int .i64 x, .int .i64 y]] w fun e w' => e = .returned (.agg #[.int .i64 x, .int .i64 y]) ∧ Below w.heap.size w w' := by
  go_enter Try.func62, Try.ntmps62
  go_wp2
  refine bodyPost_ret (v := .agg #[.int .i64 x, .int .i64 y]) (by simp [results, Try.results62, go_sem]) rfl ⟨rfl, ?_⟩
  repeat (first | exact Below.refl _ _ | refine Below.setCell ?_ (by simp) _ | refine Below.alloc ?_ (by simp; try omega) _)

theorem block_info : (Try.prog.info? 49).map (fun i => (i.zero, i.size, i.bytes)) = some (some (.agg #[.int .i64 0, .int .i64 0]), 2, 16) := by kernel_rfl

theorem toBlockS_any {v : Value} {B : Nat} {bs : List Block} {w : World} (hB : B ≤ w.heap.size) (hn : bs.length ≤ 1048576) (h : Rep w B (blocks bs) v) :
    Calls Try.prog 35 #[v] w fun e w' => ∃ u, e = .returned u ∧ Lv w' w.heap.size w'.heap.size (blocks bs) u ∧ Below w.heap.size w w' := by
  obtain ⟨A, n, c, rfl, hnl, hm, hat⟩ := rep_row Block.pd_length (by decide) h
  obtain ⟨i0, hi, hz0, hz1, hz2⟩ := info_parts block_info
  have hmk := fun W => run_make_rowN (P := Try.prog) 27 49 i0 _ Try.underlying27 hi hz0 .i64 .i64 n n (Nat.le_refl _) (by rw [hz2]; omega) (by omega) W
  rw [hz1] at hmk
  have hnn : n ≤ 1048576 := by omega
  have HN := Lib.hid hnl
  clear h hnl hz0 hz1 hz2 hi hm
  go_enter Try.func35, Try.ntmps35
  go_wp2
  clear hmk
  obtain ⟨W1, hW1⟩ : ∃ W1, W1 = w.alloc (.cells (madeCells #[.int .i64 0, .int .i64 0] (n * 2)) 49) := ⟨_, rfl⟩
  rw [← hW1]
  have hF : Fills w W1 w.heap.size n 2 ((bs.take 0).flatMap Block.pd) 0 := by
    rw [hW1]
    exact Fills.start (cs := (madeCells #[.int .i64 0, .int .i64 0] (n * 2)).toList) (OwAt.new w _ _) (by simp [size_madeCells]) ((Below.refl _ _).alloc (Nat.le_refl _) _) (by simp)
  clear hW1
  go_loopw [4] (fun i wr => ∃ k : Nat, k ≤ n ∧ i = .int .i64 k ∧ Fills w wr w.heap.size n 2 ((bs.take k).flatMap Block.pd) k) (fun i _ => n - (intOf i).toNat)
  case atStart => exact ⟨0, Nat.zero_le _, rfl, hF⟩
  case round =>
    obtain ⟨k, hk, rfl, hf⟩ := hrel
    clear hF
    by_cases hlt : k < n
    · obtain ⟨g, off, rfl, hg, hcell⟩ := hat (by omega)
      obtain ⟨b, hx, _⟩ := at_lt HN.out hlt
      obtain ⟨hbr, hg0⟩ := hf.under
      have c0 : wr.cell? ⟨g, off + k * 2, none⟩ = some (.int .i64 b.at_) := by
        obtain ⟨u, hu, hr⟩ := hcell k 0 b _ hx rfl
        rw [hr.of_lit] at hu
        exact (hbr.cell (by show g < _; omega)).trans hu
      have c1 : wr.cell? ⟨g, off + k * 2 + 1, none⟩ = some (.int .i64 b.size) := by
        obtain ⟨u, hu, hr⟩ := hcell k 1 b _ hx rfl
        rw [hr.of_lit] at hu
        exact (hbr.cell (by show g < _; omega)).trans hu
      have HX := Lib.hid hx
      clear hx hcell
      go_wp2_with fail
      refine (toBlock_any _ _ _).mono ?_
      rintro e wq ⟨rfl, hbq⟩
      obtain ⟨⟨u0, d0⟩, f0⟩ := hf.cell hbq hlt 0 (by decide)
      obtain ⟨⟨u1, d1⟩, f1⟩ := hf.cell hbq hlt 1 (by decide)
      rw [Nat.add_zero] at d0 f0
      have hnx := hf.next hbq (HoldL.cons (Hold.lit_ wq (.int .i64 b.at_)) (HoldL.cons (Hold.lit_ wq (.int .i64 b.size)) (HoldL.nil wq))) (In.nil _ _) rfl hlt
      have HF := Lib.hid hnx
      clear hnx hf
      go_wp2_with fail
      go_roundw
      case rel => exact ⟨k + 1, by omega, by go_num, by rw [List.take_add_one, HX.out, List.flatMap_append]; exact HF.out⟩
      case measure => simp [intOf]; omega
    · have hkn : k = n := by omega
      subst hkn
      have hfin : Lv wr w.heap.size wr.heap.size (blocks bs) (.slice (some ⟨w.heap.size, 0, none⟩) k k) := by
        rw [List.take_of_length_le (by have := HN.out; omega)] at hf
        exact hf.done (by rw [flatMap_length Block.pd_length]; rw [HN.out]) (Nat.le_refl _) (by simp only [maxLen]; omega)
      have hbr := hf.under.1
      clear hf
      go_wp2_with fail
      go_ret
      exact ⟨_, rfl, hfin, hbr⟩

theorem eqBlock_any (x y : Int) (w : World) :
    Calls Try.prog 63 #[.agg #[.int .i64 x, .int .i64 y], .agg #[.int .i64 x, .int .i64 y]] w fun e w' => e = .returned (.bool true) ∧ Below w.heap.size w w' := by
  go_enter Try.func63, Try.ntmps63
  go_wp2
  go_ret
  refine ⟨rfl, ?_⟩
  repeat (first | exact Below.refl _ _ | refine Below.setCell ?_ (by simp) _ | refine Below.alloc ?_ (by simp; try omega) _)

theorem eqBlockS_any {v u : Value} {B : Nat} {bs : List Block} {w : World} (hB : B ≤ w.heap.size) (h : Rep w B (blocks bs) v) (k : Rep w B (blocks bs) u) :
    Calls Try.prog 37 #[v, u] w fun e w' => e = .returned (.bool true) ∧ Below w.heap.size w w' := by
  obtain ⟨A, n, c, rfl, hnl, hm, hat⟩ := rep_row Block.pd_length (by decide) h
  obtain ⟨A', n', c', rfl, hnl', _, hat'⟩ := rep_row Block.pd_length (by decide) k
  have hnn : n' = n := by omega
  subst hnn
  unfold maxLen at hm
  have HN := Lib.hid hnl
  clear h k hnl hnl'
  go_enter Try.func37, Try.ntmps37
  go_wp2_with fail
  go_loopw [5] (fun i wr => ∃ k : Nat, k ≤ n' ∧ i = .int .i64 k ∧ Below w.heap.size w wr) (fun i _ => n' - (intOf i).toNat)
  case atStart => exact ⟨0, Nat.zero_le _, rfl, Below.refl _ _⟩
  case round =>
    obtain ⟨k, hk, rfl, hbr⟩ := hrel
    by_cases hlt : k < n'
    · obtain ⟨g, off, rfl, hg, hcell⟩ := hat (by omega)
      obtain ⟨g', off', rfl, hg', hcell'⟩ := hat' (by omega)
      obtain ⟨b, hx, _⟩ := at_lt HN.out hlt
      have c0 : wr.cell? ⟨g, off + k * 2, none⟩ = some (.int .i64 b.at_) := by
        obtain ⟨u, hu, hr⟩ := hcell k 0 b _ hx rfl
        rw [hr.of_lit] at hu
        exact (hbr.cell (by show g < _; omega)).trans hu
      have c1 : wr.cell? ⟨g, off + k * 2 + 1, none⟩ = some (.int .i64 b.size) := by
        obtain ⟨u, hu, hr⟩ := hcell k 1 b _ hx rfl
        rw [hr.of_lit] at hu
        exact (hbr.cell (by show g < _; omega)).trans hu
      have e0 : wr.cell? ⟨g', off' + k * 2, none⟩ = some (.int .i64 b.at_) := by
        obtain ⟨u, hu, hr⟩ := hcell' k 0 b _ hx rfl
        rw [hr.of_lit] at hu
        exact (hbr.cell (by show g' < _; omega)).trans hu
      have e1 : wr.cell? ⟨g', off' + k * 2 + 1, none⟩ = some (.int .i64 b.size) := by
        obtain ⟨u, hu, hr⟩ := hcell' k 1 b _ hx rfl
        rw [hr.of_lit] at hu
        exact (hbr.cell (by show g' < _; omega)).trans hu
      have hlt' : (k : Int) < (n' : Int) := by omega
      clear hx hcell hcell'
      go_wp2_with fail
      have hgw : g < wr.heap.size := by have := hbr.size; omega
      have hgw' : g' < wr.heap.size := by have := hbr.size; omega
      go_region_held3 (fun w' => w'.cell? ⟨g, off + k * 2, none⟩ = some (.int .i64 b.at_) ∧ w'.cell? ⟨g, off + k * 2 + 1, none⟩ = some (.int .i64 b.size) ∧ w'.cell? ⟨g', off' + k * 2, none⟩ = some (.int .i64 b.at_) ∧ w'.cell? ⟨g', off' + k * 2 + 1, none⟩ = some (.int .i64 b.size))
        (first | go_keep | exact ⟨(hbq.cell (p := ⟨g, off + k * 2, none⟩) hgw).trans c0, (hbq.cell (p := ⟨g, off + k * 2 + 1, none⟩) hgw).trans c1, (hbq.cell (p := ⟨g', off' + k * 2, none⟩) hgw').trans e0, (hbq.cell (p := ⟨g', off' + k * 2 + 1, none⟩) hgw').trans e1⟩)
        (first | (go_at_call 63; refine (eqBlock_any _ _ _).mono ?_; rintro e wq ⟨rfl, hbq⟩))
      have hbn : Below w.heap.size w wq := hbr.drew.trans (hbq.mono hbr.size)
      clear hbq hbr c0 c1 e0 e1
      go_wp2_with fail
      go_roundw
      case rel => exact ⟨k + 1, by omega, by go_num, hbn⟩
      case measure => simp [intOf]; omega
    · have hkn : k = n' := by omega
      subst hkn
      go_wp2_with fail
      go_ret
      exact ⟨rfl, hbr⟩
end Go.Proofs.Ytlppngpafjfjeaa
