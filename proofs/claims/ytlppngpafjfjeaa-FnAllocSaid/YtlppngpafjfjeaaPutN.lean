/-
  (*store).put at no free block; (*store).grow of the empty store; (*store).memory; NewMemory.
-/
import Derived.Test.YtlppngpafjfjeaaConcat
import Derived.Deep.RegionHeld3
import Derived.BigQuiet
namespace Go.Proofs.Ytlppngpafjfjeaa
open Go.RowKit
set_option linter.unusedVariables false
set_option linter.unusedSimpArgs false
set_option linter.unnecessarySimpa false
set_option maxRecDepth 16000

theorem rep_one {w : World} {g : Nat} {t : TypeId} {a z : Int} (bl : Blk w g t #[.int .i64 a, .int .i64 z]) (c : Nat) : Rep w w.heap.size (blocks [⟨a, z⟩]) (.slice (some ⟨g, 0, none⟩) 1 c) := by
  rw [blocks, Rep]
  refine ⟨_, _, _, rfl, rfl, by decide, fun _ => ⟨g, 0, rfl, bl.lt, repL_iff.2 fun j x hx => ?_⟩⟩
  match j, hx with
  | 0, hx => cases hx; exact ⟨_, bl.cell 0, by rw [Rep]; rfl⟩
  | 1, hx => cases hx; exact ⟨_, bl.cell 1, by rw [Rep]; rfl⟩
  | j + 2, hx => simp [Block.pd] at hx
theorem concat_put {b : Block} {f1 f3 : List Block} {v1 v3 : Value} {wr wd : World} (hs : wd.heap.size = wr.heap.size) (hd : Below wr.heap.size wr wd) (l1 : f1.length ≤ 1000000) (l3 : f3.length ≤ 1000000)
    (r1 : Rep wr wr.heap.size (blocks f1) v1) (r3 : Rep wr wr.heap.size (blocks f3) v3) :
    Calls Try.prog 69 #[.slice (some ⟨wr.heap.size + 1, 0, none⟩) 3 3] ((wd.alloc (.cells #[.int .i64 b.at_, .int .i64 b.size] 49)).alloc (.cells #[v1, .slice (some ⟨wr.heap.size, 0, none⟩) 1 1, v3] 27))
      fun e w' => ∃ u, e = .returned u ∧ Lv w' (wr.heap.size + 2) w'.heap.size (blocks (f1 ++ [b] ++ f3)) u ∧ Below wr.heap.size wr w' := by
  have hB : Below wr.heap.size wr ((wd.alloc (.cells #[.int .i64 b.at_, .int .i64 b.size] 49)).alloc (.cells #[v1, .slice (some ⟨wr.heap.size, 0, none⟩) 1 1, v3] 27)) := (hd.alloc (by omega) _).alloc (by simp; omega) _
  have bl : Blk ((wd.alloc (.cells #[.int .i64 b.at_, .int .i64 b.size] 49)).alloc (.cells #[v1, .slice (some ⟨wr.heap.size, 0, none⟩) 1 1, v3] 27)) (wr.heap.size + 1) 27 #[v1, .slice (some ⟨wr.heap.size, 0, none⟩) 1 1, v3] := by
    have := Blk.new (wd.alloc (.cells #[.int .i64 b.at_, .int .i64 b.size] 49)) 27 #[v1, .slice (some ⟨wr.heap.size, 0, none⟩) 1 1, v3]
    simpa [hs] using this
  have bb : Blk ((wd.alloc (.cells #[.int .i64 b.at_, .int .i64 b.size] 49)).alloc (.cells #[v1, .slice (some ⟨wr.heap.size, 0, none⟩) 1 1, v3] 27)) wr.heap.size 49 #[.int .i64 b.at_, .int .i64 b.size] := by
    rw [← hs]; exact (Blk.new wd _ _).alloc _
  have r2 := rep_one bb 1
  have hsz : ((wd.alloc (.cells #[.int .i64 b.at_, .int .i64 b.size] 49)).alloc (.cells #[v1, .slice (some ⟨wr.heap.size, 0, none⟩) 1 1, v3] 27)).heap.size = wr.heap.size + 2 := by simp; omega
  refine (concatB_any (b1 := f1) (b2 := [b]) (b3 := f3) l1 (by simp) l3 (by simp) bl ((r1.below hB).more hB.size) r2 ((r3.below hB).more hB.size) 3).mono ?_
  rintro e w' ⟨u, rfl, hL, hb⟩
  rw [hsz] at hL
  exact ⟨u, rfl, hL, hB.trans (hb.mono hB.size)⟩
set_option maxHeartbeats 3200000 in
theorem put_nil {ba bz : Int} {p c : Nat} {bv : Value} {A : Option Addr} {w : World} (bl : Blk w p 60 #[bv, .slice A 0 c]) :
    Calls Try.prog 65 #[.pointer (some ⟨p, 0, none⟩), .agg #[.int .i64 ba, .int .i64 bz]] w fun e w' => ∃ fv', e = .returned (.tuple #[]) ∧ Blk w' p 60 #[bv, fv'] ∧ Lv w' w.heap.size w'.heap.size (blocks [⟨ba, bz⟩]) fv' ∧ Keep p (p + 1) w w' := by
  have hp := bl.lt
  cases A
  all_goals
    go_enter Try.func65, Try.ntmps65
    go_wp2_with fail
    obtain ⟨w1, hw1⟩ : ∃ W, W = w.alloc (.cells #[.int .i64 ba, .int .i64 bz] 49) := ⟨_, rfl⟩
    rw [← hw1]
    have bl1 := bl.alloc (.cells #[.int .i64 ba, .int .i64 bz] 49)
    have bb : Blk w1 w.heap.size 49 #[.int .i64 ba, .int .i64 bz] := by rw [hw1]; exact Blk.new w _ _
    have hB1 : Below w.heap.size w w1 := by rw [hw1]; exact (Below.refl _ _).alloc (Nat.le_refl _) _
    rw [← hw1] at bl1
    clear hw1 bl
    go_loopw [4] (fun i wr => i = .int .i64 0 ∧ Below w1.heap.size w1 wr) (fun _ _ => 0)
    case atStart => exact ⟨rfl, Below.refl _ _⟩
    case round =>
      obtain ⟨rfl, hbr⟩ := hrel
      have bl2 := bl1.step hbr
      have bb2 := bb.step hbr
      have hB2 := hB1.trans (hbr.mono hB1.size)
      clear bl1 bb hbr hB1
      have p0 := bl2.cell 0
      have p1 := bl2.cell 1
      have x0 := bb2.cell 0
      have x1 := bb2.cell 1
      go_wp2_with fail
      go_quiet (fail)
      go_wp2_with fail
      go_quiet (fail)
      go_wp2_with fail
      go_quiet (fail)
      go_wp2_with fail
      go_quiet (fail)
      go_wp2_with fail
      refine (concat_put (b := ⟨ba, bz⟩) (f1 := []) (f3 := []) (wr := wr) (wd := wr.drewN _) rfl (below_drewN (Below.refl _ _) _) (by decide) (by decide) (rep_nil _ _ _ _) (rep_nil _ _ _ _)).mono ?_
      rintro e w4 ⟨u, rfl, hL, hb4⟩
      have bl4 := bl2.step hb4
      have hB4 := hB2.trans (hb4.mono hB2.size)
      have hwp := hB2.size
      have d1 := bl4.cell 1
      have f1 := bl4.frozen 1
      obtain ⟨uA, uN, uC, rfl⟩ := hL.form
      have HL := Lib.hid hL
      clear p0 p1 x0 x1 hL
      go_wp2_with fail
      go_end0
      exact ⟨_, rfl, by have := bl4.set_ 1 (.slice uA uN uC); simpa using this, by have := (HL.out.kept (Keep.setCell (Keep.refl p (p + 1) w4) (p := ⟨p, 1, none⟩) (Nat.le_refl _) (Nat.lt_succ_self _) (.slice uA uN uC)) (.inr (by omega))); obtain ⟨F, a1, a2, a3⟩ := this; exact ⟨F, a1, ⟨a2.1, fun g hg => by have := a2.2 g hg; simp; omega⟩, by simp⟩, (Keep.of_below hB4).setCell (p := ⟨p, 1, none⟩) (Nat.le_refl _) (Nat.lt_succ_self _) _⟩
end Go.Proofs.Ytlppngpafjfjeaa

