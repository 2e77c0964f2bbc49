/-
  impl.storeOf.
-/
import Derived.Test.YtlppngpafjfjeaaStore
import Derived.Deep.RegionWith
namespace Go.Proofs.Ytlppngpafjfjeaa
open Go.RowKit
set_option linter.unusedVariables false
set_option linter.unusedSimpArgs false
set_option linter.unnecessarySimpa false
set_option maxRecDepth 16000

/-- a store's free blocks lie apart from its own block and from its bytes -/
def StF (w : World) (lo p : Nat) (bv : Value) (bs : List Block) (fv : Value) : Prop :=
  ∃ F, Hold w (blocks bs) fv F ∧ In F lo w.heap.size ∧ p ∉ F ∧ ∀ q, bv.ownBlock = some q → q ∉ F ∧ q ≠ p
theorem ownB_eq {g q n c : Nat} (h : (Value.slice (some ⟨g, 0, none⟩) n c).ownBlock = some q) : q = g := by
  simp only [Value.ownBlock, Option.some.injEq] at h
  exact h.symm
theorem bytesWorld_size (w : World) (e : TypeId) (s : ByteArray) : (Lib.bytesWorld w e s).heap.size = w.heap.size + 1 := by simp [Lib.bytesWorld, World.freeze]
set_option maxHeartbeats 1600000 in
theorem storeOf_any {s : ByteArray} {fv : Value} {bs : List Block} {w : World} (hs : s.size ≤ 1048576) (R : Rep w w.heap.size (blocks bs) fv) (hl : bs.length ≤ 1048576) :
    Calls Try.prog 49 #[.agg #[.string s, fv]] w fun e w' => ∃ p bv fv', e = .returned (.pointer (some ⟨p, 0, none⟩)) ∧ Blk w' p 60 #[bv, fv'] ∧ w.heap.size ≤ p ∧ RowX w.heap.size bv s w' ∧ StF w' w.heap.size p bv bs fv' ∧ Below w.heap.size w w' := by
  obtain ⟨A2, n2, c2, rfl⟩ := R.form
  have HR := Lib.hid R
  clear R
  have cr := fun W => conv_rule W s
  go_enter Try.func49, Try.ntmps49
  go_wp2_with fail
  obtain ⟨w0, hw0⟩ : ∃ W, W = w.alloc (.cells #[.string s, .slice A2 n2 c2] 29) := ⟨_, rfl⟩
  rw [← hw0]
  have bR0 : Blk w0 w.heap.size 29 #[.string s, .slice A2 n2 c2] := by rw [hw0]; exact Blk.new w _ _
  have hB0 : Below w.heap.size w w0 := by rw [hw0]; exact (Below.refl _ _).alloc (Nat.le_refl _) _
  have hs0 : w.heap.size + 1 ≤ w0.drew.heap.size := by rw [hw0]; simp
  have bP := bR0.drew
  have hBc : Below w.heap.size w w0.drew := hB0.drew
  clear hw0 bR0 hB0
  have hBv : Below w.heap.size w (Lib.bytesWorld w0.drew 5 s) := hBc.trans (conv_below (by omega))
  have bPv : Blk (Lib.bytesWorld w0.drew 5 s) w.heap.size 29 #[.string s, .slice A2 n2 c2] := bP.below (conv_below hs0) (Nat.lt_succ_self _)
  have HXV := Lib.hid (RowX.conv (B := w.heap.size) (w := w0.drew) (s := s) (by omega) (by unfold maxLen; omega))
  have hv0 := hBv.size
  have cr0 := conv_rule w0.drew s
  have c0 : w0.drew.cell? ⟨w.heap.size, 0, none⟩ = some (.string s) := bP.cell 0
  have c1 : w0.drew.cell? ⟨w.heap.size, 1, none⟩ = some (.slice A2 n2 c2) := bP.cell 1
  have k0 : (Lib.bytesWorld w0.drew 5 s).cell? ⟨w.heap.size, 0, none⟩ = some (.string s) := bPv.cell 0
  have k1 : (Lib.bytesWorld w0.drew 5 s).cell? ⟨w.heap.size, 1, none⟩ = some (.slice A2 n2 c2) := bPv.cell 1
  go_region_with (first
      | (go_at_call 66; refine (cloneB_any hl hBc.size (HR.out.below hBc)).mono ?_; rintro e wq ⟨uL, rfl, LL, hbq⟩; obtain ⟨lA, lN, lC, rfl⟩ := LL.form; replace hBc := hBc.trans (hbq.mono hBc.size); have zq := hbq.size; replace bP := bP.step hbq; have q0 : wq.cell? ⟨w.heap.size, 0, none⟩ = some (.string s) := bP.cell 0; have cq := conv_rule wq s)
      | (go_at_call 66; refine (cloneB_any hl hBv.size (HR.out.below hBv)).mono ?_; rintro e wq ⟨uL, rfl, LL, hbq⟩; obtain ⟨lA, lN, lC, rfl⟩ := LL.form; replace hBv := hBv.trans (hbq.mono hBv.size); have zq := hbq.size; replace bP := bPv.step hbq; have HXQ := Lib.hid (HXV.out.step hbq)))
  all_goals
    first
      | (
        go_wp2_with fail
        go_ret
        have L1 := LL.step ((Below.refl wq.heap.size wq).alloc (Nat.le_refl _) (.cells #[.slice (some ⟨w0.heap.size, 0, none⟩) s.size (grownCap w0.drew s.size 0 5), .slice lA lN lC] 60))
        obtain ⟨F, a1, a2, a3⟩ := L1
        have hz := bytesWorld_size w0.drew 5 s
        exact ⟨wq.heap.size, _, _, rfl, Blk.new _ _ _, hBv.size, HXQ.out.alloc _, ⟨F, a1, ⟨a2.1, fun g hg => by have := a2.2 g hg; simp; omega⟩, fun hm => by have := a2.2 _ hm; omega, fun q hq => (by obtain rfl := ownB_eq hq; exact ⟨fun hm => (by have := a2.2 _ hm; simp at hz; omega), (by simp at hz; omega)⟩)⟩, hBv.alloc hBv.size _⟩
        )
      | (
        go_wp2_with fail
        go_ret
        have hBz : Below wq.heap.size wq (Lib.bytesWorld wq 5 s) := conv_below (Nat.le_refl _)
        have hB2 := hBc.trans (hBz.mono hBc.size)
        have L1 := LL.step (hBz.alloc hBz.size (.cells #[.slice (some ⟨wq.heap.size, 0, none⟩) s.size (grownCap wq s.size 0 5), .slice lA lN lC] 60))
        obtain ⟨F, a1, a2, a3⟩ := L1
        exact ⟨(Lib.bytesWorld wq 5 s).heap.size, _, _, rfl, Blk.new _ _ _, hB2.size, (RowX.conv (B := w.heap.size) (w := wq) (s := s) hBc.size (by unfold maxLen; omega)).alloc _, ⟨F, a1, ⟨a2.1, fun g hg => by have := a2.2 g hg; have := hBz.size; simp; omega⟩, fun hm => by have := a2.2 _ hm; have := hBz.size; omega, fun q hq => (by have hz := bytesWorld_size wq 5 s; obtain rfl := ownB_eq hq; exact ⟨fun hm => (by have := a2.2 _ hm; omega), (by omega)⟩)⟩, hB2.alloc hB2.size _⟩
        )
end Go.Proofs.Ytlppngpafjfjeaa

