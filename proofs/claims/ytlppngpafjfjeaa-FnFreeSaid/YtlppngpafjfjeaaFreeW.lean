/-
  FnFree: where the walk stands.
-/
import Derived.Test.YtlppngpafjfjeaaFreeP
import Derived.Test.YtlppngpafjfjeaaSameK
import Derived.Test.YtlppngpafjfjeaaCode
namespace Go.Proofs.Ytlppngpafjfjeaa
open Go.RowKit
set_option linter.unusedVariables false
set_option linter.unusedSimpArgs false
set_option linter.unnecessarySimpa false

theorem owns_mono {w : World} {b b' sz n : Nat} {e : TypeId} {v : Value} {xs : List Value} (h : w.ownsRow b' e sz v n xs) (hb : b ≤ b') : w.ownsRow b e sz v n xs := by
  obtain ⟨h1, h2⟩ := h
  refine ⟨h1, ?_⟩
  rcases h2 with h2 | ⟨g, cap, cur, hv, hbb, rest⟩
  · exact .inl h2
  · exact .inr ⟨g, cap, cur, hv, by omega, rest⟩
/-- a memory that is held: the row of its free blocks lies in blocks that are none of the two boxes nor the row of the taken ones -/
def HeldM (W : World) (pm : Nat) (tv : Value) (fs : List Block) (fv : Value) : Prop := ∃ F, Hold W (blocks fs) fv F ∧ ∀ g ∈ F, g < W.heap.size ∧ g ≠ pm ∧ tv.ownBlock ≠ some g
theorem HeldM.rep {W : World} {pm : Nat} {tv fv : Value} {fs : List Block} (h : HeldM W pm tv fs fv) : Rep W W.heap.size (blocks fs) fv := by
  obtain ⟨F, h1, h2⟩ := h
  exact Hold.rep _ _ F h1 fun g hg => (h2 g hg).1
theorem HeldM.cap {W : World} {pm : Nat} {tv fv : Value} {fs : List Block} (h : HeldM W pm tv fs fv) : ∀ A n c, fv = .slice A n c → n ≤ c := by
  obtain ⟨F, h1, h2⟩ := h
  intro A n c e
  subst e
  exact hold_cap h1
theorem HeldM.same {W W' : World} {pm : Nat} {tv tv' fv : Value} {fs : List Block} (h : HeldM W pm tv fs fv) (hs : W.heap.size ≤ W'.heap.size) (hb : ∀ g, g < W.heap.size → g ≠ pm → tv.ownBlock ≠ some g → W'.heap[g]? = W.heap[g]?) (ht : ∀ g, g < W.heap.size → tv.ownBlock ≠ some g → tv'.ownBlock ≠ some g) : HeldM W' pm tv' fs fv := by
  obtain ⟨F, h1, h2⟩ := h
  exact ⟨F, Hold.keep _ _ F h1 fun g hg => hb g (h2 g hg).1 (h2 g hg).2.1 (h2 g hg).2.2, fun g hg => ⟨Nat.lt_of_lt_of_le (h2 g hg).1 hs, (h2 g hg).2.1, ht g (h2 g hg).1 (h2 g hg).2.2⟩⟩
structure FreS (w W : World) (pm pw N : Nat) (s : ByteArray) (fs taken : List Block) (tv fv : Value) : Prop where
  box : Blk W pm 29 #[.string s, fv]
  hold : HeldM W pm tv fs fv
  whole : ∃ fw, Blk W pw 29 #[.string s, fw] ∧ HeldM W pm tv (freeN N) fw
  row : W.ownsRow (pw + 1) 49 2 tv taken.length (bvals taken)
  below : Below w.heap.size w W
  lo : w.heap.size ≤ pm
  lt : pm < pw
theorem FreS.step {w W W' : World} {pm pw N : Nat} {s : ByteArray} {fs taken : List Block} {tv fv : Value} (h : FreS w W pm pw N s fs taken tv fv) (hb : Below W.heap.size W W') : FreS w W' pm pw N s fs taken tv fv := by
  obtain ⟨fw, w1, w2⟩ := h.whole
  exact ⟨h.box.step hb, h.hold.same hb.size (fun g hg _ _ => hb.block g hg) (fun g _ e => e), ⟨fw, w1.step hb, w2.same hb.size (fun g hg _ _ => hb.block g hg) (fun g _ e => e)⟩, owns_step h.row hb, h.below.trans (hb.mono h.below.size), h.lo, h.lt⟩
theorem FreS.setm {w W : World} {pm pw N : Nat} {s : ByteArray} {fs fs2 taken : List Block} {tv fv fv2 : Value} (h : FreS w W pm pw N s fs taken tv fv) (h2 : HeldM W pm tv fs2 fv2) :
    FreS w ((W.setCell ⟨pm, 0, none⟩ (.string s)).setCell ⟨pm, 1, none⟩ fv2) pm pw N s fs2 taken tv fv2 := by
  obtain ⟨fw, w1, w2⟩ := h.whole
  have hk : ∀ g, g < W.heap.size → g ≠ pm → tv.ownBlock ≠ some g → ((W.setCell ⟨pm, 0, none⟩ (.string s)).setCell ⟨pm, 1, none⟩ fv2).heap[g]? = W.heap[g]? := fun g _ hg _ => (Below.heap_setCell _ _ _ _ hg).trans (Below.heap_setCell _ _ _ _ hg)
  have hsz : W.heap.size ≤ ((W.setCell ⟨pm, 0, none⟩ (.string s)).setCell ⟨pm, 1, none⟩ fv2).heap.size := by simp
  refine ⟨?_, h2.same hsz hk (fun g _ e => e), ⟨fw, ?_, w2.same hsz hk (fun g _ e => e)⟩, ?_, ?_, h.lo, h.lt⟩
  · have := (h.box.set_ 0 (.string s)).set_ 1 fv2
    simpa using this
  · have := h.lt
    exact (w1.far (p := ⟨pm, 0, none⟩) (by show pw ≠ pm; omega) _).far (p := ⟨pm, 1, none⟩) (by show pw ≠ pm; omega) _
  · have := h.lt
    exact owns_far (owns_far h.row (p := ⟨pm, 0, none⟩) (by show pm < pw + 1; omega) _) (p := ⟨pm, 1, none⟩) (by show pm < pw + 1; omega) _
  · exact (h.below.setCell (p := ⟨pm, 0, none⟩) h.lo _).setCell (p := ⟨pm, 1, none⟩) h.lo _
theorem FreS.push {w W W1 W' : World} {pm pw N : Nat} {s : ByteArray} {fs taken t2 : List Block} {tv tv' fv : Value} (h : FreS w W pm pw N s fs taken tv fv) (hb : Below W.heap.size W W1) (hg : W1.grownBy W' tv.ownBlock) (hrow : W'.ownsRow (pw + 1) 49 2 tv' t2.length (bvals t2))
    (hor : tv'.ownBlock = tv.ownBlock ∨ tv'.ownBlock = some W1.heap.size) : FreS w W' pm pw N s fs t2 tv' fv := by
  obtain ⟨fw, w1, w2⟩ := h.whole
  have S1 := h.step hb
  have hs : W.heap.size ≤ W'.heap.size := Nat.le_trans hb.size hg.size
  have hk : ∀ g, g < W.heap.size → g ≠ pm → tv.ownBlock ≠ some g → W'.heap[g]? = W.heap[g]? := fun g hl _ hne => (hg.block g (Nat.lt_of_lt_of_le hl hb.size) (fun e => hne e.symm)).trans (hb.block g hl)
  have ht : ∀ g, g < W.heap.size → tv.ownBlock ≠ some g → tv'.ownBlock ≠ some g := fun g hl hne e => by
    rcases hor with h1 | h1
    · exact hne (h1 ▸ e)
    · rw [h1] at e; injection e with e; have := hb.size; omega
  have hpm : some pm ≠ tv.ownBlock := fun e => by have := (h.row.lt _ e.symm).1; have := h.lt; omega
  have hpw : some pw ≠ tv.ownBlock := fun e => by have := (h.row.lt _ e.symm).1; omega
  refine ⟨?_, h.hold.same hs hk ht, ⟨fw, ?_, w2.same hs hk ht⟩, hrow, ?_, h.lo, h.lt⟩
  · exact (hg.block pm S1.box.lt hpm).trans S1.box
  · have := w1.step hb
    exact (hg.block pw this.lt hpw).trans this
  · exact S1.below.grown hg S1.below.size (fun k e => by have := (h.row.lt _ e).1; have := h.lt; have := h.lo; omega)
theorem FreS.anew {w W W' : World} {pm pw N : Nat} {s : ByteArray} {fs taken t2 : List Block} {tv tv' fv : Value} (h : FreS w W pm pw N s fs taken tv fv) (hb : Below W.heap.size W W') (hrow : W'.ownsRow W.heap.size 49 2 tv' t2.length (bvals t2)) : FreS w W' pm pw N s fs t2 tv' fv := by
  obtain ⟨fw, w1, w2⟩ := h.whole
  have ht : ∀ g, g < W.heap.size → tv.ownBlock ≠ some g → tv'.ownBlock ≠ some g := fun g hl _ e => by have := (hrow.lt _ e).1; omega
  exact ⟨h.box.step hb, h.hold.same hb.size (fun g hg _ _ => hb.block g hg) ht, ⟨fw, w1.step hb, w2.same hb.size (fun g hg _ _ => hb.block g hg) ht⟩, owns_mono hrow w1.lt, h.below.trans (hb.mono h.below.size), h.lo, h.lt⟩
/-- a memory that a callee made -/
theorem held_new {W' : World} {lo hi pm : Nat} {tv fv : Value} {fs : List Block} (h : Lv W' lo hi (blocks fs) fv) (hpm : pm < lo) (ht : ∀ g, tv.ownBlock = some g → g < lo) : HeldM W' pm tv fs fv := by
  obtain ⟨F, h1, h2, h3⟩ := h
  exact ⟨F, h1, fun g hg => ⟨by have := h2.2 g hg; omega, by have := h2.2 g hg; omega, fun e => by have := ht g e; have := h2.2 g hg; omega⟩⟩
theorem HeldM.step {W W' : World} {pm : Nat} {tv fv : Value} {fs : List Block} (h : HeldM W pm tv fs fv) (hb : Below W.heap.size W W') : HeldM W' pm tv fs fv := h.same hb.size (fun g hg _ _ => hb.block g hg) (fun g _ e => e)
theorem blk_wf {s : ByteArray} {fs : List Block} (h : MemF s fs) : ∀ b ∈ fs, b.wf := fun b hb => by
  have := h.all_ b hb
  have := h.size
  exact ⟨WalkArith.wf_i64 (by omega), WalkArith.wf_i64 (by omega)⟩
theorem owns_len {W : World} {base n c : Nat} {A : Option Addr} {l : List Block} (h : W.ownsRow base 49 2 (.slice A n c) l.length (bvals l)) : n = l.length := by
  obtain ⟨A', n', c', e, hn, _, _⟩ := rep_row Block.pd_length (by decide) (lv_blk h).is
  injection e with e1 e2 e3
  omega
theorem owns_at {W : World} {base n c g off : Nat} {l : List Block} (h : W.ownsRow base 49 2 (.slice (some ⟨g, off, none⟩) n c) l.length (bvals l)) (hl : 0 < l.length) : n = l.length ∧ AtB W g off l ∧ g < W.heap.size := by
  have hr := (lv_blk h).is
  obtain ⟨A', n', c', e, hn, _, _⟩ := rep_row Block.pd_length (by decide) hr
  injection e with e1 e2 e3
  subst e2
  obtain ⟨a1, a2⟩ := at_rep hr (by omega)
  exact ⟨hn, a1, a2⟩
theorem four_at (z : Nat) (hz : (z : Int) < max 4 1) : ∃ al : Nat, alOk (al : Int) = true ∧ ∀ (W' : World) (g t : Nat), Blk W' g t #[.int .i64 1, .int .i64 2, .int .i64 4, .int .i64 8] → W'.cell? ⟨g, z, none⟩ = some (.int .i64 al) := by
  rcases (show z = 0 ∨ z = 1 ∨ z = 2 ∨ z = 3 by omega) with rfl | rfl | rfl | rfl
  · exact ⟨1, rfl, fun W' g t h => h.cell 0⟩
  · exact ⟨2, rfl, fun W' g t h => h.cell 1⟩
  · exact ⟨4, rfl, fun W' g t h => h.cell 2⟩
  · exact ⟨8, rfl, fun W' g t h => h.cell 3⟩
end Go.Proofs.Ytlppngpafjfjeaa

