/-
  A parameter of bytes; laws.b10Long, laws.b10At.
-/
import Derived.Test.YtfnncclplbbghaaBase
import Derived.Test.YtfnncclplbbghaaRows
namespace Go.Proofs.Ytfnncclplbbghaa
open Go.RowKit Go.ChangeShapes Go.WideShapes Go.ChangeAt
set_option linter.unusedVariables false
set_option linter.unusedSimpArgs false
set_option linter.unnecessarySimpa false
set_option maxRecDepth 16000

/-- n bytes that are read, in blocks below B -/
def BytesAt (w : World) (B : Nat) (A : Option Addr) (n : Nat) : Prop := 0 < n → ∃ g off, A = some ⟨g, off, none⟩ ∧ g < B ∧ ∀ j, j < n → ∃ b : Nat, b ≤ 255 ∧ w.cell? ⟨g, off + j, none⟩ = some (.int .u8 b)
theorem BytesAt.below {w w' : World} {B C : Nat} {A : Option Addr} {n : Nat} (h : BytesAt w B A n) (hb : Below C w w') (hC : B ≤ C) : BytesAt w' B A n := fun hn => by
  obtain ⟨g, off, e, hg, hc⟩ := h hn
  exact ⟨g, off, e, hg, fun j hj => by
    obtain ⟨b, hb1, hb2⟩ := hc j hj
    exact ⟨b, hb1, (hb.cell (p := ⟨g, off + j, none⟩) (by show g < C; omega)).trans hb2⟩⟩
theorem BytesAt.more {w : World} {B C : Nat} {A : Option Addr} {n : Nat} (h : BytesAt w B A n) (hC : B ≤ C) : BytesAt w C A n := fun hn => by
  obtain ⟨g, off, e, hg, hc⟩ := h hn
  exact ⟨g, off, e, by omega, hc⟩
def ArgB (w : World) (v : Value) : Prop := ∃ A n c, v = .slice A n c ∧ n ≤ maxLen ∧ BytesAt w w.heap.size A n
theorem argB {H : Type} {enc : TypeId × Value → H} {P : Program} {w : World} {base : Nat} {spare : Nat → Bool} {held : Bool} {r : Reach} {t e : TypeId} {v : Value} {d : DataW H} {ps : List MemPlace} {b0 : Nat}
    (ht : P.underlying t = some (.slice e)) (he : P.underlying e = some (.int .u8)) (hc : P.cellsOf e = 1)
    (hv : Value.okWide P w r b0 t v) (h : DataW.Trod enc P w base spare held t v d ps) : ArgB w v := by
  obtain ⟨a, len, cap, rfl⟩ := okWide_slice ht hv
  obtain ⟨fuel, hf⟩ := h
  rcases open_ints ht he hc hf with ⟨hcs, _⟩ | ⟨x, l, c, zs, hcs, _, hl, hm, hz, _, hcell, hwz⟩
  · simp [Value.cells] at hcs
    obtain ⟨rfl, rfl, rfl⟩ := hcs
    exact ⟨none, 0, 0, rfl, by simp, fun h => absurd h (by omega)⟩
  · simp [Value.cells] at hcs
    obtain ⟨rfl, rfl, rfl⟩ := hcs
    have hlz : len ≤ zs.length := by rw [hz]; split <;> omega
    refine ⟨some x, len, cap, rfl, by omega, fun hn => ?_⟩
    obtain ⟨g, off, spot⟩ := x
    have h0 := hcell 0 (by omega)
    have hspot : spot = none := by simpa [Addr.add] using World.cell?_spot h0
    subst hspot
    refine ⟨g, off, rfl, ?_, fun j hj => ?_⟩
    · have := World.block_lt_of_cell? w _ h0
      simpa [Addr.add] using this
    · have hjz : j < zs.length := by omega
      have hw := hwz (zs.getD j 0) (by rw [List.getD_eq_getElem?_getD, List.getElem?_eq_getElem hjz]; simp)
      have hb := wfu8 hw
      obtain ⟨b, hbb⟩ : ∃ b : Nat, zs.getD j 0 = (b : Int) := ⟨(zs.getD j 0).toNat, by omega⟩
      rw [hbb] at hb
      have hc2 := hcell j hjz
      rw [hbb] at hc2
      have e : (⟨g, off, none⟩ : Addr).add j = ⟨g, off + j, none⟩ := by simp [Addr.add]
      rw [e] at hc2
      exact ⟨b, by omega, hc2⟩
end Go.Proofs.Ytfnncclplbbghaa

