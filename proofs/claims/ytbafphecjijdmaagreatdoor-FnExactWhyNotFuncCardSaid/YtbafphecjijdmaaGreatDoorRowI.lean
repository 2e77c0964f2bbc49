/-
  Rows of whole numbers that a call owns, as readings.
-/
import Derived.Test.YtbafphecjijdmaaGreatDoorLaw
import Derived.Test.YtbafphecjijdmaaGreatDoorFam
namespace Go.Proofs.YtbafphecjijdmaaGreatDoor
open Go.RowKit
set_option linter.unusedVariables false
set_option linter.unusedSimpArgs false
set_option linter.unnecessarySimpa false

theorem owns_step {w w' : World} {base sz n : Nat} {e : TypeId} {v : Value} {xs : List Value} (h : w.ownsRow base e sz v n xs) (hb : Below w.heap.size w w') : w'.ownsRow base e sz v n xs := by
  obtain ⟨h1, h2⟩ := h
  refine ⟨h1, ?_⟩
  rcases h2 with h2 | ⟨g, cap, cur, hv, hbb, hh, hr⟩
  · exact .inl h2
  · exact .inr ⟨g, cap, cur, hv, hbb, by rw [hb.block g (Array.getElem?_eq_some_iff.1 hh).1]; exact hh, hr⟩
theorem holdL_ints (w : World) : ∀ xs : List Int, HoldL w (xs.flatMap intC) (i64s xs) []
  | [] => by simp only [List.flatMap_nil, i64s, List.map_nil]; rw [HoldL]; exact ⟨rfl, rfl⟩
  | x :: xs => by
    rw [List.flatMap_cons, intC, List.singleton_append, HoldL]
    exact ⟨_, _, [], [], rfl, rfl, by rw [Hold]; exact ⟨rfl, rfl⟩, holdL_ints w xs⟩
theorem intS_length : ∀ xs : List Int, (xs.flatMap intC).length = xs.length
  | [] => rfl
  | x :: xs => by rw [List.flatMap_cons, List.length_append, intS_length xs, intC, List.length_singleton, List.length_cons]; omega
theorem lv_ints {w : World} {base n : Nat} {e : TypeId} {v : Value} {xs : List Int} (h : w.ownsRow base e 1 v n (i64s xs)) : Lv w base w.heap.size (.row 1 (xs.flatMap intC)) v := by
  obtain ⟨A, n', c, rfl, hl, hnc, hcm, hg⟩ := Own.of_own h
  have hlen : (xs.flatMap intC).length = n' * 1 := by
    rw [← hl]
    rw [intS_length]
    simp [i64s]
  by_cases h0 : 0 < n'
  · obtain ⟨g, off, rfl, h1, h2, ho⟩ := hg h0
    exact ⟨[g], by rw [Hold]; exact ⟨_, n', c, rfl, hlen, hnc, hcm, .inr ⟨h0, g, off, [], _, rfl, rfl, ho, holdL_ints w xs⟩⟩, ⟨by simp, fun b hb => by rw [List.mem_singleton.1 hb]; exact ⟨h1, h2⟩⟩, Nat.le_refl _⟩
  · exact ⟨[], by rw [Hold]; exact ⟨_, n', c, rfl, hlen, hnc, hcm, .inl ⟨by omega, rfl⟩⟩, In.nil _ _, Nat.le_refl _⟩
theorem info_i64 : (Tryz.prog.info? 2).map (fun i => (i.zero, i.size, i.bytes)) = some (some (.int .i64 0), 1, 8) := by kernel_rfl
/-- numbers as a row's words -/
def natI (ns : List Nat) : List Int := ns.map Int.ofNat
theorem natI_append (a b : List Nat) : natI (a ++ b) = natI a ++ natI b := List.map_append
end Go.Proofs.YtbafphecjijdmaaGreatDoor
