/-
  PointsOf, as the law asks it.
-/
import Derived.Test.YtdmmiboefdbcdaaDoorPts
import Derived.Test.YtdmmiboefdbcdaaDoorMark
namespace Go.Proofs.YtdmmiboefdbcdaaDoor
open Go.RowKit
set_option linter.unusedVariables false
set_option linter.unusedSimpArgs false
set_option linter.unnecessarySimpa false

def ptsO (s : ByteArray) : Option (List Int) := if s.size ≤ 24 then ptsQ (byt s) else none
def ptsL (s : ByteArray) : List Int := (ptsO s).getD []
def ptsB (s : ByteArray) : Bool := (ptsO s).isSome
theorem ptsL_len (s : ByteArray) : (ptsL s).length ≤ 24 := by
  cases h : ptsO s with
  | none => simp [ptsL, h]
  | some xs =>
    have e : ptsL s = xs := by simp [ptsL, h]
    rw [e]
    rw [ptsO] at h
    split at h
    · have := enc_le (ptsQ_iff.1 h).2
      rw [byt_length] at this
      omega
    · cases h
theorem szL_int1 : ∀ xs : List Int, PD.szL (xs.flatMap intC) = 0
  | [] => by simp [PD.szL]
  | x :: xs => by rw [List.flatMap_cons, szL_append, szL_int1 xs, intC, PD.szL, PD.szL, PD.sz]; intro s h; cases h
theorem ints_cnt_small {xs : List Int} (h : xs.length ≤ 24) : (PD.row 1 (xs.flatMap intC)).cnt ≤ 1099511627775 := by
  have h1 := PD.cnt_row_le 1 (xs.flatMap intC) (row_fit (ts := xs) intC_length (by decide) (by decide) (fun t _ => intC_fit t))
  rw [sz_row intC_length (by decide), szL_int1] at h1
  omega
theorem ptsL_cnt (s : ByteArray) : (PD.row 1 ((ptsL s).flatMap intC)).cnt ≤ 1099511627775 := ints_cnt_small (ptsL_len s)
theorem lv_nil {w : World} {lo sz : Nat} (h : lo ≤ w.heap.size) : Lv w lo w.heap.size (.row sz []) (.slice none 0 0) := ⟨[], by rw [Hold]; exact ⟨none, 0, 0, rfl, by simp, Nat.le_refl _, by decide, .inl ⟨rfl, rfl⟩⟩, In.nil _ _, Nat.le_refl _⟩
theorem ptsR_lv {w w' : World} {s : ByteArray} {e : Ending} (h : PtsR w w' (ptsO s) e) (hb : Below w.heap.size w w') : ∃ u, e = .returned (.tuple #[u, .bool (ptsB s)]) ∧ Lv w' w.heap.size w'.heap.size (.row 1 ((ptsL s).flatMap intC)) u ∧ Below w.heap.size w w' := by
  unfold ptsB ptsL
  cases ho : ptsO s with
  | none => rw [ho] at h; exact ⟨_, h, lv_nil hb.size, hb⟩
  | some xs =>
    rw [ho] at h
    obtain ⟨u, n, he, hr⟩ := h
    exact ⟨u, he, lv_ints hr, hb⟩
theorem specPointsOf_ok (s : ByteArray) (hs : s.size ≤ 1048576) : ∀ B w, B ≤ w.heap.size → TabW w → Calls Tryd.prog 8 #[.string s] w fun e w' => ∃ u, e = .returned (.tuple #[u, .bool (ptsB s)]) ∧ Lv w' w.heap.size w'.heap.size (.row 1 ((ptsL s).flatMap intC)) u ∧ Below w.heap.size w w' :=
  fun B w _ _ => (specPointsOf_any s (by unfold maxLen; omega) w).mono fun e w' h => ptsR_lv h.1 h.2
theorem implPointsOf_ok (s : ByteArray) (hs : s.size ≤ 1048576) : ∀ B w, B ≤ w.heap.size → TabW w → Calls Tryd.prog 9 #[.string s] w fun e w' => ∃ u, e = .returned (.tuple #[u, .bool (ptsB s)]) ∧ Lv w' w.heap.size w'.heap.size (.row 1 ((ptsL s).flatMap intC)) u ∧ Below w.heap.size w w' :=
  fun B w _ hT => (implPointsOf_any s (by unfold maxLen; omega) w hT).mono fun e w' h => ptsR_lv h.1 h.2
end Go.Proofs.YtdmmiboefdbcdaaDoor

