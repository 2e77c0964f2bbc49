/-
  The bytes of a string, as numbers. No program in sight.
-/
import Derived.Test.YtdnadmncbicpdaaDoorBase
import Derived.Laws.BytesArg
import Derived.Lib.RabinKarpLaws
namespace Go.Proofs.YtdnadmncbicpdaaDoor
open Go.RowKit
set_option linter.unusedVariables false
set_option linter.unusedSimpArgs false
set_option linter.unnecessarySimpa false

/-- the bytes of a string, as numbers -/
def byt (s : ByteArray) : List Int := s.data.toList.map fun b => (b.toNat : Int)
@[simp] theorem byt_length (s : ByteArray) : (byt s).length = s.size := by simp [byt]
theorem byt_get {s : ByteArray} {k : Nat} (h : k < s.size) : (byt s)[k]? = some ((s[k].toNat : Nat) : Int) := by
  rw [byt, List.getElem?_map, Go.Proofs.byte_at s k h]; rfl
theorem byt_mem {s : ByteArray} {x : Int} (h : x ∈ byt s) : 0 ≤ x ∧ x ≤ 255 := by
  simp only [byt, List.mem_map] at h
  obtain ⟨b, _, rfl⟩ := h
  have := b.toNat_lt
  omega
theorem strOfNums_byt (s : ByteArray) : strOfNums (byt s) = s := by
  apply ByteArray.ext
  simp only [strOfNums, byt, List.map_map]
  have : ((fun n : Int => UInt8.ofNat n.toNat) ∘ fun b : UInt8 => (b.toNat : Int)) = id := by
    funext b
    simp
  rw [this]
  simp
theorem byt_strOfNums {l : List Int} (h : ∀ x ∈ l, 0 ≤ x ∧ x ≤ 255) : byt (strOfNums l) = l := by
  induction l with
  | nil => rfl
  | cons x l ih =>
    have h1 := h x (by simp)
    have ih := ih fun y hy => h y (by simp [hy])
    simp only [byt, strOfNums, List.map_cons, List.map_map] at ih ⊢
    rw [ih]
    congr 1
    simp
    omega
theorem byt_inj {s t : ByteArray} (h : byt s = byt t) : s = t := by rw [← strOfNums_byt s, ← strOfNums_byt t, h]
theorem byt_extract (s : ByteArray) (m : Nat) : byt (s.extract 0 m) = (byt s).take m := by
  simp [byt, List.map_take]
theorem str_take {s : ByteArray} {l : List Int} {m : Nat} (hl : ∀ x ∈ l, 0 ≤ x ∧ x ≤ 255) : strOfNums l = s.extract 0 m ↔ l = (byt s).take m := by
  constructor
  · intro h
    rw [← byt_extract, ← h, byt_strOfNums hl]
  · intro h
    rw [h, ← byt_extract, strOfNums_byt]

theorem byt_slice (s : ByteArray) (a b : Nat) : byt (s.extract a b) = ((byt s).take b).drop a := by
  simp only [byt, ByteArray.data_extract, Array.toList_extract, List.extract_eq_take_drop, List.map_drop, List.map_take]
  rw [List.drop_take]
theorem byt_drop (s : ByteArray) (a : Nat) : byt (s.extract a s.size) = (byt s).drop a := by
  rw [byt_slice, List.take_of_length_le (by simp)]
theorem byt_app (s t : ByteArray) : byt (s ++ t) = byt s ++ byt t := by simp [byt]
theorem strNums_cat (a b : List Int) : strOfNums a ++ strOfNums b = strOfNums (a ++ b) := by
  simp [strOfNums, ByteArray.ext_iff]
theorem byt_nil : byt ⟨#[]⟩ = [] := rfl
end Go.Proofs.YtdnadmncbicpdaaDoor

