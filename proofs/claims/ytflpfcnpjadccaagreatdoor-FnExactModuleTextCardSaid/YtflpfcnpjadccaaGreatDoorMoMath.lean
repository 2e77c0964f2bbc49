/-
  What it means that a module is well-formed, in plain Lean.
-/
import Derived.Test.YtflpfcnpjadccaaGreatDoorTy
import Derived.Test.YtflpfcnpjadccaaGreatDoorIdx
import Derived.Test.YtflpfcnpjadccaaGreatDoorIns
import Derived.Test.YtflpfcnpjadccaaGreatDoorWord
namespace Go.Proofs.YtflpfcnpjadccaaGreatDoor
open Go.RowKit
set_option linter.unusedVariables false
set_option linter.unusedSimpArgs false
set_option linter.unnecessarySimpa false

def insB (i : Ins) : Bool := insOk i.op i.a
def coreB (c : Core) : Bool := inB c.params 0 8 && (inB c.locals 0 8 && (decide (c.code.length ≤ 120) && !c.code.any fun i => !insB i))
def namesB (ns : List ByteArray) : Bool := decide ns.Nodup && !ns.any fun n => !wordOk n
def impB (x : Imp) : Bool := inB x.params 0 8
def modB (m : Mod) : Bool := inB m.pages 1 16 && (decide (m.imports.length ≤ 12) && (decide (m.cores.length ≤ 8) && (!m.imports.any (fun x => !impB x) && (!m.cores.any (fun c => !coreB c) && (namesB (m.imports.map Imp.name) && namesB (m.cores.map Core.name))))))
/-- one part as the reference asks it -/
def partAt {α : Type} (ok : α → Bool) (name : α → ByteArray) (xs : List α) (k : Nat) : Bool := match xs[k]? with
  | none => true
  | some x => wordOk (name x) && (ok x && decide (idxP (fun y => decide (name y = name x)) (xs.take k) < 0))
theorem idx_neg {α : Type} (p : α → Bool) (xs : List α) : decide (idxP p xs < 0) = !xs.any p := by
  have h1 := idxP_any p xs
  have h2 := idxP_lo p xs
  cases h : xs.any p
  · rw [h] at h1
    simp at h1 ⊢
    omega
  · rw [h] at h1
    simp at h1 ⊢
    omega
theorem parts_ok {α : Type} {ok : α → Bool} {name : α → ByteArray} {xs : List α} (h : ∀ k, k < xs.length → partAt ok name xs k = true) : (xs.any fun x => !ok x) = false ∧ namesB (xs.map name) = true := by
  have hk : ∀ (k : Nat) (hk : k < xs.length), wordOk (name xs[k]) = true ∧ ok xs[k] = true ∧ ∀ (j : Nat) (hj : j < k), name (xs[j]'(by omega)) ≠ name xs[k] := fun k hk => by
    have h1 := h k hk
    rw [partAt, List.getElem?_eq_getElem hk] at h1
    simp only [Bool.and_eq_true] at h1
    obtain ⟨h2, h3, h4⟩ := h1
    refine ⟨h2, h3, fun j hj e => ?_⟩
    rw [idx_neg, Bool.not_eq_true', List.any_eq_false] at h4
    refine h4 (xs[j]'(by omega)) (List.mem_take_iff_getElem.2 ⟨j, by omega, rfl⟩) ?_
    simpa using e
  refine ⟨List.any_eq_false.2 fun x hx => ?_, ?_⟩
  · obtain ⟨k, hk', rfl⟩ := List.getElem_of_mem hx
    simp [(hk k hk').2.1]
  · rw [namesB, Bool.and_eq_true]
    refine ⟨decide_eq_true (List.pairwise_iff_getElem.2 fun i j hi hj hij => ?_), ?_⟩
    · rw [List.getElem_map, List.getElem_map]
      exact (hk j (by simpa using hj)).2.2 i hij
    · rw [Bool.not_eq_true', List.any_eq_false]
      intro n hn
      obtain ⟨x, hx, rfl⟩ := List.mem_map.1 hn
      obtain ⟨k, hk', rfl⟩ := List.getElem_of_mem hx
      simp [(hk k hk').1]
theorem parts_bad {α : Type} {ok : α → Bool} {name : α → ByteArray} {xs : List α} {k : Nat} (h : partAt ok name xs k = false) : (xs.any fun x => !ok x) = true ∨ namesB (xs.map name) = false := by
  rw [partAt] at h
  cases hx : xs[k]? with
  | none => rw [hx] at h; simp at h
  | some x =>
    rw [hx] at h
    simp only at h
    obtain ⟨hk, hxe⟩ := List.getElem?_eq_some_iff.1 hx
    have hmem : x ∈ xs := List.mem_of_getElem? hx
    cases h1 : wordOk (name x)
    · right
      rw [namesB]
      have : ((xs.map name).any fun n => !wordOk n) = true := List.any_eq_true.2 ⟨name x, List.mem_map.2 ⟨x, hmem, rfl⟩, by simp [h1]⟩
      rw [this]
      simp
    cases h2 : ok x
    · left
      exact List.any_eq_true.2 ⟨x, hmem, by simp [h2]⟩
    rw [h1, h2, idx_neg] at h
    simp only [Bool.true_and, Bool.not_eq_false'] at h
    obtain ⟨y, hy, he⟩ := List.any_eq_true.1 h
    obtain ⟨j, hj, hje⟩ := List.mem_take_iff_getElem.1 hy
    right
    rw [namesB]
    have : ¬ (xs.map name).Nodup := fun hn => by
      have := List.pairwise_iff_getElem.1 hn j k (by simp; omega) (by simpa using hk) (by omega)
      rw [List.getElem_map, List.getElem_map, hje, hxe] at this
      exact this (by simpa using he)
    rw [decide_eq_false this, Bool.false_and]
theorem part_next {α : Type} {ok : α → Bool} {name : α → ByteArray} {xs : List α} {k : Nat} (hp : ∀ j, j < k → partAt ok name xs j = true) (h : partAt ok name xs k = true) : ∀ j, j < k + 1 → partAt ok name xs j = true := fun j hj => by
  by_cases e : j = k
  · subst e; exact h
  · exact hp j (by omega)
theorem part_at {α : Type} {ok : α → Bool} {name : α → ByteArray} {xs : List α} {k : Nat} {x : α} (hx : xs[k]? = some x) : partAt ok name xs k = (wordOk (name x) && (ok x && decide (idxP (fun y => decide (name y = name x)) (xs.take k) < 0))) := by rw [partAt, hx]

/-! ### the first elements of a row -/
theorem rep_take {α : Type} {f : α → List PD} {sz : Nat} {w : World} {B : Nat} {ts : List α} {A : Option Addr} {n c : Nat} (hf : ∀ t, (f t).length = sz) (hsz : 0 < sz) (h : Rep w B (.row sz (ts.flatMap f)) (.slice A n c)) {k : Nat} (hk : k ≤ n) : Rep w B (.row sz ((ts.take k).flatMap f)) (.slice A k c) := by
  have h0 := h
  rw [Rep] at h0 ⊢
  obtain ⟨A', n', c', e, hl, hm, hx⟩ := h0
  cases e
  rw [flatMap_length hf] at hl
  have hln : ts.length = n := Nat.eq_of_mul_eq_mul_right hsz hl
  refine ⟨A, k, c, rfl, by rw [flatMap_length hf, List.length_take]; congr 1; omega, by omega, fun h1 => ?_⟩
  obtain ⟨g, off, hA, hg, hr⟩ := hx (by omega)
  refine ⟨g, off, hA, hg, repL_iff.2 fun j x hj => repL_iff.1 hr j x ?_⟩
  have hsplit : ts.flatMap f = (ts.take k).flatMap f ++ (ts.drop k).flatMap f := by rw [← List.flatMap_append, List.take_append_drop]
  rw [hsplit, List.getElem?_append_left (List.getElem?_eq_some_iff.1 hj).1]
  exact hj
end Go.Proofs.YtflpfcnpjadccaaGreatDoor

