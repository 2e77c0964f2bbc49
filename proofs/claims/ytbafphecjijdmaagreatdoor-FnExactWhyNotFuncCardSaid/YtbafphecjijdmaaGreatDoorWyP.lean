/-
  Why one type cannot stand for another: plain. No program in sight.
-/
import Derived.Test.YtbafphecjijdmaaGreatDoorTyMath
import Derived.Test.YtbafphecjijdmaaGreatDoorIdx
import Derived.Test.YtbafphecjijdmaaGreatDoorCmp
import Derived.Test.YtbafphecjijdmaaGreatDoorSameTy
import Derived.Test.YtbafphecjijdmaaGreatDoorDcm
namespace Go.Proofs.YtbafphecjijdmaaGreatDoor
set_option linter.unusedVariables false
set_option linter.unusedSimpArgs false
set_option linter.unnecessarySimpa false

abbrev Why := Option (Int × ByteArray)
def whyN : Why → Int | none => 0 | some r => r.1
def whyS : Why → ByteArray | none => ⟨#[]⟩ | some r => r.2
def whyB : Why → Bool | none => false | some _ => true
theorem why_none {r : Why} (h : whyB r = false) : r = none := by cases r with | none => rfl | some r => cases h
theorem why_some {r : Why} (h : whyB r = true) : r = some (whyN r, whyS r) := by cases r with | none => cases h | some r => rfl
/-- the first reason among n -/
def firstW (f : Nat → Why) : Nat → Why
  | 0 => none
  | k + 1 => match firstW f k with
    | some r => some r
    | none => f k
theorem firstW_next {f : Nat → Why} {k : Nat} (h : firstW f k = none) (hk : f k = none) : firstW f (k + 1) = none := by rw [firstW, h]; exact hk
theorem firstW_hit {f : Nat → Why} {k : Nat} {r : Int × ByteArray} (h : firstW f k = none) (hk : f k = some r) : ∀ n, k < n → firstW f n = some r
  | 0, hn => absurd hn (by omega)
  | n + 1, hn => by
    by_cases e : k = n
    · subst e; rw [firstW, h]; exact hk
    · rw [firstW, firstW_hit h hk n (by omega)]
theorem firstW_eq {f g : Nat → Why} : ∀ {n : Nat}, (∀ k, k < n → f k = g k) → firstW f n = firstW g n
  | 0, _ => rfl
  | n + 1, h => by rw [firstW, firstW, firstW_eq fun k hk => h k (by omega), h n (by omega)]
/-- the range of a kind of numbers -/
def numLo (k : Int) : Int := if k = 4 then -128 else if k = 6 then -32768 else if k = 8 then -2147483648 else if k = 9 then -9223372036854775808 else 0
def numHi (k : Int) : Int := if k = 3 then 255 else if k = 4 then 127 else if k = 5 then 65535 else if k = 6 then 32767 else if k = 7 then 4294967295 else if k = 8 then 2147483647 else if k = 9 then 9223372036854775807 else 0
def isNum (k : Int) : Bool := inB k 3 9
theorem numLo_no {k : Int} (h : isNum k = false) : numLo k = 0 := by rw [isNum, inB_no] at h; rw [numLo, if_neg (by omega), if_neg (by omega), if_neg (by omega), if_neg (by omega)]
theorem numHi_no {k : Int} (h : isNum k = false) : numHi k = 0 := by rw [isNum, inB_no] at h; rw [numHi, if_neg (by omega), if_neg (by omega), if_neg (by omega), if_neg (by omega), if_neg (by omega), if_neg (by omega), if_neg (by omega)]
def dotS : ByteArray := ⟨#[46]⟩
def dotL (at_ l : ByteArray) : ByteArray := (at_ ++ dotS) ++ l
/-- the labels of one type among those of another -/
def labF (rec : Ty → Ty → ByteArray → Why) (kind : Int) (at_ : ByteArray) (xl : List ByteArray) (xk : List Ty) (yl : List ByteArray) (yk : List Ty) (k : Nat) : Why :=
  match xl[k]? with
  | none => none
  | some l => if idxP (strEq l) yl < 0 then some (kind, dotL at_ l) else if xk.length = 0 then none else
    match xk[k]?, yk[(idxP (strEq l) yl).toNat]? with
    | some x, some y => rec x y (dotL at_ l)
    | _, _ => none
def labW (rec : Ty → Ty → ByteArray → Why) (kind : Int) (at_ : ByteArray) (xl : List ByteArray) (xk : List Ty) (yl : List ByteArray) (yk : List Ty) : Why :=
  firstW (labF rec kind at_ xl xk yl yk) xl.length
/-- kid against kid -/
def kidF (rec : Ty → Ty → ByteArray → Why) (at_ : ByteArray) (xk yk : List Ty) (k : Nat) : Why :=
  match xk[k]?, yk[k]? with
  | some x, some y => rec x y (dotL at_ (itoaB k))
  | _, _ => none
def kid0 (rec : Ty → Ty → ByteArray → Why) (at_ : ByteArray) (xk yk : List Ty) (k : Nat) : Why :=
  match xk[k]?, yk[k]? with
  | some x, some y => rec x y at_
  | _, _ => none
def whyK (rec : Ty → Ty → ByteArray → Why) (kind : Int) (an : ByteArray) (al : List ByteArray) (ak : List Ty) (bn : ByteArray) (bl : List ByteArray) (bk : List Ty) (at_ : ByteArray) : Why :=
  if kind = 12 then kid0 rec (at_ ++ ⟨#[91, 93]⟩) ak bk 0
  else if kind = 13 then kid0 rec (at_ ++ ⟨#[63]⟩) ak bk 0
  else if kind = 14 then
    match kid0 rec (at_ ++ ⟨#[46, 111, 107]⟩) ak bk 0 with
    | some r => some r
    | none => kid0 rec (at_ ++ ⟨#[46, 101, 114, 114]⟩) ak bk 1
  else if kind = 15 then
    if ak.length = bk.length then firstW (kidF rec at_ ak bk) ak.length else some (3, at_)
  else if kind = 16 then labW (fun x y => rec y x) 4 at_ bl bk al ak
  else if kind = 17 ∨ kind = 18 ∨ kind = 19 then labW rec 5 at_ al ak bl bk
  else if kind = 20 ∨ kind = 21 then (if an = bn then none else some (6, at_))
  else if kind = 22 ∨ kind = 23 then
    match ak[0]?, bk[0]? with
    | some x, some y => if tyEq 100 x y then none else some (3, at_)
    | _, _ => none
  else none
def whyT : Nat → Ty → Ty → ByteArray → Why
  | 0, _, _, _ => none
  | n + 1, ⟨ak, an, al, aks⟩, ⟨bk, bn, bl, bks⟩, at_ =>
    if isNum ak && isNum bk then (if numLo bk ≤ numLo ak ∧ numHi ak ≤ numHi bk then none else some (2, at_))
    else if ak = bk then whyK (whyT n) ak an al aks bn bl bks at_ else some (1, at_)

theorem idx_get {ls : List ByteArray} {t : ByteArray} (h : 0 ≤ idxP (strEq t) ls) : ∃ j : Nat, idxP (strEq t) ls = (j : Int) ∧ j < ls.length := by
  refine ⟨(idxP (strEq t) ls).toNat, by omega, ?_⟩
  have h2 : ∀ (xs : List ByteArray), idxP (strEq t) xs < (xs.length : Int) := by
    intro xs
    induction xs with
    | nil => simp [idxP]
    | cons x r ih =>
      rw [idxP]
      split
      · simp
      · dsimp only
        split <;> simp <;> omega
  have := h2 ls
  omega
/-! ### one step of the labels -/
section
variable {rec : Ty → Ty → ByteArray → Why} {kind : Int} {at_ : ByteArray} {xl : List ByteArray} {xk : List Ty} {yl : List ByteArray} {yk : List Ty} {k j : Nat} {l : ByteArray} {x y : Ty}
theorem labF_lack (hl : xl[k]? = some l) (h : idxP (strEq l) yl < 0) : labF rec kind at_ xl xk yl yk k = some (kind, dotL at_ l) := by simp only [labF, hl]; rw [if_pos h]
theorem labF_bare (hl : xl[k]? = some l) (h : ¬ idxP (strEq l) yl < 0) (hk : xk.length = 0) : labF rec kind at_ xl xk yl yk k = none := by simp only [labF, hl]; rw [if_neg h, if_pos hk]
theorem labF_rec (hl : xl[k]? = some l) (h : idxP (strEq l) yl = (j : Int)) (hk : xk[k]? = some x) (hy : yk[j]? = some y) : labF rec kind at_ xl xk yl yk k = rec x y (dotL at_ l) := by
  have hne : ¬ xk.length = 0 := fun e => by rw [List.length_eq_zero_iff.1 e] at hk; cases hk
  simp only [labF, hl, h, Int.toNat_natCast]
  rw [if_neg (by omega), if_neg hne]
  simp only [hk, hy]
theorem kidF_at (hk : xk[k]? = some x) (hy : yk[k]? = some y) : kidF rec at_ xk yk k = rec x y (dotL at_ (itoaB k)) := by simp only [kidF, hk, hy]
theorem kid0_at (hk : xk[k]? = some x) (hy : yk[k]? = some y) : kid0 rec at_ xk yk k = rec x y at_ := by simp only [kid0, hk, hy]
end
/-! ### what a right type's fields say -/
theorem labels_small {ls : List ByteArray} (h : labelsOk ls = true) : ls.length ≤ 16 ∧ ∀ l ∈ ls, l.size ≤ 12 := by
  simp only [labelsOk, Bool.and_eq_true, inB_iff, List.all_eq_true] at h
  exact ⟨by omega, fun l hl => (nameOk_size (h.1.2 l hl)).2⟩
structure ShF (kind : Int) (labels : List ByteArray) (kids : List Ty) : Prop where
  all : ∀ t ∈ kids, t.shapes = true
  right : kidsRight kind labels.length kids = true
  labs : inB kind 16 19 = true → labels.length ≤ 16 ∧ ∀ l ∈ labels, l.size ≤ 12
theorem shF {kind : Int} {name : ByteArray} {labels : List ByteArray} {kids : List Ty} (h : Ty.shapes ⟨kind, name, labels, kids⟩ = true) : ShF kind labels kids := by
  rw [Ty.shapes, Bool.and_eq_true, shapesL_eq, List.all_eq_true] at h
  obtain ⟨h1, h2⟩ := h
  have h1' : ((if named kind then nameOk name else decide (name.size = 0)) && (if inB kind 16 19 then labelsOk labels else decide (labels.length = 0)) && kidsRight kind labels.length kids) = true := h1
  simp only [Bool.and_eq_true] at h1'
  refine ⟨h2, h1'.2, fun hk => ?_⟩
  have := h1'.1.2
  rw [if_pos hk] at this
  exact labels_small this
theorem kids_one {kind : Int} {n : Nat} {kids : List Ty} (hk : kind = 12 ∨ kind = 13 ∨ kind = 22 ∨ kind = 23) (h : kidsRight kind n kids = true) : kids.length = 1 := by
  rcases hk with rfl | rfl | rfl | rfl <;> simp [kidsRight] at h <;> exact h.1
theorem kids_two {n : Nat} {kids : List Ty} (h : kidsRight 14 n kids = true) : kids.length = 2 := by simpa [kidsRight] using h
theorem kids_six {n : Nat} {kids : List Ty} (h : kidsRight 15 n kids = true) : kids.length ≤ 6 := by
  simp [kidsRight, inB] at h
  omega
theorem kids_lab {kind : Int} {n : Nat} {kids : List Ty} (hk : kind = 16 ∨ kind = 17) (h : kidsRight kind n kids = true) : kids.length = n := by
  rcases hk with rfl | rfl <;> simp [kidsRight] at h
  · exact h.1
  · exact h
theorem kids_zero {kind : Int} {n : Nat} {kids : List Ty} (hk : kind = 18 ∨ kind = 19) (h : kidsRight kind n kids = true) : kids.length = 0 := by
  rcases hk with rfl | rfl <;> simp [kidsRight] at h <;> simp [h.2]
theorem in_lab {kind : Int} (h : kind = 18 ∨ kind = 19) : inB kind 16 19 = true := by rcases h with rfl | rfl <;> rfl
theorem height_kid {kind : Int} {name : ByteArray} {labels : List ByteArray} {kids : List Ty} {n : Nat} (h : (Ty.mk kind name labels kids).height ≤ n + 1) : ∀ t ∈ kids, t.height ≤ n := fun t ht => by
  have := height_mem ht
  rw [Ty.height] at h
  omega
theorem get_of_len {α : Type} {l : List α} {k : Nat} (h : k < l.length) : ∃ x, l[k]? = some x ∧ x ∈ l := ⟨l[k], List.getElem?_eq_getElem h, List.getElem_mem _⟩
theorem whyT_num {n : Nat} {ak : Int} {an : ByteArray} {al : List ByteArray} {aks : List Ty} {bk : Int} {bn : ByteArray} {bl : List ByteArray} {bks : List Ty} {at_ : ByteArray} (h1 : isNum ak = true) (h2 : isNum bk = true) :
    whyT (n + 1) ⟨ak, an, al, aks⟩ ⟨bk, bn, bl, bks⟩ at_ = if numLo bk ≤ numLo ak ∧ numHi ak ≤ numHi bk then none else some (2, at_) := by rw [whyT, h1, h2]; exact if_pos rfl
theorem whyT_kind {n : Nat} {ak : Int} {an : ByteArray} {al : List ByteArray} {aks : List Ty} {bk : Int} {bn : ByteArray} {bl : List ByteArray} {bks : List Ty} {at_ : ByteArray} (h : (isNum ak && isNum bk) = false) (hk : ¬ ak = bk) :
    whyT (n + 1) ⟨ak, an, al, aks⟩ ⟨bk, bn, bl, bks⟩ at_ = some (1, at_) := by rw [whyT, h, if_neg (by decide), if_neg hk]
theorem whyT_same {n : Nat} {ak : Int} {an : ByteArray} {al : List ByteArray} {aks : List Ty} {bn : ByteArray} {bl : List ByteArray} {bks : List Ty} {at_ : ByteArray} (h : isNum ak = false) :
    whyT (n + 1) ⟨ak, an, al, aks⟩ ⟨ak, bn, bl, bks⟩ at_ = whyK (whyT n) ak an al aks bn bl bks at_ := by rw [whyT, h, Bool.false_and, if_neg (by decide), if_pos rfl]
end Go.Proofs.YtbafphecjijdmaaGreatDoor

