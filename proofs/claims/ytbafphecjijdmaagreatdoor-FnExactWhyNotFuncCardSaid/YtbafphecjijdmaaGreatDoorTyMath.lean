/-
  Types as data: what it means that one is right. No program in sight.
-/
import Derived.Test.YtbafphecjijdmaaGreatDoorTy
namespace Go.Proofs.YtbafphecjijdmaaGreatDoor
set_option linter.unusedVariables false
set_option linter.unusedSimpArgs false
set_option linter.unnecessarySimpa false

def Ty.kind : Ty → Int | .mk k _ _ _ => k
def Ty.name : Ty → ByteArray | .mk _ n _ _ => n
def Ty.labels : Ty → List ByteArray | .mk _ _ l _ => l
def Ty.kids : Ty → List Ty | .mk _ _ _ k => k
mutual
def Ty.has (lo hi : Int) : Ty → Bool
  | .mk kind _ _ kids => inB kind lo hi || Ty.hasL lo hi kids
def Ty.hasL (lo hi : Int) : List Ty → Bool
  | [] => false
  | t :: r => t.has lo hi || Ty.hasL lo hi r
end
theorem hasL_eq (lo hi : Int) : ∀ ts : List Ty, Ty.hasL lo hi ts = ts.any (Ty.has lo hi)
  | [] => rfl
  | t :: r => by rw [Ty.hasL, hasL_eq lo hi r, List.any_cons]
mutual
def Ty.height : Ty → Nat
  | .mk _ _ _ kids => Ty.heightL kids + 1
def Ty.heightL : List Ty → Nat
  | [] => 0
  | t :: r => max t.height (Ty.heightL r)
end
mutual
def Ty.parts : Ty → Nat
  | .mk _ _ _ kids => Ty.partsL kids + 1
def Ty.partsL : List Ty → Nat
  | [] => 0
  | t :: r => t.parts + Ty.partsL r
end
theorem height_pos (t : Ty) : 1 ≤ t.height := by cases t; rw [Ty.height]; omega
theorem parts_pos (t : Ty) : 1 ≤ t.parts := by cases t; rw [Ty.parts]; omega
theorem heightL_append : ∀ (xs ys : List Ty), Ty.heightL (xs ++ ys) = max (Ty.heightL xs) (Ty.heightL ys)
  | [], ys => by simp [Ty.heightL]
  | x :: xs, ys => by simp [Ty.heightL, heightL_append xs ys, Nat.max_assoc]
theorem partsL_append : ∀ (xs ys : List Ty), Ty.partsL (xs ++ ys) = Ty.partsL xs + Ty.partsL ys
  | [], ys => by simp [Ty.partsL]
  | x :: xs, ys => by simp [Ty.partsL, partsL_append xs ys]; omega
theorem heightL_succ {ts : List Ty} {k : Nat} {t : Ty} (h : ts[k]? = some t) : Ty.heightL (ts.take (k + 1)) = max (Ty.heightL (ts.take k)) t.height := by
  rw [List.take_add_one, h, heightL_append]; simp [Ty.heightL]
theorem partsL_succ {ts : List Ty} {k : Nat} {t : Ty} (h : ts[k]? = some t) : Ty.partsL (ts.take (k + 1)) = Ty.partsL (ts.take k) + t.parts := by
  rw [List.take_add_one, h, partsL_append]; simp [Ty.partsL]
theorem partsL_take_le (ts : List Ty) (k : Nat) : Ty.partsL (ts.take k) ≤ Ty.partsL ts := by
  have : Ty.partsL ts = Ty.partsL (ts.take k) + Ty.partsL (ts.drop k) := by rw [← partsL_append, List.take_append_drop]
  omega
theorem heightL_take_le (ts : List Ty) (k : Nat) : Ty.heightL (ts.take k) ≤ Ty.heightL ts := by
  have : Ty.heightL ts = max (Ty.heightL (ts.take k)) (Ty.heightL (ts.drop k)) := by rw [← heightL_append, List.take_append_drop]
  omega
theorem partsL_len : ∀ ts : List Ty, ts.length ≤ Ty.partsL ts
  | [] => by simp
  | t :: r => by have := partsL_len r; have := parts_pos t; rw [Ty.partsL, List.length_cons]; omega
theorem height_mem {ts : List Ty} {t : Ty} (h : t ∈ ts) : t.height ≤ Ty.heightL ts := by
  induction ts with
  | nil => simp at h
  | cons x xs ih =>
    rw [Ty.heightL]
    rcases List.mem_cons.1 h with rfl | h
    · omega
    · have := ih h; omega
theorem parts_mem {ts : List Ty} {t : Ty} (h : t ∈ ts) : t.parts ≤ Ty.partsL ts := by
  induction ts with
  | nil => simp at h
  | cons x xs ih =>
    rw [Ty.partsL]
    rcases List.mem_cons.1 h with rfl | h
    · omega
    · have := ih h; omega
mutual
theorem parts_le : ∀ t : Ty, t.parts ≤ 1 + PD.szL (Ty.pd t)
  | .mk a b c kids => by
    have := partsL_le kids
    rw [Ty.parts, Ty.pd_mk]
    simp only [PD.szL]
    omega
theorem partsL_le : ∀ ts : List Ty, Ty.partsL ts ≤ (PD.row 4 (ts.flatMap Ty.pd)).sz
  | [] => by simp [Ty.partsL]
  | t :: r => by
    have h1 := parts_le t
    have h2 := partsL_le r
    rw [sz_row Ty.pd_length (by decide)] at h2 ⊢
    rw [Ty.partsL, List.flatMap_cons, szL_append, List.length_cons]
    omega
end

mutual
theorem Ty.rec_kids {p : Ty → Prop} (h : ∀ kind name labels kids, (∀ t ∈ kids, p t) → p ⟨kind, name, labels, kids⟩) : ∀ t : Ty, p t
  | .mk a b c d => h a b c d (Ty.rec_mem h d)
theorem Ty.rec_mem {p : Ty → Prop} (h : ∀ kind name labels kids, (∀ t ∈ kids, p t) → p ⟨kind, name, labels, kids⟩) : ∀ ts : List Ty, ∀ t ∈ ts, p t
  | [], x, hx => absurd hx (by simp)
  | t :: r, x, hx => (List.mem_cons.1 hx).elim (fun e => e ▸ Ty.rec_kids h t) (fun hm => Ty.rec_mem h r x hm)
end

/-! ### names -/
/-- byte k of a name may stand there -/
def nmAt (s : ByteArray) (k : Nat) : Bool := match s.data.toList[k]? with
  | none => true
  | some c => inB c.toNat 97 122 || (decide (0 < k) && (inB c.toNat 48 57 || (c.toNat == 45 && !(s.data.toList[k - 1]? == some 45))))
def nameOk (s : ByteArray) : Bool := (List.range s.size).all (nmAt s) && inB s.size 1 12 && !(s.data.toList[s.size - 1]? == some 45)
theorem nm_next {s : ByteArray} {k : Nat} (hp : ∀ j, j < k → nmAt s j = true) (hu : nmAt s k = true) : ∀ j, j < k + 1 → nmAt s j = true := fun j hj => by
  by_cases e : j = k
  · subst e; exact hu
  · exact hp j (by omega)
theorem nm_all {s : ByteArray} (hp : ∀ j, j < s.size → nmAt s j = true) : nameOk s = (inB s.size 1 12 && !(s.data.toList[s.size - 1]? == some 45)) := by
  have : (List.range s.size).all (nmAt s) = true := List.all_eq_true.2 fun x hx => hp x (List.mem_range.1 hx)
  rw [nameOk, this, Bool.true_and]
theorem nm_none {s : ByteArray} {k : Nat} (h : k < s.size) (hu : nmAt s k = false) : nameOk s = false := by
  have : (List.range s.size).all (nmAt s) = false := List.all_eq_false.2 ⟨k, List.mem_range.2 h, by simp [hu]⟩
  simp [nameOk, this]
theorem byte_get {s : ByteArray} {k : Nat} (h : k < s.size) : s.data.toList[k]? = some s[k] := by
  rw [List.getElem?_eq_getElem (by simpa using h)]
  rfl
theorem byte_eq45 (c : UInt8) : (c = 45) ↔ c.toNat = 45 := ⟨fun h => by rw [h]; rfl, fun h => UInt8.toNat_inj.1 h⟩

/-! ### labels -/
def noDup : List ByteArray → Bool
  | [] => true
  | x :: r => !r.contains x && noDup r
def labelsOk (ls : List ByteArray) : Bool := inB ls.length 1 16 && ls.all nameOk && decide ls.Nodup

/-! ### shapes -/
def Ty.isUnit (t : Ty) : Bool := t.kind == 1
def noUnit (ts : List Ty) : Bool := !ts.any Ty.isUnit
def kidsRight (kind : Int) (nl : Nat) (kids : List Ty) : Bool :=
  if kind = 12 ∨ kind = 13 then decide (kids.length = 1) && noUnit kids
  else if kind = 22 ∨ kind = 23 then decide (kids.length = 1) && !kids.any (Ty.has 21 21)
  else if kind = 14 then decide (kids.length = 2)
  else if kind = 15 then inB kids.length 1 6 && noUnit kids
  else if kind = 16 then decide (kids.length = nl) && noUnit kids
  else if kind = 17 then decide (kids.length = nl)
  else inB kind 1 23 && decide (kids.length = 0)
def named (kind : Int) : Bool := kind == 20 || kind == 21
def shape1 : Ty → Bool
  | .mk kind name labels kids =>
    (if named kind then nameOk name else decide (name.size = 0)) && (if inB kind 16 19 then labelsOk labels else decide (labels.length = 0)) && kidsRight kind labels.length kids
mutual
def Ty.shapes : Ty → Bool
  | .mk kind name labels kids => shape1 (.mk kind name labels kids) && Ty.shapesL kids
def Ty.shapesL : List Ty → Bool
  | [] => true
  | t :: r => t.shapes && Ty.shapesL r
end
theorem shapesL_eq : ∀ ts : List Ty, Ty.shapesL ts = ts.all Ty.shapes
  | [] => rfl
  | t :: r => by rw [Ty.shapesL, shapesL_eq r, List.all_cons]
def typeOk (t : Ty) : Bool := decide (t.height ≤ 4) && decide (t.parts ≤ 24) && t.shapes
theorem nameOk_size {s : ByteArray} (h : nameOk s = true) : 1 ≤ s.size ∧ s.size ≤ 12 := by
  simp only [nameOk, Bool.and_eq_true, inB_iff] at h
  omega
end Go.Proofs.YtbafphecjijdmaaGreatDoor

