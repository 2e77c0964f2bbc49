/-
  The flat kinds of types, in plain Lean; rows of kinds that a call owns.
-/
import Derived.Test.YtmmeaakhikcigaaLayMath
import Derived.Test.YtmmeaakhikcigaaRowI
import Derived.Laws.AppendOwnNone
namespace Go.Proofs.Ytmmeaakhikcigaa
open Go.RowKit
set_option linter.unusedVariables false
set_option linter.unusedSimpArgs false
set_option linter.unnecessarySimpa false

def joinAt (xs ys : List Int) (k : Nat) : Int := if xs[k]? = some 2 ∨ ys[k]? = some 2 then 2 else 1
def joinTo (xs ys : List Int) (k : Nat) : List Int := (List.range k).map (joinAt xs ys)
def joinK (xs ys : List Int) : List Int := joinTo xs ys (max xs.length ys.length)
theorem joinTo_succ (xs ys : List Int) (k : Nat) : joinTo xs ys (k + 1) = joinTo xs ys k ++ [joinAt xs ys k] := by simp [joinTo, List.range_succ]
@[simp] theorem joinTo_length (xs ys : List Int) (k : Nat) : (joinTo xs ys k).length = k := by simp [joinTo]
theorem joinK_length (xs ys : List Int) : (joinK xs ys).length = max xs.length ys.length := by simp [joinK]
def two (xs : List Int) : Prop := ∀ x ∈ xs, x = 1 ∨ x = 2
theorem two_joinK (xs ys : List Int) : two (joinK xs ys) := by
  intro x hx
  simp only [joinK, joinTo, List.mem_map] at hx
  obtain ⟨j, _, rfl⟩ := hx
  unfold joinAt
  split <;> simp
theorem two_nil : two [] := fun x hx => absurd hx (by simp)
theorem two_app {xs ys : List Int} (h : two xs) (k : two ys) : two (xs ++ ys) := fun x hx => (List.mem_append.1 hx).elim (h x) (k x)
theorem two_at {xs : List Int} (h : two xs) {k : Nat} {x : Int} (hx : xs[k]? = some x) : x = 1 ∨ x = 2 := h x (List.mem_of_getElem? hx)
theorem two_wf {xs : List Int} (h : two xs) : ∀ x ∈ xs, (Lit.int .i64 x).wf = true := by
  intro x hx
  rcases h x hx with rfl | rfl <;> rfl

def flat1 (kind : Int) (l j : List Int) : List Int :=
  if kind = 1 then [] else if kind = 9 then [2] else if kind = 11 ∨ kind = 12 then [1, 1] else if kind = 15 ∨ kind = 16 then l else if kind = 13 ∨ kind = 14 ∨ kind = 17 then 1 :: j else [1]
mutual
def Ty.flat : Ty → List Int
  | .mk kind _ _ kids => flat1 kind (Ty.flatL kids) (Ty.flatJ [] kids)
def Ty.flatL : List Ty → List Int
  | [] => []
  | t :: r => Ty.flat t ++ Ty.flatL r
def Ty.flatJ (acc : List Int) : List Ty → List Int
  | [] => acc
  | t :: r => Ty.flatJ (joinK acc (Ty.flat t)) r
end
theorem flatL_append : ∀ (xs ys : List Ty), Ty.flatL (xs ++ ys) = Ty.flatL xs ++ Ty.flatL ys
  | [], ys => by simp [Ty.flatL]
  | x :: xs, ys => by rw [List.cons_append, Ty.flatL, Ty.flatL, flatL_append xs ys, List.append_assoc]
theorem flatJ_append (acc : List Int) : ∀ (xs ys : List Ty), Ty.flatJ acc (xs ++ ys) = Ty.flatJ (Ty.flatJ acc xs) ys
  | [], ys => by simp [Ty.flatJ]
  | x :: xs, ys => by rw [List.cons_append, Ty.flatJ, Ty.flatJ, flatJ_append _ xs ys]
theorem flatL_succ {ts : List Ty} {k : Nat} {t : Ty} (h : ts[k]? = some t) : Ty.flatL (ts.take (k + 1)) = Ty.flatL (ts.take k) ++ t.flat := by
  rw [List.take_add_one, h, flatL_append]
  simp [Ty.flatL]
theorem flatJ_succ {ts : List Ty} {k : Nat} {t : Ty} (h : ts[k]? = some t) : Ty.flatJ [] (ts.take (k + 1)) = joinK (Ty.flatJ [] (ts.take k)) t.flat := by
  rw [List.take_add_one, h, flatJ_append]
  simp [Ty.flatJ]
theorem flat1_two {kind : Int} {l j : List Int} (hl : two l) (hj : two j) : two (flat1 kind l j) := by
  unfold flat1
  split
  · exact two_nil
  split
  · intro x hx; simp at hx; omega
  split
  · intro x hx; simp at hx; omega
  split
  · exact hl
  split
  · intro x hx
    rcases List.mem_cons.1 hx with rfl | hx
    · exact .inl rfl
    · exact hj x hx
  · intro x hx; simp at hx; omega
theorem flat1_len {kind : Int} {l j : List Int} {p : Nat} (hl : l.length ≤ 2 * p) (hj : j.length ≤ 2 * p) : (flat1 kind l j).length ≤ 2 * (p + 1) := by
  unfold flat1
  split
  · simp
  split
  · simp only [List.length_cons, List.length_nil]; omega
  split
  · simp only [List.length_cons, List.length_nil]; omega
  split
  · omega
  split
  · simp only [List.length_cons]; omega
  · simp only [List.length_cons, List.length_nil]; omega
mutual
theorem flat_ok : ∀ t : Ty, two t.flat ∧ t.flat.length ≤ 2 * t.parts
  | .mk kind name labels kids => by
    obtain ⟨h1, h2, h3⟩ := flatL_ok kids
    obtain ⟨h4, h5⟩ := h3 [] two_nil
    rw [List.length_nil, Nat.zero_add] at h5
    rw [Ty.flat, Ty.parts]
    exact ⟨flat1_two h1 h4, flat1_len h2 h5⟩
theorem flatL_ok : ∀ ts : List Ty, two (Ty.flatL ts) ∧ (Ty.flatL ts).length ≤ 2 * Ty.partsL ts ∧ ∀ acc, two acc → two (Ty.flatJ acc ts) ∧ (Ty.flatJ acc ts).length ≤ acc.length + 2 * Ty.partsL ts
  | [] => ⟨by rw [Ty.flatL]; exact two_nil, by simp [Ty.flatL], fun acc h => by rw [Ty.flatJ]; exact ⟨h, by omega⟩⟩
  | t :: r => by
    obtain ⟨h1, h2⟩ := flat_ok t
    obtain ⟨h3, h4, h5⟩ := flatL_ok r
    refine ⟨by rw [Ty.flatL]; exact two_app h1 h3, by rw [Ty.flatL, Ty.partsL, List.length_append]; omega, fun acc h => ?_⟩
    obtain ⟨h6, h7⟩ := h5 (joinK acc t.flat) (two_joinK _ _)
    rw [joinK_length] at h7
    rw [Ty.flatJ, Ty.partsL]
    exact ⟨h6, by omega⟩
end
theorem flatL_take_len (ts : List Ty) (k : Nat) : (Ty.flatL (ts.take k)).length ≤ 2 * Ty.partsL ts := by
  have := (flatL_ok (ts.take k)).2.1
  have := partsL_take_le ts k
  omega
theorem flatJ_take_len (ts : List Ty) (k : Nat) : (Ty.flatJ [] (ts.take k)).length ≤ 2 * Ty.partsL ts := by
  have := ((flatL_ok (ts.take k)).2.2 [] two_nil).2
  have := partsL_take_le ts k
  simp only [List.length_nil] at *
  omega
theorem flatJ_cases {kind : Int} {name : ByteArray} {labels : List ByteArray} {kids : List Ty} (h : kind = 13 ∨ kind = 14 ∨ kind = 17) : Ty.flatJ [] (Ty.cases ⟨kind, name, labels, kids⟩) = Ty.flatJ [] kids := by
  rw [Ty.cases]
  by_cases h13 : kind = 13
  · rw [if_pos h13, Ty.flatJ]
    have : joinK [] unitT.flat = [] := by rw [unitT, Ty.flat, flat1, if_pos rfl]; rfl
    rw [this]
  · rw [if_neg h13, if_pos (by omega)]
theorem flat_row {kind : Int} {name : ByteArray} {labels : List ByteArray} {kids : List Ty} (hk : kind = 15 ∨ kind = 16) : (Ty.mk kind name labels kids).flat = Ty.flatL kids := by
  rw [Ty.flat]
  rcases hk with rfl | rfl <;> rfl
theorem flat_var {kind : Int} {name : ByteArray} {labels : List ByteArray} {kids : List Ty} (hk : kind = 13 ∨ kind = 14 ∨ kind = 17) : (Ty.mk kind name labels kids).flat = 1 :: Ty.flatJ [] kids := by
  rw [Ty.flat]
  rcases hk with rfl | rfl | rfl <;> rfl
theorem flat_unit {name : ByteArray} {labels : List ByteArray} {kids : List Ty} : (Ty.mk 1 name labels kids).flat = [] := by rw [Ty.flat]; rfl
theorem flat_s64 {name : ByteArray} {labels : List ByteArray} {kids : List Ty} : (Ty.mk 9 name labels kids).flat = [2] := by rw [Ty.flat]; rfl
theorem flat_text {kind : Int} {name : ByteArray} {labels : List ByteArray} {kids : List Ty} (hk : kind = 11 ∨ kind = 12) : (Ty.mk kind name labels kids).flat = [1, 1] := by
  rw [Ty.flat]
  rcases hk with rfl | rfl <;> rfl
theorem flat_other {kind : Int} {name : ByteArray} {labels : List ByteArray} {kids : List Ty} (k1 : (kind == 1) = false) (k9 : (kind == 9) = false) (k11 : (kind == 11) = false) (k12 : (kind == 12) = false) (k13 : (kind == 13) = false) (k14 : (kind == 14) = false) (k15 : (kind == 15) = false) (k16 : (kind == 16) = false) (k17 : (kind == 17) = false) : (Ty.mk kind name labels kids).flat = [1] := by
  simp at k1 k9 k11 k12 k13 k14 k15 k16 k17
  rw [Ty.flat, flat1, if_neg k1, if_neg k9, if_neg (by omega), if_neg (by omega), if_neg (by omega)]

/-! ### rows that a call owns -/
theorem owns_base {w : World} {base lo sz n : Nat} {e : TypeId} {v : Value} {xs : List Value} (h : w.ownsRow base e sz v n xs) (hl : lo ≤ base) : w.ownsRow lo e sz v n xs := by
  obtain ⟨h1, h2⟩ := h
  refine ⟨h1, ?_⟩
  rcases h2 with h2 | ⟨g, cap, cur, hv, hbb, r⟩
  · exact .inl h2
  · exact .inr ⟨g, cap, cur, hv, Nat.le_trans hl hbb, r⟩
theorem grown_refl (w : World) (row : Option Nat) : w.grownBy w row := ⟨rfl, rfl, rfl, Nat.le_refl _, fun _ _ _ => rfl⟩
/-- 'append(s, x...)', both rows of the call's own, of whatever length -/
theorem wpList_append_row {P : Program} {w : World} {ops : Array Oper} {rest : List Oper} {o : Oper} {a : Act} {Q : Exit → Act → World → Prop} (hgd : o.guard = none) (s x : Operand) (t : TypeId)
    (ho : o.op = .call { callee := .builtin .append, args := #[s, x], argTypes := #[t, t] })
    (base : Nat) (e : TypeId) (i : TypeInfo) (z : Value) (size bytes : Nat) (ht : P.underlying t = some (.slice e)) (hi : P.info? e = some i) (hz : i.zero = some z)
    (hsize : i.size = size) (hby : i.bytes = bytes) (hzs : z.cells.size = size) (hsz : 0 < size)
    (v : Value) (n : Nat) (xs : List Value) (hs : a.eval s = v) (hown : w.ownsRow base e size v n xs)
    (u : Value) (b2 m : Nat) (news : List Value) (hx : a.eval x = u) (hown2 : w.ownsRow b2 e size u m news) (h1 : ∀ y ∈ news, y.oneCell' = true)
    (h63 : n + m ≤ maxLen) (hbytes : (n + m) * bytes ≤ 140737488355328) (hbase : base ≤ w.heap.size)
    (h : ∀ v' w', w'.ownsRow base e size v' (n + m) (xs ++ news) → w.grownBy w' v.ownBlock → wpList P ops Q rest (a.put o.dst v') w') : wpList P ops Q (o :: rest) a w := by
  rcases hown2.2 with ⟨rfl, rfl⟩ | ⟨g, cap, cur, rfl, _⟩
  · have hn : news = [] := List.eq_nil_of_length_eq_zero (by simpa using hown2.1)
    subst hn
    exact wpList_append_own_none hgd s x t ho base e i size ht hi v n xs hs hown hx (h v w (by simpa using hown) (grown_refl _ _))
  · exact wpList_append_own _ hgd s x t ho base e i z size bytes ht hi hz hsize hby hzs hsz v n xs hs hown ⟨g, 0, none⟩ m cap news hx hown2.1 (hown2.cells (g := g) rfl) h1 h63 hbytes hbase fun v' w' h2 h3 _ => h v' w' h2 h3
theorem i64s_one (xs : List Int) : ∀ u ∈ i64s xs, u.oneCell' = true := by
  intro u hu
  simp only [i64s, List.mem_map] at hu
  obtain ⟨x, _, rfl⟩ := hu
  rfl
theorem owns_rdI {w : World} {base n : Nat} {e : TypeId} {v : Value} {xs : List Int} (h : w.ownsRow base e 1 v n (i64s xs)) (h2 : two xs) : ∃ A c, v = .slice A n c ∧ RdI w w.heap.size A n xs := by
  obtain ⟨A, n', c, rfl, hl, hr⟩ := (Own.of_own h).rd
  have h1 := h.1
  have h3 := hr.1
  simp [i64s] at h1 h3
  have : n' = n := by omega
  subst this
  exact ⟨A, c, rfl, h3.symm, hr, two_wf h2⟩
end Go.Proofs.Ytmmeaakhikcigaa

