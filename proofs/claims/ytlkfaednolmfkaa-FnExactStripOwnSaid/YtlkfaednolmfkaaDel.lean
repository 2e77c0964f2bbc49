/-
  slices.IndexFunc and slices.DeleteFunc at []Section; impl.isOwn.
-/
import Derived.Test.YtlkfaednolmfkaaStrip
import Derived.Lib.SliceRun
namespace Go.Proofs.Ytlkfaednolmfkaa
open Go.RowKit
set_option linter.unusedVariables false
set_option linter.unusedSimpArgs false
set_option linter.unnecessarySimpa false
set_option maxRecDepth 16000

theorem isOwn_enter (a : Array Value) (W : World) : Sem.run Try.prog (callFunc 57 a) W = .ok (.enter 57 a) W := by kernel_rfl
theorem isOwn_any (id : Int) (name bytes : ByteArray) (w : World) :
    Calls Try.prog 57 (#[.agg #[.int .i64 id, .string name, .string bytes]] ++ #[]) w fun e w' => e = .returned (.bool (isOwnB ⟨id, name, bytes⟩)) ∧ Below w.heap.size w w' := by
  show Calls Try.prog 57 #[.agg #[.int .i64 id, .string name, .string bytes]] w _
  have HF : Hid (isOwnB ⟨id, name, bytes⟩ = (id == 0)) := Lib.hid rfl
  rw [HF.out]
  go_enter Try.func57, Try.ntmps57
  go_wp2_with fail
  go_ret
  exact ⟨rfl, (Below.refl _ _).alloc (Nat.le_refl _) _⟩
/-! ### cells -/
def secC : Section → List Value | .mk id name bytes => [.int .i64 id, .string name, .string bytes]
theorem secC_length (t : Section) : (secC t).length = 3 := by cases t; rfl
theorem pd_secC (ts : List Section) : ts.flatMap Section.pd = (ts.flatMap secC).map PD.lit := by
  induction ts with
  | nil => rfl
  | cons t l ih =>
    rw [List.flatMap_cons, List.flatMap_cons, List.map_append, ih]
    cases t
    rw [Section.pd_mk]
    rfl
theorem holdL_lits {w : World} : ∀ {l cs : List Value} {F : List Nat}, HoldL w (l.map PD.lit) cs F → cs = l ∧ F = []
  | [], cs, F, h => by rw [List.map_nil, HoldL] at h; exact h
  | u :: l, cs, F, h => by
    rw [List.map_cons, HoldL] at h
    obtain ⟨c, cs', F1, F2, rfl, rfl, h1, h2⟩ := h
    rw [Hold] at h1
    obtain ⟨rfl, rfl⟩ := h1
    obtain ⟨rfl, rfl⟩ := holdL_lits h2
    exact ⟨rfl, rfl⟩
theorem set3 : ∀ {p : Nat} {L : List Value} {a b c : Value}, p + 3 ≤ L.length → ((L.set p a).set (p + 1) b).set (p + 2) c = L.take p ++ ([a, b, c] ++ L.drop (p + 3))
  | 0, L, a, b, c, h => by
    match L, h with
    | x :: y :: z :: r, _ => rfl
    | [], h => simp at h
    | [x], h => simp at h
    | [x, y], h => simp at h
  | p + 1, [], a, b, c, h => by simp at h
  | p + 1, x :: r, a, b, c, h => by
    have ih := set3 (p := p) (L := r) (a := a) (b := b) (c := c) (by rw [List.length_cons] at h; omega)
    show x :: ((r.set p a).set (p + 1) b).set (p + 2) c = _
    rw [ih]
    rfl
theorem set3_take {p : Nat} {L : List Value} {a b c : Value} (h : p + 3 ≤ L.length) : (((L.set p a).set (p + 1) b).set (p + 2) c).take (p + 3) = L.take p ++ [a, b, c] := by
  rw [set3 h, List.take_append, List.length_take, Nat.min_eq_left (by omega), show p + 3 - p = 3 by omega, List.take_of_length_le (by rw [List.length_take]; omega)]
  rfl
theorem set3_drop {p q : Nat} {L : List Value} {a b c : Value} (h : p + 3 ≤ L.length) (hq : p + 3 ≤ q) : (((L.set p a).set (p + 1) b).set (p + 2) c).drop q = L.drop q := by
  rw [List.drop_set_of_lt (by omega), List.drop_set_of_lt (by omega), List.drop_set_of_lt (by omega)]
theorem drop_c {L : List Value} {ts : List Section} {j q : Nat} {t : Section} (h : L.drop (j * 3) = (ts.drop j).flatMap secC) (hx : ts[j]? = some t) (hq : q < 3) : L[j * 3 + q]? = (secC t)[q]? := by
  obtain ⟨hj, rfl⟩ := List.getElem?_eq_some_iff.1 hx
  rw [← List.getElem?_drop, h, List.drop_eq_getElem_cons hj, List.flatMap_cons, List.getElem?_append_left (by rw [secC_length]; exact hq)]
theorem drop_next {L : List Value} {ts : List Section} {j : Nat} (h : L.drop (j * 3) = (ts.drop j).flatMap secC) : L.drop ((j + 1) * 3) = (ts.drop (j + 1)).flatMap secC := by
  rw [show (j + 1) * 3 = j * 3 + 3 by omega, ← List.drop_drop, h]
  rcases Nat.lt_or_ge j ts.length with hj | hj
  · rw [List.drop_eq_getElem_cons hj, List.flatMap_cons, List.drop_append_of_le_length (by rw [secC_length]; exact Nat.le_refl _), List.drop_of_length_le (by rw [secC_length]; exact Nat.le_refl _), List.nil_append]
  · rw [List.drop_of_length_le hj, List.drop_of_length_le (show ts.length ≤ j + 1 by omega)]
    rfl
theorem take_secC (ts : List Section) (k : Nat) : (ts.flatMap secC).take (k * 3) = (ts.take k).flatMap secC := by
  induction ts generalizing k with
  | nil => simp
  | cons t l ih =>
    cases k with
    | zero => simp
    | succ k =>
      rw [List.flatMap_cons, List.take_succ_cons, List.flatMap_cons, ← ih k, List.take_append, secC_length, show (k + 1) * 3 - 3 = k * 3 by omega, List.take_of_length_le (by rw [secC_length]; omega)]
theorem drop_secC (ts : List Section) (k : Nat) : (ts.flatMap secC).drop (k * 3) = (ts.drop k).flatMap secC := by
  induction ts generalizing k with
  | nil => simp
  | cons t l ih =>
    cases k with
    | zero => simp
    | succ k =>
      rw [List.flatMap_cons, List.drop_succ_cons, ← ih k, List.drop_append, secC_length, show (k + 1) * 3 - 3 = k * 3 by omega, List.drop_of_length_le (by rw [secC_length]; omega), List.nil_append]
theorem below_setCells {lo g : Nat} (hg : lo ≤ g) {w : World} : ∀ (vs : List Value) (o : Nat) {w' : World}, Below lo w w' → Below lo w (w'.setCells g o vs)
  | [], _, _, h => h
  | v :: r, o, w', h => below_setCells hg r (o + 1) (h.setCell hg v)
theorem size_setCells' (g : Nat) : ∀ (vs : List Value) (o : Nat) (w : World), (w.setCells g o vs).heap.size = w.heap.size
  | [], _, _ => rfl
  | v :: r, o, w => (size_setCells' g r (o + 1) _).trans (by simp)
theorem zero_run {e : TypeId} {i : TypeInfo} {z : Value} (hi : Try.prog.info? e = some i) (hz : i.zero = some z) (w : World) : (zeroValue e).run Try.prog w = .ok z w := by
  simp [zeroValue, typeInfo, hi, hz]
theorem zc3 (n : Nat) : ∃ Z, (Builtin.zeroCells (Value.agg #[.int .i64 0, .string { data := #[] }, .string { data := #[] }]).cells n).toList = Z ∧ Z.length = n * 3 ∧ ∀ v ∈ Z, v.oneCell' = true := by
  refine ⟨_, rfl, by simp [Builtin.zeroCells, Value.cells], fun v hv => ?_⟩
  simp only [Builtin.zeroCells, Value.cells, Array.toList_map, List.mem_map] at hv
  obtain ⟨i, _, rfl⟩ := hv
  have h3 : i % 3 = 0 ∨ i % 3 = 1 ∨ i % 3 = 2 := by omega
  rcases h3 with h | h | h <;> simp [h] <;> rfl
/-- 'clear(s)' at sections -/
theorem run_clear_sec (w : World) (g o n c : Nat) (hn : 0 < n) (hc : ∀ j, j < n * 3 → (w.cell? ⟨g, o + j, none⟩).isSome = true) (hf : ∀ j, j < n * 3 → w.frozen? ⟨g, o + j, none⟩ = false) :
    ∃ Z : List Value, ∀ ty : TypeId, (Builtin.clear_ #[42] ty #[.slice (some ⟨g, o, none⟩) n c]).run Try.prog w = .ok (.tuple #[]) (w.setCells g o Z) := by
  obtain ⟨i0, hi, hz0, hz1, hz2⟩ := info_parts sec_info
  obtain ⟨Z, hZ, hZl, hZ1⟩ := zc3 n
  have hst := run_storeCells_cells (P := Try.prog) g o Z 0 w (by rw [hZl]; simpa using hc) (by rw [hZl]; simpa using hf) hZ1
  simp only [Nat.add_zero] at hst
  obtain ⟨m, rfl⟩ : ∃ m, n = m + 1 := ⟨n - 1, by omega⟩
  refine ⟨Z, fun ty => ?_⟩
  have hv := zero_run hi hz0 w
  have hu := Try.underlying42
  simp [Builtin.clear_, run_underlying hu, hv, hZ, hst]
/-- what the row holds in the midst of DeleteFunc: the first i are the kept ones of the first j; from j on it is as it was -/
def Mid (w : World) (g off : Nat) (ts : List Section) (i j : Nat) : Prop :=
  ∃ L : List Value, OwAt w g off L ∧ L.length = ts.length * 3 ∧ i = (stripL (ts.take j)).length ∧ L.take (i * 3) = (stripL (ts.take j)).flatMap secC ∧ L.drop (j * 3) = (ts.drop j).flatMap secC
theorem Mid.step {w w' : World} {g off : Nat} {ts : List Section} {i j : Nat} (h : Mid w g off ts i j) (hk : w'.heap[g]? = w.heap[g]?) : Mid w' g off ts i j := by
  obtain ⟨L, h1, h2⟩ := h
  exact ⟨L, h1.keep hk, h2⟩
theorem Mid.lt {w : World} {g off : Nat} {ts : List Section} {i j : Nat} (h : Mid w g off ts i j) : g < w.heap.size := by
  obtain ⟨L, h1, _⟩ := h
  exact h1.lt
theorem Mid.frozen {w : World} {g off : Nat} {ts : List Section} {i j : Nat} (h : Mid w g off ts i j) (x : Nat) : w.frozen? ⟨g, x, none⟩ = false := by
  obtain ⟨L, h1, _⟩ := h
  exact h1.frozen x
theorem Mid.some_ {w : World} {g off : Nat} {ts : List Section} {i j : Nat} (h : Mid w g off ts i j) {x : Nat} (hx : x < ts.length * 3) : ∃ u, w.cell? ⟨g, off + x, none⟩ = some u := by
  obtain ⟨L, h1, h2, _⟩ := h
  exact ⟨L[x], h1.cell (List.getElem?_eq_getElem (by omega))⟩
theorem Mid.read {w : World} {g off : Nat} {ts : List Section} {i j : Nat} {id : Int} {name bytes : ByteArray} (h : Mid w g off ts i j) (hx : ts[j]? = some ⟨id, name, bytes⟩) :
    w.cell? ⟨g, off + j * 3, none⟩ = some (.int .i64 id) ∧ w.cell? ⟨g, off + j * 3 + 1, none⟩ = some (.string name) ∧ w.cell? ⟨g, off + j * 3 + 2, none⟩ = some (.string bytes) := by
  obtain ⟨L, h1, h2, h3, h4, h5⟩ := h
  exact ⟨h1.cell (j := j * 3 + 0) (drop_c h5 hx (by omega)), h1.cell (j := j * 3 + 1) (drop_c h5 hx (by omega)), h1.cell (j := j * 3 + 2) (drop_c h5 hx (by omega))⟩
theorem Mid.skip {w : World} {g off : Nat} {ts : List Section} {i j : Nat} {t : Section} (h : Mid w g off ts i j) (hx : ts[j]? = some t) (hb : isOwnB t = true) : Mid w g off ts i (j + 1) := by
  obtain ⟨L, h1, h2, h3, h4, h5⟩ := h
  exact ⟨L, h1, h2, by rw [stripL_own hx hb]; exact h3, by rw [stripL_own hx hb]; exact h4, drop_next h5⟩
theorem Mid.keep1 {w : World} {g off : Nat} {ts : List Section} {i j : Nat} {id : Int} {name bytes : ByteArray} (h : Mid w g off ts i j) (hij : i < j) (hx : ts[j]? = some ⟨id, name, bytes⟩) (hb : isOwnB ⟨id, name, bytes⟩ = false) :
    Mid (((w.setCell ⟨g, off + i * 3, none⟩ (.int .i64 id)).setCell ⟨g, off + i * 3 + 1, none⟩ (.string name)).setCell ⟨g, off + i * 3 + 2, none⟩ (.string bytes)) g off ts (i + 1) (j + 1) := by
  obtain ⟨L, h1, h2, h3, h4, h5⟩ := h
  have hj := (List.getElem?_eq_some_iff.1 hx).1
  have hl : i * 3 + 3 ≤ L.length := by omega
  refine ⟨((L.set (i * 3) (.int .i64 id)).set (i * 3 + 1) (.string name)).set (i * 3 + 2) (.string bytes), ?_, by simp [h2], by rw [stripL_not hx hb, List.length_append, ← h3]; rfl, ?_, ?_⟩
  · exact ((h1.set (i := i * 3) (by omega) _).set (i := i * 3 + 1) (by simp; omega) _).set (i := i * 3 + 2) (by simp; omega) _
  · rw [show (i + 1) * 3 = i * 3 + 3 by omega, set3_take hl, stripL_not hx hb, h4, List.flatMap_append]
    rfl
  · rw [set3_drop hl (by omega)]
    exact drop_next h5
theorem Mid.start {w : World} {g off : Nat} {ts : List Section} {k : Nat} {t : Section} (h : OwAt w g off (ts.flatMap secC)) (hx : ts[k]? = some t) (hb : isOwnB t = true) (hp : ∀ (j : Nat) (t : Section), j < k → ts[j]? = some t → isOwnB t = false) :
    Mid w g off ts k (k + 1) := by
  have hk := (List.getElem?_eq_some_iff.1 hx).1
  refine ⟨_, h, flatMap_length secC_length ts, ?_, ?_, drop_secC ts (k + 1)⟩
  · rw [stripL_own hx hb, stripL_pre hp, List.length_take]; omega
  · rw [stripL_own hx hb, stripL_pre hp]; exact take_secC ts k
theorem Mid.rep {w w' : World} {g off : Nat} {ts : List Section} {i j c : Nat} (h : Mid w g off ts i j) (hj : j = ts.length) (hm : ts.length ≤ maxLen) (hk : ∀ x, x < i * 3 → w'.cell? ⟨g, off + x, none⟩ = w.cell? ⟨g, off + x, none⟩) (hs : g < w'.heap.size) :
    Rep w' w'.heap.size (.row 3 ((stripL ts).flatMap Section.pd)) (.slice (some ⟨g, off, none⟩) i c) := by
  obtain ⟨L, h1, h2, h3, h4, h5⟩ := h
  subst hj
  rw [List.take_length] at h3 h4
  have hle := stripL_len ts
  rw [Rep, flatMap_length Section.pd_length, h3]
  refine ⟨_, _, _, rfl, rfl, by omega, fun _ => ⟨g, off, rfl, hs, ?_⟩⟩
  refine repL_iff.2 fun q x hq => ?_
  rw [pd_secC, List.getElem?_map] at hq
  obtain ⟨u, hu, rfl⟩ := Option.map_eq_some_iff.1 hq
  have hql := (List.getElem?_eq_some_iff.1 hu).1
  rw [flatMap_length secC_length, ← h3] at hql
  refine ⟨u, (hk q hql).trans (h1.cell ?_), by rw [Rep]⟩
  rw [← h4, List.getElem?_take, if_pos hql] at hu
  exact hu
end Go.Proofs.Ytlkfaednolmfkaa

