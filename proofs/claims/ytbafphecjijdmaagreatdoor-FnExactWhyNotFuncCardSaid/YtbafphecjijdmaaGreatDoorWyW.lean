/-
  Why one type cannot stand for another: the contracts' words.
-/
import Derived.Test.YtbafphecjijdmaaGreatDoorWyP
import Derived.Test.YtbafphecjijdmaaGreatDoorFam
namespace Go.Proofs.YtbafphecjijdmaaGreatDoor
open Go.RowKit
set_option linter.unusedVariables false
set_option linter.unusedSimpArgs false
set_option linter.unnecessarySimpa false
/-- what a call that looks for a reason answers -/
def WQ (R : Why) (w : World) (e : Ending) (w' : World) : Prop := e = .returned (.tuple #[.agg #[.int .i64 (whyN R), .string (whyS R)], .bool (whyB R)]) ∧ Below w.heap.size w w'
def OkT (n : Nat) (t : Ty) : Prop := t.height ≤ n ∧ t.shapes = true
theorem okT_kids {n : Nat} {kind : Int} {name : ByteArray} {labels : List ByteArray} {kids : List Ty} (h : OkT (n + 1) ⟨kind, name, labels, kids⟩) : ∀ t ∈ kids, OkT n t := fun t ht => ⟨height_kid h.1 t ht, (shF h.2).all t ht⟩
/-- a function that looks for a reason between two types -/
def WhyC (fid : Nat) (rec : Ty → Ty → ByteArray → Why) (n M : Nat) : Prop := ∀ (x y : Ty) (at_ : ByteArray) (B : Nat) (cs ds : List Value) (w : World), B ≤ w.heap.size → TabP w → OkT n x → OkT n y → at_.size ≤ M → RepC w B (Ty.pd x) cs → RepC w B (Ty.pd y) ds →
  Calls Tryz.prog fid #[.agg cs.toArray, .agg ds.toArray, .string at_] w fun e w' => WQ (rec x y at_) w e w'
theorem kb {lo hi B : Nat} {w w' : World} (h : Keep lo hi w w') (hB : B ≤ lo ∧ lo ≤ w.heap.size) : Below B w w' := (h.below hB.2).mono hB.1
theorem Keep.new {lo hi : Nat} {w w' : World} (h : Keep lo hi w w') {p : Addr} (hp : w.heap.size ≤ p.block) (u : Value) : Keep lo hi w (w'.setCell p u) :=
  ⟨h.os, h.tape, h.output, by simpa [World.setCell] using h.size, fun k hk ho => (Below.heap_setCell _ _ _ _ (by omega)).trans (h.block k hk ho)⟩
theorem Keep.setAt {lo : Nat} {w w' : World} (h : Keep lo (lo + 1) w w') (off : Nat) (u : Value) : Keep lo (lo + 1) w (w'.setCell ⟨lo, off, none⟩ u) := h.setCell (p := ⟨lo, off, none⟩) (Nat.le_refl _) (Nat.lt_succ_self _) u
theorem Keep.newAt {lo hi g : Nat} {w w' : World} (h : Keep lo hi w w') (hp : w.heap.size ≤ g) (off : Nat) (u : Value) : Keep lo hi w (w'.setCell ⟨g, off, none⟩ u) := h.new (p := ⟨g, off, none⟩) hp u
theorem balloc {a w : World} (h : Below a.heap.size a w) (o : Obj) : Below a.heap.size a (w.alloc o) := h.alloc h.size o
theorem bset {B P : Nat} {a w : World} (h : Below B a w) (hP : B ≤ P) (off : Nat) (u : Value) : Below B a (w.setCell ⟨P, off, none⟩ u) := h.setCell (p := ⟨P, off, none⟩) hP u
/-- two boxes and a reason's -/
theorem box3 (w : World) (ta : TypeId) (va vb : Array Value) : ∃ w0, w0 = ((w.alloc (.cells va ta)).alloc (.cells vb ta)).alloc (.cells #[.int .i64 0, .string { data := #[] }] 34) ∧ Blk w0 w.heap.size ta va ∧ Blk w0 (w.heap.size + 1) ta vb ∧ Blk w0 (w.heap.size + 1 + 1) 34 #[.int .i64 0, .string { data := #[] }] ∧ Below w.heap.size w w0 ∧ w.heap.size + 1 + 1 < w0.heap.size := by
  refine ⟨_, rfl, ((Blk.new w _ _).alloc _).alloc _, ?_, ?_, (((Below.refl _ _).alloc (Nat.le_refl _) _).alloc (by simp) _).alloc (by simp; omega) _, by simp⟩
  · have := (Blk.new (w.alloc (.cells va ta)) ta vb).alloc (.cells #[.int .i64 0, .string { data := #[] }] 34)
    simpa using this
  · have := Blk.new ((w.alloc (.cells va ta)).alloc (.cells vb ta)) 34 #[.int .i64 0, .string { data := #[] }]
    simpa using this
theorem bl_cell {W E : World} {b : Nat} {t : TypeId} {cs : List Value} (h : W = E) (hb : Blk W b t cs.toArray) (i : Nat) : E.cell? ⟨b, i, none⟩ = cs.toArray[i]? := by rw [← h]; exact hb.cell i
theorem zr {W : World} {b : Nat} (h : Blk W b 34 #[.int .i64 0, .string { data := #[] }]) : W.cell? ⟨b, 0, none⟩ = some (.int .i64 0) ∧ W.cell? ⟨b, 1, none⟩ = some (.string { data := #[] }) ∧ W.frozen? ⟨b, 0, none⟩ = false ∧ W.frozen? ⟨b, 1, none⟩ = false := ⟨h.cell 0, h.cell 1, h.frozen 0, h.frozen 1⟩
theorem rq {W : World} {b : Nat} {k : Int} {s : ByteArray} (h : Blk W b 34 #[.int .i64 k, .string s]) : W.cell? ⟨b, 0, none⟩ = some (.int .i64 k) ∧ W.cell? ⟨b, 1, none⟩ = some (.string s) := ⟨h.cell 0, h.cell 1⟩
theorem ret3 {w V : World} {b : Nat} (bR : Blk V b 34 #[.int .i64 0, .string { data := #[] }]) (hB : Below w.heap.size w V) (hb : w.heap.size ≤ b) (k : Int) (s : ByteArray) :
    ((V.setCell ⟨b, 0, none⟩ (.int .i64 k)).setCell ⟨b, 1, none⟩ (.string s)).cell? ⟨b, 0, none⟩ = some (.int .i64 k) ∧ ((V.setCell ⟨b, 0, none⟩ (.int .i64 k)).setCell ⟨b, 1, none⟩ (.string s)).cell? ⟨b, 1, none⟩ = some (.string s) ∧ Below w.heap.size w ((V.setCell ⟨b, 0, none⟩ (.int .i64 k)).setCell ⟨b, 1, none⟩ (.string s)) := by
  have bN : Blk ((V.setCell ⟨b, 0, none⟩ (.int .i64 k)).setCell ⟨b, 1, none⟩ (.string s)) b 34 #[.int .i64 k, .string s] := by
    have := (bR.set_ 0 (.int .i64 k)).set_ 1 (.string s)
    simpa using this
  exact ⟨bN.cell 0, bN.cell 1, bset (bset hB hb 0 _) hb 1 _⟩
/-- an element's cells -/
theorem tyAt {w W : World} {B B0 g off k a0 a1 a2 a3 : Nat} {ts : List Ty} {kind : Int} {name : ByteArray} {labels : List ByteArray} {kids : List Ty} (hb : Below B0 w W) (hg : g < B) (hB : B ≤ B0)
    (hcell : ∀ (k j : Nat) (t : Ty) (x : PD), ts[k]? = some t → (Ty.pd t)[j]? = some x → ∃ u, w.cell? ⟨g, off + (k * 4 + j), none⟩ = some u ∧ Rep w B x u) (hx : ts[k]? = some ⟨kind, name, labels, kids⟩)
    (e : a0 = off + (k * 4 + 0) ∧ a1 = off + (k * 4 + 1) ∧ a2 = off + (k * 4 + 2) ∧ a3 = off + (k * 4 + 3)) :
    ∃ lV kV, W.cell? ⟨g, a0, none⟩ = some (.int .i64 kind) ∧ W.cell? ⟨g, a1, none⟩ = some (.string name) ∧ W.cell? ⟨g, a2, none⟩ = some lV ∧ W.cell? ⟨g, a3, none⟩ = some kV ∧ Rep W B (.row 1 (labels.flatMap strC)) lV ∧ Rep W B (.row 4 (kids.flatMap Ty.pd)) kV := by
  obtain ⟨rfl, rfl, rfl, rfl⟩ := e
  obtain ⟨lV, h2, r2⟩ := cell_rep hb (Nat.lt_of_lt_of_le hg hB) hB (hcell k 2 _ _ hx (by rw [Ty.pd_mk]; rfl))
  obtain ⟨kV, h3, r3⟩ := cell_rep hb (Nat.lt_of_lt_of_le hg hB) hB (hcell k 3 _ _ hx (by rw [Ty.pd_mk]; rfl))
  exact ⟨lV, kV, cell_lit hb (Nat.lt_of_lt_of_le hg hB) (hcell k 0 _ _ hx (by rw [Ty.pd_mk]; rfl)), cell_lit hb (Nat.lt_of_lt_of_le hg hB) (hcell k 1 _ _ hx (by rw [Ty.pd_mk]; rfl)), h2, h3, r2, r3⟩
theorem parAt {w W : World} {B B0 g off k : Nat} {ts : List Param} {pn : ByteArray} {kind : Int} {name : ByteArray} {labels : List ByteArray} {kids : List Ty} (hb : Below B0 w W) (hg : g < B) (hB : B ≤ B0)
    (hcell : ∀ (k j : Nat) (t : Param) (x : PD), ts[k]? = some t → (Param.pd t)[j]? = some x → ∃ u, w.cell? ⟨g, off + (k * 5 + j), none⟩ = some u ∧ Rep w B x u) (hx : ts[k]? = some ⟨pn, ⟨kind, name, labels, kids⟩⟩) :
    ∃ lV kV, W.cell? ⟨g, off + k * 5, none⟩ = some (.string pn) ∧ W.cell? ⟨g, off + k * 5 + 1, none⟩ = some (.int .i64 kind) ∧ W.cell? ⟨g, off + k * 5 + 2, none⟩ = some (.string name) ∧ W.cell? ⟨g, off + k * 5 + 3, none⟩ = some lV ∧ W.cell? ⟨g, off + k * 5 + 4, none⟩ = some kV ∧ Rep W B (.row 1 (labels.flatMap strC)) lV ∧ Rep W B (.row 4 (kids.flatMap Ty.pd)) kV := by
  obtain ⟨lV, h2, r2⟩ := cell_rep hb (Nat.lt_of_lt_of_le hg hB) hB (hcell k 3 _ _ hx (by rw [Param.pd_mk]; rfl))
  obtain ⟨kV, h3, r3⟩ := cell_rep hb (Nat.lt_of_lt_of_le hg hB) hB (hcell k 4 _ _ hx (by rw [Param.pd_mk]; rfl))
  exact ⟨lV, kV, cell_lit hb (Nat.lt_of_lt_of_le hg hB) (hcell k 0 _ _ hx (by rw [Param.pd_mk]; rfl)), cell_lit hb (Nat.lt_of_lt_of_le hg hB) (hcell k 1 _ _ hx (by rw [Param.pd_mk]; rfl)), cell_lit hb (Nat.lt_of_lt_of_le hg hB) (hcell k 2 _ _ hx (by rw [Param.pd_mk]; rfl)), h2, h3, r2, r3⟩
theorem why3 (R : Why) : ∃ (k : Int) (s : ByteArray) (b : Bool), Hid (whyN R = k) ∧ Hid (whyS R = s) ∧ Hid (whyB R = b) := ⟨_, _, _, rfl, rfl, rfl⟩
theorem ret_why {a b : Int} {s t : ByteArray} {c d : Bool} (h1 : a = b) (h2 : s = t) (h3 : c = d) : Ending.returned (.tuple #[.agg #[.int .i64 a, .string s], .bool c]) = .returned (.tuple #[.agg #[.int .i64 b, .string t], .bool d]) := by rw [h1, h2, h3]
theorem whyK_12 {rec : Ty → Ty → ByteArray → Why} {an bn at_ : ByteArray} {al bl : List ByteArray} {ak bk : List Ty} : whyK rec 12 an al ak bn bl bk at_ = kid0 rec (at_ ++ ⟨#[91, 93]⟩) ak bk 0 := rfl
theorem whyK_13 {rec : Ty → Ty → ByteArray → Why} {an bn at_ : ByteArray} {al bl : List ByteArray} {ak bk : List Ty} : whyK rec 13 an al ak bn bl bk at_ = kid0 rec (at_ ++ ⟨#[63]⟩) ak bk 0 := rfl
theorem whyK_14 {rec : Ty → Ty → ByteArray → Why} {an bn at_ : ByteArray} {al bl : List ByteArray} {ak bk : List Ty} : whyK rec 14 an al ak bn bl bk at_ = match kid0 rec (at_ ++ ⟨#[46, 111, 107]⟩) ak bk 0 with
    | some r => some r
    | none => kid0 rec (at_ ++ ⟨#[46, 101, 114, 114]⟩) ak bk 1 := rfl
def tupW (rec : Ty → Ty → ByteArray → Why) (at_ : ByteArray) (ak bk : List Ty) : Why := if ak.length = bk.length then firstW (kidF rec at_ ak bk) ak.length else some (3, at_)
theorem whyK_15 {rec : Ty → Ty → ByteArray → Why} {an bn at_ : ByteArray} {al bl : List ByteArray} {ak bk : List Ty} : whyK rec 15 an al ak bn bl bk at_ = tupW rec at_ ak bk := rfl
theorem whyK_16 {rec : Ty → Ty → ByteArray → Why} {an bn at_ : ByteArray} {al bl : List ByteArray} {ak bk : List Ty} : whyK rec 16 an al ak bn bl bk at_ = labW (fun x y => rec y x) 4 at_ bl bk al ak := rfl
theorem whyK_lab {rec : Ty → Ty → ByteArray → Why} {c : Int} {an bn at_ : ByteArray} {al bl : List ByteArray} {ak bk : List Ty} (h : c = 17 ∨ c = 18 ∨ c = 19) : whyK rec c an al ak bn bl bk at_ = labW rec 5 at_ al ak bl bk := by rcases h with rfl | rfl | rfl <;> rfl
theorem whyK_own {rec : Ty → Ty → ByteArray → Why} {c : Int} {an bn at_ : ByteArray} {al bl : List ByteArray} {ak bk : List Ty} (h : c = 20 ∨ c = 21) : whyK rec c an al ak bn bl bk at_ = if an = bn then none else some (6, at_) := by rcases h with rfl | rfl <;> rfl
theorem whyK_str {rec : Ty → Ty → ByteArray → Why} {c : Int} {an bn at_ : ByteArray} {al bl : List ByteArray} {ak bk : List Ty} {x y : Ty} (h : c = 22 ∨ c = 23) (hx : ak[0]? = some x) (hy : bk[0]? = some y) : whyK rec c an al ak bn bl bk at_ = if tyEq 100 x y then none else some (3, at_) := by
  rcases h with rfl | rfl <;> simp [whyK, hx, hy]
theorem whyK_else {rec : Ty → Ty → ByteArray → Why} {c : Int} {an bn at_ : ByteArray} {al bl : List ByteArray} {ak bk : List Ty} (h : ¬ (12 ≤ c ∧ c ≤ 23)) : whyK rec c an al ak bn bl bk at_ = none := by
  rw [whyK, if_neg (by omega), if_neg (by omega), if_neg (by omega), if_neg (by omega), if_neg (by omega), if_neg (by omega), if_neg (by omega), if_neg (by omega)]
end Go.Proofs.YtbafphecjijdmaaGreatDoor

