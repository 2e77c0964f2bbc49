/-
  strings.Builder: the shelf's contracts laid over this program (by program: gen_bld.py).
-/
import Derived.Test.YtflpfcnpjadccaaGreatDoorSmall
import Derived.Shelf.Strings.Builder1
namespace Go.Proofs.YtflpfcnpjadccaaGreatDoor
open Go.RowKit Go.Shelf
set_option linter.unusedVariables false
set_option maxRecDepth 100000
def bld_ren : Go.Shelf.Ren := ⟨fun
    | 166 => 49 | 169 => 53 
     | 240 => 80 | 276 => 102 | n => n, fun | 0 => 0 | 3 => 3 | 4 => 4 | 5 => 5 | 9 => 9 | 20 => 20 | 37 => 81 | 70 => 80 | 72 => 83 | 75 => 85 | 80 => 89 | 127 => 111 | 164 => 129 | n => n, fun n => n⟩
set_option maxHeartbeats 2000000 in
theorem bld_lays166 : Lays.n166 Tryz.prog bld_ren where
  mixed := by kernel_rfl
  f166 := Tryz.func49.trans (congrArg some (by kernel_rfl))
  f240 := Tryz.func80.trans (congrArg some (by kernel_rfl))
  f276 := Tryz.func102.trans (congrArg some (by kernel_rfl))
  t0 := by kernel_rfl
  a0 := fun _ => by kernel_rfl
  z0 := fun _ => by kernel_rfl
  v0 := fun _ => by kernel_rfl
  t3 := by kernel_rfl
  a3 := fun _ => by kernel_rfl
  z3 := fun _ => by kernel_rfl
  v3 := fun _ => by kernel_rfl
  t4 := by kernel_rfl
  a4 := fun _ => by kernel_rfl
  z4 := fun _ => by kernel_rfl
  v4 := fun _ => by kernel_rfl
  t9 := by kernel_rfl
  a9 := fun _ => by kernel_rfl
  z9 := fun _ => by kernel_rfl
  v9 := fun _ => by kernel_rfl
  t20 := by kernel_rfl
  a20 := fun _ => by kernel_rfl
  z20 := fun _ => by kernel_rfl
  v20 := fun _ => by kernel_rfl
  t37 := by kernel_rfl
  a37 := fun _ => by kernel_rfl
  z37 := fun _ => by kernel_rfl
  v37 := fun _ => by kernel_rfl
  t70 := by kernel_rfl
  a70 := fun _ => by kernel_rfl
  z70 := fun _ => by kernel_rfl
  v70 := fun _ => by kernel_rfl
  t72 := by kernel_rfl
  a72 := fun _ => by kernel_rfl
  z72 := fun _ => by kernel_rfl
  v72 := fun _ => by kernel_rfl
  t75 := by kernel_rfl
  a75 := fun _ => by kernel_rfl
  z75 := fun _ => by kernel_rfl
  v75 := fun _ => by kernel_rfl
  t164 := by kernel_rfl
  a164 := fun _ => by kernel_rfl
  z164 := fun _ => by kernel_rfl
  v164 := fun _ => by kernel_rfl
set_option maxHeartbeats 2000000 in
theorem bld_lays169 : Lays.n169 Tryz.prog bld_ren where
  mixed := by kernel_rfl
  f169 := Tryz.func53.trans (congrArg some (by kernel_rfl))
  t0 := by kernel_rfl
  a0 := fun _ => by kernel_rfl
  z0 := fun _ => by kernel_rfl
  v0 := fun _ => by kernel_rfl
  t3 := by kernel_rfl
  a3 := fun _ => by kernel_rfl
  z3 := fun _ => by kernel_rfl
  v3 := fun _ => by kernel_rfl
  t9 := by kernel_rfl
  a9 := fun _ => by kernel_rfl
  z9 := fun _ => by kernel_rfl
  v9 := fun _ => by kernel_rfl
  t37 := by kernel_rfl
  a37 := fun _ => by kernel_rfl
  z37 := fun _ => by kernel_rfl
  v37 := fun _ => by kernel_rfl
  t70 := by kernel_rfl
  a70 := fun _ => by kernel_rfl
  z70 := fun _ => by kernel_rfl
  v70 := fun _ => by kernel_rfl
  t72 := by kernel_rfl
  a72 := fun _ => by kernel_rfl
  z72 := fun _ => by kernel_rfl
  v72 := fun _ => by kernel_rfl
  t127 := by kernel_rfl
  a127 := fun _ => by kernel_rfl
  z127 := fun _ => by kernel_rfl
  v127 := fun _ => by kernel_rfl
theorem bld_x : Builder.Extra Tryz.prog bld_ren where
  sizeBuilder := by kernel_rfl
  liesBuilder := by kernel_rfl
  t5 := by kernel_rfl
  a5 := fun _ => by kernel_rfl
  z5 := fun _ => by kernel_rfl
  v5 := fun _ => by kernel_rfl
  infoByte := by kernel_rfl
  cellsByte := by kernel_rfl
  sizeByte := by kernel_rfl
  neB5 := by decide
/-- a builder of the call's own, holding the bytes of s -/
def Bld (B b : Nat) (s : ByteArray) (w : World) : Prop := Lib.IsBuilder 83 5 B b (Lib.strCells s) w
theorem Bld.new {B : Nat} (w : World) (hB : B ≤ w.heap.size) : Bld B w.heap.size ⟨#[]⟩ (w.alloc (.cells #[.pointer none, .slice none 0 0] 83)) :=
  .inl ⟨hB, .slice none 0 0, heap_alloc_new w _, World.ownsRow_nil _ _ _ _, by simp [Value.ownBlock]⟩
theorem strCells_app (a b : ByteArray) : Lib.strCells a ++ Lib.strCells b = Lib.strCells (a ++ b) := by simp [Lib.strCells]
/-- Below of the world ahead, and a builder that the call has made at or above it -/
theorem bld_write {B b : Nat} {s t : ByteArray} {w : World} (h : Bld B b s w) (hlen : s.size + t.size ≤ 140737488355328) (hB : B ≤ w.heap.size) :
    Calls Tryz.prog 49 #[.pointer (some ⟨b, 0, none⟩), .string t] w fun e w' => e = .returned (.tuple #[.int .i64 t.size, .nilIface]) ∧ Bld B b (s ++ t) w' ∧ Below B w w' := by
  refine (Any.Builder_WriteString bld_lays166 bld_x B b _ t w h (by rw [Lib.strCells_length]; exact hlen) hB).mono ?_
  rintro e w' ⟨he, hb, hw⟩
  refine ⟨he, .inr ?_, hw⟩
  rw [← strCells_app]
  exact hb
theorem bld_string {B b : Nat} {s : ByteArray} {w : World} (h : Bld B b s w) (hB : B ≤ w.heap.size) :
    Calls Tryz.prog 53 #[.pointer (some ⟨b, 0, none⟩)] w fun e w' => e = .returned (.string s) ∧ Below B w w' :=
  Any.Builder_String_any bld_lays169 bld_x B b s.data.toList w h hB
theorem Bld.alloc {B b : Nat} {s : ByteArray} {w : World} (h : Bld B b s w) (o : Obj) : Bld B b s (w.alloc o) := by
  rcases h with ⟨hB, v, hb, hown, hne⟩ | ⟨hB, v, hb, hown, hne⟩
  · have hlt := Lib.BuilderAt.lt ⟨hB, v, hb, hown, hne⟩
    exact .inl ⟨hB, v, (heap_alloc_old w o hlt).trans hb, hown.alloc o, hne⟩
  · have hlt := Lib.BuilderAt.lt ⟨hB, v, hb, hown, hne⟩
    exact .inr ⟨hB, v, (heap_alloc_old w o hlt).trans hb, hown.alloc o, hne⟩
/-- a call that leaves every block below the heap's end as it was -/
theorem Bld.step {B b : Nat} {s : ByteArray} {w w' : World} (h : Bld B b s w) (hk : Below w.heap.size w w') : Bld B b s w' := by
  have key : ∀ p, Lib.BuilderAt 83 5 B b p (Lib.strCells s) w → Lib.BuilderAt 83 5 B b p (Lib.strCells s) w' := by
    rintro p ⟨hB, v, hb, hown, hne⟩
    have hlt := Lib.BuilderAt.lt ⟨hB, v, hb, hown, hne⟩
    refine ⟨hB, v, (hk.block b hlt).trans hb, ⟨hown.1, ?_⟩, hne⟩
    rcases hown.2 with hn | ⟨g, cap, cur, hv, hbg, hg, rest⟩
    · exact .inl hn
    · have hlg : g < w.heap.size := (Array.getElem?_eq_some_iff.1 hg).1
      exact .inr ⟨g, cap, cur, hv, hbg, (hk.block g hlg).trans hg, rest⟩
  rcases h with h | h
  · exact .inl (key _ h)
  · exact .inr (key _ h)
end Go.Proofs.YtflpfcnpjadccaaGreatDoor

