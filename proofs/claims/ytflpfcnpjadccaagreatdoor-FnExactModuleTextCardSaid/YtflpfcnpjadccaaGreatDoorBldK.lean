/-
  strings.Builder beside boxes of the call's own: what a write keeps.
-/
import Derived.Test.YtflpfcnpjadccaaGreatDoorBld
import Derived.Shelf.Strings.BuilderK
namespace Go.Proofs.YtflpfcnpjadccaaGreatDoor
open Go.RowKit Go.Shelf
set_option linter.unusedVariables false
/-- a builder of the call's own, holding the bytes of s -/
def BldK (B b : Nat) (s : ByteArray) (w : World) : Prop := Lib.IsBuilderF 83 5 B b (Lib.strCells s) w
/-- what a write to builder b keeps: all that are no bytes -/
def OthK (b : Nat) (w w' : World) : Prop := Lib.OthersKept 5 (some b) w w'
theorem BldK.new {B : Nat} (w : World) (hB : B ≤ w.heap.size) : BldK B w.heap.size ⟨#[]⟩ (w.alloc (.cells #[.pointer none, .slice none 0 0] 83)) := Lib.IsBuilderF.of (Bld.new w hB)
theorem bldK_write {B b : Nat} {s t : ByteArray} {w : World} (h : BldK B b s w) (hlen : s.size + t.size ≤ 140737488355328) (hB : B ≤ w.heap.size) :
    Calls Tryz.prog 49 #[.pointer (some ⟨b, 0, none⟩), .string t] w fun e w' => e = .returned (.tuple #[.int .i64 t.size, .nilIface]) ∧ BldK B b (s ++ t) w' ∧ Below B w w' ∧ OthK b w w' := by
  refine (Any.Builder_WriteString_k bld_lays166 bld_x B b _ t w h (by rw [Lib.strCells_length]; exact hlen) hB).mono ?_
  rintro e w' ⟨he, hb, hw, hk⟩
  refine ⟨he, .inr ?_, hw, hk⟩
  rw [← strCells_app]
  exact hb
theorem bldK_string {B b : Nat} {s : ByteArray} {w : World} (h : BldK B b s w) (hB : B ≤ w.heap.size) :
    Calls Tryz.prog 53 #[.pointer (some ⟨b, 0, none⟩)] w fun e w' => e = .returned (.string s) ∧ Below B w w' := by
  refine (Any.Builder_String_any_k bld_lays169 bld_x B b s.data.toList w h hB).mono ?_
  rintro e w' ⟨he, _, hw, _⟩
  exact ⟨he, hw⟩
theorem BldK.alloc {B b : Nat} {s : ByteArray} {w : World} (h : BldK B b s w) (o : Obj) : BldK B b s (w.alloc o) := Lib.IsBuilderF.alloc h o
/-- a call that leaves every block below the heap's end as it was -/
theorem BldK.step {B b : Nat} {s : ByteArray} {w w' : World} (h : BldK B b s w) (hk : Below w.heap.size w w') : BldK B b s w' := by
  have key : ∀ p, Lib.BuilderAtF 83 5 B b p (Lib.strCells s) w → Lib.BuilderAtF 83 5 B b p (Lib.strCells s) w' := by
    rintro p ⟨hB, v, hb, hown, hne⟩
    have hlt := Lib.BuilderAtF.lt ⟨hB, v, hb, hown, hne⟩
    refine ⟨hB, v, (hk.block b hlt).trans hb, ⟨hown.1, ?_⟩, hne⟩
    rcases hown.2 with hn | ⟨g, cap, cur, fz, hv, hbg, hg, rest⟩
    · exact .inl hn
    · have hlg : g < w.heap.size := (Array.getElem?_eq_some_iff.1 hg).1
      exact .inr ⟨g, cap, cur, fz, hv, hbg, (hk.block g hlg).trans hg, rest⟩
  rcases h with h | h
  · exact .inl (key _ h)
  · exact .inr (key _ h)
theorem Blk.oth {w w' : World} {g b : Nat} {t : TypeId} {cs : Array Value} (h : Blk w g t cs) (hk : OthK b w w') (hg : g ≠ b) (ht : t ≠ 5) : Blk w' g t cs :=
  hk g _ h (by simpa using hg) (fun c fz e => by injection e with _ e _; exact ht e)
theorem bytes_decide : ((51 : Nat) ≠ 5) := by decide
end Go.Proofs.YtflpfcnpjadccaaGreatDoor

