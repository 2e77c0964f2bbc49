/-
  Bytes that a call owns as a string.
-/
import Derived.Test.YtlkfaednolmfkaaRows
import Derived.Test.YtlkfaednolmfkaaBase
import Derived.Laws.BytesArg
import Derived.Laws.BitsLemmas
import Derived.Laws.AppendOwnNone
namespace Go.Proofs.Ytlkfaednolmfkaa
open Go.RowKit
set_option linter.unusedVariables false
set_option linter.unusedSimpArgs false
set_option linter.unnecessarySimpa false

def bytesV (xs : List Int) : List Value := xs.map (Value.int .u8)
theorem bytesV_append (xs ys : List Int) : bytesV (xs ++ ys) = bytesV xs ++ bytesV ys := by simp [bytesV]
theorem one_byte (x : Int) : ∀ u ∈ [Value.int .u8 x], u.oneCell' = true := by
  intro u hu
  rw [List.mem_singleton.1 hu]
  rfl
theorem byte_info : (Try.prog.info? 5).map (fun i => (i.zero, i.size, i.bytes)) = some (some (.int .u8 0), 1, 1) := by kernel_rfl
/-- 'string(b)' of a row of the call's own -/
theorem str_bytes {w : World} {B m c : Nat} {A : Option Addr} {zs : List Int} (h : w.ownsRow B 5 1 (.slice A m c) m (bytesV zs)) :
    (convert 28 9 (.slice A m c)).run Try.prog w = .ok (.string (strOfNums zs)) w := by
  have hlz : zs.length = m := by simpa [bytesV] using h.1
  rcases h.2 with ⟨e, h0⟩ | ⟨g, cap, cur, e, h0⟩
  · injection e with e1 e2 e3
    subst e1 e2 e3
    have : zs = [] := List.length_eq_zero_iff.1 hlz
    subst this
    exact run_convert_bytes_nil _ _ _ Try.underlying28 Try.underlying5 _ _ _ Try.underlying9
  · injection e with e1 e2 e3
    subst e1 e3
    refine run_convert_bytes_arg _ _ _ Try.underlying28 Try.underlying5 _ 0 _ _ zs hlz (fun i hi => ?_) _ Try.underlying9
    have hi' : i < zs.length := by omega
    have := h.cells (g := g) rfl i (.int .u8 (zs[i])) (by simp [bytesV, hi'])
    have e : (⟨g, 0, none⟩ : Addr).add i = ⟨g, 0 + i, none⟩ := by unfold Addr.add; split <;> simp_all
    rw [e] at this
    simpa [hi'] using this
theorem owns_n {w : World} {base sz n n2 c : Nat} {e : TypeId} {A : Option Addr} {xs : List Value} (h : w.ownsRow base e sz (.slice A n2 c) n xs) : n2 = n := by
  rcases h.2 with ⟨he, h0⟩ | ⟨g, cap, cur, he, _⟩
  · cases he; exact h0.symm
  · cases he; rfl
end Go.Proofs.Ytlkfaednolmfkaa

