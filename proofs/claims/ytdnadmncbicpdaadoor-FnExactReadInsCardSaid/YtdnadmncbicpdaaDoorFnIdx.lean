/-
  slices.IndexFunc and slices.ContainsFunc at the program's types (by program: genfn.py).
-/
import Derived.Test.YtdnadmncbicpdaaDoorFam
import Derived.Test.YtdnadmncbicpdaaDoorTy
import Derived.Test.YtdnadmncbicpdaaDoorIdx
namespace Go.Proofs.YtdnadmncbicpdaaDoor
open Go.RowKit
set_option linter.unusedVariables false
set_option linter.unusedSimpArgs false
set_option linter.unnecessarySimpa false
set_option maxRecDepth 100000

set_option maxHeartbeats 800000 in
theorem indexStringS_any (x : ByteArray) {B : Nat} {v : Value} {ts : List ByteArray} {w : World} (hB : B ≤ w.heap.size) (h : Rep w B (.row 1 (ts.flatMap strC)) v) :
    Calls Tryd.prog 9 #[v, .string x] w fun e w' => e = .returned (.int .i64 (idxP (fun t => decide (x = t)) ts)) ∧ Below w.heap.size w w' := by
  obtain ⟨A, n, c, rfl, hnl, hm, hat⟩ := rep_row strC_length (by decide) h
  unfold maxLen at hm
  have HN := Lib.hid hnl
  clear h hnl
  go_enter Tryd.func9, Tryd.ntmps9
  go_wp2_with fail
  go_loopw [8] (fun i wr => ∃ k : Nat, k ≤ n ∧ i = .int .i64 k ∧ Hid (∀ (j : Nat) (t : ByteArray), j < k → ts[j]? = some t → decide (x = t) = false) ∧ Below w.heap.size w wr) (fun i _ => n - (intOf i).toNat)
  case atStart => exact ⟨0, Nat.zero_le _, rfl, Lib.hid fun j t h => absurd h (by omega), Below.refl _ _⟩
  case round =>
    obtain ⟨k, hk, rfl, HP, hbr⟩ := hrel
    by_cases hlt : k < n
    · obtain ⟨g, off, rfl, hg, hcell⟩ := hat (by omega)
      obtain ⟨t, hx, hmem⟩ := at_lt HN.out hlt
      have c0 : wr.cell? ⟨g, off + k, none⟩ = some (.string t) := cell_lit hbr (by omega) (by have := hcell k 0 _ _ hx rfl; simpa using this)
      have HX := Lib.hid hx
      clear hx hmem hcell
      by_cases hb : x = t
      · have HI : Hid (idxP (fun t => decide (x = t)) ts = (k : Int)) := idxP_hit HP.out HX.out (by simp [hb])
        subst hb
        go_wp2_with fail
        go_ret
        exact ⟨ret_int HI.out.symm, hbr⟩
      · have hs : (x.toList == t.toList) = false := str_ne2 hb
        have HB := Lib.hid (pre_next HP.out HX.out (by simp [hb]))
        clear hb
        go_wp2_with fail
        go_roundw
        case rel => exact ⟨k + 1, by omega, by go_num, HB, hbr⟩
        case measure => simp [intOf]; omega
    · have hkn : k = n := by omega
      subst hkn
      have HI : Hid (idxP (fun t => decide (x = t)) ts = -1) := idxP_none fun j t ht => HP.out j t (by have := (List.getElem?_eq_some_iff.1 ht).1; have := HN.out; omega) ht
      go_wp2_with fail
      go_ret
      exact ⟨ret_int HI.out.symm, hbr⟩
end Go.Proofs.YtdnadmncbicpdaaDoor
