/-
  (*store).grow of a store that has bytes.
-/
import Derived.Test.YtlppngpafjfjeaaStoreOf
import Derived.Test.YtlppngpafjfjeaaPut
import Derived.Lib.AppendZerosOnto
namespace Go.Proofs.Ytlppngpafjfjeaa
open Go.RowKit
set_option linter.unusedVariables false
set_option linter.unusedSimpArgs false
set_option linter.unnecessarySimpa false
set_option maxRecDepth 16000

theorem zeroCells_list (k : Nat) : (Builtin.zeroCells (Value.int .u8 0).cells k).toList = List.replicate k (.int .u8 0) := by
  have := zc1 k 0
  simpa [Builtin.zeroCells] using this
theorem append_z {B : Nat} {v : Value} {s : ByteArray} {k : Nat} {w : World} (h : RowX B v s w) (hbytes : s.size + k ≤ 8192) (hB : B ≤ w.heap.size) :
    ∃ v' w', (∀ ty, (Builtin.append_ #[45, 2] ty #[v, .int .i64 k]).run Try.prog w = .ok v' w') ∧ RowX B v' (s ++ zerosB k) w' ∧ w.grownBy w' v.ownBlock ∧ (v'.ownBlock = v.ownBlock ∨ v'.ownBlock = some w.heap.size) := by
  obtain ⟨i0, hi, hz0, hz1, hz2⟩ := info_parts byte_info
  obtain ⟨g, cap, cur, fz, rfl, hbg, hg, hfz, hnc, hcm, hcs, htake⟩ := h
  have h63 : s.size + k ≤ maxLen := by simp only [maxLen]; omega
  have happ : (s ++ zerosB k).size = s.size + k := by rw [ByteArray.size_append, zerosB_size]
  have hcat : Lib.strCells s ++ List.replicate k (Value.int .u8 0) = Lib.strCells (s ++ zerosB k) := by rw [← zerosB_cells]; simp [Lib.strCells]
  have hwk : IntKind.i64.wrap (k : Int) = k := IntWalk.i64_in _ (by omega)
  by_cases hroom : s.size + k ≤ cap
  · have hst := storeCells_off g s.size 5 fz (List.replicate k (Value.int .u8 0)) 0 cur w hg (by simpa using hfz) (by simp; omega) (fun v hv => by rw [(List.mem_replicate.1 hv).2]; rfl)
    simp only [Nat.add_zero, List.length_replicate] at hst
    have h48 : ¬ (281474976710656 < (k : Int)) := by omega
    have hk0 : ¬ ((k : Int) < 0) := by omega
    have hr : ∀ ty, (Builtin.append_ #[45, 2] ty #[.slice (some ⟨g, 0, none⟩) s.size cap, .int .i64 k]).run Try.prog w =
        .ok (.slice (some ⟨g, 0, none⟩) (s.size + k) cap) (w.setRow g (cur.toList.take s.size ++ List.replicate k (Value.int .u8 0) ++ cur.toList.drop (s.size + k)).toArray) := by
      intro ty
      by_cases hkz : k = 0
      · subst hkz
        simp only [List.replicate_zero] at hst
        simp [Builtin.append_, run_underlying Try.underlying45, run_underlying Try.underlying2, sizeOf, typeInfo, zeroValue, hi, hz0, hz1, hz2, asInt, asIntOf, IntKind.wrap_i64, hnc, Addr.add_lit, hst]
      · simp [Builtin.append_, run_underlying Try.underlying45, run_underlying Try.underlying2, sizeOf, typeInfo, zeroValue, hi, hz0, hz1, hz2, asInt, asIntOf, hwk, hroom, hkz, h48, hk0, Addr.add_lit, zeroCells_list, hst]
    refine ⟨_, _, hr, ⟨g, cap, _, fz, by rw [happ], hbg, setRow_heap w g cur _ _ _ hg, ?_, by omega, hcm, ?_, ?_⟩, ⟨rfl, rfl, rfl, by simp, fun j _ hk => setRow_other w g j _ (fun e => hk (by simp [Value.ownBlock, e]))⟩, .inl rfl⟩
    · have hl : ((cur.toList.take s.size ++ List.replicate k (Value.int .u8 0) ++ cur.toList.drop (s.size + k)).toArray).size = cap := by
        simp only [List.size_toArray, List.length_append, List.length_take, List.length_drop, Array.length_toList, List.length_replicate]
        omega
      rw [hl]
      rcases hfz with h | h
      · left; omega
      · right; omega
    · simp only [List.size_toArray, List.length_append, List.length_take, List.length_drop, Array.length_toList, List.length_replicate]
      omega
    · rw [htake, happ]
      have hl : s.size + k = (Lib.strCells s ++ List.replicate k (Value.int .u8 0)).length := by simp [Lib.strCells_length]
      rw [hl, ← hcat]
      exact List.take_left
  · have holds : ∀ j u, (Lib.strCells s)[j]? = some u → w.cell? ((⟨g, 0, none⟩ : Addr).add j) = some u := by
      intro j u hu
      have hadd : (⟨g, 0, none⟩ : Addr).add j = ⟨g, j, none⟩ := by unfold Addr.add; split <;> simp_all
      rw [hadd, cell_of_row w g j cur _ fz hg]
      rw [← htake, List.getElem?_take] at hu
      split at hu
      · simpa using hu
      · cases hu
    have hf := run_firstCells_some (P := Try.prog) (w := w.drew) 1 s.size ⟨g, 0, none⟩ s.size cap (Lib.strCells s) (by rw [Lib.strCells_length]; omega) holds
    have hge := grownCap_ge w (s.size + k) cap 5
    have hcm2 : grownCap w (s.size + k) cap 5 ≤ maxLen := grownCap_le_maxLen w (s.size + k) cap 5 h63
    have hr := fun ty => Lib.run_append_grow_zeros (P := Try.prog) w 45 2 ty 5 i0 (.int .u8 0) .i64 .i64 Try.underlying45 Try.underlying2 hi hz0 (some ⟨g, 0, none⟩) s.size cap (Lib.strCells s) (by rw [hz1]; exact hf) k (by omega) (by rw [hz1]; decide) (by omega) (by omega) (by rw [hz2]; omega) (by rw [hz2]; exact growslice_fits (by omega) (by omega))
    refine ⟨_, _, hr, ⟨w.heap.size, _, _, (0, 0), by rw [happ], hB, heap_alloc_new w.drew _, .inl (Nat.zero_le _), by omega, hcm2, ?_, ?_⟩, ⟨rfl, rfl, rfl, by simp, fun j hj _ => heap_alloc_old w.drew _ hj⟩, .inr rfl⟩
    · have hz1 : (Value.int IntKind.u8 0).cells.size = 1 := rfl
      simp only [Array.size_append, List.size_toArray, size_zeroCells, hz1, Lib.strCells_length]
      omega
    · simp only [Array.toList_append, zeroCells_list]
      rw [hcat, ← Lib.strCells_length (s ++ zerosB k)]
      exact List.take_left
end Go.Proofs.Ytlppngpafjfjeaa

