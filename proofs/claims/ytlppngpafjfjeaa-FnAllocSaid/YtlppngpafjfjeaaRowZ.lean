/-
  A row of bytes of the call's own that may bear the mark of a conversion ('[]byte(s)'), and what append and string(b) do to it.
-/
import Derived.Test.YtlppngpafjfjeaaFam
import Derived.Lib.ConvBytes
import Derived.Lib.AppendStr
import Derived.Lib.SlBytesRow
import Derived.Lib.SlBytesConst
namespace Go.Proofs.Ytlppngpafjfjeaa
open Go.RowKit
set_option linter.unusedVariables false
set_option linter.unusedSimpArgs false
set_option linter.unnecessarySimpa false

theorem byte_info : (Try.prog.info? 5).map (fun i => (i.zero, i.size, i.bytes)) = some (some (.int .u8 0), 1, 1) := by kernel_rfl
theorem storeCells_off (g o : Nat) (t : TypeId) (fz : Nat × Nat) : ∀ (vs : List Value) (i : Nat) (cur : Array Value) (w : World), w.heap[g]? = some (.cells cur t fz) → (fz.2 ≤ o + i ∨ cur.size ≤ fz.1) → o + i + vs.length ≤ cur.size → (∀ v ∈ vs, v.oneCell' = true) →
    (storeCells ⟨g, o, none⟩ vs i).run Try.prog w = .ok () (w.setRow g (cur.toList.take (o + i) ++ vs ++ cur.toList.drop (o + i + vs.length)).toArray)
  | [], i, cur, w, hg, _, _, _ => by
    simp only [storeCells, List.append_nil, List.length_nil, Nat.add_zero, List.take_append_drop, Array.toArray_toList]
    rw [setRow_self w g cur t fz hg]
    rfl
  | v :: rest, i, cur, w, hg, hfz, hl, h1 => by
    have hi : o + i < cur.size := by simp at hl; omega
    have hadd : (⟨g, o, none⟩ : Addr).add i = ⟨g, o + i, none⟩ := by unfold Addr.add; split <;> simp_all
    have hcell : w.cell? ⟨g, o + i, none⟩ = some cur[o + i] := by simp [World.cell?, hg, hi]
    have hfro : w.frozen? ⟨g, o + i, none⟩ = false := by
      obtain ⟨lo, hi'⟩ := fz
      simp only at hfz
      simp only [World.frozen?, hg, Bool.and_eq_false_iff, decide_eq_false_iff_not]
      rcases hfz with h | h
      · right; omega
      · left; omega
    have hst : (store ((⟨g, o, none⟩ : Addr).add i) v).run Try.prog w = .ok () (w.setRow g (cur.setIfInBounds (o + i) v)) := by
      rw [hadd, run_store Try.prog w _ v _ (h1 v (by simp)), hcell]
      simp [hfro, setCell_eq_setRow w g (o + i) cur t fz v hg]
    have ih := storeCells_off g o t fz rest (i + 1) (cur.setIfInBounds (o + i) v) (w.setRow g (cur.setIfInBounds (o + i) v)) (setRow_heap w g cur _ t _ hg) (by simp; rcases hfz with h | h <;> omega) (by simp at hl ⊢; omega) (fun x hx => h1 x (by simp [hx]))
    simp only [storeCells, Sem.run_bind, hst, Result.andThen_ok, ih, setRow_setRow]
    congr 3
    have e := list_seg_step cur.toList (o + i) v rest (by simp at hl ⊢; omega)
    simpa [Array.toList_setIfInBounds, Nat.add_assoc] using e

/-- the slice v is the whole of a row of the call's own (from block B on), which holds the bytes s; the row may bear a mark behind its end -/
def RowX (B : Nat) (v : Value) (s : ByteArray) (w : World) : Prop :=
  ∃ g cap cur fz, v = .slice (some ⟨g, 0, none⟩) s.size cap ∧ B ≤ g ∧ w.heap[g]? = some (.cells cur 5 fz) ∧ (fz.2 ≤ s.size ∨ cur.size ≤ fz.1) ∧ s.size ≤ cap ∧ cap ≤ maxLen ∧ cur.size = cap ∧ cur.toList.take s.size = Lib.strCells s
theorem RowX.form {B : Nat} {v : Value} {s : ByteArray} {w : World} (h : RowX B v s w) : ∃ g cap, v = .slice (some ⟨g, 0, none⟩) s.size cap ∧ B ≤ g := by
  obtain ⟨g, cap, _, _, rfl, hb, _⟩ := h
  exact ⟨g, cap, rfl, hb⟩
theorem RowX.alloc {B : Nat} {v : Value} {s : ByteArray} {w : World} (h : RowX B v s w) (o : Obj) : RowX B v s (w.alloc o) := by
  obtain ⟨g, cap, cur, fz, rfl, hb, hg, rest⟩ := h
  exact ⟨g, cap, cur, fz, rfl, hb, (heap_alloc_old w o (Array.getElem?_eq_some_iff.1 hg).1).trans hg, rest⟩
theorem RowX.step {B : Nat} {v : Value} {s : ByteArray} {w w' : World} (h : RowX B v s w) (hk : Below w.heap.size w w') : RowX B v s w' := by
  obtain ⟨g, cap, cur, fz, rfl, hb, hg, rest⟩ := h
  exact ⟨g, cap, cur, fz, rfl, hb, (hk.block g (Array.getElem?_eq_some_iff.1 hg).1).trans hg, rest⟩
/-- '[]byte(s)' -/
theorem conv_rule (w : World) (s : ByteArray) : (convert 9 45 (.string s)).run Try.prog w = .ok (.slice (some ⟨w.heap.size, 0, none⟩) s.size (grownCap w s.size 0 5)) (Lib.bytesWorld w 5 s) :=
  Lib.run_convert_string_bytes w _ _ _ s Try.underlying9 Try.underlying45 Try.underlying5
theorem RowX.conv {B : Nat} {w : World} {s : ByteArray} (hB : B ≤ w.heap.size) (hs : s.size ≤ maxLen) : RowX B (.slice (some ⟨w.heap.size, 0, none⟩) s.size (grownCap w s.size 0 5)) s (Lib.bytesWorld w 5 s) := by
  have hge := grownCap_ge w s.size 0 5
  have hsz : (Lib.bytesCells w 5 s).size = grownCap w s.size 0 5 := by simp only [Lib.bytesCells, Array.size_append, Array.size_map, Array.size_replicate]; have e : s.data.size = s.size := rfl; omega
  refine ⟨_, _, _, _, rfl, hB, Lib.bytesWorld_at_new w 5 s, .inr (Nat.le_refl _), hge, grownCap_le_maxLen w s.size 0 5 hs, hsz, ?_⟩
  simp only [Lib.bytesCells, Array.toList_append, Array.toList_map]
  have hl : s.size = (s.data.toList.map fun b => Value.int .u8 b.toNat).length := by simp
  exact (congrArg (fun k => List.take k _) hl).trans List.take_left
theorem conv_below {B : Nat} {w : World} {s : ByteArray} (hB : B ≤ w.heap.size) : Below B w (Lib.bytesWorld w 5 s) := by
  refine ⟨rfl, rfl, rfl, ?_, fun k hk => ?_⟩
  · rw [Lib.bytesWorld_size]; omega
  · exact Lib.bytesWorld_at_old w _ s k (by omega)
/-- '[]byte("abc")' of a constant: the row as it was laid, marked -/
theorem convc_rule (w : World) (C : Array Value) (n c : Nat) : (convert 45 45 (.slice (some ⟨w.heap.size, 0, none⟩) n c)).run Try.prog (w.alloc (.cells C 5)) = .ok (.slice (some ⟨w.heap.size, 0, none⟩) n c) (w.alloc (.cells C 5 (C.size, C.size + 1))) :=
  Lib.run_convert_bytes_const w _ _ C n c Try.underlying45 Try.underlying5
/-- 'string(b)' -/
theorem RowX.str {B : Nat} {v : Value} {s : ByteArray} {w : World} (h : RowX B v s w) : (convert 45 9 v).run Try.prog w = .ok (.string s) w := by
  obtain ⟨g, cap, cur, fz, rfl, hb, hg, _, hn, _, hc, ht⟩ := h
  refine Lib.run_convert_whole w _ _ _ Try.underlying45 Try.underlying5 Try.underlying9 g 0 s (fun i hi => ?_) cap
  have h1 : (Lib.strCells s)[i]? = some (.int .u8 (s[i].toNat : Int)) := by
    simp only [Lib.strCells, List.getElem?_map]
    have : s.data.toList[i]? = some s[i] := Go.Proofs.byte_at s i hi
    rw [this]; rfl
  rw [← ht, List.getElem?_take, if_pos hi] at h1
  simp [World.cell?, hg]
  simpa using h1
theorem append_x {B : Nat} {v : Value} {s t : ByteArray} {w : World} (ty : TypeId) (h : RowX B v s w) (hbytes : s.size + t.size ≤ 140737488355328) (hB : B ≤ w.heap.size) :
    ∃ v' w', (Builtin.append_ #[45, 9] ty #[v, .string t]).run Try.prog w = .ok v' w' ∧ RowX B v' (s ++ t) w' ∧ w.grownBy w' v.ownBlock := by
  obtain ⟨i0, hi, hz0, hz1, hz2⟩ := info_parts byte_info
  obtain ⟨g, cap, cur, fz, rfl, hbg, hg, hfz, hnc, hcm, hcs, htake⟩ := h
  have h63 : s.size + t.size ≤ maxLen := by simp only [maxLen]; omega
  have happ : (s ++ t).size = s.size + t.size := ByteArray.size_append
  by_cases hroom : s.size + t.size ≤ cap
  · have hf := Lib.run_firstCells_string (P := Try.prog) w 1 t
    have hst := storeCells_off g s.size 5 fz (Lib.strCells t) 0 cur w hg (by simpa using hfz) (by rw [Lib.strCells_length]; omega) (Lib.strCells_oneCell t)
    simp only [Nat.add_zero, Lib.strCells_length] at hst
    have hr : (Builtin.append_ #[45, 9] ty #[.slice (some ⟨g, 0, none⟩) s.size cap, .string t]).run Try.prog w =
        .ok (.slice (some ⟨g, 0, none⟩) (s.size + t.size) cap) (w.setRow g (cur.toList.take s.size ++ Lib.strCells t ++ cur.toList.drop (s.size + t.size)).toArray) := by
      simp [Builtin.append_, run_underlying Try.underlying45, run_underlying Try.underlying9, sizeOf, typeInfo, hi, hz1, Builtin.lenOf, hroom, hf, Addr.add_lit, hst]
    refine ⟨_, _, hr, ⟨g, cap, _, fz, by rw [happ], hbg, setRow_heap w g cur _ _ _ hg, ?_, by omega, hcm, ?_, ?_⟩, ⟨rfl, rfl, rfl, by simp, fun k _ hk => setRow_other w g k _ (fun e => hk (by simp [Value.ownBlock, e]))⟩⟩
    · have hl : ((cur.toList.take s.size ++ Lib.strCells t ++ cur.toList.drop (s.size + t.size)).toArray).size = cap := by
        simp only [List.size_toArray, List.length_append, List.length_take, List.length_drop, Array.length_toList, Lib.strCells_length]
        omega
      rw [hl]
      rcases hfz with h | h
      · left; omega
      · right; omega
    · simp only [List.size_toArray, List.length_append, List.length_take, List.length_drop, Array.length_toList, Lib.strCells_length]
      omega
    · rw [htake, happ]
      have hl : s.size + t.size = (Lib.strCells s ++ Lib.strCells t).length := by simp [Lib.strCells_length]
      have hcat : Lib.strCells s ++ Lib.strCells t = Lib.strCells (s ++ t) := by simp [Lib.strCells]
      rw [hl, ← hcat]
      exact List.take_left
  · have holds : ∀ j u, (Lib.strCells s)[j]? = some u → w.cell? ((⟨g, 0, none⟩ : Addr).add j) = some u := by
      intro j u hu
      have hadd : (⟨g, 0, none⟩ : Addr).add j = ⟨g, j, none⟩ := by unfold Addr.add; split <;> simp_all
      rw [hadd, cell_of_row w g j cur _ fz hg]
      rw [← htake, List.getElem?_take] at hu
      split at hu
      · simpa using hu
      · cases hu
    have hr := Lib.run_append_grow_string (P := Try.prog) w 45 9 ty 5 i0 (.int .u8 0) Try.underlying45 Try.underlying9 hi hz0 ⟨g, 0, none⟩ s.size cap (Lib.strCells s) (by rw [hz1, Lib.strCells_length]; omega) holds t (by omega) (by omega) (by rw [hz2]; exact growslice_fits (by omega) (by omega))
    have hge := grownCap_ge w (s.size + t.size) cap 5
    have hcm2 : grownCap w (s.size + t.size) cap 5 ≤ maxLen := grownCap_le_maxLen w (s.size + t.size) cap 5 h63
    refine ⟨_, _, hr, ⟨w.heap.size, _, _, (0, 0), by rw [happ], hB, heap_alloc_new w.drew _, .inl (Nat.zero_le _), by omega, hcm2, ?_, ?_⟩, ⟨rfl, rfl, rfl, by simp, fun k hk _ => heap_alloc_old w.drew _ hk⟩⟩
    · have hz1 : (Value.int IntKind.u8 0).cells.size = 1 := rfl
      simp only [Array.size_append, List.size_toArray, size_zeroCells, hz1, Lib.strCells_length]
      omega
    · simp only [Array.toList_append, List.append_assoc]
      have hcat : Lib.strCells s ++ Lib.strCells t = Lib.strCells (s ++ t) := by simp [Lib.strCells]
      rw [← List.append_assoc, hcat, ← Lib.strCells_length (s ++ t)]
      exact List.take_left
/-- 'append(b, t...)', for the walk -/
theorem wpList_append_x {ops : Array Oper} {rest : List Oper} {o : Oper} {a : Act} {w : World} {Q : Exit → Act → World → Prop} (hgd : o.guard = none) (sl x : Operand)
    (ho : o.op = .call { callee := .builtin .append, args := #[sl, x], argTypes := #[45, 9] })
    {B : Nat} {v : Value} {s t : ByteArray} (h : RowX B v s w) (hs : a.eval sl = v) (hx : a.eval x = .string t) (hbytes : s.size + t.size ≤ 140737488355328) (hB : B ≤ w.heap.size)
    (k : ∀ v' w', RowX B v' (s ++ t) w' → w.grownBy w' v.ownBlock → wpList Try.prog ops Q rest (a.put o.dst v') w') : wpList Try.prog ops Q (o :: rest) a w := by
  refine wpList_plain hgd fun K hK => ?_
  obtain ⟨v', w', hr, h2, h3⟩ := append_x o.type h hbytes hB
  unfold Oper.wp execOp
  simp only [ho, resolve, invoke, builtin, Sem.run_bind, Sem.run_pure, Result.andThen_ok, List.map_toArray, List.map_cons, List.map_nil, hs, hx, hr]
  exact hK _ _ (k v' w' h2 h3)
end Go.Proofs.Ytlppngpafjfjeaa

