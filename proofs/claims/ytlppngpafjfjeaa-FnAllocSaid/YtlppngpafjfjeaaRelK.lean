/-
  Release: the contracts that the law's walk asks for.
-/
import Derived.Test.YtlppngpafjfjeaaRelG
namespace Go.Proofs.Ytlppngpafjfjeaa
open Go.RowKit
set_option linter.unusedVariables false
set_option linter.unusedSimpArgs false
set_option linter.unnecessarySimpa false

def CapC (cs : List Value) : Prop := ∀ A n c, Value.slice A n c ∈ cs → n ≤ c
theorem cap_mem {w : World} {lo hi : Nat} {s : ByteArray} {bs : List Block} {us : List Value} (h : LvC w lo hi (Memory.pd ⟨s, bs⟩) us) : CapC us := by
  obtain ⟨F, h, _⟩ := h
  rw [Memory.pd_mk, HoldL] at h
  obtain ⟨c1, cs1, F1, F2, rfl, _, h1, h⟩ := h
  rw [HoldL] at h
  obtain ⟨c2, cs2, F3, F4, rfl, _, h2, h⟩ := h
  rw [HoldL] at h
  obtain ⟨rfl, _⟩ := h
  obtain ⟨rfl, _⟩ := Hold.of_lit h1
  rw [Hold] at h2
  obtain ⟨A2, n2, e2, rfl, _, k2, _⟩ := h2
  intro A n c hm
  simp at hm
  omega
theorem specRelease_ok (m : Memory) (a z : Int) (hwf : PD.wfL (Memory.pd m)) (hsz : PD.szL (Memory.pd m) ≤ 1048576) (ha : (Lit.int .i64 a).wf = true) (hz : (Lit.int .i64 z).wf = true) : ∀ (B : Nat) (cs : List Value) (w : World), B ≤ w.heap.size → CapC cs → RepC w B (Memory.pd m) cs →
    Calls Try.prog 29 #[.agg cs.toArray, .int .i64 a, .int .i64 z] w fun e w' => ∃ us, e = .returned (.tuple #[.agg us.toArray, .int .i64 (memRel m a z).2]) ∧ LvC w' w.heap.size w'.heap.size (Memory.pd (memRel m a z).1) us ∧ Below w.heap.size w w' := by
  obtain ⟨s, bs⟩ := m
  intro B cs w hB hC h
  obtain ⟨fv, rfl, hr⟩ := Memory.open_ h
  have hR : Rep w w.heap.size (blocks bs) fv := Rep.more hB _ _ hr
  obtain ⟨hs, hl⟩ := mem_sz hsz
  cases hm : memOk s bs
  · exact specRel_bad hs hR (mem_wf hwf) hm
  · by_cases h0 : z = 0
    · exact specRel_zero hm hR (mem_wf hwf) ha hz h0
    · exact specRel_all hm hR (mem_wf hwf) ha hz h0 (fun A n c e => hC A n c (by rw [e]; simp))
theorem implRelease_ok (m : Memory) (a z : Int) (hwf : PD.wfL (Memory.pd m)) (hsz : PD.szL (Memory.pd m) ≤ 1048576) (ha : (Lit.int .i64 a).wf = true) (hz : (Lit.int .i64 z).wf = true) : ∀ (B : Nat) (cs : List Value) (w : World), B ≤ w.heap.size → CapC cs → RepC w B (Memory.pd m) cs →
    Calls Try.prog 30 #[.agg cs.toArray, .int .i64 a, .int .i64 z] w fun e w' => ∃ us, e = .returned (.tuple #[.agg us.toArray, .int .i64 (memRel m a z).2]) ∧ LvC w' w.heap.size w'.heap.size (Memory.pd (memRel m a z).1) us ∧ Below w.heap.size w w' := by
  obtain ⟨s, bs⟩ := m
  intro B cs w hB hC h
  obtain ⟨fv, rfl, hr⟩ := Memory.open_ h
  have hR : Rep w w.heap.size (blocks bs) fv := Rep.more hB _ _ hr
  obtain ⟨hs, hl⟩ := mem_sz hsz
  cases hm : memOk s bs
  · exact implRel_bad hs hR (mem_wf hwf) hm
  · by_cases h0 : z = 0
    · exact implRel_zero hm hR (mem_wf hwf) ha hz h0
    · exact implRel_all hm hR (mem_wf hwf) ha hz h0
theorem memRel_cnt (m : Memory) (a z : Int) (hsz : PD.szL (Memory.pd m) ≤ 1048576) : rowsCnt (Memory.pd (memRel m a z).1) ≤ 1099511627775 := by
  have h2 : ∀ (b : ByteArray) (l : List Block), l.length ≤ 1048577 → rowsCnt (Memory.pd ⟨b, l⟩) ≤ 1099511627775 := fun b l hl => by
    have := blk_cnt l
    rw [Memory.pd_mk]; simp [rowsCnt, PD.cnt, PD.cntL]; omega
  obtain ⟨s, bs⟩ := m
  have hl := (mem_sz hsz).2
  rw [memRel]
  split
  · split
    · exact h2 _ _ (by omega)
    · split
      · exact h2 _ _ (by have := giveL_len bs ⟨a, z⟩; simp only at this ⊢; omega)
      · exact h2 _ _ (by simp)
  · exact h2 _ _ (by simp)
end Go.Proofs.Ytlppngpafjfjeaa

