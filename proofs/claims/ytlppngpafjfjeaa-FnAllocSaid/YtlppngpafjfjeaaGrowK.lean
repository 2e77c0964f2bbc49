/-
  GrowMem: the contracts that the law's walk asks for.
-/
import Derived.Test.YtlppngpafjfjeaaGrowI
import Derived.Test.YtlppngpafjfjeaaGrowG
namespace Go.Proofs.Ytlppngpafjfjeaa
open Go.RowKit
set_option linter.unusedVariables false
set_option linter.unusedSimpArgs false
set_option linter.unnecessarySimpa false

theorem specGrowMem_ok (m : Memory) (n : Int) (hwf : PD.wfL (Memory.pd m)) (hsz : PD.szL (Memory.pd m) ≤ 1048576) (hn : (Lit.int .i64 n).wf = true) : ∀ (B : Nat) (cs : List Value) (w : World), B ≤ w.heap.size → RepC w B (Memory.pd m) cs →
    Calls Try.prog 27 #[.agg cs.toArray, .int .i64 n] w fun e w' => ∃ us, e = .returned (.tuple #[.agg us.toArray, .int .i64 (memGrow m n).2]) ∧ LvC w' w.heap.size w'.heap.size (Memory.pd (memGrow m n).1) us ∧ Below w.heap.size w w' := by
  obtain ⟨s, bs⟩ := m
  intro B cs w hB h
  obtain ⟨fv, rfl, hr⟩ := Memory.open_ h
  have hR : Rep w w.heap.size (blocks bs) fv := Rep.more hB _ _ hr
  obtain ⟨hs, hl⟩ := mem_sz hsz
  by_cases hc : memOk s bs = true ∧ 0 ≤ n ∧ n ≤ 4096 - (s.size : Int)
  · obtain ⟨k, rfl⟩ : ∃ k : Nat, n = k := ⟨n.toNat, by omega⟩
    exact specGrow_yes hc.1 hR (mem_wf hwf) (by omega)
  · exact specGrow_no hs hR (mem_wf hwf) hn hc
theorem implGrowMem_ok (m : Memory) (n : Int) (hwf : PD.wfL (Memory.pd m)) (hsz : PD.szL (Memory.pd m) ≤ 1048576) (hn : (Lit.int .i64 n).wf = true) : ∀ (B : Nat) (cs : List Value) (w : World), B ≤ w.heap.size → RepC w B (Memory.pd m) cs →
    Calls Try.prog 28 #[.agg cs.toArray, .int .i64 n] w fun e w' => ∃ us, e = .returned (.tuple #[.agg us.toArray, .int .i64 (memGrow m n).2]) ∧ LvC w' w.heap.size w'.heap.size (Memory.pd (memGrow m n).1) us ∧ Below w.heap.size w w' := by
  obtain ⟨s, bs⟩ := m
  intro B cs w hB h
  obtain ⟨fv, rfl, hr⟩ := Memory.open_ h
  have hR : Rep w w.heap.size (blocks bs) fv := Rep.more hB _ _ hr
  obtain ⟨hs, hl⟩ := mem_sz hsz
  by_cases hc : memOk s bs = true ∧ 0 ≤ n ∧ n ≤ 4096 - (s.size : Int)
  · obtain ⟨k, rfl⟩ : ∃ k : Nat, n = k := ⟨n.toNat, by omega⟩
    exact implGrow_yes hc.1 hR (mem_wf hwf) (by omega)
  · exact implGrow_no hs hR (mem_wf hwf) hn hc
end Go.Proofs.Ytlppngpafjfjeaa

