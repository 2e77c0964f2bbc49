/-
  slices.IndexFunc and slices.ContainsFunc at the program's types (by program: genfn.py).
-/
import Derived.Test.YtlppngpafjfjeaaFam
import Derived.Test.YtlppngpafjfjeaaTy
import Derived.Test.YtlppngpafjfjeaaIdx
namespace Go.Proofs.Ytlppngpafjfjeaa
open Go.RowKit
set_option linter.unusedVariables false
set_option linter.unusedSimpArgs false
set_option linter.unnecessarySimpa false
set_option maxRecDepth 100000

set_option maxHeartbeats 800000 in
/-- slices.IndexFunc[[]impl.Block,impl.Block], at whatever function value -/
theorem idxBlockS_any (fid : Nat) (caps : Array Value) (p : Block → Bool) {B : Nat} {v : Value} {ts : List Block} {w : World} (hB : B ≤ w.heap.size) (h : Rep w B (.row 2 (ts.flatMap Block.pd)) v)
    (hcf : ∀ a W, Sem.run Try.prog (callFunc fid a) W = .ok (.enter fid a) W)
    (hp : ∀ t ∈ ts, ∀ (cs : List Value) (W : World), Below w.heap.size w W → RepC W B (Block.pd t) cs → Calls Try.prog fid (#[.agg cs.toArray] ++ caps) W fun e w' => e = .returned (.bool (p t)) ∧ Below W.heap.size W w') :
    Calls Try.prog 76 #[v, .func (.func fid) #[] caps] w fun e w' => e = .returned (.int .i64 (idxP p ts)) ∧ Below w.heap.size w w' := by
  obtain ⟨A, n, c, rfl, hnl, hm, hat⟩ := rep_row Block.pd_length (by decide) h
  unfold maxLen at hm
  have HN := Lib.hid hnl
  have HQ := Lib.hid hp
  clear h hnl hp
  go_enter Try.func76, Try.ntmps76
  go_wp2_with fail
  go_loopw [8] (fun i wr => ∃ k : Nat, k ≤ n ∧ i = .int .i64 k ∧ Hid (∀ (j : Nat) (t : Block), j < k → ts[j]? = some t → p t = false) ∧ Below w.heap.size w wr) (fun i _ => n - (intOf i).toNat)
  case atStart => exact ⟨0, Nat.zero_le _, rfl, Lib.hid fun j t h => absurd h (by omega), Below.refl _ _⟩
  case round =>
    obtain ⟨k, hk, rfl, HP, hbr⟩ := hrel
    by_cases hlt : k < n
    · obtain ⟨g, off, rfl, hg, hcell⟩ := hat (by omega)
      obtain ⟨t, hx, hmem⟩ := at_lt HN.out hlt
      obtain ⟨at_, size⟩ := t
      have c0 : wr.cell? ⟨g, off + k * 2, none⟩ = some (.int .i64 at_) := cell_lit hbr (by omega) (hcell k 0 _ _ hx (by rw [Block.pd_mk]; rfl))
      have c1 : wr.cell? ⟨g, off + k * 2 + 1, none⟩ = some (.int .i64 size) := cell_lit hbr (by omega) (hcell k 1 _ _ hx (by rw [Block.pd_mk]; rfl))
      have hc := HQ.out _ hmem [.int .i64 at_, .int .i64 size] wr hbr (Block.close_)
      obtain ⟨t, ht⟩ : ∃ t : Block, t = ⟨at_, size⟩ := ⟨_, rfl⟩
      rw [← ht] at hc hx
      clear ht
      have HC := Lib.hid hc
      have HX := Lib.hid hx
      clear hc hx hmem hcell
      go_wp2_with fail
      refine HC.out.mono ?_
      rintro e w1 ⟨rfl, hb1⟩
      have hB1 := hbr.trans (hb1.mono hbr.size)
      cases hb : p t
      · go_wp2_with fail
        go_roundw
        case rel => exact ⟨k + 1, by omega, by go_num, Lib.hid (pre_next HP.out HX.out hb), hB1⟩
        case measure => simp [intOf]; omega
      · have HI : Hid (idxP p ts = (k : Int)) := idxP_hit HP.out HX.out hb
        go_wp2_with fail
        go_ret
        exact ⟨ret_int HI.out.symm, hB1⟩
    · have hkn : k = n := by omega
      subst hkn
      have HI : Hid (idxP p ts = -1) := idxP_none fun j t ht => HP.out j t (by have := (List.getElem?_eq_some_iff.1 ht).1; have := HN.out; omega) ht
      go_wp2_with fail
      go_ret
      exact ⟨ret_int HI.out.symm, hbr⟩
/-- slices.ContainsFunc[[]impl.Block,impl.Block] -/
theorem hasBlockS_any (fid : Nat) (caps : Array Value) (p : Block → Bool) {B : Nat} {v : Value} {ts : List Block} {w : World} (hB : B ≤ w.heap.size) (h : Rep w B (.row 2 (ts.flatMap Block.pd)) v)
    (hcf : ∀ a W, Sem.run Try.prog (callFunc fid a) W = .ok (.enter fid a) W)
    (hp : ∀ t ∈ ts, ∀ (cs : List Value) (W : World), Below w.heap.size w W → RepC W B (Block.pd t) cs → Calls Try.prog fid (#[.agg cs.toArray] ++ caps) W fun e w' => e = .returned (.bool (p t)) ∧ Below W.heap.size W w') :
    Calls Try.prog 71 #[v, .func (.func fid) #[] caps] w fun e w' => e = .returned (.bool (ts.any p)) ∧ Below w.heap.size w w' := by
  have HI := Lib.hid (idxBlockS_any fid caps p hB h hcf hp)
  have HA := Lib.hid (idxP_any p ts)
  obtain ⟨i, hi⟩ : ∃ i, i = idxP p ts := ⟨_, rfl⟩
  rw [← hi] at HI HA
  clear h hp hi
  go_enter Try.func71, Try.ntmps71
  go_wp2_with fail
  refine HI.out.mono ?_
  rintro e w1 ⟨rfl, hb1⟩
  go_wp2_with fail
  go_ret
  exact ⟨ret_bool HA.out, hb1⟩
end Go.Proofs.Ytlppngpafjfjeaa
