/-
  spec.SameMemory and impl.SameMemory return the same bool.
-/
import Derived.Test.YtlppngpafjfjeaaMemK
import Derived.Laws.StructEq
namespace Go.Proofs.Ytlppngpafjfjeaa
open Go.RowKit
set_option linter.unusedVariables false
set_option linter.unusedSimpArgs false
set_option linter.unnecessarySimpa false

instance : DecidableEq Block := fun ⟨a, b⟩ ⟨c, d⟩ => decidable_of_iff (a = c ∧ b = d) (by simp)
theorem blkS1 : Try.prog.underlying 49 = some (.struct (Try.prog.fieldsOf 49)) := by kernel_rfl
theorem blkS2 : Try.prog.stoodInHeld 49 = false := by kernel_rfl
theorem blkS3 : Try.prog.eqGuardType Try.prog.depth 49 = false := by kernel_rfl
theorem neqBlock (a b c d : Int) (W : World) : (binOp .neq 49 (.agg #[.int .i64 a, .int .i64 b]) (.agg #[.int .i64 c, .int .i64 d])).run Try.prog W = .ok (.bool (!((a == c) && (b == d)))) W := by
  rw [run_neq_struct, run_equalIn_struct _ _ _ _ _ blkS1 blkS2]
  cases h1 : (a == c) <;> cases h2 : (b == d) <;> simp [go_sem, Try.underlying49, Op.eqFields, h1, h2]
theorem eqGuardBlock (x y : Operand) (xs ys : Array Value) (W : World) : (eqGuard .neq 49 x y (.agg xs) (.agg ys)).run Try.prog W = .ok () W := run_eqGuard_agg W _ _ _ _ _ _ blkS3

theorem equalB_any {A A' : Option Addr} {n n' c c' : Nat} {B : Nat} {bs cs : List Block} {w : World} (h : Rep w B (blocks bs) (.slice A n c)) (k : Rep w B (blocks cs) (.slice A' n' c')) :
    Calls Try.prog 36 #[.slice A n c, .slice A' n' c'] w fun e w' => e = .returned (.bool (decide (bs = cs))) ∧ Below w.heap.size w w' := by
  obtain ⟨_, _, _, he, hnl, hm, hat⟩ := rep_row Block.pd_length (by decide) h
  obtain ⟨_, _, _, he', hnl', hm', hat'⟩ := rep_row Block.pd_length (by decide) k
  injection he with e1 e2 e3
  injection he' with e4 e5 e6
  subst e1 e2 e3 e4 e5 e6
  unfold maxLen at hm hm'
  have HN := Lib.hid hnl
  have HM := Lib.hid hnl'
  clear h k hnl hnl'
  by_cases hnm : n = n'
  · subst hnm
    go_enter Try.func36, Try.ntmps36
    go_wp2_with fail
    go_loopw [13] (fun i wr => ∃ k : Nat, k ≤ n ∧ i = .int .i64 k ∧ bs.take k = cs.take k ∧ ∃ q, wr = w.drewN q) (fun i _ => n - (intOf i).toNat)
    case atStart => exact ⟨0, Nat.zero_le _, rfl, rfl, 0, rfl⟩
    case round =>
      obtain ⟨k, hk, rfl, hpre, q, rfl⟩ := hrel
      have HP := Lib.hid hpre
      clear hpre
      by_cases hlt : k < n
      · obtain ⟨g, off, rfl, hg, hcell⟩ := hat (by omega)
        obtain ⟨g', off', rfl, hg', hcell'⟩ := hat' (by omega)
        obtain ⟨b, hx, _⟩ := at_lt HN.out hlt
        obtain ⟨d, hy, _⟩ := at_lt HM.out hlt
        obtain ⟨b0, b1⟩ := b
        obtain ⟨d0, d1⟩ := d
        have c0 : w.cell? ⟨g, off + k * 2, none⟩ = some (.int .i64 b0) := by
          obtain ⟨u, hu, hr⟩ := hcell k 0 _ _ hx rfl
          rwa [hr.of_lit] at hu
        have c1 : w.cell? ⟨g, off + k * 2 + 1, none⟩ = some (.int .i64 b1) := by
          obtain ⟨u, hu, hr⟩ := hcell k 1 _ _ hx rfl
          rwa [hr.of_lit] at hu
        have e0 : w.cell? ⟨g', off' + k * 2, none⟩ = some (.int .i64 d0) := by
          obtain ⟨u, hu, hr⟩ := hcell' k 0 _ _ hy rfl
          rwa [hr.of_lit] at hu
        have e1 : w.cell? ⟨g', off' + k * 2 + 1, none⟩ = some (.int .i64 d1) := by
          obtain ⟨u, hu, hr⟩ := hcell' k 1 _ _ hy rfl
          rwa [hr.of_lit] at hu
        have hlt' : (k : Int) < (n : Int) := by omega
        have HX := Lib.hid hx
        have HY := Lib.hid hy
        have q1 := eqGuardBlock
        have q2 := fun W => neqBlock b0 b1 d0 d1 W
        clear hx hy hcell hcell'
        clear hat hat'
        by_cases g0 : b0 = d0
        · by_cases g1 : b1 = d1
          · have k0 : (b0 == d0) = true := by simp [g0]
            have k1 : (b1 == d1) = true := by simp [g1]
            have HG : Hid ((⟨b0, b1⟩ : Block) = ⟨d0, d1⟩) := by show _ = _; rw [g0, g1]
            clear g0 g1
            go_wp2_with fail
            go_quiet (fail)
            go_wp2_with fail
            go_roundw
            case rel => exact ⟨k + 1, by omega, by go_num, by rw [List.take_add_one, List.take_add_one, HP.out, HX.out, HY.out, HG.out], _, rfl⟩
            case measure => simp [intOf]; omega
          · have k0 : (b0 == d0) = true := by simp [g0]
            have k1 : (b1 == d1) = false := by simpa using g1
            have HG := Lib.hid g1
            clear g0 g1
            go_wp2_with fail
            go_quiet (fail)
            go_wp2_with fail
            go_ret
            refine ⟨ret_bool ?_, by rw [World.drewN_drewN]; exact below_drewN (Below.refl _ _) _⟩
            symm
            rw [decide_eq_false_iff_not]
            intro e
            have h1 := HX.out
            rw [e, HY.out] at h1
            injection h1 with h1
            injection h1 with _ h1
            exact HG.out h1.symm
        · have k0 : (b0 == d0) = false := by simpa using g0
          have HG := Lib.hid g0
          clear g0
          go_wp2_with fail
          go_quiet (fail)
          go_wp2_with fail
          go_ret
          refine ⟨ret_bool ?_, by rw [World.drewN_drewN]; exact below_drewN (Below.refl _ _) _⟩
          symm
          rw [decide_eq_false_iff_not]
          intro e
          have h1 := HX.out
          rw [e, HY.out] at h1
          injection h1 with h1
          injection h1 with h1 _
          exact HG.out h1.symm
      · have hkn : k = n := by omega
        subst hkn
        go_wp2_with fail
        go_ret
        refine ⟨ret_bool ?_, below_drewN (Below.refl _ _) _⟩
        symm
        rw [decide_eq_true_iff]
        have := HP.out
        rwa [List.take_of_length_le (by have := HN.out; omega), List.take_of_length_le (by have := HM.out; omega)] at this
  · have hb : ((n : Int) != (n' : Int)) = true := by simp; omega
    clear hat hat'
    go_enter Try.func36, Try.ntmps36
    go_wp2_with fail
    go_ret
    refine ⟨ret_bool ?_, Below.refl _ _⟩
    symm
    rw [decide_eq_false_iff_not]
    intro e
    subst e
    have h1 := HN.out
    have h2 := HM.out
    omega

def sameMem (s : ByteArray) (bs : List Block) (t : ByteArray) (cs : List Block) : Bool := decide (s = t) && decide (bs = cs)
theorem str_ne {s t : ByteArray} (h : s ≠ t) : (s.toList == t.toList) = false := by
  rw [beq_eq_false_iff_ne]
  intro e
  rw [ByteArray.toList_eq, ByteArray.toList_eq] at e
  exact h (by cases s; cases t; congr; exact Array.toList_inj.1 e)

theorem implSame_any {s t : ByteArray} {A A' : Option Addr} {n n' c c' : Nat} {B : Nat} {bs cs : List Block} {w : World} (hB : B ≤ w.heap.size) (h : Rep w B (blocks bs) (.slice A n c)) (k : Rep w B (blocks cs) (.slice A' n' c')) :
    Calls Try.prog 15 #[.agg #[.string s, .slice A n c], .agg #[.string t, .slice A' n' c']] w fun e w' => e = .returned (.bool (sameMem s bs t cs)) ∧ Below w.heap.size w w' := by
  have hb : Below w.heap.size w ((w.alloc (.cells #[.string s, .slice A n c] 29)).alloc (.cells #[.string t, .slice A' n' c'] 29)) := ((Below.refl _ _).alloc (Nat.le_refl _) _).alloc (by simp) _
  have H := Lib.hid (h.below (hb.mono hB))
  have K := Lib.hid (k.below (hb.mono hB))
  have HB := Lib.hid hb
  clear h k hb
  by_cases hst : s = t
  · subst hst
    have HF : Hid (sameMem s bs s cs = decide (bs = cs)) := by show _ = _; simp [sameMem]
    go_enter Try.func15, Try.ntmps15
    go_wp2_with fail
    refine (equalB_any H.out K.out).mono ?_
    rintro e w2 ⟨rfl, hb2⟩
    go_wp2_with fail
    go_ret
    exact ⟨ret_bool HF.out.symm, HB.out.trans (hb2.mono (by simp; omega))⟩
  · have HF : Hid (sameMem s bs t cs = false) := by show _ = _; simp [sameMem, hst]
    have h1 := str_ne hst
    clear hst
    go_enter Try.func15, Try.ntmps15
    go_wp2_with fail
    go_ret
    exact ⟨ret_bool HF.out.symm, HB.out⟩

set_option maxHeartbeats 1600000 in
theorem specSame_any {s t : ByteArray} {A A' : Option Addr} {n n' c c' : Nat} {B : Nat} {bs cs : List Block} {w : World} (hB : B ≤ w.heap.size) (h : Rep w B (blocks bs) (.slice A n c)) (k : Rep w B (blocks cs) (.slice A' n' c')) :
    Calls Try.prog 13 #[.agg #[.string s, .slice A n c], .agg #[.string t, .slice A' n' c']] w fun e w' => e = .returned (.bool (sameMem s bs t cs)) ∧ Below w.heap.size w w' := by
  obtain ⟨_, _, _, he, hnl, hm, hat⟩ := rep_row Block.pd_length (by decide) h
  obtain ⟨_, _, _, he', hnl', hm', hat'⟩ := rep_row Block.pd_length (by decide) k
  injection he with e1 e2 e3
  injection he' with e4 e5 e6
  subst e1 e2 e3 e4 e5 e6
  unfold maxLen at hm hm'
  have HN := Lib.hid hnl
  have HM := Lib.hid hnl'
  clear h k
  by_cases hst : s = t
  · subst hst
    have HF : Hid (sameMem s bs s cs = decide (bs = cs)) := by show _ = _; simp [sameMem]
    by_cases hnm : n = n'
    · subst hnm
      clear hnl hnl'
      go_enter Try.func13, Try.ntmps13
      go_wp2_with fail
      obtain ⟨W1, hW1⟩ : ∃ W1, W1 = (w.alloc (.cells #[.string s, .slice A n c] 29)).alloc (.cells #[.string s, .slice A' n c'] 29) := ⟨_, rfl⟩
      rw [← hW1]
      have bA : Blk W1 w.heap.size 29 #[.string s, .slice A n c] := by rw [hW1]; exact (Blk.new w _ _).alloc _
      have bC : Blk W1 (w.heap.size + 1) 29 #[.string s, .slice A' n c'] := by rw [hW1]; have := Blk.new (w.alloc (.cells #[.string s, .slice A n c] 29)) 29 #[.string s, .slice A' n c']; simpa using this
      have hb : Below w.heap.size w W1 := by rw [hW1]; exact ((Below.refl _ _).alloc (Nat.le_refl _) _).alloc (by simp) _
      have a1 : W1.cell? ⟨w.heap.size, 1, none⟩ = some (.slice A n c) := bA.cell 1
      have a2 : W1.cell? ⟨w.heap.size + 1, 1, none⟩ = some (.slice A' n c') := bC.cell 1
      clear hW1 bA bC
      go_loopw [5] (fun i wr => ∃ k : Nat, k ≤ n ∧ i = .int .i64 k ∧ bs.take k = cs.take k ∧ ∃ q, wr = W1.drewN q) (fun i _ => n - (intOf i).toNat)
      case atStart => exact ⟨0, Nat.zero_le _, rfl, rfl, 0, rfl⟩
      case round =>
        obtain ⟨k, hk, rfl, hpre, q, rfl⟩ := hrel
        have HP := Lib.hid hpre
        clear hpre
        by_cases hlt : k < n
        · obtain ⟨g, off, rfl, hg, hcell⟩ := hat (by omega)
          obtain ⟨g', off', rfl, hg', hcell'⟩ := hat' (by omega)
          obtain ⟨b, hx, _⟩ := at_lt HN.out hlt
          obtain ⟨d, hy, _⟩ := at_lt HM.out hlt
          obtain ⟨b0, b1⟩ := b
          obtain ⟨d0, d1⟩ := d
          have c0 : W1.cell? ⟨g, off + k * 2, none⟩ = some (.int .i64 b0) := by
            obtain ⟨u, hu, hr⟩ := hcell k 0 _ _ hx rfl
            rw [hr.of_lit] at hu
            exact (hb.cell (by show g < _; omega)).trans hu
          have c1 : W1.cell? ⟨g, off + k * 2 + 1, none⟩ = some (.int .i64 b1) := by
            obtain ⟨u, hu, hr⟩ := hcell k 1 _ _ hx rfl
            rw [hr.of_lit] at hu
            exact (hb.cell (by show g < _; omega)).trans hu
          have e0 : W1.cell? ⟨g', off' + k * 2, none⟩ = some (.int .i64 d0) := by
            obtain ⟨u, hu, hr⟩ := hcell' k 0 _ _ hy rfl
            rw [hr.of_lit] at hu
            exact (hb.cell (by show g' < _; omega)).trans hu
          have e1 : W1.cell? ⟨g', off' + k * 2 + 1, none⟩ = some (.int .i64 d1) := by
            obtain ⟨u, hu, hr⟩ := hcell' k 1 _ _ hy rfl
            rw [hr.of_lit] at hu
            exact (hb.cell (by show g' < _; omega)).trans hu
          have hlt' : (k : Int) < (n : Int) := by omega
          have HX := Lib.hid hx
          have HY := Lib.hid hy
          have q1 := eqGuardBlock
          have q2 := fun W => neqBlock b0 b1 d0 d1 W
          clear hx hy hcell hcell'
          clear hat hat'
          by_cases g0 : b0 = d0
          · by_cases g1 : b1 = d1
            · have k0 : (b0 == d0) = true := by simp [g0]
              have k1 : (b1 == d1) = true := by simp [g1]
              have HG : Hid ((⟨b0, b1⟩ : Block) = ⟨d0, d1⟩) := by show _ = _; rw [g0, g1]
              clear g0 g1
              go_wp2_with fail
              go_quiet (fail)
              go_wp2_with fail
              go_roundw
              case rel => exact ⟨k + 1, by omega, by go_num, by rw [List.take_add_one, List.take_add_one, HP.out, HX.out, HY.out, HG.out], _, rfl⟩
              case measure => simp [intOf]; omega
            · have k0 : (b0 == d0) = true := by simp [g0]
              have k1 : (b1 == d1) = false := by simpa using g1
              have HG := Lib.hid g1
              clear g0 g1
              go_wp2_with fail
              go_quiet (fail)
              go_wp2_with fail
              go_ret
              refine ⟨ret_bool ?_, by rw [World.drewN_drewN]; exact below_drewN hb _⟩
              symm
              rw [HF.out, decide_eq_false_iff_not]
              intro e
              have h1 := HX.out
              rw [e, HY.out] at h1
              injection h1 with h1
              injection h1 with _ h1
              exact HG.out h1.symm
          · have k0 : (b0 == d0) = false := by simpa using g0
            have HG := Lib.hid g0
            clear g0
            go_wp2_with fail
            go_quiet (fail)
            go_wp2_with fail
            go_ret
            refine ⟨ret_bool ?_, by rw [World.drewN_drewN]; exact below_drewN hb _⟩
            symm
            rw [HF.out, decide_eq_false_iff_not]
            intro e
            have h1 := HX.out
            rw [e, HY.out] at h1
            injection h1 with h1
            injection h1 with h1 _
            exact HG.out h1.symm
        · have hkn : k = n := by omega
          subst hkn
          go_wp2_with fail
          go_ret
          refine ⟨ret_bool ?_, below_drewN hb _⟩
          symm
          rw [HF.out, decide_eq_true_iff]
          have := HP.out
          rwa [List.take_of_length_le (by have := HN.out; omega), List.take_of_length_le (by have := HM.out; omega)] at this
    · have hne : bs ≠ cs := fun e => by subst e; omega
      have HG : Hid (sameMem s bs s cs = false) := by show _ = _; simp [sameMem, hne]
      have hb : ((n : Int) != (n' : Int)) = true := by simp; omega
      clear hat hat' hnl hnl' hne
      go_enter Try.func13, Try.ntmps13
      go_wp2_with fail
      go_ret
      exact ⟨ret_bool HG.out.symm, ((Below.refl _ _).alloc (Nat.le_refl _) _).alloc (by simp) _⟩
  · have HG : Hid (sameMem s bs t cs = false) := by show _ = _; simp [sameMem, hst]
    have h1 := str_ne hst
    have h2 : (s.toList != t.toList) = true := by simpa using h1
    clear hst hat hat' hnl hnl'
    go_enter Try.func13, Try.ntmps13
    go_wp2_with fail
    go_ret
    exact ⟨ret_bool HG.out.symm, ((Below.refl _ _).alloc (Nat.le_refl _) _).alloc (by simp) _⟩
end Go.Proofs.Ytlppngpafjfjeaa
