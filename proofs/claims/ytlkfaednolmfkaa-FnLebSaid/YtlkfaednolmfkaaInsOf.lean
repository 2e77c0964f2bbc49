/-
  An instruction is read: spec.InsOf, impl.InsOf.
-/
import Derived.Test.YtlkfaednolmfkaaGetX
import Derived.Test.YtlkfaednolmfkaaInsB
import Derived.Test.YtlkfaednolmfkaaFam
import Derived.Test.YtlkfaednolmfkaaTy
import Derived.Deep.Cut
import Derived.Deep.CutRange
import Derived.Deep.RegionHeld3
namespace Go.Proofs.Ytlkfaednolmfkaa
open Go.RowKit
set_option linter.unusedVariables false
set_option linter.unusedSimpArgs false
set_option linter.unnecessarySimpa false
set_option maxRecDepth 16000

/-- the operand and how many bytes it takes; 0, 0: none -/
def operand (op : Int) (r : ByteArray) : Int × Nat := if op = 1 then (getSleb r).getD (0, 0) else if opHas op then (getLeb r).getD (0, 0) else (0, 0)
def op0 (s : ByteArray) : Int := (byt s).headD 0
def insOfR (s : ByteArray) : Ins × Int × Bool :=
  if s.size = 0 then (⟨0, 0⟩, 0, false) else
  let op := op0 s
  let q := operand op (s.extract 1 s.size)
  let t := strOfNums (insBy op q.1)
  if t = ⟨#[]⟩ ∨ t ≠ s.extract 0 (1 + q.2) then (⟨0, 0⟩, 0, false) else (⟨op, q.1⟩, ((1 + q.2 : Nat) : Int), true)
theorem insOfR_0 {s : ByteArray} (h : s.size = 0) : insOfR s = (⟨0, 0⟩, 0, false) := if_pos h
theorem insOfR_no {s : ByteArray} {op a : Int} {m : Nat} (h : 0 < s.size) (hop : op0 s = op) (hq : operand op (s.extract 1 s.size) = (a, m)) (ht : strOfNums (insBy op a) = ⟨#[]⟩ ∨ ¬ strOfNums (insBy op a) = s.extract 0 (1 + m)) : insOfR s = (⟨0, 0⟩, 0, false) := by
  rw [insOfR, if_neg (by omega)]
  simp only [hop, hq]
  exact if_pos ht
theorem insOfR_yes {s : ByteArray} {op a : Int} {m : Nat} (h : 0 < s.size) (hop : op0 s = op) (hq : operand op (s.extract 1 s.size) = (a, m)) (h1 : ¬ strOfNums (insBy op a) = ⟨#[]⟩) (h2 : strOfNums (insBy op a) = s.extract 0 (1 + m)) : insOfR s = (⟨op, a⟩, ((1 + m : Nat) : Int), true) := by
  rw [insOfR, if_neg (by omega)]
  simp only [hop, hq]
  exact if_neg (by rintro (h | h); exact h1 h; exact h h2)
theorem op0_get {s : ByteArray} (h : 0 < s.size) : op0 s = (s[0].toNat : Int) := by
  have := byt_get h
  rw [op0]
  cases hb : byt s with
  | nil => rw [hb] at this; simp at this
  | cons b r => rw [hb] at this; simpa using this
theorem getLeb_wf {s : ByteArray} {n : Int} {m : Nat} (h : getLeb s = some (n, m)) : (Lit.int .i64 n).wf = true ∧ m ≤ s.size := by
  rw [getLeb] at h
  split at h
  · cases h
  · rename_i k hp
    split at h
    · injection h with h
      injection h with h1 h2
      subst h1 h2
      obtain ⟨p1, p9, pl⟩ := pref_le hp
      have a := val_lt ((byt s).take k)
      have b := pow9 (k := ((byt s).take k).length) (by simp; omega)
      have c := val_nonneg ((byt s).take k)
      have : -9223372036854775808 ≤ val ((byt s).take k) ∧ val ((byt s).take k) ≤ 9223372036854775807 := ⟨by omega, by omega⟩
      exact ⟨by simpa [Lit.wf, IntKind.min, IntKind.max, IntKind.signed, IntKind.bits] using this, by simpa using pl⟩
    · cases h
theorem getSleb_wf {s : ByteArray} {n : Int} {m : Nat} (h : getSleb s = some (n, m)) : (Lit.int .i64 n).wf = true ∧ m ≤ s.size := by
  rw [getSleb] at h
  split at h
  · cases h
  · rename_i k hp
    split at h
    · injection h with h
      injection h with h1 h2
      subst h1 h2
      obtain ⟨p1, p9, pl⟩ := pref_le hp
      exact ⟨sval_wf _ _ pl, by simpa using pl⟩
    · cases h
theorem getRes_eq (o : Option (Int × Nat)) : getRes o = .returned (.tuple #[.int .i64 (o.getD (0, 0)).1, .int .i64 ((o.getD (0, 0)).2 : Nat), .bool o.isSome]) := by
  cases o with
  | none => rfl
  | some p => rfl
theorem tail_size {s : ByteArray} (h : 0 < s.size) : (s.extract 1 s.size).size = s.size - 1 := by simp
theorem operand_wf {op : Int} {r : ByteArray} : (Lit.int .i64 (operand op r).1).wf = true ∧ (operand op r).2 ≤ r.size := by
  rw [operand]
  split
  · cases h : getSleb r with
    | none => exact ⟨by decide, Nat.zero_le _⟩
    | some p => exact getSleb_wf (n := p.1) (m := p.2) h
  · split
    · cases h : getLeb r with
      | none => exact ⟨by decide, Nat.zero_le _⟩
      | some p => exact getLeb_wf (n := p.1) (m := p.2) h
    · exact ⟨by decide, Nat.zero_le _⟩

def InsRes (f : Nat) (s : ByteArray) : Prop := ∀ (w : World), Calls Try.prog f #[.string s] w fun e w' => e = .returned (.tuple #[.agg #[.int .i64 (insOfR s).1.op, .int .i64 (insOfR s).1.a], .int .i64 (insOfR s).2.1, .bool (insOfR s).2.2]) ∧ Below w.heap.size w w'
set_option maxHeartbeats 3200000 in
theorem specInsOf_any (s : ByteArray) (hs : s.size ≤ 1048576) : InsRes 7 s := by
  intro w
  by_cases h0 : s.size = 0
  case pos =>
    have HF : Hid (insOfR s = (⟨0, 0⟩, 0, false)) := insOfR_0 h0
    have hse : s = ⟨#[]⟩ := by cases s; rename_i d; congr; exact Array.eq_empty_of_size_eq_zero h0
    rw [HF.out]
    clear HF h0
    subst hse
    go_enter Try.func7, Try.ntmps7
    go_wp2_with fail
    refine bodyPost_ret (v := .tuple #[.agg #[.int .i64 0, .int .i64 0], .int .i64 0, .bool false]) (by simp [results, Try.results7, go_sem]) rfl ⟨rfl, ?_⟩
    repeat (first | exact Below.refl _ _ | refine Below.setCell ?_ (by simp) _ | refine Below.alloc ?_ (by simp; try omega) _)
  have hsz : 0 < s.size := by omega
  have hne : ¬ s = ⟨#[]⟩ := fun e => by rw [e] at hsz; exact absurd hsz (by decide)
  have hne1 : (s.toList == (ByteArray.mk #[]).toList) = false := str_ne2 hne
  have hne2 : ¬ s.toList = [] := by simpa using hne1
  have hne3 : s.toList.isEmpty = false := by cases h : s.toList with | nil => exact absurd h hne2 | cons x l => rfl
  have HOP := Lib.hid (op0_get hsz)
  obtain ⟨op, hop⟩ : ∃ op : Int, op = op0 s := ⟨_, rfl⟩
  have hop2 : (s[0].toNat : Int) = op := by rw [hop, HOP.out]
  have hopb : 0 ≤ op ∧ op ≤ 255 := by have := s[0].toNat_lt; omega
  have HO := Lib.hid hop.symm
  clear hop HOP hne
  obtain ⟨a, m, hq⟩ : ∃ a m, operand op (s.extract 1 s.size) = (a, m) := ⟨_, _, rfl⟩
  have hqw := operand_wf (op := op) (r := s.extract 1 s.size)
  rw [hq] at hqw
  obtain ⟨hwa, hml⟩ := hqw
  rw [tail_size hsz] at hml
  have hml : m ≤ s.size - 1 := hml
  have HQ := Lib.hid hq
  clear hq
  have hr1 : (s.extract 1 s.size).size ≤ maxLen := by rw [tail_size hsz]; unfold maxLen; omega
  have HGS := Lib.hid (fun W => specGetSleb_any (s.extract 1 s.size) hr1 W)
  have HGL := Lib.hid (fun W => specGetLeb_any (s.extract 1 s.size) hr1 W)
  have hsl1 : (1 : Int) ≤ (s.size : Int) := by omega
  go_enter Try.func7, Try.ntmps7
  go_wp2_with fail
  obtain ⟨w0, hw0⟩ : ∃ W, W = (w.alloc (.cells #[.int .i64 0, .int .i64 0] 23)).alloc (.cells #[.int .i64 op, .int .i64 0] 23) := ⟨_, rfl⟩
  rw [← hw0]
  have bR : Blk w0 w.heap.size 23 #[.int .i64 0, .int .i64 0] := by rw [hw0]; exact (Blk.new w _ _).alloc _
  have bA : Blk w0 (w.heap.size + 1) 23 #[.int .i64 op, .int .i64 0] := by rw [hw0]; have := Blk.new (w.alloc (.cells #[.int .i64 0, .int .i64 0] 23)) 23 #[.int .i64 op, .int .i64 0]; simpa using this
  have hB0 : Below w.heap.size w w0 := by rw [hw0]; exact ((Below.refl _ _).alloc (Nat.le_refl _) _).alloc (by simp) _
  have hs0 := hB0.size
  have hlA := bA.lt
  clear hw0

  refine (specOp_any op _).mono ?_
  rintro e w1 ⟨rfl, rfl⟩
  have a0 : w0.cell? ⟨w.heap.size + 1, 0, none⟩ = some (.int .i64 op) := bA.cell 0
  have a1 : w0.cell? ⟨w.heap.size + 1, 1, none⟩ = some (.int .i64 0) := bA.cell 1
  cases hh : opHas op
  case false =>
    have h1 : op ≠ 1 := fun e => by rw [e] at hh; exact absurd hh (by decide)
    have HM : Hid (a = 0 ∧ m = 0) := by
      have := HQ.out
      rw [operand, if_neg h1, hh] at this
      simp at this
      exact ⟨this.1.symm, this.2.symm⟩
    have h1b : (op == 1) = false := by simpa using h1
    clear h1
    obtain ⟨ea, em⟩ := HM.out
    subst ea em
    go_wp2_with fail
    obtain ⟨wc, hwc⟩ : ∃ W, W = w0 := ⟨_, rfl⟩
    rw [← hwc]
    have bA2 : Blk wc (w.heap.size + 1) 23 #[.int .i64 op, .int .i64 0] := by rw [hwc]; have := bA; simpa using this
    have bR2 : Blk wc w.heap.size 23 #[.int .i64 0, .int .i64 0] := by rw [hwc]; exact bR
    have hBc : Below w.heap.size w wc := by rw [hwc]; exact hB0
    clear hwc
    refine (specInsBytes_any op 0 hwa _).mono ?_
    rintro e w3 ⟨rfl, hb3⟩
    replace bA2 := bA2.step hb3
    replace bR2 := bR2.step hb3
    have hB3 := hBc.trans (hb3.mono hBc.size)
    have d0 : w3.cell? ⟨w.heap.size + 1, 0, none⟩ = some (.int .i64 op) := bA2.cell 0
    have d1 : w3.cell? ⟨w.heap.size + 1, 1, none⟩ = some (.int .i64 0) := bA2.cell 1
    have r0 : w3.cell? ⟨w.heap.size, 0, none⟩ = some (.int .i64 0) := bR2.cell 0
    have r1 : w3.cell? ⟨w.heap.size, 1, none⟩ = some (.int .i64 0) := bR2.cell 1
    have g0 := bR2.frozen 0
    have g1 := bR2.frozen 1
    have HY := Lib.hid (insOfR_yes hsz HO.out HQ.out)
    have HN := Lib.hid (insOfR_no hsz HO.out HQ.out)
    obtain ⟨t, ht⟩ : ∃ t, t = strOfNums (insBy op 0) := ⟨_, rfl⟩
    rw [← ht] at HY HN ⊢
    clear ht
    have hbd : ((1 + 0 : Nat) : Int) ≤ (s.size : Int) := by omega
    have hsum : IntKind.i64.wrap (1 + ((0 : Nat) : Int)) = ((1 + 0 : Nat) : Int) := by rw [IntWalk.i64_in _ (by omega)]; omega
    by_cases ht0 : t = ⟨#[]⟩
    case pos =>
      have HR := Lib.hid (HN.out (.inl ht0))
      subst ht0
      go_wp2_with fail
      refine bodyPost_ret (v := .tuple #[.agg #[.int .i64 0, .int .i64 0], .int .i64 0, .bool false]) (by simp [results, Try.results7, go_sem, r0, r1]) rfl ⟨by rw [HR.out], ?_⟩
      repeat (first | exact hB3 | refine Below.setCell ?_ (by simp) _)
    have ht1 : (t.toList == (ByteArray.mk #[]).toList) = false := str_ne2 ht0
    have ht2 : ¬ t.toList = [] := by simpa using ht1
    have ht3 : t.toList.isEmpty = false := by cases h : t.toList with | nil => exact absurd h ht2 | cons x l => rfl
    by_cases hte : t = s.extract 0 (1 + 0)
    case pos =>
      have HR := Lib.hid (HY.out ht0 hte)
      subst hte
      go_wp2_with fail
      refine bodyPost_ret (v := .tuple #[.agg #[.int .i64 op, .int .i64 0], .int .i64 ((1 + 0 : Nat) : Int), .bool true]) (by simp [results, Try.results7, go_sem, r0, r1]) rfl ⟨by rw [HR.out], ?_⟩
      repeat (first | exact hB3 | refine Below.setCell ?_ (by simp) _)
    have HR := Lib.hid (HN.out (.inr hte))
    have hte1 : (t.toList == (s.extract 0 (1 + 0)).toList) = false := str_ne2 hte
    go_wp2_with fail
    refine bodyPost_ret (v := .tuple #[.agg #[.int .i64 0, .int .i64 0], .int .i64 0, .bool false]) (by simp [results, Try.results7, go_sem, r0, r1]) rfl ⟨by rw [HR.out], ?_⟩
    repeat (first | exact hB3 | refine Below.setCell ?_ (by simp) _)
  by_cases h1 : op = 1
  case pos =>
    have HM : Hid ((getSleb (s.extract 1 s.size)).getD (0, 0) = (a, m)) := by
      have := HQ.out
      rw [operand, if_pos h1] at this
      exact this
    have HK : Hid (getRes (getSleb (s.extract 1 s.size)) = .returned (.tuple #[.int .i64 a, .int .i64 m, .bool (getSleb (s.extract 1 s.size)).isSome])) := by show _ = _; rw [getRes_eq, HM.out]
    have h1b : (op == 1) = true := by simp [h1]
    clear h1
    go_wp2_with fail
    refine (HGS.out _).mono ?_
    rintro e w2 ⟨rfl, hb2⟩
    rw [HK.out]
    clear a0 a1
    replace bA := bA.step hb2
    replace bR := bR.step hb2
    have hB2 := hB0.trans (hb2.mono hs0)
    have a1 : w2.cell? ⟨w.heap.size + 1, 1, none⟩ = some (.int .i64 0) := bA.cell 1
    have f1 := bA.frozen 1
    have c0 : (w2.setCell ⟨w.heap.size + 1, 1, none⟩ (.int .i64 a)).cell? ⟨w.heap.size + 1, 0, none⟩ = some (.int .i64 op) := (bA.set_ 1 (.int .i64 a)).cell 0
    have c1 : (w2.setCell ⟨w.heap.size + 1, 1, none⟩ (.int .i64 a)).cell? ⟨w.heap.size + 1, 1, none⟩ = some (.int .i64 a) := (bA.set_ 1 (.int .i64 a)).cell 1
    go_wp2_with fail
    obtain ⟨wc, hwc⟩ : ∃ W, W = w2.setCell ⟨w.heap.size + 1, 1, none⟩ (.int .i64 a) := ⟨_, rfl⟩
    rw [← hwc]
    have bA2 : Blk wc (w.heap.size + 1) 23 #[.int .i64 op, .int .i64 a] := by rw [hwc]; have := bA.set_ 1 (.int .i64 a); simpa using this
    have bR2 : Blk wc w.heap.size 23 #[.int .i64 0, .int .i64 0] := by rw [hwc]; exact bR.far (by simp) _
    have hBc : Below w.heap.size w wc := by rw [hwc]; exact hB2.setCell (by simp) _
    clear hwc
    refine (specInsBytes_any op a hwa _).mono ?_
    rintro e w3 ⟨rfl, hb3⟩
    replace bA2 := bA2.step hb3
    replace bR2 := bR2.step hb3
    have hB3 := hBc.trans (hb3.mono hBc.size)
    have d0 : w3.cell? ⟨w.heap.size + 1, 0, none⟩ = some (.int .i64 op) := bA2.cell 0
    have d1 : w3.cell? ⟨w.heap.size + 1, 1, none⟩ = some (.int .i64 a) := bA2.cell 1
    have r0 : w3.cell? ⟨w.heap.size, 0, none⟩ = some (.int .i64 0) := bR2.cell 0
    have r1 : w3.cell? ⟨w.heap.size, 1, none⟩ = some (.int .i64 0) := bR2.cell 1
    have g0 := bR2.frozen 0
    have g1 := bR2.frozen 1
    have HY := Lib.hid (insOfR_yes hsz HO.out HQ.out)
    have HN := Lib.hid (insOfR_no hsz HO.out HQ.out)
    obtain ⟨t, ht⟩ : ∃ t, t = strOfNums (insBy op a) := ⟨_, rfl⟩
    rw [← ht] at HY HN ⊢
    clear ht
    have hbd : ((1 + m : Nat) : Int) ≤ (s.size : Int) := by omega
    have hsum : IntKind.i64.wrap (1 + ((m : Nat) : Int)) = ((1 + m : Nat) : Int) := by rw [IntWalk.i64_in _ (by omega)]; omega
    by_cases ht0 : t = ⟨#[]⟩
    case pos =>
      have HR := Lib.hid (HN.out (.inl ht0))
      subst ht0
      go_wp2_with fail
      refine bodyPost_ret (v := .tuple #[.agg #[.int .i64 0, .int .i64 0], .int .i64 0, .bool false]) (by simp [results, Try.results7, go_sem, r0, r1]) rfl ⟨by rw [HR.out], ?_⟩
      repeat (first | exact hB3 | refine Below.setCell ?_ (by simp) _)
    have ht1 : (t.toList == (ByteArray.mk #[]).toList) = false := str_ne2 ht0
    have ht2 : ¬ t.toList = [] := by simpa using ht1
    have ht3 : t.toList.isEmpty = false := by cases h : t.toList with | nil => exact absurd h ht2 | cons x l => rfl
    by_cases hte : t = s.extract 0 (1 + m)
    case pos =>
      have HR := Lib.hid (HY.out ht0 hte)
      subst hte
      go_wp2_with fail
      refine bodyPost_ret (v := .tuple #[.agg #[.int .i64 op, .int .i64 a], .int .i64 ((1 + m : Nat) : Int), .bool true]) (by simp [results, Try.results7, go_sem, r0, r1]) rfl ⟨by rw [HR.out], ?_⟩
      repeat (first | exact hB3 | refine Below.setCell ?_ (by simp) _)
    have HR := Lib.hid (HN.out (.inr hte))
    have hte1 : (t.toList == (s.extract 0 (1 + m)).toList) = false := str_ne2 hte
    go_wp2_with fail
    refine bodyPost_ret (v := .tuple #[.agg #[.int .i64 0, .int .i64 0], .int .i64 0, .bool false]) (by simp [results, Try.results7, go_sem, r0, r1]) rfl ⟨by rw [HR.out], ?_⟩
    repeat (first | exact hB3 | refine Below.setCell ?_ (by simp) _)
  have HM : Hid ((getLeb (s.extract 1 s.size)).getD (0, 0) = (a, m)) := by
    have := HQ.out
    rw [operand, if_neg h1, hh] at this
    exact this
  have HK : Hid (getRes (getLeb (s.extract 1 s.size)) = .returned (.tuple #[.int .i64 a, .int .i64 m, .bool (getLeb (s.extract 1 s.size)).isSome])) := by show _ = _; rw [getRes_eq, HM.out]
  have h1b : (op == 1) = false := by simpa using h1
  clear h1
  go_wp2_with fail
  refine (HGL.out _).mono ?_
  rintro e w2 ⟨rfl, hb2⟩
  rw [HK.out]
  clear a0 a1
  replace bA := bA.step hb2
  replace bR := bR.step hb2
  have hB2 := hB0.trans (hb2.mono hs0)
  have a1 : w2.cell? ⟨w.heap.size + 1, 1, none⟩ = some (.int .i64 0) := bA.cell 1
  have f1 := bA.frozen 1
  have c0 : (w2.setCell ⟨w.heap.size + 1, 1, none⟩ (.int .i64 a)).cell? ⟨w.heap.size + 1, 0, none⟩ = some (.int .i64 op) := (bA.set_ 1 (.int .i64 a)).cell 0
  have c1 : (w2.setCell ⟨w.heap.size + 1, 1, none⟩ (.int .i64 a)).cell? ⟨w.heap.size + 1, 1, none⟩ = some (.int .i64 a) := (bA.set_ 1 (.int .i64 a)).cell 1
  go_wp2_with fail
  obtain ⟨wc, hwc⟩ : ∃ W, W = w2.setCell ⟨w.heap.size + 1, 1, none⟩ (.int .i64 a) := ⟨_, rfl⟩
  rw [← hwc]
  have bA2 : Blk wc (w.heap.size + 1) 23 #[.int .i64 op, .int .i64 a] := by rw [hwc]; have := bA.set_ 1 (.int .i64 a); simpa using this
  have bR2 : Blk wc w.heap.size 23 #[.int .i64 0, .int .i64 0] := by rw [hwc]; exact bR.far (by simp) _
  have hBc : Below w.heap.size w wc := by rw [hwc]; exact hB2.setCell (by simp) _
  clear hwc
  refine (specInsBytes_any op a hwa _).mono ?_
  rintro e w3 ⟨rfl, hb3⟩
  replace bA2 := bA2.step hb3
  replace bR2 := bR2.step hb3
  have hB3 := hBc.trans (hb3.mono hBc.size)
  have d0 : w3.cell? ⟨w.heap.size + 1, 0, none⟩ = some (.int .i64 op) := bA2.cell 0
  have d1 : w3.cell? ⟨w.heap.size + 1, 1, none⟩ = some (.int .i64 a) := bA2.cell 1
  have r0 : w3.cell? ⟨w.heap.size, 0, none⟩ = some (.int .i64 0) := bR2.cell 0
  have r1 : w3.cell? ⟨w.heap.size, 1, none⟩ = some (.int .i64 0) := bR2.cell 1
  have g0 := bR2.frozen 0
  have g1 := bR2.frozen 1
  have HY := Lib.hid (insOfR_yes hsz HO.out HQ.out)
  have HN := Lib.hid (insOfR_no hsz HO.out HQ.out)
  obtain ⟨t, ht⟩ : ∃ t, t = strOfNums (insBy op a) := ⟨_, rfl⟩
  rw [← ht] at HY HN ⊢
  clear ht
  have hbd : ((1 + m : Nat) : Int) ≤ (s.size : Int) := by omega
  have hsum : IntKind.i64.wrap (1 + ((m : Nat) : Int)) = ((1 + m : Nat) : Int) := by rw [IntWalk.i64_in _ (by omega)]; omega
  by_cases ht0 : t = ⟨#[]⟩
  case pos =>
    have HR := Lib.hid (HN.out (.inl ht0))
    subst ht0
    go_wp2_with fail
    refine bodyPost_ret (v := .tuple #[.agg #[.int .i64 0, .int .i64 0], .int .i64 0, .bool false]) (by simp [results, Try.results7, go_sem, r0, r1]) rfl ⟨by rw [HR.out], ?_⟩
    repeat (first | exact hB3 | refine Below.setCell ?_ (by simp) _)
  have ht1 : (t.toList == (ByteArray.mk #[]).toList) = false := str_ne2 ht0
  have ht2 : ¬ t.toList = [] := by simpa using ht1
  have ht3 : t.toList.isEmpty = false := by cases h : t.toList with | nil => exact absurd h ht2 | cons x l => rfl
  by_cases hte : t = s.extract 0 (1 + m)
  case pos =>
    have HR := Lib.hid (HY.out ht0 hte)
    subst hte
    go_wp2_with fail
    refine bodyPost_ret (v := .tuple #[.agg #[.int .i64 op, .int .i64 a], .int .i64 ((1 + m : Nat) : Int), .bool true]) (by simp [results, Try.results7, go_sem, r0, r1]) rfl ⟨by rw [HR.out], ?_⟩
    repeat (first | exact hB3 | refine Below.setCell ?_ (by simp) _)
  have HR := Lib.hid (HN.out (.inr hte))
  have hte1 : (t.toList == (s.extract 0 (1 + m)).toList) = false := str_ne2 hte
  go_wp2_with fail
  refine bodyPost_ret (v := .tuple #[.agg #[.int .i64 0, .int .i64 0], .int .i64 0, .bool false]) (by simp [results, Try.results7, go_sem, r0, r1]) rfl ⟨by rw [HR.out], ?_⟩
  repeat (first | exact hB3 | refine Below.setCell ?_ (by simp) _)
set_option maxHeartbeats 3200000 in
theorem implInsOf_any (s : ByteArray) (hs : s.size ≤ 1048576) : InsRes 8 s := by
  intro w
  by_cases h0 : s.size = 0
  case pos =>
    have HF : Hid (insOfR s = (⟨0, 0⟩, 0, false)) := insOfR_0 h0
    have hse : s = ⟨#[]⟩ := by cases s; rename_i d; congr; exact Array.eq_empty_of_size_eq_zero h0
    rw [HF.out]
    clear HF h0
    subst hse
    go_enter Try.func8, Try.ntmps8
    go_wp2_with fail
    refine bodyPost_ret (v := .tuple #[.agg #[.int .i64 0, .int .i64 0], .int .i64 0, .bool false]) (by simp [results, Try.results8, go_sem]) rfl ⟨rfl, ?_⟩
    repeat (first | exact Below.refl _ _ | refine Below.setCell ?_ (by simp) _ | refine Below.alloc ?_ (by simp; try omega) _)
  have hsz : 0 < s.size := by omega
  have hne : ¬ s = ⟨#[]⟩ := fun e => by rw [e] at hsz; exact absurd hsz (by decide)
  have hne1 : (s.toList == (ByteArray.mk #[]).toList) = false := str_ne2 hne
  have hne2 : ¬ s.toList = [] := by simpa using hne1
  have hne3 : s.toList.isEmpty = false := by cases h : s.toList with | nil => exact absurd h hne2 | cons x l => rfl
  have HOP := Lib.hid (op0_get hsz)
  obtain ⟨op, hop⟩ : ∃ op : Int, op = op0 s := ⟨_, rfl⟩
  have hop2 : (s[0].toNat : Int) = op := by rw [hop, HOP.out]
  have hopb : 0 ≤ op ∧ op ≤ 255 := by have := s[0].toNat_lt; omega
  have HO := Lib.hid hop.symm
  clear hop HOP hne
  obtain ⟨a, m, hq⟩ : ∃ a m, operand op (s.extract 1 s.size) = (a, m) := ⟨_, _, rfl⟩
  have hqw := operand_wf (op := op) (r := s.extract 1 s.size)
  rw [hq] at hqw
  obtain ⟨hwa, hml⟩ := hqw
  rw [tail_size hsz] at hml
  have hml : m ≤ s.size - 1 := hml
  have HQ := Lib.hid hq
  clear hq
  have hr1 : (s.extract 1 s.size).size ≤ maxLen := by rw [tail_size hsz]; unfold maxLen; omega
  have HGS := Lib.hid (fun W => implGetSleb_any (s.extract 1 s.size) hr1 W)
  have HGL := Lib.hid (fun W => implGetLeb_any (s.extract 1 s.size) hr1 W)
  have hsl1 : (1 : Int) ≤ (s.size : Int) := by omega
  go_enter Try.func8, Try.ntmps8
  go_wp2_with fail
  obtain ⟨w0, hw0⟩ : ∃ W, W = (w.alloc (.cells #[.int .i64 0, .int .i64 0] 23)).alloc (.cells #[.int .i64 op, .int .i64 0] 23) := ⟨_, rfl⟩
  rw [← hw0]
  have bR : Blk w0 w.heap.size 23 #[.int .i64 0, .int .i64 0] := by rw [hw0]; exact (Blk.new w _ _).alloc _
  have bA : Blk w0 (w.heap.size + 1) 23 #[.int .i64 op, .int .i64 0] := by rw [hw0]; have := Blk.new (w.alloc (.cells #[.int .i64 0, .int .i64 0] 23)) 23 #[.int .i64 op, .int .i64 0]; simpa using this
  have hB0 : Below w.heap.size w w0 := by rw [hw0]; exact ((Below.refl _ _).alloc (Nat.le_refl _) _).alloc (by simp) _
  have hs0 := hB0.size
  have hlA := bA.lt
  clear hw0

  refine (implOp_any op _).mono ?_
  rintro e w1 ⟨rfl, rfl⟩
  have a0 : w0.cell? ⟨w.heap.size + 1, 0, none⟩ = some (.int .i64 op) := bA.cell 0
  have a1 : w0.cell? ⟨w.heap.size + 1, 1, none⟩ = some (.int .i64 0) := bA.cell 1
  cases hh : opHas op
  case false =>
    have h1 : op ≠ 1 := fun e => by rw [e] at hh; exact absurd hh (by decide)
    have HM : Hid (a = 0 ∧ m = 0) := by
      have := HQ.out
      rw [operand, if_neg h1, hh] at this
      simp at this
      exact ⟨this.1.symm, this.2.symm⟩
    have h1b : (op == 1) = false := by simpa using h1
    clear h1
    obtain ⟨ea, em⟩ := HM.out
    subst ea em
    go_wp2_with fail
    obtain ⟨wc, hwc⟩ : ∃ W, W = w0 := ⟨_, rfl⟩
    rw [← hwc]
    have bA2 : Blk wc (w.heap.size + 1) 23 #[.int .i64 op, .int .i64 0] := by rw [hwc]; have := bA; simpa using this
    have bR2 : Blk wc w.heap.size 23 #[.int .i64 0, .int .i64 0] := by rw [hwc]; exact bR
    have hBc : Below w.heap.size w wc := by rw [hwc]; exact hB0
    clear hwc
    refine (implInsBytes_any op 0 hwa _).mono ?_
    rintro e w3 ⟨rfl, hb3⟩
    replace bA2 := bA2.step hb3
    replace bR2 := bR2.step hb3
    have hB3 := hBc.trans (hb3.mono hBc.size)
    have d0 : w3.cell? ⟨w.heap.size + 1, 0, none⟩ = some (.int .i64 op) := bA2.cell 0
    have d1 : w3.cell? ⟨w.heap.size + 1, 1, none⟩ = some (.int .i64 0) := bA2.cell 1
    have r0 : w3.cell? ⟨w.heap.size, 0, none⟩ = some (.int .i64 0) := bR2.cell 0
    have r1 : w3.cell? ⟨w.heap.size, 1, none⟩ = some (.int .i64 0) := bR2.cell 1
    have g0 := bR2.frozen 0
    have g1 := bR2.frozen 1
    have HY := Lib.hid (insOfR_yes hsz HO.out HQ.out)
    have HN := Lib.hid (insOfR_no hsz HO.out HQ.out)
    obtain ⟨t, ht⟩ : ∃ t, t = strOfNums (insBy op 0) := ⟨_, rfl⟩
    rw [← ht] at HY HN ⊢
    clear ht
    have hbd : ((1 + 0 : Nat) : Int) ≤ (s.size : Int) := by omega
    have hsum : IntKind.i64.wrap (1 + ((0 : Nat) : Int)) = ((1 + 0 : Nat) : Int) := by rw [IntWalk.i64_in _ (by omega)]; omega
    by_cases ht0 : t = ⟨#[]⟩
    case pos =>
      have HR := Lib.hid (HN.out (.inl ht0))
      subst ht0
      go_wp2_with fail
      refine bodyPost_ret (v := .tuple #[.agg #[.int .i64 0, .int .i64 0], .int .i64 0, .bool false]) (by simp [results, Try.results8, go_sem, r0, r1]) rfl ⟨by rw [HR.out], ?_⟩
      repeat (first | exact hB3 | refine Below.setCell ?_ (by simp) _)
    have ht1 : (t.toList == (ByteArray.mk #[]).toList) = false := str_ne2 ht0
    have ht2 : ¬ t.toList = [] := by simpa using ht1
    have ht3 : t.toList.isEmpty = false := by cases h : t.toList with | nil => exact absurd h ht2 | cons x l => rfl
    by_cases hte : t = s.extract 0 (1 + 0)
    case pos =>
      have HR := Lib.hid (HY.out ht0 hte)
      subst hte
      go_wp2_with fail
      refine bodyPost_ret (v := .tuple #[.agg #[.int .i64 op, .int .i64 0], .int .i64 ((1 + 0 : Nat) : Int), .bool true]) (by simp [results, Try.results8, go_sem, r0, r1]) rfl ⟨by rw [HR.out], ?_⟩
      repeat (first | exact hB3 | refine Below.setCell ?_ (by simp) _)
    have HR := Lib.hid (HN.out (.inr hte))
    have hte1 : (t.toList == (s.extract 0 (1 + 0)).toList) = false := str_ne2 hte
    go_wp2_with fail
    refine bodyPost_ret (v := .tuple #[.agg #[.int .i64 0, .int .i64 0], .int .i64 0, .bool false]) (by simp [results, Try.results8, go_sem, r0, r1]) rfl ⟨by rw [HR.out], ?_⟩
    repeat (first | exact hB3 | refine Below.setCell ?_ (by simp) _)
  by_cases h1 : op = 1
  case pos =>
    have HM : Hid ((getSleb (s.extract 1 s.size)).getD (0, 0) = (a, m)) := by
      have := HQ.out
      rw [operand, if_pos h1] at this
      exact this
    have HK : Hid (getRes (getSleb (s.extract 1 s.size)) = .returned (.tuple #[.int .i64 a, .int .i64 m, .bool (getSleb (s.extract 1 s.size)).isSome])) := by show _ = _; rw [getRes_eq, HM.out]
    have h1b : (op == 1) = true := by simp [h1]
    clear h1
    go_wp2_with fail
    refine (HGS.out _).mono ?_
    rintro e w2 ⟨rfl, hb2⟩
    rw [HK.out]
    clear a0 a1
    replace bA := bA.step hb2
    replace bR := bR.step hb2
    have hB2 := hB0.trans (hb2.mono hs0)
    have a1 : w2.cell? ⟨w.heap.size + 1, 1, none⟩ = some (.int .i64 0) := bA.cell 1
    have f1 := bA.frozen 1
    have c0 : (w2.setCell ⟨w.heap.size + 1, 1, none⟩ (.int .i64 a)).cell? ⟨w.heap.size + 1, 0, none⟩ = some (.int .i64 op) := (bA.set_ 1 (.int .i64 a)).cell 0
    have c1 : (w2.setCell ⟨w.heap.size + 1, 1, none⟩ (.int .i64 a)).cell? ⟨w.heap.size + 1, 1, none⟩ = some (.int .i64 a) := (bA.set_ 1 (.int .i64 a)).cell 1
    go_wp2_with fail
    obtain ⟨wc, hwc⟩ : ∃ W, W = w2.setCell ⟨w.heap.size + 1, 1, none⟩ (.int .i64 a) := ⟨_, rfl⟩
    rw [← hwc]
    have bA2 : Blk wc (w.heap.size + 1) 23 #[.int .i64 op, .int .i64 a] := by rw [hwc]; have := bA.set_ 1 (.int .i64 a); simpa using this
    have bR2 : Blk wc w.heap.size 23 #[.int .i64 0, .int .i64 0] := by rw [hwc]; exact bR.far (by simp) _
    have hBc : Below w.heap.size w wc := by rw [hwc]; exact hB2.setCell (by simp) _
    clear hwc
    refine (implInsBytes_any op a hwa _).mono ?_
    rintro e w3 ⟨rfl, hb3⟩
    replace bA2 := bA2.step hb3
    replace bR2 := bR2.step hb3
    have hB3 := hBc.trans (hb3.mono hBc.size)
    have d0 : w3.cell? ⟨w.heap.size + 1, 0, none⟩ = some (.int .i64 op) := bA2.cell 0
    have d1 : w3.cell? ⟨w.heap.size + 1, 1, none⟩ = some (.int .i64 a) := bA2.cell 1
    have r0 : w3.cell? ⟨w.heap.size, 0, none⟩ = some (.int .i64 0) := bR2.cell 0
    have r1 : w3.cell? ⟨w.heap.size, 1, none⟩ = some (.int .i64 0) := bR2.cell 1
    have g0 := bR2.frozen 0
    have g1 := bR2.frozen 1
    have HY := Lib.hid (insOfR_yes hsz HO.out HQ.out)
    have HN := Lib.hid (insOfR_no hsz HO.out HQ.out)
    obtain ⟨t, ht⟩ : ∃ t, t = strOfNums (insBy op a) := ⟨_, rfl⟩
    rw [← ht] at HY HN ⊢
    clear ht
    have hbd : ((1 + m : Nat) : Int) ≤ (s.size : Int) := by omega
    have hsum : IntKind.i64.wrap (1 + ((m : Nat) : Int)) = ((1 + m : Nat) : Int) := by rw [IntWalk.i64_in _ (by omega)]; omega
    by_cases ht0 : t = ⟨#[]⟩
    case pos =>
      have HR := Lib.hid (HN.out (.inl ht0))
      subst ht0
      go_wp2_with fail
      refine bodyPost_ret (v := .tuple #[.agg #[.int .i64 0, .int .i64 0], .int .i64 0, .bool false]) (by simp [results, Try.results8, go_sem, r0, r1]) rfl ⟨by rw [HR.out], ?_⟩
      repeat (first | exact hB3 | refine Below.setCell ?_ (by simp) _)
    have ht1 : (t.toList == (ByteArray.mk #[]).toList) = false := str_ne2 ht0
    have ht2 : ¬ t.toList = [] := by simpa using ht1
    have ht3 : t.toList.isEmpty = false := by cases h : t.toList with | nil => exact absurd h ht2 | cons x l => rfl
    by_cases hte : t = s.extract 0 (1 + m)
    case pos =>
      have HR := Lib.hid (HY.out ht0 hte)
      subst hte
      go_wp2_with fail
      refine bodyPost_ret (v := .tuple #[.agg #[.int .i64 op, .int .i64 a], .int .i64 ((1 + m : Nat) : Int), .bool true]) (by simp [results, Try.results8, go_sem, r0, r1]) rfl ⟨by rw [HR.out], ?_⟩
      repeat (first | exact hB3 | refine Below.setCell ?_ (by simp) _)
    have HR := Lib.hid (HN.out (.inr hte))
    have hte1 : (t.toList == (s.extract 0 (1 + m)).toList) = false := str_ne2 hte
    go_wp2_with fail
    refine bodyPost_ret (v := .tuple #[.agg #[.int .i64 0, .int .i64 0], .int .i64 0, .bool false]) (by simp [results, Try.results8, go_sem, r0, r1]) rfl ⟨by rw [HR.out], ?_⟩
    repeat (first | exact hB3 | refine Below.setCell ?_ (by simp) _)
  have HM : Hid ((getLeb (s.extract 1 s.size)).getD (0, 0) = (a, m)) := by
    have := HQ.out
    rw [operand, if_neg h1, hh] at this
    exact this
  have HK : Hid (getRes (getLeb (s.extract 1 s.size)) = .returned (.tuple #[.int .i64 a, .int .i64 m, .bool (getLeb (s.extract 1 s.size)).isSome])) := by show _ = _; rw [getRes_eq, HM.out]
  have h1b : (op == 1) = false := by simpa using h1
  clear h1
  go_wp2_with fail
  refine (HGL.out _).mono ?_
  rintro e w2 ⟨rfl, rfl⟩
  rw [HK.out]
  clear a0 a1
  have hB2 := hB0
  have a1 : w0.cell? ⟨w.heap.size + 1, 1, none⟩ = some (.int .i64 0) := bA.cell 1
  have f1 := bA.frozen 1
  have c0 : (w0.setCell ⟨w.heap.size + 1, 1, none⟩ (.int .i64 a)).cell? ⟨w.heap.size + 1, 0, none⟩ = some (.int .i64 op) := (bA.set_ 1 (.int .i64 a)).cell 0
  have c1 : (w0.setCell ⟨w.heap.size + 1, 1, none⟩ (.int .i64 a)).cell? ⟨w.heap.size + 1, 1, none⟩ = some (.int .i64 a) := (bA.set_ 1 (.int .i64 a)).cell 1
  go_wp2_with fail
  obtain ⟨wc, hwc⟩ : ∃ W, W = w0.setCell ⟨w.heap.size + 1, 1, none⟩ (.int .i64 a) := ⟨_, rfl⟩
  rw [← hwc]
  have bA2 : Blk wc (w.heap.size + 1) 23 #[.int .i64 op, .int .i64 a] := by rw [hwc]; have := bA.set_ 1 (.int .i64 a); simpa using this
  have bR2 : Blk wc w.heap.size 23 #[.int .i64 0, .int .i64 0] := by rw [hwc]; exact bR.far (by simp) _
  have hBc : Below w.heap.size w wc := by rw [hwc]; exact hB2.setCell (by simp) _
  clear hwc
  refine (implInsBytes_any op a hwa _).mono ?_
  rintro e w3 ⟨rfl, hb3⟩
  replace bA2 := bA2.step hb3
  replace bR2 := bR2.step hb3
  have hB3 := hBc.trans (hb3.mono hBc.size)
  have d0 : w3.cell? ⟨w.heap.size + 1, 0, none⟩ = some (.int .i64 op) := bA2.cell 0
  have d1 : w3.cell? ⟨w.heap.size + 1, 1, none⟩ = some (.int .i64 a) := bA2.cell 1
  have r0 : w3.cell? ⟨w.heap.size, 0, none⟩ = some (.int .i64 0) := bR2.cell 0
  have r1 : w3.cell? ⟨w.heap.size, 1, none⟩ = some (.int .i64 0) := bR2.cell 1
  have g0 := bR2.frozen 0
  have g1 := bR2.frozen 1
  have HY := Lib.hid (insOfR_yes hsz HO.out HQ.out)
  have HN := Lib.hid (insOfR_no hsz HO.out HQ.out)
  obtain ⟨t, ht⟩ : ∃ t, t = strOfNums (insBy op a) := ⟨_, rfl⟩
  rw [← ht] at HY HN ⊢
  clear ht
  have hbd : ((1 + m : Nat) : Int) ≤ (s.size : Int) := by omega
  have hsum : IntKind.i64.wrap (1 + ((m : Nat) : Int)) = ((1 + m : Nat) : Int) := by rw [IntWalk.i64_in _ (by omega)]; omega
  by_cases ht0 : t = ⟨#[]⟩
  case pos =>
    have HR := Lib.hid (HN.out (.inl ht0))
    subst ht0
    go_wp2_with fail
    refine bodyPost_ret (v := .tuple #[.agg #[.int .i64 0, .int .i64 0], .int .i64 0, .bool false]) (by simp [results, Try.results8, go_sem, r0, r1]) rfl ⟨by rw [HR.out], ?_⟩
    repeat (first | exact hB3 | refine Below.setCell ?_ (by simp) _)
  have ht1 : (t.toList == (ByteArray.mk #[]).toList) = false := str_ne2 ht0
  have ht2 : ¬ t.toList = [] := by simpa using ht1
  have ht3 : t.toList.isEmpty = false := by cases h : t.toList with | nil => exact absurd h ht2 | cons x l => rfl
  by_cases hte : t = s.extract 0 (1 + m)
  case pos =>
    have HR := Lib.hid (HY.out ht0 hte)
    subst hte
    go_wp2_with fail
    refine bodyPost_ret (v := .tuple #[.agg #[.int .i64 op, .int .i64 a], .int .i64 ((1 + m : Nat) : Int), .bool true]) (by simp [results, Try.results8, go_sem, r0, r1]) rfl ⟨by rw [HR.out], ?_⟩
    repeat (first | exact hB3 | refine Below.setCell ?_ (by simp) _)
  have HR := Lib.hid (HN.out (.inr hte))
  have hte1 : (t.toList == (s.extract 0 (1 + m)).toList) = false := str_ne2 hte
  go_wp2_with fail
  refine bodyPost_ret (v := .tuple #[.agg #[.int .i64 0, .int .i64 0], .int .i64 0, .bool false]) (by simp [results, Try.results8, go_sem, r0, r1]) rfl ⟨by rw [HR.out], ?_⟩
  repeat (first | exact hB3 | refine Below.setCell ?_ (by simp) _)
theorem insOf_ok {f : Nat} {s : ByteArray} (h : InsRes f s) : ∀ (B : Nat) (w : World), B ≤ w.heap.size →
    Calls Try.prog f #[.string s] w fun e w' => ∃ us, e = .returned (.tuple #[.agg us.toArray, .int .i64 (insOfR s).2.1, .bool (insOfR s).2.2]) ∧ LvC w' w.heap.size w'.heap.size (Ins.pd (insOfR s).1) us ∧ Below w.heap.size w w' :=
  fun B w hB => (h w).mono fun e w' he => ⟨[.int .i64 (insOfR s).1.op, .int .i64 (insOfR s).1.a], he.1, ((LvC.nil w' _ _ (Nat.le_refl _)).lit _).lit _, he.2⟩
theorem specInsOf_ok (s : ByteArray) (hs : s.size ≤ 1048576) : ∀ (B : Nat) (w : World), B ≤ w.heap.size →
    Calls Try.prog 7 #[.string s] w fun e w' => ∃ us, e = .returned (.tuple #[.agg us.toArray, .int .i64 (insOfR s).2.1, .bool (insOfR s).2.2]) ∧ LvC w' w.heap.size w'.heap.size (Ins.pd (insOfR s).1) us ∧ Below w.heap.size w w' := insOf_ok (specInsOf_any s hs)
theorem implInsOf_ok (s : ByteArray) (hs : s.size ≤ 1048576) : ∀ (B : Nat) (w : World), B ≤ w.heap.size →
    Calls Try.prog 8 #[.string s] w fun e w' => ∃ us, e = .returned (.tuple #[.agg us.toArray, .int .i64 (insOfR s).2.1, .bool (insOfR s).2.2]) ∧ LvC w' w.heap.size w'.heap.size (Ins.pd (insOfR s).1) us ∧ Below w.heap.size w w' := insOf_ok (implInsOf_any s hs)
end Go.Proofs.Ytlkfaednolmfkaa

