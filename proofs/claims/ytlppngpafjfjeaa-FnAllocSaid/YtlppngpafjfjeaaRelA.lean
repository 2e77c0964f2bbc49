/-
  (*store).release.
-/
import Derived.Test.YtlppngpafjfjeaaRelT
namespace Go.Proofs.Ytlppngpafjfjeaa
open Go.RowKit
set_option linter.unusedVariables false
set_option linter.unusedSimpArgs false
set_option linter.unnecessarySimpa false
set_option maxRecDepth 16000

def RelQ (p lo : Nat) (s : ByteArray) (fs : List Block) (w : World) (e : Ending) (w' : World) : Prop :=
  ∃ bv fv, e = .returned (.bool true) ∧ Blk w' p 60 #[bv, fv] ∧ BytesV w' bv s ∧ Rep w' w'.heap.size (blocks fs) fv ∧ Below lo w w'
theorem StF.parts {w : World} {lo p : Nat} {bv fv : Value} {bs : List Block} (h : StF w lo p bv bs fv) : Rep w w.heap.size (blocks bs) fv ∧ ∀ A n c, fv = .slice A n c → n ≤ c := by
  obtain ⟨F, a1, a2, _⟩ := h
  have hL : Lv w lo w.heap.size (blocks bs) fv := ⟨F, a1, a2, Nat.le_refl _⟩
  exact ⟨hL.is, fun A n c e => by subst e; exact hold_cap a1⟩
set_option maxHeartbeats 3200000 in
theorem release_zero {p lo : Nat} {s : ByteArray} {bs : List Block} {bv fv : Value} {a : Int} {w : World} (bl : Blk w p 60 #[bv, fv]) (hx : RowX lo bv s w) (hf : StF w lo p bv bs fv) (hlo : lo ≤ w.heap.size) :
    Calls Try.prog 56 #[.pointer (some ⟨p, 0, none⟩), .int .i64 a, .int .i64 0] w fun e w' => RelQ p lo s bs w e w' := by
  have HX := Lib.hid hx
  have HR := Lib.hid hf.parts.1
  clear hx hf
  go_enter Try.func56, Try.ntmps56
  go_wp2_with fail
  go_ret
  have hB : Below lo w ((w.alloc (.cells #[.int .i64 a] 2)).alloc (.cells #[.int .i64 0] 2)) := ((Below.refl _ _).alloc hlo _).alloc (by simp; omega) _
  have hB2 : Below w.heap.size w ((w.alloc (.cells #[.int .i64 a] 2)).alloc (.cells #[.int .i64 0] 2)) := ((Below.refl _ _).alloc (Nat.le_refl _) _).alloc (by simp) _
  exact ⟨bv, fv, rfl, (bl.alloc _).alloc _, bytesV_row ((HX.out.alloc _).alloc _), Rep.more hB2.size _ _ (HR.out.below hB2), hB⟩
theorem release1_enter (a : Array Value) (W : World) : Sem.run Try.prog (callFunc 72 a) W = .ok (.enter 72 a) W := by kernel_rfl
def RelR (p lo : Nat) (s : ByteArray) (bs : List Block) (a z : Int) (r : Bool) (w : World) (e : Ending) (w' : World) : Prop :=
  (8 ≤ a ∧ r = true ∧ freeAt bs a z = false → RelQ p lo s (giveL bs ⟨a, z⟩) w e w') ∧ (¬ (8 ≤ a ∧ r = true ∧ freeAt bs a z = false) → e = .returned (.bool false) ∧ Below lo w w')
set_option maxHeartbeats 6400000 in
theorem release_all {p lo : Nat} {s : ByteArray} {bs : List Block} {bv fv : Value} {a z : Int} {r : Bool} {w : World} (bl : Blk w p 60 #[bv, fv]) (hx : RowX lo bv s w) (hf : StF w lo p bv bs fv) (hlo : lo ≤ p) (hM : MemF s bs) (ha : (Lit.int .i64 a).wf = true) (hz : (Lit.int .i64 z).wf = true) (hz0 : z ≠ 0)
    (hr : r = true ↔ 0 ≤ a ∧ 0 ≤ z ∧ a ≤ s.size ∧ z ≤ s.size - a) :
    Calls Try.prog 56 #[.pointer (some ⟨p, 0, none⟩), .int .i64 a, .int .i64 z] w fun e w' => RelR p lo s bs a z r w e w' := by
  have hp := bl.lt
  have hP := hf.parts
  have hs4 := hM.size
  obtain ⟨g, cap, hv, hbg⟩ := hx.form
  have hne : bv.ownBlock ≠ some p := fun e => by
    obtain ⟨F, _, _, _, h4⟩ := hf
    exact (h4 p e).2 rfl
  obtain ⟨w0, hw0⟩ : ∃ W, W = (w.alloc (.cells #[.int .i64 a] 2)).alloc (.cells #[.int .i64 z] 2) := ⟨_, rfl⟩
  have hB0 : Below w.heap.size w w0 := by rw [hw0]; exact ((Below.refl _ _).alloc (Nat.le_refl _) _).alloc (by simp) _
  have bA : Blk w0 w.heap.size 2 #[.int .i64 a] := by rw [hw0]; exact (Blk.new w _ _).alloc _
  have bZ : Blk w0 (w.heap.size + 1) 2 #[.int .i64 z] := by rw [hw0]; have := Blk.new (w.alloc (.cells #[.int .i64 a] 2)) 2 #[.int .i64 z]; simpa using this
  have bl0 := bl.step hB0
  have HX := Lib.hid (hx.step hB0)
  have HRp := Lib.hid (Rep.more hB0.size _ _ (hP.1.below hB0))
  have HCP := Lib.hid hP.2
  have HM := Lib.hid hM
  have HW := Lib.hid hw0
  have HRR := Lib.hid hr
  have HNE := Lib.hid hne
  clear hx hf hP hM hw0 hr hne bl
  subst hv
  go_enter Try.func56, Try.ntmps56
  by_cases h8 : a < 8
  case pos =>
    go_wp2_with fail
    go_ret
    rw [← HW.out]
    exact ⟨fun h => absurd h.1 (by omega), fun _ => ⟨rfl, hB0.mono (by omega)⟩⟩
  go_wp2_with fail
  rw [← HW.out]
  refine (inBounds_any bl0 (by omega) ha hz HRR.out).mono ?_
  rintro e w1 ⟨rfl, hb1⟩
  have hB1 := hB0.trans (hb1.mono hB0.size)
  have hlo2 : lo ≤ w.heap.size := by omega
  cases r with
  | false =>
    go_wp2_with fail
    go_ret
    exact ⟨fun h => absurd h.2.1 (by simp), fun _ => ⟨rfl, hB1.mono hlo2⟩⟩
  | true =>
    have bl1 := bl0.step hb1
    have bA1 := bA.step hb1
    have bZ1 := bZ.step hb1
    have HX1 := Lib.hid (HX.out.step hb1)
    have HR1 := Lib.hid (Rep.more hb1.size _ _ (HRp.out.below hb1))
    have hz4 := HRR.out.1 rfl
    have p1 := bl1.cell 1
    clear bl0 bA bZ HX HRp hb1
    have lA1 := bA1.lt
    have lZ1 := bZ1.lt
    go_wp2_with fail
    refine (hasBlockS_any 72 #[.pointer (some ⟨w.heap.size, 0, none⟩), .pointer (some ⟨w.heap.size + 1, 0, none⟩)] (fun b => decide (b.at_ < a + z) && decide (a < b.at_ + b.size)) (Nat.le_refl w1.heap.size) HR1.out release1_enter (fun t ht cs W hW hc => ?_)).mono ?_
    · have := Block.open_ hc
      subst this
      have hf := HM.out.fits.2 t ht
      have hWs := hW.size
      exact relTest_any ((bA1.step hW).cell 0) ((bZ1.step hW).cell 0) (by omega) (by omega) (by omega) (by omega)
    rintro e w2 ⟨rfl, hb2⟩
    rw [show (bs.any fun b => decide (b.at_ < a + z) && decide (a < b.at_ + b.size)) = freeAt bs a z from rfl]
    have hB2 := hB1.trans (hb2.mono hB1.size)
    have bl2 := bl1.step hb2
    have bA2 := bA1.step hb2
    have bZ2 := bZ1.step hb2
    have HX2 := Lib.hid (HX1.out.step hb2)
    have HR2 := Lib.hid (Rep.more hb2.size _ _ (HR1.out.below hb2))
    have a0 := bA2.cell 0
    have z0 := bZ2.cell 0
    clear bl1 bA1 bZ1 HX1 HR1 hb2 p1
    cases hfr : freeAt bs a z with
    | true =>
      have HFR := Lib.hid hfr
      clear hfr
      go_wp2_with fail
      go_ret
      exact ⟨fun h => absurd h.2.2 (by simp [HFR.out]), fun _ => ⟨rfl, hB2.mono hlo2⟩⟩
    | false =>
      have HFR := Lib.hid hfr
      clear hfr
      go_wp2_with fail
      refine (put_all bl2 HR2.out HCP.out HM.out (by omega) (freeAt_no HFR.out)).mono ?_
      rintro e w3 ⟨fv3, rfl, bl3, hL3, hK3⟩
      have HL3 := Lib.hid hL3
      have hB3 := (hB2.mono hlo2).trans ((hK3.below (by have := bl2.lt; omega)).mono hlo)
      clear hL3 a0 z0
      go_wp2_with fail
      go_ret
      exact ⟨fun _ => ⟨_, _, rfl, bl3, bytesV_row (HX2.out.kept' hK3 HNE.out), HL3.out.is, hB3⟩, fun h => absurd ⟨by omega, rfl, HFR.out⟩ h⟩
end Go.Proofs.Ytlppngpafjfjeaa

