/-
  (*store).grow of a store that has bytes and free blocks.
-/
import Derived.Test.YtlppngpafjfjeaaGrowP
namespace Go.Proofs.Ytlppngpafjfjeaa
open Go.RowKit
set_option linter.unusedVariables false
set_option linter.unusedSimpArgs false
set_option linter.unnecessarySimpa false
set_option maxRecDepth 16000

theorem RowX.kept' {B : Nat} {v : Value} {s : ByteArray} {w w' : World} {p : Nat} (h : RowX B v s w) (hk : Keep p (p + 1) w w') (hp : v.ownBlock ≠ some p) : RowX B v s w' := by
  obtain ⟨g, cap, cur, fz, rfl, hb, hg, rest⟩ := h
  have hne : g ≠ p := fun e => hp (by simp [Value.ownBlock, e])
  exact ⟨g, cap, cur, fz, rfl, hb, (hk.block g (Array.getElem?_eq_some_iff.1 hg).1 (by omega)).trans hg, rest⟩
theorem hold_cap {w : World} {l : List Block} {A : Option Addr} {n c : Nat} {F : List Nat} (h : Hold w (blocks l) (.slice A n c) F) : n ≤ c := by
  rw [blocks, Hold] at h
  obtain ⟨A', n', c', e, _, hc, _⟩ := h
  cases e
  exact hc
theorem rep_cases {w : World} {B : Nat} {l : List Block} {fv : Value} (h : Rep w B (blocks l) fv) :
    (∃ A c, fv = .slice A 0 c ∧ l = []) ∨ ∃ g off n c, fv = .slice (some ⟨g, off, none⟩) n c ∧ n = l.length ∧ AtB w g off l ∧ g < B := by
  have h0 := h
  obtain ⟨A, n, c, rfl, hl, _, hx⟩ := rep_row Block.pd_length (by decide) h
  rcases Nat.eq_zero_or_pos n with rfl | hn
  · exact .inl ⟨A, c, rfl, List.eq_nil_of_length_eq_zero hl.symm⟩
  · obtain ⟨g, off, rfl, hg, _⟩ := hx hn
    exact .inr ⟨g, off, n, c, rfl, hl, (at_rep h0 hn).1, hg⟩
def GrowQ (p lo : Nat) (s : ByteArray) (bs : List Block) (m : Nat) (w : World) (e : Ending) (w' : World) : Prop :=
  ∃ bv fv, e = .returned (.tuple #[]) ∧ Blk w' p 60 #[bv, fv] ∧ BytesV w' bv (s ++ zerosB m) ∧ Rep w' w'.heap.size (blocks (growL bs s.size m)) fv ∧ Below lo w w'
theorem growL_yes {bs : List Block} {n m : Nat} {ba bz : Int} (h : max n 8 < n + m) (h1 : ba = (max n 8 : Nat)) (h2 : bz = (n + m : Nat) - ba) : growL bs n m = giveL bs ⟨ba, bz⟩ := by
  rw [growL, if_pos h]
  have : bz = ((n + m - max n 8 : Nat) : Int) := by omega
  rw [h1, this]
theorem growL_no {bs : List Block} {n m : Nat} (h : ¬ max n 8 < n + m) : growL bs n m = bs := if_neg h
set_option maxHeartbeats 6400000 in
theorem grow_any {p lo m : Nat} {s : ByteArray} {bs : List Block} {bv fv : Value} {w : World} (bl : Blk w p 60 #[bv, fv]) (hx : RowX lo bv s w) (hf : StF w lo p bv bs fv) (hlo : lo ≤ p) (hm : s.size + m ≤ 4096) (hM : MemF s bs) :
    Calls Try.prog 42 #[.pointer (some ⟨p, 0, none⟩), .int .i64 m] w fun e w' => GrowQ p lo s bs m w e w' := by
  have hp := bl.lt
  obtain ⟨F, a1, a2, a3, a4⟩ := hf
  obtain ⟨v', w1, hrun, hx1, hg, hor⟩ := append_z (k := m) hx (by omega) (by omega)
  have happ : (s ++ zerosB m).size = s.size + m := by rw [ByteArray.size_append, zerosB_size]
  have hne : v'.ownBlock ≠ some p := by
    rcases hor with h | h
    · rw [h]; exact fun e => (a4 p e).2 rfl
    · rw [h]; intro e; cases e; omega
  have bl1 : Blk w1 p 60 #[bv, fv] := (hg.block p hp (fun e => (a4 p e.symm).2 rfl)).trans bl
  have hs1 := hg.size
  have hB1 : Below lo w w1 := (Below.refl lo w).grown hg (by omega) (fun q hq => by
    obtain ⟨g, cap, rfl, hbg⟩ := hx.form
    obtain rfl := ownB_eq hq
    exact hbg)
  obtain ⟨g, cap, rfl, hbg⟩ := hx.form
  obtain ⟨g', cap', hv', hbg'⟩ := hx1.form
  rw [happ] at hv'
  subst hv'
  obtain ⟨W2, hW2⟩ : ∃ W, W = w1.setCell ⟨p, 0, none⟩ (.slice (some ⟨g', 0, none⟩) (s.size + m) cap') := ⟨_, rfl⟩
  have bl2 : Blk W2 p 60 #[.slice (some ⟨g', 0, none⟩) (s.size + m) cap', fv] := by have := bl1.set_ 0 (.slice (some ⟨g', 0, none⟩) (s.size + m) cap'); rw [hW2]; simpa using this
  have hK1 : Keep p (p + 1) w1 W2 := by rw [hW2]; exact (Keep.refl _ _ _).setCell (p := ⟨p, 0, none⟩) (Nat.le_refl _) (Nat.lt_succ_self _) _
  have hB2 : Below lo w W2 := by rw [hW2]; exact hB1.setCell (p := ⟨p, 0, none⟩) hlo _
  have HX2 := Lib.hid (hx1.kept' hK1 hne)
  have hH2 : Hold W2 (blocks bs) fv F := by
    refine Hold.keep _ _ F a1 fun q hq => ?_
    have hq2 : q < w.heap.size := (a2.2 q hq).2
    have hqp : q ≠ p := fun e => a3 (e ▸ hq)
    exact (hK1.block q (by omega) (by omega)).trans (hg.block q hq2 (fun e => (a4 q e.symm).1 hq))
  have hs2 : W2.heap.size = w1.heap.size := by rw [hW2]; simp
  have hLv : Lv W2 lo W2.heap.size (blocks bs) fv := ⟨F, hH2, ⟨a2.1, fun q hq => by have := a2.2 q hq; omega⟩, by omega⟩
  have hR2 := hLv.is
  have HM := Lib.hid hM
  have HR := Lib.hid hrun
  have HN := Lib.hid hne
  have HW2 := Lib.hid hW2
  have p0 : w.cell? ⟨p, 0, none⟩ = some (.slice (some ⟨g, 0, none⟩) s.size cap) := bl.cell 0
  have q0 : w1.cell? ⟨p, 0, none⟩ = some (.slice (some ⟨g, 0, none⟩) s.size cap) := bl1.cell 0
  have h0 := bl1.frozen 0
  have r0 : W2.cell? ⟨p, 0, none⟩ = some (.slice (some ⟨g', 0, none⟩) (s.size + m) cap') := bl2.cell 0
  have hs96 : s.size ≤ 4096 := by omega
  have hcap : ∀ A n c, fv = .slice A n c → n ≤ c := fun A n c e => by subst e; exact hold_cap hH2
  have hcases := rep_cases hR2
  have HSZ := Lib.hid hs2
  have HLV := Lib.hid hLv
  clear a1 a2 a3 a4 hx1 hx hg hor hs1 hB1 hK1 hH2 hs2 hLv hM hrun hne hW2 bl bl1 hbg hbg' happ
  go_enter Try.func42, Try.ntmps42
  go_wp2_with fail
  refine (sizeB_any _ _ _ _).mono ?_
  rintro e w' ⟨rfl, rfl⟩
  go_wp2_with (at_builtin; refine Lib.wpList_append_run _ rfl _ _ _ _ rfl _ _ rfl rfl _ _ (HR.out _) ?_)
  rw [← HW2.out]
  refine (sizeB_any _ _ _ _).mono ?_
  rintro e w' ⟨rfl, rfl⟩
  by_cases hgt : max s.size 8 < s.size + m
  · have hgt' : max (8 : Int) (s.size : Int) < (s.size : Int) + (m : Int) := by omega
    have HF := Lib.hid (growL_yes (bs := bs) (ba := max (8 : Int) (s.size : Int)) (bz := (s.size : Int) + (m : Int) - max (8 : Int) (s.size : Int)) hgt (by omega) (by push_cast; omega))
    clear hgt
    go_wp2_with fail
    rcases hcases with ⟨A, c, rfl, rfl⟩ | ⟨g2, off2, n2, c2, rfl, hn2, hat2, hg2⟩
    · refine (put_nil bl2).mono ?_
      rintro e w3 ⟨fv', rfl, bl3, hL, hK3⟩
      have HL := Lib.hid hL
      clear hL
      go_wp2_with fail
      go_end0
      exact ⟨_, _, rfl, bl3, bytesV_row (HX2.out.kept' hK3 HN.out), by rw [HF.out]; exact HL.out.is, hB2.trans ((hK3.below (by have := bl2.lt; omega)).mono hlo)⟩
    · have hend : ∀ x ∈ bs, x.at_ + x.size ≤ max (8 : Int) (s.size : Int) ∧ 0 < x.size := fun x hx => by have := HM.out.all_ x hx; omega
      refine (put_end bl2 (hcap _ _ _ rfl) hg2 hn2 hat2 HM.out.fits (fun x hx => by have := hend x hx; omega) (by omega)).mono ?_
      rintro e w3 ⟨k, fv', rfl, hfa, bl3, hL, hK3⟩
      have HL := Lib.hid hL
      have HP := Lib.hid (put_give (b := ⟨max (8 : Int) (s.size : Int), (s.size : Int) + (m : Int) - max (8 : Int) (s.size : Int)⟩) hfa HM.out.ord hend)
      clear hL hfa hn2 hat2 hend
      go_wp2_with fail
      go_end0
      exact ⟨_, _, rfl, bl3, bytesV_row (HX2.out.kept' hK3 HN.out), by rw [HF.out, ← HP.out]; exact HL.out.is, hB2.trans ((hK3.below (by have := bl2.lt; omega)).mono hlo)⟩
  · have hgt' : ¬ max (8 : Int) (s.size : Int) < (s.size : Int) + (m : Int) := by omega
    have HF := Lib.hid (growL_no (bs := bs) hgt)
    clear hgt
    go_wp2_with fail
    go_end0
    exact ⟨_, _, rfl, bl2, bytesV_row HX2.out, by rw [HF.out]; exact hR2, hB2⟩
end Go.Proofs.Ytlppngpafjfjeaa

