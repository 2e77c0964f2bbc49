/-
  (*store).put of a block behind all free ones (by program: gen_put.py).
-/
import Derived.Test.YtlppngpafjfjeaaPutN
import Derived.RegionTactic
import Derived.ChangeAlike
import Derived.BigRegion
namespace Go.Proofs.Ytlppngpafjfjeaa
open Go.RowKit
set_option linter.unusedVariables false
set_option linter.unusedSimpArgs false
set_option linter.unnecessarySimpa false
set_option maxRecDepth 16000

def putB1 (fs : List Block) (k : Nat) (b : Block) : Nat × Block := if k = 0 then (0, b) else match fs[k - 1]? with
  | none => (k, b)
  | some x => if x.at_ + x.size = b.at_ then (k - 1, ⟨x.at_, x.size + b.size⟩) else (k, b)
def putB2 (fs : List Block) (k : Nat) (b : Block) : Block × Nat := match fs[k]? with
  | none => (b, k)
  | some y => if b.at_ + b.size = y.at_ then (⟨b.at_, b.size + y.size⟩, k + 1) else (b, k)
def putAt (fs : List Block) (k : Nat) (b : Block) : List Block := fs.take (putB1 fs k b).1 ++ [(putB2 fs k (putB1 fs k b).2).1] ++ fs.drop (putB2 fs k (putB1 fs k b).2).2
def FirstAt (fs : List Block) (a : Int) (k : Nat) : Prop := k ≤ fs.length ∧ (∀ (j : Nat) (x : Block), j < k → fs[j]? = some x → x.at_ < a) ∧ ∀ x : Block, fs[k]? = some x → ¬ x.at_ < a
def Fits (fs : List Block) : Prop := fs.length ≤ 4096 ∧ ∀ x ∈ fs, 0 ≤ x.at_ ∧ x.at_ ≤ 4096 ∧ 0 ≤ x.size ∧ x.size ≤ 4096
def AtB (w : World) (g off : Nat) (fs : List Block) : Prop := ∀ (k : Nat) (x : Block), fs[k]? = some x → w.cell? ⟨g, off + k * 2, none⟩ = some (.int .i64 x.at_) ∧ w.cell? ⟨g, off + k * 2 + 1, none⟩ = some (.int .i64 x.size)
theorem rep_at {w : World} {g off n c : Nat} {fs : List Block} (h : AtB w g off fs) (hg : g < w.heap.size) (hn : n = fs.length) (hm : n ≤ maxLen) : Rep w w.heap.size (blocks fs) (.slice (some ⟨g, off, none⟩) n c) := by
  rw [blocks, Rep, flatMap_length Block.pd_length]
  refine ⟨_, _, _, rfl, by rw [hn], hm, fun _ => ⟨g, off, rfl, hg, repL_iff.2 fun j x hx => ?_⟩⟩
  have hj : j = j / 2 * 2 + j % 2 := by omega
  have hr : j % 2 < 2 := Nat.mod_lt _ (by decide)
  rw [hj] at hx ⊢
  cases hb : fs[j / 2]? with
  | none =>
    have h1 := (List.getElem?_eq_some_iff.1 hx).1
    rw [flatMap_length Block.pd_length] at h1
    have h2 := List.getElem?_eq_none_iff.1 hb
    omega
  | some b =>
    rw [flatMap_get Block.pd_length hb hr] at hx
    obtain ⟨h0, h1⟩ := h _ _ hb
    rcases (show j % 2 = 0 ∨ j % 2 = 1 by omega) with e | e
    · rw [e] at hx ⊢
      cases hx
      exact ⟨_, h0, by rw [Rep]⟩
    · rw [e] at hx ⊢
      cases hx
      exact ⟨_, h1, by rw [Rep]⟩
theorem AtB.take {w : World} {g off : Nat} {fs : List Block} (h : AtB w g off fs) (k : Nat) : AtB w g off (fs.take k) := fun j x hx => by
  rw [List.getElem?_take] at hx
  split at hx
  · exact h j x hx
  · cases hx
theorem AtB.drop {w : World} {g off : Nat} {fs : List Block} (h : AtB w g off fs) (k : Nat) : AtB w g (off + k * 2) (fs.drop k) := fun j x hx => by
  rw [List.getElem?_drop] at hx
  have := h (k + j) x hx
  rwa [show off + (k + j) * 2 = off + k * 2 + j * 2 by omega] at this
theorem AtB.below {w w' : World} {B g off : Nat} {fs : List Block} (h : AtB w g off fs) (hb : Below B w w') (hg : g < B) : AtB w' g off fs := fun j x hx => ⟨(hb.cell (p := ⟨g, off + j * 2, none⟩) hg).trans (h j x hx).1, (hb.cell (p := ⟨g, off + j * 2 + 1, none⟩) hg).trans (h j x hx).2⟩
theorem concat_put2 {b : Block} {f1 f3 : List Block} {v1 v3 : Value} {wd : World} {N : Nat} (hN : wd.heap.size = N) (l1 : f1.length ≤ 1000000) (l3 : f3.length ≤ 1000000)
    (r1 : Rep wd wd.heap.size (blocks f1) v1) (r3 : Rep wd wd.heap.size (blocks f3) v3) :
    Calls Try.prog 69 #[.slice (some ⟨N + 1, 0, none⟩) 3 3] ((wd.alloc (.cells #[.int .i64 b.at_, .int .i64 b.size] 49)).alloc (.cells #[v1, .slice (some ⟨N, 0, none⟩) 1 1, v3] 27))
      fun e w' => ∃ u, e = .returned u ∧ Lv w' (N + 2) w'.heap.size (blocks (f1 ++ [b] ++ f3)) u ∧ Below N wd w' := by
  subst hN
  exact concat_put (wr := wd) (wd := wd) rfl (Below.refl _ _) l1 l3 r1 r3
set_option maxHeartbeats 3200000 in
theorem put_end {fs : List Block} {ba bz : Int} {p n c g off : Nat} {bv : Value} {w : World} (bl : Blk w p 60 #[bv, .slice (some ⟨g, off, none⟩) n c]) (hnc : n ≤ c) (hg : g < w.heap.size) (hn : n = fs.length)
    (hat : AtB w g off fs)
    (hfs : Fits fs) (hend : ∀ x ∈ fs, x.at_ < ba) (hb : 0 ≤ ba ∧ ba ≤ 4096 ∧ 0 ≤ bz ∧ bz ≤ 4096) :
    Calls Try.prog 65 #[.pointer (some ⟨p, 0, none⟩), .agg #[.int .i64 ba, .int .i64 bz]] w fun e w' => ∃ k fv', e = .returned (.tuple #[]) ∧ FirstAt fs ba k ∧ Blk w' p 60 #[bv, fv'] ∧ Lv w' w.heap.size w'.heap.size (blocks (putAt fs k ⟨ba, bz⟩)) fv' ∧ Keep p (p + 1) w w' := by
  have hp := bl.lt
  have hn4 : n ≤ 4096 := by rw [hn]; exact hfs.1
  have HN := Lib.hid hn
  have HAT := Lib.hid hat
  have HFS := Lib.hid hfs.2
  have HE := Lib.hid hend
  clear hn hat hfs hend
  go_enter Try.func65, Try.ntmps65
  go_wp2_with fail
  obtain ⟨w1, hw1⟩ : ∃ W, W = w.alloc (.cells #[.int .i64 ba, .int .i64 bz] 49) := ⟨_, rfl⟩
  rw [← hw1]
  have bl1 := bl.alloc (.cells #[.int .i64 ba, .int .i64 bz] 49)
  have bb : Blk w1 w.heap.size 49 #[.int .i64 ba, .int .i64 bz] := by rw [hw1]; exact Blk.new w _ _
  have hB1 : Below w.heap.size w w1 := by rw [hw1]; exact (Below.refl _ _).alloc (Nat.le_refl _) _
  rw [← hw1] at bl1
  clear hw1 bl
  go_loopw [4] (fun i wr => ∃ k : Nat, k ≤ n ∧ i = .int .i64 k ∧ Hid (∀ (j : Nat) (x : Block), j < k → fs[j]? = some x → x.at_ < ba) ∧ Below w1.heap.size w1 wr) (fun i _ => n - (intOf i).toNat)
  case atStart => exact ⟨0, Nat.zero_le _, rfl, Lib.hid fun j x h => absurd h (by omega), Below.refl _ _⟩
  case round =>
    obtain ⟨k, hk, rfl, HP, hbr⟩ := hrel
    have bl2 := bl1.step hbr
    have bb2 := bb.step hbr
    have hB2 := hB1.trans (hbr.mono hB1.size)
    clear bl1 bb hB1
    have p0 := bl2.cell 0
    have p1 := bl2.cell 1
    have x0 := bb2.cell 0
    have x1 := bb2.cell 1
    by_cases hlt : k < n
    · obtain ⟨x, hx, hmem⟩ := at_lt HN.out hlt
      obtain ⟨h0, h1⟩ := HAT.out k x hx
      have e0 := (hB2.cell (p := ⟨g, off + k * 2, none⟩) hg).trans h0
      have e1 := (hB2.cell (p := ⟨g, off + k * 2 + 1, none⟩) hg).trans h1
      have hxb := HFS.out x hmem
      obtain ⟨xa, xz⟩ := x
      have HX := Lib.hid hx
      have HBR := Lib.hid hbr
      clear hx hmem h0 h1 hbr
      simp only at e0 e1 hxb
      by_cases hx : xa < ba
      · have hd : decide (xa < ba) = true := decide_eq_true hx
        have HQ : Hid (∀ (j : Nat) (x : Block), j < k + 1 → fs[j]? = some x → x.at_ < ba) := fun j y hj hy => by
          rcases Nat.lt_succ_iff_lt_or_eq.1 hj with h | rfl
          · exact HP.out j y h hy
          · rw [HX.out] at hy; cases hy; exact hx
        clear hx
        go_wp2_with fail
        go_quiet (fail)
        go_wp2_with fail
        go_roundw
        case rel => exact ⟨k + 1, by omega, by go_num, HQ, below_drewN HBR.out _⟩
        case measure => simp [intOf]; omega
      · exact absurd (HE.out _ (List.mem_of_getElem? HX.out)) hx
    · have hkn : k = n := by omega
      have HBR := Lib.hid hbr
      clear hbr
      have HFA : Hid (FirstAt fs ba k) := ⟨by have := HN.out; omega, HP.out, fun y hy => by have := (List.getElem?_eq_some_iff.1 hy).1; have := HN.out; omega⟩
      have HA2 := Lib.hid (AtB.below HAT.out hB2 hg)
      subst hkn
      cases k with
      | zero =>
        have HPA : Hid (putAt fs 0 ⟨ba, bz⟩ = [] ++ [⟨ba, bz⟩] ++ []) := by
          show _ = _
          have : fs = [] := List.eq_nil_of_length_eq_zero (by have := HN.out; omega)
          simp [putAt, putB1, putB2, this]
        go_wp2_with fail
        go_quiet (fail)
        go_wp2_with fail
        go_quiet (fail)
        go_wp2_with fail
        go_quiet (fail)
        go_wp2_with fail
        go_quiet (fail)
        go_wp2_with fail
        refine (concat_put (b := ⟨ba, bz⟩) (f1 := []) (f3 := []) (wr := wr) (wd := wr.drewN _) rfl (below_drewN (Below.refl _ _) _) (by simp; try omega) (by simp; try omega) (rep_nil _ _ _ _) (rep_nil _ _ _ _)).mono ?_
        rintro e w4 ⟨u, rfl, hL, hb4⟩
        have bl4 := bl2.step hb4
        have hB4 := hB2.trans (hb4.mono hB2.size)
        have hwp := hB2.size
        have d1 := bl4.cell 1
        have f1 := bl4.frozen 1
        obtain ⟨uA, uN, uC, rfl⟩ := hL.form
        have HL := Lib.hid hL
        clear p0 p1 x0 x1 hL
        go_wp2_with fail
        go_end0
        exact ⟨_, _, rfl, HFA.out, by have := bl4.set_ 1 (.slice uA uN uC); simpa using this, by rw [HPA.out]; have := (HL.out.kept (Keep.setCell (Keep.refl p (p + 1) w4) (p := ⟨p, 1, none⟩) (Nat.le_refl _) (Nat.lt_succ_self _) (.slice uA uN uC)) (.inr (by omega))); obtain ⟨F, a1, a2, a3⟩ := this; exact ⟨F, a1, ⟨a2.1, fun g hg => by have := a2.2 g hg; simp; omega⟩, by simp⟩, (Keep.of_below hB4).setCell (p := ⟨p, 1, none⟩) (Nat.le_refl _) (Nat.lt_succ_self _) _⟩
      | succ k =>
        obtain ⟨y, hy, hmem⟩ := at_lt HN.out (Nat.lt_succ_self k)
        obtain ⟨y0, y1⟩ := HA2.out k y hy
        have hyb := HFS.out y hmem
        obtain ⟨ya, yz⟩ := y
        have HY := Lib.hid hy
        clear hy hmem
        simp only at y0 y1 hyb
        by_cases ht : ya + yz = ba
        · have hd : (ya + yz == ba) = true := by simpa using ht
          have hpw : p ≠ w.heap.size := by omega
          have HBD : Hid (∀ M N, Below w.heap.size w ((((wr.drewN M).setCell ⟨w.heap.size, 0, none⟩ (.int .i64 ya)).setCell ⟨w.heap.size, 1, none⟩ (.int .i64 (yz + bz))).drewN N)) := fun M N => below_drewN (((below_drewN hB2 M).setCell (p := ⟨w.heap.size, 0, none⟩) (Nat.le_refl _) _).setCell (p := ⟨w.heap.size, 1, none⟩) (Nat.le_refl _) _) N
          have HLD : Hid (∀ M N, Blk ((((wr.drewN M).setCell ⟨w.heap.size, 0, none⟩ (.int .i64 ya)).setCell ⟨w.heap.size, 1, none⟩ (.int .i64 (yz + bz))).drewN N) p 60 #[bv, .slice (some ⟨g, off, none⟩) (k + 1) c]) := fun M N => (Blk.far (w := wr.drewN M) bl2 (p := ⟨w.heap.size, 0, none⟩) hpw (.int .i64 ya)).far (p := ⟨w.heap.size, 1, none⟩) hpw (.int .i64 (yz + bz))
          have HSD : Hid (∀ M N, ((((wr.drewN M).setCell ⟨w.heap.size, 0, none⟩ (.int .i64 ya)).setCell ⟨w.heap.size, 1, none⟩ (.int .i64 (yz + bz))).drewN N).heap.size = wr.heap.size) := fun M N => by simp
          have HR1 := Lib.hid (fun M N cc => rep_at (n := k) (c := cc) (AtB.take (AtB.below HAT.out (HBD.out M N) hg) k) (Nat.lt_of_lt_of_le hg (HBD.out M N).size) (by have := HN.out; simp; omega) (by unfold maxLen; omega))
          have hl1 : (fs.take k).length ≤ 1000000 := by have := HN.out; simp; omega
          have HPA : Hid (putAt fs (k + 1) ⟨ba, bz⟩ = fs.take k ++ [⟨ya, yz + bz⟩] ++ []) := by
            show _ = _
            have h1 : fs[k + 1]? = none := List.getElem?_eq_none_iff.2 (by have := HN.out; omega)
            have h2 : fs.length ≤ k + 1 := by have := HN.out; omega
            simp [putAt, putB1, putB2, h1, HY.out, ht, List.drop_of_length_le h2]
          have fb0 := bb2.frozen 0
          have fb1 := bb2.frozen 1
          go_wp2_with fail
          go_quiet (fail)
          go_wp2_with fail
          go_quiet (fail)
          go_wp2_with fail
          all_goals
            go_quiet (fail)
            go_wp2_with fail
            go_region
          all_goals
            go_wp2_with fail
            go_quiet (fail)
            go_wp2_with fail
            refine (concat_put2 (b := ⟨ya, yz + bz⟩) (f1 := fs.take k) (f3 := []) (wd := ((((wr.drewN _).setCell ⟨w.heap.size, 0, none⟩ (.int .i64 ya)).setCell ⟨w.heap.size, 1, none⟩ (.int .i64 (yz + bz))).drewN _)) (N := wr.heap.size) (HSD.out _ _) hl1 (by simp) (HR1.out _ _ _) (rep_nil _ _ _ _)).mono ?_
            rintro e w4 ⟨u, rfl, hL, hb4⟩
            have hwp := hB2.size
            have bl4 := (HLD.out _ _).below hb4 (by omega)
            have hB4 := (HBD.out _ _).trans (hb4.mono hwp)
            have d1 := bl4.cell 1
            have f1 := bl4.frozen 1
            obtain ⟨uA, uN, uC, rfl⟩ := hL.form
            have HL := Lib.hid hL
            clear p0 p1 x0 x1 y0 y1 fb0 fb1 hL
            go_wp2_with fail
            go_end0
            exact ⟨_, _, rfl, HFA.out, by have := bl4.set_ 1 (.slice uA uN uC); simpa using this, by rw [HPA.out]; have := (HL.out.kept (Keep.setCell (Keep.refl p (p + 1) w4) (p := ⟨p, 1, none⟩) (Nat.le_refl _) (Nat.lt_succ_self _) (.slice uA uN uC)) (.inr (by omega))); obtain ⟨F, a1, a2, a3⟩ := this; exact ⟨F, a1, ⟨a2.1, fun g hg => by have := a2.2 g hg; simp; omega⟩, by simp⟩, (Keep.of_below hB4).setCell (p := ⟨p, 1, none⟩) (Nat.le_refl _) (Nat.lt_succ_self _) _⟩
        · have hd : (ya + yz == ba) = false := by simpa using ht
          have HPA : Hid (putAt fs (k + 1) ⟨ba, bz⟩ = fs ++ [⟨ba, bz⟩] ++ []) := by
            show _ = _
            have h1 : fs[k + 1]? = none := List.getElem?_eq_none_iff.2 (by have := HN.out; omega)
            have h2 : fs.length ≤ k + 1 := by have := HN.out; omega
            simp [putAt, putB1, putB2, h1, HY.out, ht, List.take_of_length_le h2, List.drop_of_length_le h2]
          have hgw : g < wr.heap.size := Nat.lt_of_lt_of_le hg hB2.size
          have HR1 := Lib.hid (fun cc => rep_at (c := cc) HA2.out hgw HN.out (by unfold maxLen; omega))
          have hl1 : fs.length ≤ 1000000 := by have := HN.out; omega
          go_wp2_with fail
          go_quiet (fail)
          go_wp2_with fail
          go_quiet (fail)
          go_wp2_with fail
          all_goals
            go_quiet (fail)
            go_wp2_with fail
            go_quiet (fail)
            go_wp2_with fail
            refine (concat_put (b := ⟨ba, bz⟩) (f1 := fs) (f3 := []) (wr := wr) (wd := wr.drewN _) rfl (below_drewN (Below.refl _ _) _) hl1 (by simp) (HR1.out _) (rep_nil _ _ _ _)).mono ?_
            rintro e w4 ⟨u, rfl, hL, hb4⟩
            have bl4 := bl2.step hb4
            have hB4 := hB2.trans (hb4.mono hB2.size)
            have hwp := hB2.size
            have d1 := bl4.cell 1
            have f1 := bl4.frozen 1
            obtain ⟨uA, uN, uC, rfl⟩ := hL.form
            have HL := Lib.hid hL
            clear p0 p1 x0 x1 hL
            go_wp2_with fail
            go_end0
            exact ⟨_, _, rfl, HFA.out, by have := bl4.set_ 1 (.slice uA uN uC); simpa using this, by rw [HPA.out]; have := (HL.out.kept (Keep.setCell (Keep.refl p (p + 1) w4) (p := ⟨p, 1, none⟩) (Nat.le_refl _) (Nat.lt_succ_self _) (.slice uA uN uC)) (.inr (by omega))); obtain ⟨F, a1, a2, a3⟩ := this; exact ⟨F, a1, ⟨a2.1, fun g hg => by have := a2.2 g hg; simp; omega⟩, by simp⟩, (Keep.of_below hB4).setCell (p := ⟨p, 1, none⟩) (Nat.le_refl _) (Nat.lt_succ_self _) _⟩
end Go.Proofs.Ytlppngpafjfjeaa

