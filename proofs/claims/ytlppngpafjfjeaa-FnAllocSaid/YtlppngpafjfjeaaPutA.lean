/-
  (*store).put, the block ahead of a free one (by program: gen_put2.py).
-/
import Derived.Test.YtlppngpafjfjeaaGiveA
namespace Go.Proofs.Ytlppngpafjfjeaa
open Go.RowKit
set_option linter.unusedVariables false
set_option linter.unusedSimpArgs false
set_option linter.unnecessarySimpa false
set_option maxRecDepth 16000

theorem rep_pre {W : World} {g off n K cc : Nat} {fs : List Block} (h : AtB W g off fs) (hg : g < W.heap.size) (hn : n = fs.length) (hk : K ≤ n) (hm : n ≤ 4096) : Rep W W.heap.size (blocks (fs.take K)) (.slice (some ⟨g, off, none⟩) K cc) :=
  rep_at (AtB.take h K) hg (by rw [List.length_take]; omega) (by unfold maxLen; omega)
theorem rep_suf {W : World} {g off n J N C : Nat} {A : Option Addr} {fs : List Block} (h : AtB W g off fs) (hg : g < W.heap.size) (hn : n = fs.length) (hm : n ≤ 4096) (hj : J ≤ n) (hN : N = n - J) (ho : J < n → A = some ⟨g, off + J * 2, none⟩) : Rep W W.heap.size (blocks (fs.drop J)) (.slice A N C) := by
  by_cases hlt : J < n
  · have e := ho hlt
    subst e
    exact rep_at (AtB.drop h J) hg (by rw [List.length_drop]; omega) (by unfold maxLen; omega)
  · have hd : fs.drop J = [] := List.drop_of_length_le (by omega)
    have h0 : N = 0 := by omega
    subst h0
    rw [hd]
    exact rep_nil _ _ _ _
structure PS (w W : World) (p g off n c : Nat) (bv : Value) (fs : List Block) (xa xz : Int) : Prop where
  st : Blk W p 60 #[bv, .slice (some ⟨g, off, none⟩) n c]
  box : Blk W w.heap.size 49 #[.int .i64 xa, .int .i64 xz]
  at_ : AtB W g off fs
  below : Below w.heap.size w W
theorem PS.drewN {w W : World} {p g off n c : Nat} {bv : Value} {fs : List Block} {xa xz : Int} (h : PS w W p g off n c bv fs xa xz) (k : Nat) : PS w (W.drewN k) p g off n c bv fs xa xz :=
  ⟨h.st.step (below_drewN (Below.refl _ _) k), h.box.step (below_drewN (Below.refl _ _) k), h.at_.below (below_drewN (Below.refl (g + 1) _) k) (Nat.lt_succ_self _), below_drewN h.below k⟩
theorem PS.drew {w W : World} {p g off n c : Nat} {bv : Value} {fs : List Block} {xa xz : Int} (h : PS w W p g off n c bv fs xa xz) : PS w W.drew p g off n c bv fs xa xz :=
  ⟨h.st.step (Below.refl _ _).drew, h.box.step (Below.refl _ _).drew, h.at_.below (Below.refl (g + 1) _).drew (Nat.lt_succ_self _), h.below.drew⟩
theorem PS.set {w W : World} {p g off n c : Nat} {bv : Value} {fs : List Block} {xa xz : Int} (h : PS w W p g off n c bv fs xa xz) (hg : g < w.heap.size) (hp : p < w.heap.size) (ya yz : Int) : PS w ((W.setCell ⟨w.heap.size, 0, none⟩ (.int .i64 ya)).setCell ⟨w.heap.size, 1, none⟩ (.int .i64 yz)) p g off n c bv fs ya yz := by
  have hB : Below w.heap.size W ((W.setCell ⟨w.heap.size, 0, none⟩ (.int .i64 ya)).setCell ⟨w.heap.size, 1, none⟩ (.int .i64 yz)) := ((Below.refl w.heap.size W).setCell (p := ⟨w.heap.size, 0, none⟩) (Nat.le_refl _) _).setCell (p := ⟨w.heap.size, 1, none⟩) (Nat.le_refl _) _
  refine ⟨h.st.below hB hp, ?_, h.at_.below hB hg, h.below.trans hB⟩
  have := (h.box.set_ 0 (.int .i64 ya)).set_ 1 (.int .i64 yz)
  simpa using this
theorem PS.set1 {w W : World} {p g off n c : Nat} {bv : Value} {fs : List Block} {xa xz : Int} (h : PS w W p g off n c bv fs xa xz) (hg : g < w.heap.size) (hp : p < w.heap.size) (yz : Int) : PS w (W.setCell ⟨w.heap.size, 1, none⟩ (.int .i64 yz)) p g off n c bv fs xa yz := by
  have hB : Below w.heap.size W (W.setCell ⟨w.heap.size, 1, none⟩ (.int .i64 yz)) := (Below.refl w.heap.size W).setCell (p := ⟨w.heap.size, 1, none⟩) (Nat.le_refl _) _
  refine ⟨h.st.below hB hp, ?_, h.at_.below hB hg, h.below.trans hB⟩
  have := h.box.set_ 1 (.int .i64 yz)
  simpa using this
def PutP (w : World) (p : Nat) (bv : Value) (fs : List Block) (b : Block) (e : Ending) (w' : World) : Prop := ∃ k fv', e = .returned (.tuple #[]) ∧ FirstAt fs b.at_ k ∧ Blk w' p 60 #[bv, fv'] ∧ Lv w' w.heap.size w'.heap.size (blocks (putAt fs k b)) fv' ∧ Keep p (p + 1) w w'

set_option maxHeartbeats 25600000 in
theorem put_any {fs : List Block} {ba bz : Int} {p n c g off : Nat} {bv : Value} {w : World} (bl : Blk w p 60 #[bv, .slice (some ⟨g, off, none⟩) n c]) (hnc : n ≤ c) (hg : g < w.heap.size) (hn : n = fs.length)
    (hat : AtB w g off fs) (hfs : Fits fs) (hmid : ∃ x ∈ fs, ¬ x.at_ < ba) (hb : 0 ≤ ba ∧ ba ≤ 4096 ∧ 0 ≤ bz ∧ bz ≤ 4096) :
    Calls Try.prog 65 #[.pointer (some ⟨p, 0, none⟩), .agg #[.int .i64 ba, .int .i64 bz]] w fun e w' => PutP w p bv fs ⟨ba, bz⟩ e w' := by
  have hp := bl.lt
  have hn4 : n ≤ 4096 := by rw [hn]; exact hfs.1
  have HN := Lib.hid hn
  have HFS := Lib.hid hfs.2
  have HMID := Lib.hid hmid
  go_enter Try.func65, Try.ntmps65
  go_wp2_with fail
  obtain ⟨w1, hw1⟩ : ∃ W, W = w.alloc (.cells #[.int .i64 ba, .int .i64 bz] 49) := ⟨_, rfl⟩
  rw [← hw1]
  have hB1 : Below w.heap.size w w1 := by rw [hw1]; exact (Below.refl _ _).alloc (Nat.le_refl _) _
  have S0 : PS w w1 p g off n c bv fs ba bz := ⟨bl.step hB1, by rw [hw1]; exact Blk.new w _ _, hat.below hB1 hg, hB1⟩
  clear hw1 bl hn hfs hmid hat hB1
  go_loopw [4] (fun i wr => ∃ k : Nat, k ≤ n ∧ i = .int .i64 k ∧ Hid (∀ (j : Nat) (x : Block), j < k → fs[j]? = some x → x.at_ < ba) ∧ PS w wr p g off n c bv fs ba bz) (fun i _ => n - (intOf i).toNat)
  case atStart => exact ⟨0, Nat.zero_le _, rfl, Lib.hid fun j x h => absurd h (by omega), S0⟩
  case round =>
    clear S0
    obtain ⟨k, hk, rfl, HP, S⟩ := hrel
    have hlt : k < n := by
      rcases Nat.lt_or_ge k n with h | h
      · exact h
      · obtain ⟨x, hx, hxn⟩ := HMID.out
        obtain ⟨j, hj, he⟩ := List.getElem_of_mem hx
        have := HP.out j x (by have := HN.out; omega) (by rw [List.getElem?_eq_getElem hj, he])
        omega
    obtain ⟨x, hx, hmem⟩ := at_lt HN.out hlt
    have hxb := HFS.out x hmem
    obtain ⟨xa, xz⟩ := x
    have HX := Lib.hid hx
    clear hx hmem
    simp only at hxb
    have hck : ¬ c = k := by omega
    by_cases hx : xa < ba
    case pos =>
      have hd : decide (xa < ba) = true := decide_eq_true hx
      have HQ : Hid (∀ (j : Nat) (x : Block), j < k + 1 → fs[j]? = some x → x.at_ < ba) := fun j y hj hy => by
        rcases Nat.lt_succ_iff_lt_or_eq.1 hj with h | rfl
        · exact HP.out j y h hy
        · rw [HX.out] at hy; cases hy; exact hx
      clear hx
      have c0 := S.box.cell 0
      have c1 := S.box.cell 1
      have p0 := S.st.cell 0
      have p1 := S.st.cell 1
      obtain ⟨q0, q1⟩ := S.at_ k _ HX.out
      simp only at q0 q1
      go_wp2_with fail
      go_quiet (fail)
      go_wp2_with fail
      go_roundw
      case rel => exact ⟨k + 1, by omega, by go_num, HQ, S.drewN _⟩
      case measure => simp [intOf]; omega
    have hd0 : decide (xa < ba) = false := decide_eq_false hx
    have HFA : Hid (FirstAt fs ba k) := ⟨by have := HN.out; omega, HP.out, fun y hy => by rw [HX.out] at hy; cases hy; exact hx⟩
    clear hx
    cases k with
    | zero =>
      have hk8 : (0 : Int) < (n : Int) := by omega
      have hk7 : decide ((0 : Int) < (n : Int)) = true := decide_eq_true hk8
      have hk6 : decide (0 < n) = true := decide_eq_true hlt
      by_cases h2 : ba + bz = xa
      case pos =>
        have hd2 : (ba + bz == xa) = true := by simpa using h2
        have HPA : Hid (putAt fs 0 ⟨ba, bz⟩ = fs.take 0 ++ [⟨ba, bz + xz⟩] ++ fs.drop 1) := by
          show _ = _
          have e1 : putB1 fs 0 ⟨ba, bz⟩ = (0, ⟨ba, bz⟩) := rfl
          have e2 : putB2 fs 0 ⟨ba, bz⟩ = (⟨ba, bz + xz⟩, 1) := by rw [putB2, HX.out]; exact if_pos h2
          rw [putAt, e1]
          simp only [e2]
        clear h2
        have c0 := S.box.cell 0
        have c1 := S.box.cell 1
        have p0 := S.st.cell 0
        have p1 := S.st.cell 1
        obtain ⟨q0, q1⟩ := S.at_ 0 _ HX.out
        simp only [Nat.zero_mul, Nat.add_zero] at q0 q1
        go_wp2_with fail
        go_quiet (fail)
        obtain ⟨wa, hwd⟩ : ∃ V, V = wr.drewN nq := ⟨_, rfl⟩
        rw [← hwd]
        have S1 := S.drewN nq
        rw [← hwd] at S1
        clear hwd c0 c1 p0 p1 q0 q1
        have c0 := S1.box.cell 0
        have c1 := S1.box.cell 1
        have p0 := S1.st.cell 0
        have p1 := S1.st.cell 1
        obtain ⟨q0, q1⟩ := S1.at_ 0 _ HX.out
        simp only [Nat.zero_mul, Nat.add_zero] at q0 q1
        go_wp2_with fail
        go_quiet (fail)
        obtain ⟨wb, hwd⟩ : ∃ V, V = wa.drewN nq := ⟨_, rfl⟩
        rw [← hwd]
        have S2 := S1.drewN nq
        rw [← hwd] at S2
        clear hwd c0 c1 p0 p1 q0 q1
        have c0 := S2.box.cell 0
        have c1 := S2.box.cell 1
        have p0 := S2.st.cell 0
        have p1 := S2.st.cell 1
        obtain ⟨q0, q1⟩ := S2.at_ 0 _ HX.out
        simp only [Nat.zero_mul, Nat.add_zero] at q0 q1
        go_wp2_with fail
        go_quiet (fail)
        obtain ⟨wc, hwd⟩ : ∃ V, V = wb.drewN nq := ⟨_, rfl⟩
        rw [← hwd]
        have S3 := S2.drewN nq
        rw [← hwd] at S3
        clear hwd c0 c1 p0 p1 q0 q1
        have c0 := S3.box.cell 0
        have c1 := S3.box.cell 1
        have p0 := S3.st.cell 0
        have p1 := S3.st.cell 1
        obtain ⟨q0, q1⟩ := S3.at_ 0 _ HX.out
        simp only [Nat.zero_mul, Nat.add_zero] at q0 q1
        go_wp2_with fail
        go_quiet (fail)
        obtain ⟨wd, hwd⟩ : ∃ V, V = wc.drewN nq := ⟨_, rfl⟩
        rw [← hwd]
        have S4 := S3.drewN nq
        rw [← hwd] at S4
        clear hwd c0 c1 p0 p1 q0 q1
        have c0 := S4.box.cell 0
        have c1 := S4.box.cell 1
        have p0 := S4.st.cell 0
        have p1 := S4.st.cell 1
        obtain ⟨q0, q1⟩ := S4.at_ 0 _ HX.out
        simp only [Nat.zero_mul, Nat.add_zero] at q0 q1
        have f0 := S4.box.frozen 0
        have f1 := S4.box.frozen 1
        go_wp2_with fail
        go_region
        have S5 := (S4.set1 hg hp (bz + xz)).drew
        obtain ⟨we, hwf⟩ : ∃ V, V = (wd.setCell ⟨w.heap.size, 1, none⟩ (.int .i64 (bz + xz))).drew := ⟨_, rfl⟩
        rw [← hwf]
        rw [← hwf] at S5
        clear hwf f0 f1 c0 c1 p0 p1 q0 q1
        have c0 := S5.box.cell 0
        have c1 := S5.box.cell 1
        have p0 := S5.st.cell 0
        have p1 := S5.st.cell 1
        obtain ⟨q0, q1⟩ := S5.at_ 0 _ HX.out
        simp only [Nat.zero_mul, Nat.add_zero] at q0 q1
        go_wp2_with fail
        all_goals
          have hwz := S5.below.size
          have hgw : g < we.heap.size := by omega
          refine (concat_put2 (b := ⟨ba, bz + xz⟩) (f1 := fs.take 0) (f3 := fs.drop 1) (wd := we) (N := we.heap.size) rfl (by have := HN.out; rw [List.length_take]; omega) (by have := HN.out; rw [List.length_drop]; omega) (rep_pre S5.at_ hgw HN.out (by omega) hn4) (rep_suf S5.at_ hgw HN.out hn4 (by omega) (by first | rfl | omega) (by intro hj; first | exact absurd hj (by omega) | rfl | (rw [if_neg (by omega)]) | (simp <;> omega)))).mono ?_
          rintro e w4 ⟨u, rfl, hL, hb4⟩
          have bl4 := S5.st.below hb4 (by omega)
          have hB4 := S5.below.trans (hb4.mono hwz)
          have d1 := bl4.cell 1
          have f1 := bl4.frozen 1
          obtain ⟨uA, uN, uC, rfl⟩ := hL.form
          have HL := Lib.hid hL
          clear hL c0 c1 p0 p1 q0 q1
          go_wp2_with fail
          go_end0
          exact ⟨_, _, rfl, HFA.out, by have := bl4.set_ 1 (.slice uA uN uC); simpa using this, by rw [HPA.out]; have := (HL.out.kept (Keep.setCell (Keep.refl p (p + 1) w4) (p := ⟨p, 1, none⟩) (Nat.le_refl _) (Nat.lt_succ_self _) (.slice uA uN uC)) (.inr (by omega))); obtain ⟨F, a1, a2, a3⟩ := this; exact ⟨F, a1, ⟨a2.1, fun g hg => by have := a2.2 g hg; simp; omega⟩, by simp⟩, (Keep.of_below hB4).setCell (p := ⟨p, 1, none⟩) (Nat.le_refl _) (Nat.lt_succ_self _) _⟩
      case neg =>
        have hd2 : (ba + bz == xa) = false := by simpa using h2
        have HPA : Hid (putAt fs 0 ⟨ba, bz⟩ = fs.take 0 ++ [⟨ba, bz⟩] ++ fs.drop 0) := by
          show _ = _
          have e1 : putB1 fs 0 ⟨ba, bz⟩ = (0, ⟨ba, bz⟩) := rfl
          have e2 : putB2 fs 0 ⟨ba, bz⟩ = (⟨ba, bz⟩, 0) := by rw [putB2, HX.out]; exact if_neg h2
          rw [putAt, e1]
          simp only [e2]
        clear h2
        have c0 := S.box.cell 0
        have c1 := S.box.cell 1
        have p0 := S.st.cell 0
        have p1 := S.st.cell 1
        obtain ⟨q0, q1⟩ := S.at_ 0 _ HX.out
        simp only [Nat.zero_mul, Nat.add_zero] at q0 q1
        go_wp2_with fail
        go_quiet (fail)
        obtain ⟨wa, hwd⟩ : ∃ V, V = wr.drewN nq := ⟨_, rfl⟩
        rw [← hwd]
        have S1 := S.drewN nq
        rw [← hwd] at S1
        clear hwd c0 c1 p0 p1 q0 q1
        have c0 := S1.box.cell 0
        have c1 := S1.box.cell 1
        have p0 := S1.st.cell 0
        have p1 := S1.st.cell 1
        obtain ⟨q0, q1⟩ := S1.at_ 0 _ HX.out
        simp only [Nat.zero_mul, Nat.add_zero] at q0 q1
        go_wp2_with fail
        go_quiet (fail)
        obtain ⟨wb, hwd⟩ : ∃ V, V = wa.drewN nq := ⟨_, rfl⟩
        rw [← hwd]
        have S2 := S1.drewN nq
        rw [← hwd] at S2
        clear hwd c0 c1 p0 p1 q0 q1
        have c0 := S2.box.cell 0
        have c1 := S2.box.cell 1
        have p0 := S2.st.cell 0
        have p1 := S2.st.cell 1
        obtain ⟨q0, q1⟩ := S2.at_ 0 _ HX.out
        simp only [Nat.zero_mul, Nat.add_zero] at q0 q1
        go_wp2_with fail
        go_quiet (fail)
        obtain ⟨wc, hwd⟩ : ∃ V, V = wb.drewN nq := ⟨_, rfl⟩
        rw [← hwd]
        have S3 := S2.drewN nq
        rw [← hwd] at S3
        clear hwd c0 c1 p0 p1 q0 q1
        have c0 := S3.box.cell 0
        have c1 := S3.box.cell 1
        have p0 := S3.st.cell 0
        have p1 := S3.st.cell 1
        obtain ⟨q0, q1⟩ := S3.at_ 0 _ HX.out
        simp only [Nat.zero_mul, Nat.add_zero] at q0 q1
        go_wp2_with fail
        go_quiet (fail)
        obtain ⟨wd, hwd⟩ : ∃ V, V = wc.drewN nq := ⟨_, rfl⟩
        rw [← hwd]
        have S4 := S3.drewN nq
        rw [← hwd] at S4
        clear hwd c0 c1 p0 p1 q0 q1
        have c0 := S4.box.cell 0
        have c1 := S4.box.cell 1
        have p0 := S4.st.cell 0
        have p1 := S4.st.cell 1
        obtain ⟨q0, q1⟩ := S4.at_ 0 _ HX.out
        simp only [Nat.zero_mul, Nat.add_zero] at q0 q1
        go_wp2_with fail
        have hwz := S4.below.size
        have hgw : g < wd.heap.size := by omega
        refine (concat_put2 (b := ⟨ba, bz⟩) (f1 := fs.take 0) (f3 := fs.drop 0) (wd := wd) (N := wd.heap.size) rfl (by have := HN.out; rw [List.length_take]; omega) (by have := HN.out; rw [List.length_drop]; omega) (rep_pre S4.at_ hgw HN.out (by omega) hn4) (rep_suf S4.at_ hgw HN.out hn4 (by omega) (by first | rfl | omega) (by intro hj; first | exact absurd hj (by omega) | rfl | (rw [if_neg (by omega)]) | (simp <;> omega)))).mono ?_
        rintro e w4 ⟨u, rfl, hL, hb4⟩
        have bl4 := S4.st.below hb4 (by omega)
        have hB4 := S4.below.trans (hb4.mono hwz)
        have d1 := bl4.cell 1
        have f1 := bl4.frozen 1
        obtain ⟨uA, uN, uC, rfl⟩ := hL.form
        have HL := Lib.hid hL
        clear hL c0 c1 p0 p1 q0 q1
        go_wp2_with fail
        go_end0
        exact ⟨_, _, rfl, HFA.out, by have := bl4.set_ 1 (.slice uA uN uC); simpa using this, by rw [HPA.out]; have := (HL.out.kept (Keep.setCell (Keep.refl p (p + 1) w4) (p := ⟨p, 1, none⟩) (Nat.le_refl _) (Nat.lt_succ_self _) (.slice uA uN uC)) (.inr (by omega))); obtain ⟨F, a1, a2, a3⟩ := this; exact ⟨F, a1, ⟨a2.1, fun g hg => by have := a2.2 g hg; simp; omega⟩, by simp⟩, (Keep.of_below hB4).setCell (p := ⟨p, 1, none⟩) (Nat.le_refl _) (Nat.lt_succ_self _) _⟩
    | succ k =>
      have hk8 : (k : Int) + 1 < (n : Int) := by omega
      have hk5 : 0 < n - (k + 1) := by omega
      have hk4 : (0 : Int) < ((n - (k + 1) : Nat) : Int) := by omega
      have hk3 : decide ((0 : Int) < ((n - (k + 1) : Nat) : Int)) = true := decide_eq_true hk4
      have hk6 : decide (k + 1 < n) = true := decide_eq_true hlt
      have hk7 : decide (0 < n - (k + 1)) = true := decide_eq_true hk5
      have hk2 : ¬ (n - (k + 1) = 0) := by omega
      obtain ⟨y, hy, hmem⟩ := at_lt HN.out (show k < n by omega)
      have hyb := HFS.out y hmem
      obtain ⟨ya, yz⟩ := y
      have HY := Lib.hid hy
      clear hy hmem
      simp only at hyb
      by_cases ht : ya + yz = ba
      case pos =>
        have hd : (ya + yz == ba) = true := by simpa using ht
        have e1 : putB1 fs (k + 1) ⟨ba, bz⟩ = (k, ⟨ya, yz + bz⟩) := by
          rw [putB1, if_neg (by omega), Nat.add_sub_cancel, HY.out]; exact if_pos ht
        have E1 := Lib.hid e1
        clear e1
        by_cases h2 : ya + (yz + bz) = xa
        case pos =>
          have hd2 : (ya + (yz + bz) == xa) = true := by simpa using h2
          have HPA : Hid (putAt fs (k + 1) ⟨ba, bz⟩ = fs.take k ++ [⟨ya, yz + bz + xz⟩] ++ fs.drop (k + 2)) := by
            show _ = _
            have e2 : putB2 fs (k + 1) ⟨ya, yz + bz⟩ = (⟨ya, yz + bz + xz⟩, k + 2) := by rw [putB2, HX.out]; exact if_pos h2
            rw [putAt, E1.out]
            simp only [e2]
          clear h2 ht
          have c0 := S.box.cell 0
          have c1 := S.box.cell 1
          have p0 := S.st.cell 0
          have p1 := S.st.cell 1
          obtain ⟨q0, q1⟩ := S.at_ (k + 1) _ HX.out
          simp only at q0 q1
          obtain ⟨y0, y1⟩ := S.at_ k _ HY.out
          simp only at y0 y1
          go_wp2_with fail
          go_quiet (fail)
          obtain ⟨wa, hwd⟩ : ∃ V, V = wr.drewN nq := ⟨_, rfl⟩
          rw [← hwd]
          have S1 := S.drewN nq
          rw [← hwd] at S1
          clear hwd c0 c1 p0 p1 q0 q1 y0 y1
          have c0 := S1.box.cell 0
          have c1 := S1.box.cell 1
          have p0 := S1.st.cell 0
          have p1 := S1.st.cell 1
          obtain ⟨q0, q1⟩ := S1.at_ (k + 1) _ HX.out
          simp only at q0 q1
          obtain ⟨y0, y1⟩ := S1.at_ k _ HY.out
          simp only at y0 y1
          go_wp2_with fail
          go_quiet (fail)
          obtain ⟨wb, hwd⟩ : ∃ V, V = wa.drewN nq := ⟨_, rfl⟩
          rw [← hwd]
          have S2 := S1.drewN nq
          rw [← hwd] at S2
          clear hwd c0 c1 p0 p1 q0 q1 y0 y1
          have c0 := S2.box.cell 0
          have c1 := S2.box.cell 1
          have p0 := S2.st.cell 0
          have p1 := S2.st.cell 1
          obtain ⟨q0, q1⟩ := S2.at_ (k + 1) _ HX.out
          simp only at q0 q1
          obtain ⟨y0, y1⟩ := S2.at_ k _ HY.out
          simp only at y0 y1
          go_wp2_with fail
          go_quiet (fail)
          obtain ⟨wc, hwd⟩ : ∃ V, V = wb.drewN nq := ⟨_, rfl⟩
          rw [← hwd]
          have S3 := S2.drewN nq
          rw [← hwd] at S3
          clear hwd c0 c1 p0 p1 q0 q1 y0 y1
          have c0 := S3.box.cell 0
          have c1 := S3.box.cell 1
          have p0 := S3.st.cell 0
          have p1 := S3.st.cell 1
          obtain ⟨q0, q1⟩ := S3.at_ (k + 1) _ HX.out
          simp only at q0 q1
          obtain ⟨y0, y1⟩ := S3.at_ k _ HY.out
          simp only at y0 y1
          have f0 := S3.box.frozen 0
          have f1 := S3.box.frozen 1
          go_wp2_with fail
          go_region
          have S4 := (S3.set hg hp (ya) (yz + bz)).drew
          obtain ⟨wd, hwf⟩ : ∃ V, V = ((wc.setCell ⟨w.heap.size, 0, none⟩ (.int .i64 (ya))).setCell ⟨w.heap.size, 1, none⟩ (.int .i64 (yz + bz))).drew := ⟨_, rfl⟩
          rw [← hwf]
          rw [← hwf] at S4
          clear hwf f0 f1 c0 c1 p0 p1 q0 q1 y0 y1
          have c0 := S4.box.cell 0
          have c1 := S4.box.cell 1
          have p0 := S4.st.cell 0
          have p1 := S4.st.cell 1
          obtain ⟨q0, q1⟩ := S4.at_ (k + 1) _ HX.out
          simp only at q0 q1
          obtain ⟨y0, y1⟩ := S4.at_ k _ HY.out
          simp only at y0 y1
          go_wp2_with fail
          go_quiet (fail)
          obtain ⟨we, hwd⟩ : ∃ V, V = wd.drewN nq := ⟨_, rfl⟩
          rw [← hwd]
          have S5 := S4.drewN nq
          rw [← hwd] at S5
          clear hwd c0 c1 p0 p1 q0 q1 y0 y1
          have c0 := S5.box.cell 0
          have c1 := S5.box.cell 1
          have p0 := S5.st.cell 0
          have p1 := S5.st.cell 1
          obtain ⟨q0, q1⟩ := S5.at_ (k + 1) _ HX.out
          simp only at q0 q1
          obtain ⟨y0, y1⟩ := S5.at_ k _ HY.out
          simp only at y0 y1
          have f0 := S5.box.frozen 0
          have f1 := S5.box.frozen 1
          go_wp2_with fail
          go_region
          have S6 := (S5.set1 hg hp (yz + bz + xz)).drew
          obtain ⟨wf, hwf⟩ : ∃ V, V = (we.setCell ⟨w.heap.size, 1, none⟩ (.int .i64 (yz + bz + xz))).drew := ⟨_, rfl⟩
          rw [← hwf]
          rw [← hwf] at S6
          clear hwf f0 f1 c0 c1 p0 p1 q0 q1 y0 y1
          have c0 := S6.box.cell 0
          have c1 := S6.box.cell 1
          have p0 := S6.st.cell 0
          have p1 := S6.st.cell 1
          obtain ⟨q0, q1⟩ := S6.at_ (k + 1) _ HX.out
          simp only at q0 q1
          obtain ⟨y0, y1⟩ := S6.at_ k _ HY.out
          simp only at y0 y1
          go_wp2_with fail
          all_goals
            have hwz := S6.below.size
            have hgw : g < wf.heap.size := by omega
            refine (concat_put2 (b := ⟨ya, yz + bz + xz⟩) (f1 := fs.take k) (f3 := fs.drop (k + 2)) (wd := wf) (N := wf.heap.size) rfl (by have := HN.out; rw [List.length_take]; omega) (by have := HN.out; rw [List.length_drop]; omega) (rep_pre S6.at_ hgw HN.out (by omega) hn4) (rep_suf S6.at_ hgw HN.out hn4 (by omega) (by first | rfl | omega) (by intro hj; first | exact absurd hj (by omega) | rfl | (rw [if_neg (by omega)]) | (simp <;> omega)))).mono ?_
            rintro e w4 ⟨u, rfl, hL, hb4⟩
            have bl4 := S6.st.below hb4 (by omega)
            have hB4 := S6.below.trans (hb4.mono hwz)
            have d1 := bl4.cell 1
            have f1 := bl4.frozen 1
            obtain ⟨uA, uN, uC, rfl⟩ := hL.form
            have HL := Lib.hid hL
            clear hL c0 c1 p0 p1 q0 q1 y0 y1
            go_wp2_with fail
            go_end0
            exact ⟨_, _, rfl, HFA.out, by have := bl4.set_ 1 (.slice uA uN uC); simpa using this, by rw [HPA.out]; have := (HL.out.kept (Keep.setCell (Keep.refl p (p + 1) w4) (p := ⟨p, 1, none⟩) (Nat.le_refl _) (Nat.lt_succ_self _) (.slice uA uN uC)) (.inr (by omega))); obtain ⟨F, a1, a2, a3⟩ := this; exact ⟨F, a1, ⟨a2.1, fun g hg => by have := a2.2 g hg; simp; omega⟩, by simp⟩, (Keep.of_below hB4).setCell (p := ⟨p, 1, none⟩) (Nat.le_refl _) (Nat.lt_succ_self _) _⟩
        case neg =>
          have hd2 : (ya + (yz + bz) == xa) = false := by simpa using h2
          have HPA : Hid (putAt fs (k + 1) ⟨ba, bz⟩ = fs.take k ++ [⟨ya, yz + bz⟩] ++ fs.drop (k + 1)) := by
            show _ = _
            have e2 : putB2 fs (k + 1) ⟨ya, yz + bz⟩ = (⟨ya, yz + bz⟩, k + 1) := by rw [putB2, HX.out]; exact if_neg h2
            rw [putAt, E1.out]
            simp only [e2]
          clear h2 ht
          have c0 := S.box.cell 0
          have c1 := S.box.cell 1
          have p0 := S.st.cell 0
          have p1 := S.st.cell 1
          obtain ⟨q0, q1⟩ := S.at_ (k + 1) _ HX.out
          simp only at q0 q1
          obtain ⟨y0, y1⟩ := S.at_ k _ HY.out
          simp only at y0 y1
          go_wp2_with fail
          go_quiet (fail)
          obtain ⟨wa, hwd⟩ : ∃ V, V = wr.drewN nq := ⟨_, rfl⟩
          rw [← hwd]
          have S1 := S.drewN nq
          rw [← hwd] at S1
          clear hwd c0 c1 p0 p1 q0 q1 y0 y1
          have c0 := S1.box.cell 0
          have c1 := S1.box.cell 1
          have p0 := S1.st.cell 0
          have p1 := S1.st.cell 1
          obtain ⟨q0, q1⟩ := S1.at_ (k + 1) _ HX.out
          simp only at q0 q1
          obtain ⟨y0, y1⟩ := S1.at_ k _ HY.out
          simp only at y0 y1
          go_wp2_with fail
          go_quiet (fail)
          obtain ⟨wb, hwd⟩ : ∃ V, V = wa.drewN nq := ⟨_, rfl⟩
          rw [← hwd]
          have S2 := S1.drewN nq
          rw [← hwd] at S2
          clear hwd c0 c1 p0 p1 q0 q1 y0 y1
          have c0 := S2.box.cell 0
          have c1 := S2.box.cell 1
          have p0 := S2.st.cell 0
          have p1 := S2.st.cell 1
          obtain ⟨q0, q1⟩ := S2.at_ (k + 1) _ HX.out
          simp only at q0 q1
          obtain ⟨y0, y1⟩ := S2.at_ k _ HY.out
          simp only at y0 y1
          go_wp2_with fail
          go_quiet (fail)
          obtain ⟨wc, hwd⟩ : ∃ V, V = wb.drewN nq := ⟨_, rfl⟩
          rw [← hwd]
          have S3 := S2.drewN nq
          rw [← hwd] at S3
          clear hwd c0 c1 p0 p1 q0 q1 y0 y1
          have c0 := S3.box.cell 0
          have c1 := S3.box.cell 1
          have p0 := S3.st.cell 0
          have p1 := S3.st.cell 1
          obtain ⟨q0, q1⟩ := S3.at_ (k + 1) _ HX.out
          simp only at q0 q1
          obtain ⟨y0, y1⟩ := S3.at_ k _ HY.out
          simp only at y0 y1
          have f0 := S3.box.frozen 0
          have f1 := S3.box.frozen 1
          go_wp2_with fail
          go_region
          have S4 := (S3.set hg hp (ya) (yz + bz)).drew
          obtain ⟨wd, hwf⟩ : ∃ V, V = ((wc.setCell ⟨w.heap.size, 0, none⟩ (.int .i64 (ya))).setCell ⟨w.heap.size, 1, none⟩ (.int .i64 (yz + bz))).drew := ⟨_, rfl⟩
          rw [← hwf]
          rw [← hwf] at S4
          clear hwf f0 f1 c0 c1 p0 p1 q0 q1 y0 y1
          have c0 := S4.box.cell 0
          have c1 := S4.box.cell 1
          have p0 := S4.st.cell 0
          have p1 := S4.st.cell 1
          obtain ⟨q0, q1⟩ := S4.at_ (k + 1) _ HX.out
          simp only at q0 q1
          obtain ⟨y0, y1⟩ := S4.at_ k _ HY.out
          simp only at y0 y1
          go_wp2_with fail
          go_quiet (fail)
          obtain ⟨we, hwd⟩ : ∃ V, V = wd.drewN nq := ⟨_, rfl⟩
          rw [← hwd]
          have S5 := S4.drewN nq
          rw [← hwd] at S5
          clear hwd c0 c1 p0 p1 q0 q1 y0 y1
          have c0 := S5.box.cell 0
          have c1 := S5.box.cell 1
          have p0 := S5.st.cell 0
          have p1 := S5.st.cell 1
          obtain ⟨q0, q1⟩ := S5.at_ (k + 1) _ HX.out
          simp only at q0 q1
          obtain ⟨y0, y1⟩ := S5.at_ k _ HY.out
          simp only at y0 y1
          go_wp2_with fail
          have hwz := S5.below.size
          have hgw : g < we.heap.size := by omega
          refine (concat_put2 (b := ⟨ya, yz + bz⟩) (f1 := fs.take k) (f3 := fs.drop (k + 1)) (wd := we) (N := we.heap.size) rfl (by have := HN.out; rw [List.length_take]; omega) (by have := HN.out; rw [List.length_drop]; omega) (rep_pre S5.at_ hgw HN.out (by omega) hn4) (rep_suf S5.at_ hgw HN.out hn4 (by omega) (by first | rfl | omega) (by intro hj; first | exact absurd hj (by omega) | rfl | (rw [if_neg (by omega)]) | (simp <;> omega)))).mono ?_
          rintro e w4 ⟨u, rfl, hL, hb4⟩
          have bl4 := S5.st.below hb4 (by omega)
          have hB4 := S5.below.trans (hb4.mono hwz)
          have d1 := bl4.cell 1
          have f1 := bl4.frozen 1
          obtain ⟨uA, uN, uC, rfl⟩ := hL.form
          have HL := Lib.hid hL
          clear hL c0 c1 p0 p1 q0 q1 y0 y1
          go_wp2_with fail
          go_end0
          exact ⟨_, _, rfl, HFA.out, by have := bl4.set_ 1 (.slice uA uN uC); simpa using this, by rw [HPA.out]; have := (HL.out.kept (Keep.setCell (Keep.refl p (p + 1) w4) (p := ⟨p, 1, none⟩) (Nat.le_refl _) (Nat.lt_succ_self _) (.slice uA uN uC)) (.inr (by omega))); obtain ⟨F, a1, a2, a3⟩ := this; exact ⟨F, a1, ⟨a2.1, fun g hg => by have := a2.2 g hg; simp; omega⟩, by simp⟩, (Keep.of_below hB4).setCell (p := ⟨p, 1, none⟩) (Nat.le_refl _) (Nat.lt_succ_self _) _⟩
      case neg =>
        have hd : (ya + yz == ba) = false := by simpa using ht
        have e1 : putB1 fs (k + 1) ⟨ba, bz⟩ = (k + 1, ⟨ba, bz⟩) := by
          rw [putB1, if_neg (by omega), Nat.add_sub_cancel, HY.out]; exact if_neg ht
        have E1 := Lib.hid e1
        clear e1
        by_cases h2 : ba + bz = xa
        case pos =>
          have hd2 : (ba + bz == xa) = true := by simpa using h2
          have HPA : Hid (putAt fs (k + 1) ⟨ba, bz⟩ = fs.take (k + 1) ++ [⟨ba, bz + xz⟩] ++ fs.drop (k + 2)) := by
            show _ = _
            have e2 : putB2 fs (k + 1) ⟨ba, bz⟩ = (⟨ba, bz + xz⟩, k + 2) := by rw [putB2, HX.out]; exact if_pos h2
            rw [putAt, E1.out]
            simp only [e2]
          clear h2 ht
          have c0 := S.box.cell 0
          have c1 := S.box.cell 1
          have p0 := S.st.cell 0
          have p1 := S.st.cell 1
          obtain ⟨q0, q1⟩ := S.at_ (k + 1) _ HX.out
          simp only at q0 q1
          obtain ⟨y0, y1⟩ := S.at_ k _ HY.out
          simp only at y0 y1
          go_wp2_with fail
          go_quiet (fail)
          obtain ⟨wa, hwd⟩ : ∃ V, V = wr.drewN nq := ⟨_, rfl⟩
          rw [← hwd]
          have S1 := S.drewN nq
          rw [← hwd] at S1
          clear hwd c0 c1 p0 p1 q0 q1 y0 y1
          have c0 := S1.box.cell 0
          have c1 := S1.box.cell 1
          have p0 := S1.st.cell 0
          have p1 := S1.st.cell 1
          obtain ⟨q0, q1⟩ := S1.at_ (k + 1) _ HX.out
          simp only at q0 q1
          obtain ⟨y0, y1⟩ := S1.at_ k _ HY.out
          simp only at y0 y1
          go_wp2_with fail
          go_quiet (fail)
          obtain ⟨wb, hwd⟩ : ∃ V, V = wa.drewN nq := ⟨_, rfl⟩
          rw [← hwd]
          have S2 := S1.drewN nq
          rw [← hwd] at S2
          clear hwd c0 c1 p0 p1 q0 q1 y0 y1
          have c0 := S2.box.cell 0
          have c1 := S2.box.cell 1
          have p0 := S2.st.cell 0
          have p1 := S2.st.cell 1
          obtain ⟨q0, q1⟩ := S2.at_ (k + 1) _ HX.out
          simp only at q0 q1
          obtain ⟨y0, y1⟩ := S2.at_ k _ HY.out
          simp only at y0 y1
          go_wp2_with fail
          go_quiet (fail)
          obtain ⟨wc, hwd⟩ : ∃ V, V = wb.drewN nq := ⟨_, rfl⟩
          rw [← hwd]
          have S3 := S2.drewN nq
          rw [← hwd] at S3
          clear hwd c0 c1 p0 p1 q0 q1 y0 y1
          have c0 := S3.box.cell 0
          have c1 := S3.box.cell 1
          have p0 := S3.st.cell 0
          have p1 := S3.st.cell 1
          obtain ⟨q0, q1⟩ := S3.at_ (k + 1) _ HX.out
          simp only at q0 q1
          obtain ⟨y0, y1⟩ := S3.at_ k _ HY.out
          simp only at y0 y1
          go_wp2_with fail
          go_quiet (fail)
          obtain ⟨wd, hwd⟩ : ∃ V, V = wc.drewN nq := ⟨_, rfl⟩
          rw [← hwd]
          have S4 := S3.drewN nq
          rw [← hwd] at S4
          clear hwd c0 c1 p0 p1 q0 q1 y0 y1
          have c0 := S4.box.cell 0
          have c1 := S4.box.cell 1
          have p0 := S4.st.cell 0
          have p1 := S4.st.cell 1
          obtain ⟨q0, q1⟩ := S4.at_ (k + 1) _ HX.out
          simp only at q0 q1
          obtain ⟨y0, y1⟩ := S4.at_ k _ HY.out
          simp only at y0 y1
          have f0 := S4.box.frozen 0
          have f1 := S4.box.frozen 1
          go_wp2_with fail
          go_region
          have S5 := (S4.set1 hg hp (bz + xz)).drew
          obtain ⟨we, hwf⟩ : ∃ V, V = (wd.setCell ⟨w.heap.size, 1, none⟩ (.int .i64 (bz + xz))).drew := ⟨_, rfl⟩
          rw [← hwf]
          rw [← hwf] at S5
          clear hwf f0 f1 c0 c1 p0 p1 q0 q1 y0 y1
          have c0 := S5.box.cell 0
          have c1 := S5.box.cell 1
          have p0 := S5.st.cell 0
          have p1 := S5.st.cell 1
          obtain ⟨q0, q1⟩ := S5.at_ (k + 1) _ HX.out
          simp only at q0 q1
          obtain ⟨y0, y1⟩ := S5.at_ k _ HY.out
          simp only at y0 y1
          go_wp2_with fail
          all_goals
            have hwz := S5.below.size
            have hgw : g < we.heap.size := by omega
            refine (concat_put2 (b := ⟨ba, bz + xz⟩) (f1 := fs.take (k + 1)) (f3 := fs.drop (k + 2)) (wd := we) (N := we.heap.size) rfl (by have := HN.out; rw [List.length_take]; omega) (by have := HN.out; rw [List.length_drop]; omega) (rep_pre S5.at_ hgw HN.out (by omega) hn4) (rep_suf S5.at_ hgw HN.out hn4 (by omega) (by first | rfl | omega) (by intro hj; first | exact absurd hj (by omega) | rfl | (rw [if_neg (by omega)]) | (simp <;> omega)))).mono ?_
            rintro e w4 ⟨u, rfl, hL, hb4⟩
            have bl4 := S5.st.below hb4 (by omega)
            have hB4 := S5.below.trans (hb4.mono hwz)
            have d1 := bl4.cell 1
            have f1 := bl4.frozen 1
            obtain ⟨uA, uN, uC, rfl⟩ := hL.form
            have HL := Lib.hid hL
            clear hL c0 c1 p0 p1 q0 q1 y0 y1
            go_wp2_with fail
            go_end0
            exact ⟨_, _, rfl, HFA.out, by have := bl4.set_ 1 (.slice uA uN uC); simpa using this, by rw [HPA.out]; have := (HL.out.kept (Keep.setCell (Keep.refl p (p + 1) w4) (p := ⟨p, 1, none⟩) (Nat.le_refl _) (Nat.lt_succ_self _) (.slice uA uN uC)) (.inr (by omega))); obtain ⟨F, a1, a2, a3⟩ := this; exact ⟨F, a1, ⟨a2.1, fun g hg => by have := a2.2 g hg; simp; omega⟩, by simp⟩, (Keep.of_below hB4).setCell (p := ⟨p, 1, none⟩) (Nat.le_refl _) (Nat.lt_succ_self _) _⟩
        case neg =>
          have hd2 : (ba + bz == xa) = false := by simpa using h2
          have HPA : Hid (putAt fs (k + 1) ⟨ba, bz⟩ = fs.take (k + 1) ++ [⟨ba, bz⟩] ++ fs.drop (k + 1)) := by
            show _ = _
            have e2 : putB2 fs (k + 1) ⟨ba, bz⟩ = (⟨ba, bz⟩, k + 1) := by rw [putB2, HX.out]; exact if_neg h2
            rw [putAt, E1.out]
            simp only [e2]
          clear h2 ht
          have c0 := S.box.cell 0
          have c1 := S.box.cell 1
          have p0 := S.st.cell 0
          have p1 := S.st.cell 1
          obtain ⟨q0, q1⟩ := S.at_ (k + 1) _ HX.out
          simp only at q0 q1
          obtain ⟨y0, y1⟩ := S.at_ k _ HY.out
          simp only at y0 y1
          go_wp2_with fail
          go_quiet (fail)
          obtain ⟨wa, hwd⟩ : ∃ V, V = wr.drewN nq := ⟨_, rfl⟩
          rw [← hwd]
          have S1 := S.drewN nq
          rw [← hwd] at S1
          clear hwd c0 c1 p0 p1 q0 q1 y0 y1
          have c0 := S1.box.cell 0
          have c1 := S1.box.cell 1
          have p0 := S1.st.cell 0
          have p1 := S1.st.cell 1
          obtain ⟨q0, q1⟩ := S1.at_ (k + 1) _ HX.out
          simp only at q0 q1
          obtain ⟨y0, y1⟩ := S1.at_ k _ HY.out
          simp only at y0 y1
          go_wp2_with fail
          go_quiet (fail)
          obtain ⟨wb, hwd⟩ : ∃ V, V = wa.drewN nq := ⟨_, rfl⟩
          rw [← hwd]
          have S2 := S1.drewN nq
          rw [← hwd] at S2
          clear hwd c0 c1 p0 p1 q0 q1 y0 y1
          have c0 := S2.box.cell 0
          have c1 := S2.box.cell 1
          have p0 := S2.st.cell 0
          have p1 := S2.st.cell 1
          obtain ⟨q0, q1⟩ := S2.at_ (k + 1) _ HX.out
          simp only at q0 q1
          obtain ⟨y0, y1⟩ := S2.at_ k _ HY.out
          simp only at y0 y1
          go_wp2_with fail
          go_quiet (fail)
          obtain ⟨wc, hwd⟩ : ∃ V, V = wb.drewN nq := ⟨_, rfl⟩
          rw [← hwd]
          have S3 := S2.drewN nq
          rw [← hwd] at S3
          clear hwd c0 c1 p0 p1 q0 q1 y0 y1
          have c0 := S3.box.cell 0
          have c1 := S3.box.cell 1
          have p0 := S3.st.cell 0
          have p1 := S3.st.cell 1
          obtain ⟨q0, q1⟩ := S3.at_ (k + 1) _ HX.out
          simp only at q0 q1
          obtain ⟨y0, y1⟩ := S3.at_ k _ HY.out
          simp only at y0 y1
          go_wp2_with fail
          go_quiet (fail)
          obtain ⟨wd, hwd⟩ : ∃ V, V = wc.drewN nq := ⟨_, rfl⟩
          rw [← hwd]
          have S4 := S3.drewN nq
          rw [← hwd] at S4
          clear hwd c0 c1 p0 p1 q0 q1 y0 y1
          have c0 := S4.box.cell 0
          have c1 := S4.box.cell 1
          have p0 := S4.st.cell 0
          have p1 := S4.st.cell 1
          obtain ⟨q0, q1⟩ := S4.at_ (k + 1) _ HX.out
          simp only at q0 q1
          obtain ⟨y0, y1⟩ := S4.at_ k _ HY.out
          simp only at y0 y1
          go_wp2_with fail
          have hwz := S4.below.size
          have hgw : g < wd.heap.size := by omega
          refine (concat_put2 (b := ⟨ba, bz⟩) (f1 := fs.take (k + 1)) (f3 := fs.drop (k + 1)) (wd := wd) (N := wd.heap.size) rfl (by have := HN.out; rw [List.length_take]; omega) (by have := HN.out; rw [List.length_drop]; omega) (rep_pre S4.at_ hgw HN.out (by omega) hn4) (rep_suf S4.at_ hgw HN.out hn4 (by omega) (by first | rfl | omega) (by intro hj; first | exact absurd hj (by omega) | rfl | (rw [if_neg (by omega)]) | (simp <;> omega)))).mono ?_
          rintro e w4 ⟨u, rfl, hL, hb4⟩
          have bl4 := S4.st.below hb4 (by omega)
          have hB4 := S4.below.trans (hb4.mono hwz)
          have d1 := bl4.cell 1
          have f1 := bl4.frozen 1
          obtain ⟨uA, uN, uC, rfl⟩ := hL.form
          have HL := Lib.hid hL
          clear hL c0 c1 p0 p1 q0 q1 y0 y1
          go_wp2_with fail
          go_end0
          exact ⟨_, _, rfl, HFA.out, by have := bl4.set_ 1 (.slice uA uN uC); simpa using this, by rw [HPA.out]; have := (HL.out.kept (Keep.setCell (Keep.refl p (p + 1) w4) (p := ⟨p, 1, none⟩) (Nat.le_refl _) (Nat.lt_succ_self _) (.slice uA uN uC)) (.inr (by omega))); obtain ⟨F, a1, a2, a3⟩ := this; exact ⟨F, a1, ⟨a2.1, fun g hg => by have := a2.2 g hg; simp; omega⟩, by simp⟩, (Keep.of_below hB4).setCell (p := ⟨p, 1, none⟩) (Nat.le_refl _) (Nat.lt_succ_self _) _⟩
end Go.Proofs.Ytlppngpafjfjeaa

