/-
  spec.SameType, impl.SameType: the same bool (by program: gen_samety.py).
-/
import Derived.Test.YtbafphecjijdmaaGreatDoorCmp
import Derived.Deep.RegionHeld3
namespace Go.Proofs.YtbafphecjijdmaaGreatDoor
open Go.RowKit
set_option linter.unusedVariables false
set_option linter.unusedSimpArgs false
set_option linter.unnecessarySimpa false
set_option maxRecDepth 100000

def tyEq : Nat → Ty → Ty → Bool
  | 0, _, _ => false
  | n + 1, ⟨kind, name, labels, kids⟩, ⟨Zkind, Zname, Zlabels, Zkids⟩ => decide (kind = Zkind) && decide (name = Zname) && same2 strEq labels Zlabels && same2 (tyEq n) kids Zkids
theorem sameType1_enter (a : Array Value) (W : World) : Sem.run Tryz.prog (callFunc 163 a) W = .ok (.enter 163 a) W := by kernel_rfl
theorem sameType1_any {n : Nat} (hn : n ≤ 100) (ih : ∀ (x y : Ty) (B : Nat) (cs ds : List Value) (w : World), B ≤ w.heap.size → RepC w B (Ty.pd x) cs → RepC w B (Ty.pd y) ds → Calls Tryz.prog 147 #[.agg cs.toArray, .agg ds.toArray, .int .i64 n] w fun e w' => e = .returned (.bool (tyEq n x y)) ∧ Below w.heap.size w w')
    (x y : Ty) {B L : Nat} {cs ds : List Value} {w : World} (hB : B ≤ w.heap.size) (hL : w.cell? ⟨L, 0, none⟩ = some (.int .i64 ((n + 1 : Nat) : Int))) (hLt : L < w.heap.size) (h : RepC w B (Ty.pd x) cs) (k : RepC w B (Ty.pd y) ds) :
    Calls Tryz.prog 163 (#[.agg cs.toArray, .agg ds.toArray] ++ #[.pointer (some ⟨L, 0, none⟩)]) w fun e w' => e = .returned (.bool (tyEq n x y)) ∧ Below w.heap.size w w' := by
  have IH := Lib.hid (ih x y)
  clear ih
  obtain ⟨R, hR⟩ : ∃ R, R = tyEq n x y := ⟨_, rfl⟩
  rw [← hR]
  rw [← hR] at IH
  have HR := Lib.hid hR
  clear hR
  obtain ⟨kind, name, labels, kids⟩ := x
  obtain ⟨labelsV, kidsV, rfl, r_labels, r_kids⟩ := Ty.open_ h
  obtain ⟨labelsA, labelsN, labelsC, rfl⟩ := r_labels.form
  have R_labels := Lib.hid r_labels
  clear r_labels
  obtain ⟨kidsA, kidsN, kidsC, rfl⟩ := r_kids.form
  have R_kids := Lib.hid r_kids
  clear r_kids
  obtain ⟨Zkind, Zname, Zlabels, Zkids⟩ := y
  obtain ⟨ZlabelsV, ZkidsV, rfl, r_Zlabels, r_Zkids⟩ := Ty.open_ k
  obtain ⟨ZlabelsA, ZlabelsN, ZlabelsC, rfl⟩ := r_Zlabels.form
  have R_Zlabels := Lib.hid r_Zlabels
  clear r_Zlabels
  obtain ⟨ZkidsA, ZkidsN, ZkidsC, rfl⟩ := r_Zkids.form
  have R_Zkids := Lib.hid r_Zkids
  clear r_Zkids
  clear h k
  obtain ⟨w0, hw0⟩ : ∃ W, W = (w.alloc (.cells #[.int .i64 kind, .string name, .slice labelsA labelsN labelsC, .slice kidsA kidsN kidsC] 60)).alloc (.cells #[.int .i64 Zkind, .string Zname, .slice ZlabelsA ZlabelsN ZlabelsC, .slice ZkidsA ZkidsN ZkidsC] 60) := ⟨_, rfl⟩
  have hB0 : Below w.heap.size w w0 := by rw [hw0]; exact ((Below.refl _ _).alloc (Nat.le_refl _) _).alloc (by simp) _
  have hs0 := hB0.size
  have hL0 : ((w.alloc (.cells #[.int .i64 kind, .string name, .slice labelsA labelsN labelsC, .slice kidsA kidsN kidsC] 60)).alloc (.cells #[.int .i64 Zkind, .string Zname, .slice ZlabelsA ZlabelsN ZlabelsC, .slice ZkidsA ZkidsN ZkidsC] 60)).cell? ⟨L, 0, none⟩ = some (.int .i64 ((n + 1 : Nat) : Int)) := by rw [← hw0]; exact (hB0.cell (p := ⟨L, 0, none⟩) hLt).trans hL
  rw [Int.natCast_add] at hL0
  clear hL
  have hsub : ((n : Int) + ((1 : Nat) : Int)) - 1 = n := by omega
  have HW := Lib.hid hw0
  clear hw0
  go_enter Tryz.func163, Tryz.ntmps163
  go_wp2_with fail
  rw [← HW.out]
  refine (IH.out B [.int .i64 kind, .string name, .slice labelsA labelsN labelsC, .slice kidsA kidsN kidsC] [.int .i64 Zkind, .string Zname, .slice ZlabelsA ZlabelsN ZlabelsC, .slice ZkidsA ZkidsN ZkidsC] w0 (Nat.le_trans hB hs0) (Ty.close_ (R_labels.out.below (hB0.mono hB)) (R_kids.out.below (hB0.mono hB))) (Ty.close_ (R_Zlabels.out.below (hB0.mono hB)) (R_Zkids.out.below (hB0.mono hB)))).mono ?_
  rintro e w1 ⟨rfl, hb1⟩
  go_wp2_with fail
  go_ret
  exact ⟨rfl, hB0.trans (hb1.mono hs0)⟩
set_option maxHeartbeats 3200000 in
theorem implSameType_any : ∀ (n : Nat), n ≤ 100 → ∀ (x y : Ty) (B : Nat) (cs ds : List Value) (w : World), B ≤ w.heap.size → RepC w B (Ty.pd x) cs → RepC w B (Ty.pd y) ds → Calls Tryz.prog 147 #[.agg cs.toArray, .agg ds.toArray, .int .i64 n] w fun e w' => e = .returned (.bool (tyEq n x y)) ∧ Below w.heap.size w w'
  | 0, _, x, y, B, cs, ds, w, hB, h, k => by
    obtain ⟨kind, name, labels, kids⟩ := x
    obtain ⟨labelsV, kidsV, rfl, r_labels, r_kids⟩ := Ty.open_ h
    obtain ⟨labelsA, labelsN, labelsC, rfl⟩ := r_labels.form
    have R_labels := Lib.hid r_labels
    clear r_labels
    obtain ⟨kidsA, kidsN, kidsC, rfl⟩ := r_kids.form
    have R_kids := Lib.hid r_kids
    clear r_kids
    obtain ⟨Zkind, Zname, Zlabels, Zkids⟩ := y
    obtain ⟨ZlabelsV, ZkidsV, rfl, r_Zlabels, r_Zkids⟩ := Ty.open_ k
    obtain ⟨ZlabelsA, ZlabelsN, ZlabelsC, rfl⟩ := r_Zlabels.form
    have R_Zlabels := Lib.hid r_Zlabels
    clear r_Zlabels
    obtain ⟨ZkidsA, ZkidsN, ZkidsC, rfl⟩ := r_Zkids.form
    have R_Zkids := Lib.hid r_Zkids
    clear r_Zkids
    clear h k
    have HF : Hid (tyEq 0 (⟨kind, name, labels, kids⟩ : Ty) (⟨Zkind, Zname, Zlabels, Zkids⟩ : Ty) = false) := Lib.hid rfl
    go_enter Tryz.func147, Tryz.ntmps147
    go_wp2_with fail
    go_ret
    exact ⟨ret_bool HF.out.symm, (((Below.refl _ _).alloc (Nat.le_refl _) _).alloc (by simp) _).alloc (by simp; omega) _⟩
  | n + 1, hn, x, y, B, cs, ds, w, hB, h, k => by
    have IH := Lib.hid (implSameType_any n (by omega))
    have hn0 : (((n + 1 : Nat) : Int) == 0) = false := by simp; omega
    obtain ⟨N, hN⟩ : ∃ N : Int, N = ((n + 1 : Nat) : Int) := ⟨_, rfl⟩
    rw [← hN] at hn0 ⊢
    have HN := Lib.hid hN
    clear hN
    obtain ⟨kind, name, labels, kids⟩ := x
    obtain ⟨labelsV, kidsV, rfl, r_labels, r_kids⟩ := Ty.open_ h
    obtain ⟨labelsA, labelsN, labelsC, rfl⟩ := r_labels.form
    have R_labels := Lib.hid r_labels
    clear r_labels
    obtain ⟨kidsA, kidsN, kidsC, rfl⟩ := r_kids.form
    have R_kids := Lib.hid r_kids
    clear r_kids
    obtain ⟨Zkind, Zname, Zlabels, Zkids⟩ := y
    obtain ⟨ZlabelsV, ZkidsV, rfl, r_Zlabels, r_Zkids⟩ := Ty.open_ k
    obtain ⟨ZlabelsA, ZlabelsN, ZlabelsC, rfl⟩ := r_Zlabels.form
    have R_Zlabels := Lib.hid r_Zlabels
    clear r_Zlabels
    obtain ⟨ZkidsA, ZkidsN, ZkidsC, rfl⟩ := r_Zkids.form
    have R_Zkids := Lib.hid r_Zkids
    clear r_Zkids
    clear h k
    by_cases h_kind : kind = Zkind
    case neg =>
      have HF : Hid (tyEq (n + 1) (⟨kind, name, labels, kids⟩ : Ty) (⟨Zkind, Zname, Zlabels, Zkids⟩ : Ty) = false) := by show _ = _; simp [tyEq, h_kind]
      have hs : (kind == Zkind) = false := by simpa using h_kind
      have hs2 : (kind != Zkind) = true := by simpa using h_kind
      go_enter Tryz.func147, Tryz.ntmps147
      go_wp2_with fail
      go_ret
      exact ⟨ret_bool HF.out.symm, (((Below.refl _ _).alloc (Nat.le_refl _) _).alloc (by simp) _).alloc (by simp; omega) _⟩
    subst h_kind
    by_cases h_name : name = Zname
    case neg =>
      have HF : Hid (tyEq (n + 1) (⟨kind, name, labels, kids⟩ : Ty) (⟨kind, Zname, Zlabels, Zkids⟩ : Ty) = false) := by show _ = _; simp [tyEq, h_name]
      have hs : (name.toList == Zname.toList) = false := str_ne2 h_name
      have hs2 : (name.toList != Zname.toList) = true := by simpa using hs
      go_enter Tryz.func147, Tryz.ntmps147
      go_wp2_with fail
      go_ret
      exact ⟨ret_bool HF.out.symm, (((Below.refl _ _).alloc (Nat.le_refl _) _).alloc (by simp) _).alloc (by simp; omega) _⟩
    subst h_name
    have HF : Hid (tyEq (n + 1) (⟨kind, name, labels, kids⟩ : Ty) (⟨kind, name, Zlabels, Zkids⟩ : Ty) = (same2 strEq labels Zlabels && same2 (tyEq n) kids Zkids)) := by show _ = _; simp [tyEq]
    obtain ⟨w0, hw0⟩ : ∃ W, W = ((w.alloc (.cells #[.int .i64 kind, .string name, .slice labelsA labelsN labelsC, .slice kidsA kidsN kidsC] 60)).alloc (.cells #[.int .i64 kind, .string name, .slice ZlabelsA ZlabelsN ZlabelsC, .slice ZkidsA ZkidsN ZkidsC] 60)).alloc (.cells #[.int .i64 N] 3) := ⟨_, rfl⟩
    have bA : Blk w0 w.heap.size 60 #[.int .i64 kind, .string name, .slice labelsA labelsN labelsC, .slice kidsA kidsN kidsC] := by rw [hw0]; exact ((Blk.new w _ _).alloc _).alloc _
    have bC : Blk w0 (w.heap.size + 1) 60 #[.int .i64 kind, .string name, .slice ZlabelsA ZlabelsN ZlabelsC, .slice ZkidsA ZkidsN ZkidsC] := by rw [hw0]; have := (Blk.new (w.alloc (.cells #[.int .i64 kind, .string name, .slice labelsA labelsN labelsC, .slice kidsA kidsN kidsC] 60)) 60 #[.int .i64 kind, .string name, .slice ZlabelsA ZlabelsN ZlabelsC, .slice ZkidsA ZkidsN ZkidsC]).alloc (.cells #[.int .i64 N] 3); simpa using this
    have bL : Blk w0 (w.heap.size + 1 + 1) 3 #[.int .i64 N] := by rw [hw0]; have := Blk.new ((w.alloc (.cells #[.int .i64 kind, .string name, .slice labelsA labelsN labelsC, .slice kidsA kidsN kidsC] 60)).alloc (.cells #[.int .i64 kind, .string name, .slice ZlabelsA ZlabelsN ZlabelsC, .slice ZkidsA ZkidsN ZkidsC] 60)) 3 #[.int .i64 N]; simpa using this
    have hB0 : Below w.heap.size w w0 := by rw [hw0]; exact (((Below.refl _ _).alloc (Nat.le_refl _) _).alloc (by simp) _).alloc (by simp; omega) _
    have hs0 := hB0.size
    go_enter Tryz.func147, Tryz.ntmps147
    go_wp2_with fail
    rw [← hw0]
    clear hw0
    refine (equalStringS_any (R_labels.out.below (hB0.mono hB)) (R_Zlabels.out.below (hB0.mono hB))).mono ?_
    rintro e w1 ⟨rfl, hb1⟩
    have hB1 := hB0.trans (hb1.mono hs0)
    replace bA := bA.step hb1
    replace bC := bC.step hb1
    replace bL := bL.step hb1
    have c1 : w1.cell? ⟨w.heap.size, 3, none⟩ = some (.slice kidsA kidsN kidsC) := bA.cell 3
    have c2 : w1.cell? ⟨w.heap.size + 1, 3, none⟩ = some (.slice ZkidsA ZkidsN ZkidsC) := bC.cell 3
    clear bA bC
    cases hi : same2 strEq labels Zlabels
    · go_wp2_with fail
      go_ret
      exact ⟨ret_bool (by rw [HF.out, hi]; rfl), hB1⟩
    · have hlt := bL.lt
      go_wp2_with fail
      refine (eqfTypeS_any 163 #[.pointer (some ⟨w.heap.size + 1 + 1, 0, none⟩)] (tyEq n) (Nat.le_trans hB hB1.size) (R_kids.out.below (hB1.mono hB)) (R_Zkids.out.below (hB1.mono hB)) sameType1_enter (fun x _ y _ cs ds W hW hr1 hr2 => sameType1_any (by omega) IH.out x y (Nat.le_trans (Nat.le_trans hB hB1.size) hW.size) (by rw [← HN.out]; exact (bL.step hW).cell 0) (Nat.lt_of_lt_of_le hlt hW.size) hr1 hr2)).mono ?_
      rintro e w2 ⟨rfl, hb2⟩
      go_wp2_with fail
      go_ret
      exact ⟨ret_bool (by rw [HF.out, hi]; rfl), hB1.trans (hb2.mono hB1.size)⟩
theorem implSameTypeT_any (x y : Ty) {B : Nat} {cs ds : List Value} {w : World} (hB : B ≤ w.heap.size) (h : RepC w B (Ty.pd x) cs) (k : RepC w B (Ty.pd y) ds) :
    Calls Tryz.prog 121 #[.agg cs.toArray, .agg ds.toArray] w fun e w' => e = .returned (.bool (tyEq 100 x y)) ∧ Below w.heap.size w w' := by
  have IH := Lib.hid (implSameType_any 100 (Nat.le_refl _) x y)
  obtain ⟨R, hR⟩ : ∃ R, R = tyEq 100 x y := ⟨_, rfl⟩
  rw [← hR]
  rw [← hR] at IH
  clear hR
  obtain ⟨kind, name, labels, kids⟩ := x
  obtain ⟨labelsV, kidsV, rfl, r_labels, r_kids⟩ := Ty.open_ h
  obtain ⟨labelsA, labelsN, labelsC, rfl⟩ := r_labels.form
  have R_labels := Lib.hid r_labels
  clear r_labels
  obtain ⟨kidsA, kidsN, kidsC, rfl⟩ := r_kids.form
  have R_kids := Lib.hid r_kids
  clear r_kids
  obtain ⟨Zkind, Zname, Zlabels, Zkids⟩ := y
  obtain ⟨ZlabelsV, ZkidsV, rfl, r_Zlabels, r_Zkids⟩ := Ty.open_ k
  obtain ⟨ZlabelsA, ZlabelsN, ZlabelsC, rfl⟩ := r_Zlabels.form
  have R_Zlabels := Lib.hid r_Zlabels
  clear r_Zlabels
  obtain ⟨ZkidsA, ZkidsN, ZkidsC, rfl⟩ := r_Zkids.form
  have R_Zkids := Lib.hid r_Zkids
  clear r_Zkids
  clear h k
  obtain ⟨w0, hw0⟩ : ∃ W, W = (w.alloc (.cells #[.int .i64 kind, .string name, .slice labelsA labelsN labelsC, .slice kidsA kidsN kidsC] 60)).alloc (.cells #[.int .i64 Zkind, .string Zname, .slice ZlabelsA ZlabelsN ZlabelsC, .slice ZkidsA ZkidsN ZkidsC] 60) := ⟨_, rfl⟩
  have hB0 : Below w.heap.size w w0 := by rw [hw0]; exact ((Below.refl _ _).alloc (Nat.le_refl _) _).alloc (by simp) _
  have hs0 := hB0.size
  go_enter Tryz.func121, Tryz.ntmps121
  go_wp2_with fail
  rw [← hw0]
  refine (IH.out B [.int .i64 kind, .string name, .slice labelsA labelsN labelsC, .slice kidsA kidsN kidsC] [.int .i64 Zkind, .string Zname, .slice ZlabelsA ZlabelsN ZlabelsC, .slice ZkidsA ZkidsN ZkidsC] w0 (Nat.le_trans hB hs0) (Ty.close_ (R_labels.out.below (hB0.mono hB)) (R_kids.out.below (hB0.mono hB))) (Ty.close_ (R_Zlabels.out.below (hB0.mono hB)) (R_Zkids.out.below (hB0.mono hB)))).mono ?_
  rintro e w1 ⟨rfl, hb1⟩
  go_wp2_with fail
  go_ret
  exact ⟨rfl, hB0.trans (hb1.mono hs0)⟩
set_option maxHeartbeats 1600000 in
theorem specTexts_any {B : Nat} {v u : Value} {xs ys : List ByteArray} {w : World} (h : Rep w B (.row 1 (xs.flatMap strC)) v) (k : Rep w B (.row 1 (ys.flatMap strC)) u) :
    Calls Tryz.prog 155 #[v, u] w fun e w' => e = .returned (.bool (same2 strEq xs ys)) ∧ Below w.heap.size w w' := by
  obtain ⟨A, n, c, rfl, hnl, hm, hat⟩ := rep_row strC_length (by decide) h
  obtain ⟨A', n', c', rfl, hnl', hm', hat'⟩ := rep_row strC_length (by decide) k
  unfold maxLen at hm hm'
  have HN := Lib.hid hnl
  have HM := Lib.hid hnl'
  clear h k hnl hnl'
  by_cases hnm : n = n'
  · subst hnm
    go_enter Tryz.func155, Tryz.ntmps155
    go_wp2_with fail
    go_loopw [5] (fun i wr => ∃ k : Nat, k ≤ n ∧ i = .int .i64 k ∧ Hid (∀ (j : Nat) (a b : ByteArray), j < k → xs[j]? = some a → ys[j]? = some b → strEq a b = true) ∧ ∃ q, wr = w.drewN q) (fun i _ => n - (intOf i).toNat)
    case atStart => exact ⟨0, Nat.zero_le _, rfl, Lib.hid fun j a b h => absurd h (by omega), 0, rfl⟩
    case round =>
      obtain ⟨k, hk, rfl, HP, q, rfl⟩ := hrel
      by_cases hlt : k < n
      · obtain ⟨g, off, rfl, hg, hcell⟩ := hat (by omega)
        obtain ⟨g', off', rfl, hg', hcell'⟩ := hat' (by omega)
        obtain ⟨x, hx, _⟩ := at_lt HN.out hlt
        obtain ⟨y, hy, _⟩ := at_lt HM.out hlt
        have hlt' : (k : Int) < (n : Int) := by omega
        have c_x : w.cell? ⟨g, off + k, none⟩ = some (.string x) := by
          obtain ⟨u, hu, hr⟩ := hcell k 0 _ _ hx rfl
          rw [hr.of_lit] at hu
          simpa using hu
        have c_y : w.cell? ⟨g', off' + k, none⟩ = some (.string y) := by
          obtain ⟨u, hu, hr⟩ := hcell' k 0 _ _ hy rfl
          rw [hr.of_lit] at hu
          simpa using hu
        have HX := Lib.hid hx
        have HY := Lib.hid hy
        clear hx hy hcell hcell' hat hat'
        by_cases hb : x = y
        · have HQ := Lib.hid (same2_next (p := strEq) HP.out HX.out HY.out (by simp [strEq, hb]))
          subst hb
          go_wp2_with fail
          go_quiet (fail)
          go_wp2_with fail
          go_roundw
          case rel => exact ⟨k + 1, by omega, by go_num, HQ, _, rfl⟩
          case measure => simp [intOf]; omega
        · have HF : Hid (same2 strEq xs ys = false) := same2_stop HX.out HY.out (by simp [strEq, hb])
          have hs : (x.toList == y.toList) = false := str_ne2 hb
          clear hb
          go_wp2_with fail
          go_quiet (fail)
          go_wp2_with fail
          go_ret
          exact ⟨ret_bool HF.out.symm, by rw [World.drewN_drewN]; exact below_drewN (Below.refl _ _) _⟩
      · have HF : Hid (same2 strEq xs ys = true) := same2_end hlt HN.out HM.out HP.out
        have hkn : k = n := by omega
        subst hkn
        go_wp2_with fail
        go_ret
        exact ⟨ret_bool HF.out.symm, below_drewN (Below.refl _ _) _⟩
  · have HF : Hid (same2 strEq xs ys = false) := same2_ne (by have := HN.out; have := HM.out; omega)
    have hb : ((n : Int) != (n' : Int)) = true := by simp; omega
    clear hat hat'
    go_enter Tryz.func155, Tryz.ntmps155
    go_wp2_with fail
    go_ret
    exact ⟨ret_bool HF.out.symm, Below.refl _ _⟩
set_option maxHeartbeats 6400000 in
theorem specSame_any : ∀ (n : Nat), n ≤ 100 → ∀ (x y : Ty) (B : Nat) (cs ds : List Value) (w : World), B ≤ w.heap.size → RepC w B (Ty.pd x) cs → RepC w B (Ty.pd y) ds → Calls Tryz.prog 135 #[.agg cs.toArray, .agg ds.toArray, .int .i64 (101 - (n : Int))] w fun e w' => e = .returned (.bool (tyEq n x y)) ∧ Below w.heap.size w w'
  | 0, _, x, y, B, cs, ds, w, hB, h, k => by
    obtain ⟨kind, name, labels, kids⟩ := x
    obtain ⟨labelsV, kidsV, rfl, r_labels, r_kids⟩ := Ty.open_ h
    obtain ⟨labelsA, labelsN, labelsC, rfl⟩ := r_labels.form
    have R_labels := Lib.hid r_labels
    clear r_labels
    obtain ⟨kidsA, kidsN, kidsC, rfl⟩ := r_kids.form
    have R_kids := Lib.hid r_kids
    clear r_kids
    obtain ⟨Zkind, Zname, Zlabels, Zkids⟩ := y
    obtain ⟨ZlabelsV, ZkidsV, rfl, r_Zlabels, r_Zkids⟩ := Ty.open_ k
    obtain ⟨ZlabelsA, ZlabelsN, ZlabelsC, rfl⟩ := r_Zlabels.form
    have R_Zlabels := Lib.hid r_Zlabels
    clear r_Zlabels
    obtain ⟨ZkidsA, ZkidsN, ZkidsC, rfl⟩ := r_Zkids.form
    have R_Zkids := Lib.hid r_Zkids
    clear r_Zkids
    clear h k
    have HF : Hid (tyEq 0 (⟨kind, name, labels, kids⟩ : Ty) (⟨Zkind, Zname, Zlabels, Zkids⟩ : Ty) = false) := Lib.hid rfl
    go_enter Tryz.func135, Tryz.ntmps135
    go_wp2_with fail
    go_ret
    exact ⟨ret_bool HF.out.symm, ((Below.refl _ _).alloc (Nat.le_refl _) _).alloc (by simp) _⟩
  | n + 1, hn, x, y, B, cs, ds, w, hB, h, k => by
    have IH := Lib.hid (specSame_any n (by omega))
    obtain ⟨N, hN⟩ : ∃ N : Int, N = 101 - ((n + 1 : Nat) : Int) := ⟨_, rfl⟩
    have hN1 : N + 1 = 101 - (n : Int) := by omega
    have hN2 : N ≤ 100 := by omega
    have hN3 : 0 ≤ N := by omega
    rw [← hN]
    rw [← hN1] at IH
    clear hN hN1
    obtain ⟨kind, name, labels, kids⟩ := x
    obtain ⟨labelsV, kidsV, rfl, r_labels, r_kids⟩ := Ty.open_ h
    obtain ⟨labelsA, labelsN, labelsC, rfl⟩ := r_labels.form
    have R_labels := Lib.hid r_labels
    clear r_labels
    obtain ⟨kidsA, kidsN, kidsC, rfl⟩ := r_kids.form
    have R_kids := Lib.hid r_kids
    clear r_kids
    obtain ⟨Zkind, Zname, Zlabels, Zkids⟩ := y
    obtain ⟨ZlabelsV, ZkidsV, rfl, r_Zlabels, r_Zkids⟩ := Ty.open_ k
    obtain ⟨ZlabelsA, ZlabelsN, ZlabelsC, rfl⟩ := r_Zlabels.form
    have R_Zlabels := Lib.hid r_Zlabels
    clear r_Zlabels
    obtain ⟨ZkidsA, ZkidsN, ZkidsC, rfl⟩ := r_Zkids.form
    have R_Zkids := Lib.hid r_Zkids
    clear r_Zkids
    clear h k
    by_cases h_kind : kind = Zkind
    case neg =>
      have HF : Hid (tyEq (n + 1) (⟨kind, name, labels, kids⟩ : Ty) (⟨Zkind, Zname, Zlabels, Zkids⟩ : Ty) = false) := by show _ = _; simp [tyEq, h_kind]
      have hs : (kind == Zkind) = false := by simpa using h_kind
      have hs2 : (kind != Zkind) = true := by simpa using h_kind
      go_enter Tryz.func135, Tryz.ntmps135
      go_wp2_with fail
      go_ret
      exact ⟨ret_bool HF.out.symm, ((Below.refl _ _).alloc (Nat.le_refl _) _).alloc (by simp) _⟩
    subst h_kind
    by_cases h_name : name = Zname
    case neg =>
      have HF : Hid (tyEq (n + 1) (⟨kind, name, labels, kids⟩ : Ty) (⟨kind, Zname, Zlabels, Zkids⟩ : Ty) = false) := by show _ = _; simp [tyEq, h_name]
      have hs : (name.toList == Zname.toList) = false := str_ne2 h_name
      have hs2 : (name.toList != Zname.toList) = true := by simpa using hs
      go_enter Tryz.func135, Tryz.ntmps135
      go_wp2_with fail
      go_ret
      exact ⟨ret_bool HF.out.symm, ((Below.refl _ _).alloc (Nat.le_refl _) _).alloc (by simp) _⟩
    subst h_name
    have HF : Hid (tyEq (n + 1) (⟨kind, name, labels, kids⟩ : Ty) (⟨kind, name, Zlabels, Zkids⟩ : Ty) = (same2 strEq labels Zlabels && same2 (tyEq n) kids Zkids)) := by show _ = _; simp [tyEq]
    obtain ⟨_, _, _, he, hn_kids, hm_kids, hat_kids⟩ := rep_row Ty.pd_length (by decide) R_kids.out
    injection he with e1 e2 e3
    subst e1 e2 e3
    unfold maxLen at hm_kids
    have HN_kids := Lib.hid hn_kids
    clear hn_kids
    obtain ⟨_, _, _, he, hn_Zkids, hm_Zkids, hat_Zkids⟩ := rep_row Ty.pd_length (by decide) R_Zkids.out
    injection he with e1 e2 e3
    subst e1 e2 e3
    unfold maxLen at hm_Zkids
    have HN_Zkids := Lib.hid hn_Zkids
    clear hn_Zkids
    obtain ⟨w0, hw0⟩ : ∃ W, W = (w.alloc (.cells #[.int .i64 kind, .string name, .slice labelsA labelsN labelsC, .slice kidsA kidsN kidsC] 60)).alloc (.cells #[.int .i64 kind, .string name, .slice ZlabelsA ZlabelsN ZlabelsC, .slice ZkidsA ZkidsN ZkidsC] 60) := ⟨_, rfl⟩
    have bA : Blk w0 w.heap.size 60 #[.int .i64 kind, .string name, .slice labelsA labelsN labelsC, .slice kidsA kidsN kidsC] := by rw [hw0]; exact (Blk.new w _ _).alloc _
    have bC : Blk w0 (w.heap.size + 1) 60 #[.int .i64 kind, .string name, .slice ZlabelsA ZlabelsN ZlabelsC, .slice ZkidsA ZkidsN ZkidsC] := by rw [hw0]; have := Blk.new (w.alloc (.cells #[.int .i64 kind, .string name, .slice labelsA labelsN labelsC, .slice kidsA kidsN kidsC] 60)) 60 #[.int .i64 kind, .string name, .slice ZlabelsA ZlabelsN ZlabelsC, .slice ZkidsA ZkidsN ZkidsC]; simpa using this
    have hB0 : Below w.heap.size w w0 := by rw [hw0]; exact ((Below.refl _ _).alloc (Nat.le_refl _) _).alloc (by simp) _
    have hs0 := hB0.size
    go_enter Tryz.func135, Tryz.ntmps135
    go_wp2_with fail
    rw [← hw0]
    clear hw0
    refine (specTexts_any (R_labels.out.below (hB0.mono hB)) (R_Zlabels.out.below (hB0.mono hB))).mono ?_
    rintro e w1 ⟨rfl, hb1⟩
    have hB1 := hB0.trans (hb1.mono hs0)
    replace bA := bA.step hb1
    replace bC := bC.step hb1
    have c1 : w1.cell? ⟨w.heap.size, 3, none⟩ = some (.slice kidsA kidsN kidsC) := bA.cell 3
    have c2 : w1.cell? ⟨w.heap.size + 1, 3, none⟩ = some (.slice ZkidsA ZkidsN ZkidsC) := bC.cell 3
    cases hi : same2 strEq labels Zlabels
    case false =>
      go_wp2_with fail
      go_ret
      exact ⟨ret_bool (by rw [HF.out, hi]; rfl), hB1⟩
    by_cases hl : kidsN = ZkidsN
    case neg =>
      have hs : ((kidsN : Int) != (ZkidsN : Int)) = true := by simp; omega
      have HQ : Hid (same2 (tyEq n) kids Zkids = false) := same2_ne (by have := HN_kids.out; have := HN_Zkids.out; omega)
      go_wp2_with fail
      go_ret
      exact ⟨ret_bool (by rw [HF.out, hi, HQ.out]; rfl), hB1⟩
    subst hl
    have HI := Lib.hid hi
    clear hi
    go_wp2_with fail
    clear c1 c2
    go_loopw [7] (fun i wr => ∃ k : Nat, k ≤ kidsN ∧ i = .int .i64 k ∧ Hid (∀ (j : Nat) (a b : Ty), j < k → kids[j]? = some a → Zkids[j]? = some b → tyEq n a b = true) ∧ Below w1.heap.size w1 wr) (fun i _ => kidsN - (intOf i).toNat)
    case atStart => exact ⟨0, Nat.zero_le _, rfl, Lib.hid fun j a b h => absurd h (by omega), Below.refl _ _⟩
    case round =>
      obtain ⟨k, hk, rfl, HP2, hbr⟩ := hrel
      have hBr := hB1.trans (hbr.mono hB1.size)
      have hsz := hbr.size
      have hA := bA.lt
      have hC := bC.lt
      have a3 : wr.cell? ⟨w.heap.size, 3, none⟩ = some (.slice kidsA kidsN kidsC) := (bA.step hbr).cell 3
      have a4 : wr.cell? ⟨w.heap.size + 1, 3, none⟩ = some (.slice ZkidsA kidsN ZkidsC) := (bC.step hbr).cell 3
      by_cases hlt : k < kidsN
      · obtain ⟨g, off, rfl, hg, hcell⟩ := hat_kids (by omega)
        obtain ⟨g', off', rfl, hg', hcell'⟩ := hat_Zkids (by omega)
        obtain ⟨x, hx, _⟩ := at_lt HN_kids.out hlt
        obtain ⟨y, hy, _⟩ := at_lt HN_Zkids.out hlt
        have hlt' : (k : Int) < (kidsN : Int) := by omega
        obtain ⟨x_kind, x_name, x_labels, x_kids⟩ := x
        obtain ⟨y_kind, y_name, y_labels, y_kids⟩ := y
        have c_x_kind : wr.cell? ⟨g, off + k * 4, none⟩ = some (.int .i64 x_kind) := cell_lit hBr (by omega) (hcell k 0 _ _ hx (by rw [Ty.pd_mk]; rfl))
        have c_y_kind : wr.cell? ⟨g', off' + k * 4, none⟩ = some (.int .i64 y_kind) := cell_lit hBr (by omega) (hcell' k 0 _ _ hy (by rw [Ty.pd_mk]; rfl))
        have c_x_name : wr.cell? ⟨g, off + k * 4 + 1, none⟩ = some (.string x_name) := cell_lit hBr (by omega) (hcell k 1 _ _ hx (by rw [Ty.pd_mk]; rfl))
        have c_y_name : wr.cell? ⟨g', off' + k * 4 + 1, none⟩ = some (.string y_name) := cell_lit hBr (by omega) (hcell' k 1 _ _ hy (by rw [Ty.pd_mk]; rfl))
        obtain ⟨x_labelsV, c_x_labels, r_x_labels⟩ : ∃ u, wr.cell? ⟨g, off + k * 4 + 2, none⟩ = some u ∧ Rep wr B (.row 1 (x_labels.flatMap strC)) u := cell_rep hBr (by omega) hB (hcell k 2 _ _ hx (by rw [Ty.pd_mk]; rfl))
        have R_x_labels := Lib.hid r_x_labels
        clear r_x_labels
        obtain ⟨y_labelsV, c_y_labels, r_y_labels⟩ : ∃ u, wr.cell? ⟨g', off' + k * 4 + 2, none⟩ = some u ∧ Rep wr B (.row 1 (y_labels.flatMap strC)) u := cell_rep hBr (by omega) hB (hcell' k 2 _ _ hy (by rw [Ty.pd_mk]; rfl))
        have R_y_labels := Lib.hid r_y_labels
        clear r_y_labels
        obtain ⟨x_kidsV, c_x_kids, r_x_kids⟩ : ∃ u, wr.cell? ⟨g, off + k * 4 + 3, none⟩ = some u ∧ Rep wr B (.row 4 (x_kids.flatMap Ty.pd)) u := cell_rep hBr (by omega) hB (hcell k 3 _ _ hx (by rw [Ty.pd_mk]; rfl))
        have R_x_kids := Lib.hid r_x_kids
        clear r_x_kids
        obtain ⟨y_kidsV, c_y_kids, r_y_kids⟩ : ∃ u, wr.cell? ⟨g', off' + k * 4 + 3, none⟩ = some u ∧ Rep wr B (.row 4 (y_kids.flatMap Ty.pd)) u := cell_rep hBr (by omega) hB (hcell' k 3 _ _ hy (by rw [Ty.pd_mk]; rfl))
        have R_y_kids := Lib.hid r_y_kids
        clear r_y_kids
        have CC := Lib.hid (IH.out ⟨x_kind, x_name, x_labels, x_kids⟩ ⟨y_kind, y_name, y_labels, y_kids⟩ B [.int .i64 x_kind, .string x_name, x_labelsV, x_kidsV] [.int .i64 y_kind, .string y_name, y_labelsV, y_kidsV] wr.drew (Nat.le_trans hB hBr.size) ((Ty.close_ R_x_labels.out R_x_kids.out).below (Below.refl _ _).drew) ((Ty.close_ R_y_labels.out R_y_kids.out).below (Below.refl _ _).drew))
        have HX := Lib.hid hx
        have HY := Lib.hid hy
        clear hx hy hcell hcell' hat_kids hat_Zkids bA bC
        have hwr : IntKind.i64.wrap (N + 1) = N + 1 := IntWalk.i64_in _ (by omega)
        go_wp2_with fail
        go_region_held3 (fun w' => w'.cell? ⟨w.heap.size, 3, none⟩ = some (.slice (some ⟨g, off, none⟩) kidsN kidsC) ∧ w'.cell? ⟨w.heap.size + 1, 3, none⟩ = some (.slice (some ⟨g', off', none⟩) kidsN ZkidsC) ∧ w'.cell? ⟨g, off + k * 4, none⟩ = some (.int .i64 x_kind) ∧ w'.cell? ⟨g', off' + k * 4, none⟩ = some (.int .i64 y_kind) ∧ w'.cell? ⟨g, off + k * 4 + 1, none⟩ = some (.string x_name) ∧ w'.cell? ⟨g', off' + k * 4 + 1, none⟩ = some (.string y_name) ∧ w'.cell? ⟨g, off + k * 4 + 2, none⟩ = some (x_labelsV) ∧ w'.cell? ⟨g', off' + k * 4 + 2, none⟩ = some (y_labelsV) ∧ w'.cell? ⟨g, off + k * 4 + 3, none⟩ = some (x_kidsV) ∧ w'.cell? ⟨g', off' + k * 4 + 3, none⟩ = some (y_kidsV))
          (first | go_keep | exact ⟨(hb9.cell (p := ⟨w.heap.size, 3, none⟩) (by show w.heap.size < wr.heap.size; omega)).trans a3, (hb9.cell (p := ⟨w.heap.size + 1, 3, none⟩) (by show w.heap.size + 1 < wr.heap.size; omega)).trans a4, (hb9.cell (p := ⟨g, off + k * 4, none⟩) (by show g < wr.heap.size; omega)).trans c_x_kind, (hb9.cell (p := ⟨g', off' + k * 4, none⟩) (by show g' < wr.heap.size; omega)).trans c_y_kind, (hb9.cell (p := ⟨g, off + k * 4 + 1, none⟩) (by show g < wr.heap.size; omega)).trans c_x_name, (hb9.cell (p := ⟨g', off' + k * 4 + 1, none⟩) (by show g' < wr.heap.size; omega)).trans c_y_name, (hb9.cell (p := ⟨g, off + k * 4 + 2, none⟩) (by show g < wr.heap.size; omega)).trans c_x_labels, (hb9.cell (p := ⟨g', off' + k * 4 + 2, none⟩) (by show g' < wr.heap.size; omega)).trans c_y_labels, (hb9.cell (p := ⟨g, off + k * 4 + 3, none⟩) (by show g < wr.heap.size; omega)).trans c_x_kids, (hb9.cell (p := ⟨g', off' + k * 4 + 3, none⟩) (by show g' < wr.heap.size; omega)).trans c_y_kids⟩)
          (first | (go_at_call 135; refine CC.out.mono ?_; rintro e w9 ⟨rfl, hb9'⟩; have hb9 : Below wr.heap.size wr w9 := (Below.refl _ _).drew.trans hb9'))
        clear a3 a4
        have hB9 := hBr.trans (hb9.mono hBr.size)
        have hb9w := hbr.trans (hb9.mono hsz)
        cases hbq : tyEq n ⟨x_kind, x_name, x_labels, x_kids⟩ ⟨y_kind, y_name, y_labels, y_kids⟩
        · have HQ2 : Hid (same2 (tyEq n) kids Zkids = false) := same2_stop HX.out HY.out hbq
          go_wp2_with fail
          go_ret
          exact ⟨ret_bool (by rw [HF.out, HQ2.out, Bool.and_false]), hB9⟩
        · have HQ2 := Lib.hid (same2_next HP2.out HX.out HY.out hbq)
          go_wp2_with fail
          go_roundw
          case rel => exact ⟨k + 1, by omega, by go_num, HQ2, hb9w⟩
          case measure => simp [intOf]; omega
      · have HQ2 : Hid (same2 (tyEq n) kids Zkids = true) := same2_end hlt HN_kids.out HN_Zkids.out HP2.out
        have hkn : k = kidsN := by omega
        subst hkn
        go_wp2_with fail
        go_ret
        exact ⟨ret_bool (by rw [HF.out, HI.out, HQ2.out]; rfl), hBr⟩
theorem specSameTypeT_any (x y : Ty) {B : Nat} {cs ds : List Value} {w : World} (hB : B ≤ w.heap.size) (h : RepC w B (Ty.pd x) cs) (k : RepC w B (Ty.pd y) ds) :
    Calls Tryz.prog 108 #[.agg cs.toArray, .agg ds.toArray] w fun e w' => e = .returned (.bool (tyEq 100 x y)) ∧ Below w.heap.size w w' := by
  have IH := Lib.hid (specSame_any 100 (Nat.le_refl _) x y)
  obtain ⟨R, hR⟩ : ∃ R, R = tyEq 100 x y := ⟨_, rfl⟩
  rw [← hR]
  rw [← hR] at IH
  clear hR
  obtain ⟨kind, name, labels, kids⟩ := x
  obtain ⟨labelsV, kidsV, rfl, r_labels, r_kids⟩ := Ty.open_ h
  obtain ⟨labelsA, labelsN, labelsC, rfl⟩ := r_labels.form
  have R_labels := Lib.hid r_labels
  clear r_labels
  obtain ⟨kidsA, kidsN, kidsC, rfl⟩ := r_kids.form
  have R_kids := Lib.hid r_kids
  clear r_kids
  obtain ⟨Zkind, Zname, Zlabels, Zkids⟩ := y
  obtain ⟨ZlabelsV, ZkidsV, rfl, r_Zlabels, r_Zkids⟩ := Ty.open_ k
  obtain ⟨ZlabelsA, ZlabelsN, ZlabelsC, rfl⟩ := r_Zlabels.form
  have R_Zlabels := Lib.hid r_Zlabels
  clear r_Zlabels
  obtain ⟨ZkidsA, ZkidsN, ZkidsC, rfl⟩ := r_Zkids.form
  have R_Zkids := Lib.hid r_Zkids
  clear r_Zkids
  clear h k
  obtain ⟨w0, hw0⟩ : ∃ W, W = (w.alloc (.cells #[.int .i64 kind, .string name, .slice labelsA labelsN labelsC, .slice kidsA kidsN kidsC] 60)).alloc (.cells #[.int .i64 Zkind, .string Zname, .slice ZlabelsA ZlabelsN ZlabelsC, .slice ZkidsA ZkidsN ZkidsC] 60) := ⟨_, rfl⟩
  have hB0 : Below w.heap.size w w0 := by rw [hw0]; exact ((Below.refl _ _).alloc (Nat.le_refl _) _).alloc (by simp) _
  have hs0 := hB0.size
  go_enter Tryz.func108, Tryz.ntmps108
  go_wp2_with fail
  rw [← hw0]
  refine (IH.out B [.int .i64 kind, .string name, .slice labelsA labelsN labelsC, .slice kidsA kidsN kidsC] [.int .i64 Zkind, .string Zname, .slice ZlabelsA ZlabelsN ZlabelsC, .slice ZkidsA ZkidsN ZkidsC] w0 (Nat.le_trans hB hs0) (Ty.close_ (R_labels.out.below (hB0.mono hB)) (R_kids.out.below (hB0.mono hB))) (Ty.close_ (R_Zlabels.out.below (hB0.mono hB)) (R_Zkids.out.below (hB0.mono hB)))).mono ?_
  rintro e w1 ⟨rfl, hb1⟩
  go_wp2_with fail
  go_ret
  exact ⟨rfl, hB0.trans (hb1.mono hs0)⟩
end Go.Proofs.YtbafphecjijdmaaGreatDoor
