/-
  Whether a type has a part of some kinds; units: spec.l03Has, spec.l03Units, impl.isUnit, impl.kidsOk, impl.hasKind.
-/
import Derived.Test.YtbafphecjijdmaaGreatDoorTyMath
import Derived.Test.YtbafphecjijdmaaGreatDoorSmall
import Derived.Test.YtbafphecjijdmaaGreatDoorFnIdx
namespace Go.Proofs.YtbafphecjijdmaaGreatDoor
open Go.RowKit
set_option linter.unusedVariables false
set_option linter.unusedSimpArgs false
set_option linter.unnecessarySimpa false

def HasC (lo hi : Int) (t : Ty) : Prop := ∀ (B : Nat) (cs : List Value) (w : World), B ≤ w.heap.size → RepC w B (Ty.pd t) cs →
  Calls Tryz.prog 102 #[.agg cs.toArray, .int .i64 lo, .int .i64 hi] w fun e w' => e = .returned (.bool (t.has lo hi)) ∧ Below w.heap.size w w'
set_option maxHeartbeats 1600000 in
theorem specHas_step {lo hi kind : Int} {name : ByteArray} {labels : List ByteArray} {kids : List Ty} (ih : ∀ t ∈ kids, HasC lo hi t) : HasC lo hi ⟨kind, name, labels, kids⟩ := by
  intro B cs w hB h
  obtain ⟨labelsV, kidsV, rfl, r_labels, r_kids⟩ := Ty.open_ h
  have R_labels := Lib.hid r_labels
  clear r_labels
  have R_kids := Lib.hid r_kids
  clear r_kids
  obtain ⟨A, n, c, rfl, hnl, hm, hat⟩ := rep_row Ty.pd_length (by decide) R_kids.out
  unfold maxLen at hm
  have HN := Lib.hid hnl
  have HI := Lib.hid ih
  clear hnl ih h
  have HF := Lib.hid (show (Ty.mk kind name labels kids).has lo hi = (inB kind lo hi || kids.any (Ty.has lo hi)) by rw [Ty.has, hasL_eq])
  go_enter Tryz.func102, Tryz.ntmps102
  go_wp2_with fail
  refine (l00In_any _ _ _ _).mono ?_
  rintro e w' ⟨rfl, rfl⟩
  cases hk : inB kind lo hi
  case true =>
    go_wp2_with fail
    go_ret
    exact ⟨ret_bool (by rw [HF.out, hk]; rfl), (Below.refl _ _).alloc (Nat.le_refl _) _⟩
  have HK := Lib.hid hk
  clear hk
  go_wp2_with fail
  obtain ⟨w0, hw0⟩ : ∃ W, W = w.alloc (.cells #[.int .i64 kind, .string name, labelsV, .slice A n c] 60) := ⟨_, rfl⟩
  rw [← hw0]
  have bA : Blk w0 w.heap.size 60 #[.int .i64 kind, .string name, labelsV, .slice A n c] := by rw [hw0]; exact Blk.new w _ _
  have hB0 : Below w.heap.size w w0 := by rw [hw0]; exact (Below.refl _ _).alloc (Nat.le_refl _) _
  clear hw0
  go_loopw [7] (fun i wr => ∃ k : Nat, k ≤ n ∧ i = .int .i64 k ∧ Hid (∀ (j : Nat) (t : Ty), j < k → kids[j]? = some t → t.has lo hi = false) ∧ Below w.heap.size w wr ∧ Blk wr w.heap.size 60 #[.int .i64 kind, .string name, labelsV, .slice A n c]) (fun i _ => n - (intOf i).toNat)
  case atStart => exact ⟨0, Nat.zero_le _, rfl, Lib.hid fun j t h => absurd h (by omega), hB0, bA⟩
  case round =>
    obtain ⟨k, hk, rfl, HP, hbr, bR⟩ := hrel
    clear hB0 bA
    have a_kids : wr.cell? ⟨w.heap.size, 3, none⟩ = some (.slice A n c) := bR.cell 3
    have hsz := hbr.size
    by_cases hlt : k < n
    · obtain ⟨g, off, rfl, hg2, hcell2⟩ := hat (by omega)
      obtain ⟨t2, hx2, hmem2⟩ := at_lt HN.out hlt
      obtain ⟨kind2, name2, labels2, kids2⟩ := t2
      have c_kind2 : wr.cell? ⟨g, off + k * 4, none⟩ = some (.int .i64 kind2) := cell_lit hbr (by omega) (hcell2 k 0 _ _ hx2 (by rw [Ty.pd_mk]; rfl))
      have c_name2 : wr.cell? ⟨g, off + k * 4 + 1, none⟩ = some (.string name2) := cell_lit hbr (by omega) (hcell2 k 1 _ _ hx2 (by rw [Ty.pd_mk]; rfl))
      obtain ⟨labelsV2, c_labels2, r_labels2⟩ : ∃ u, wr.cell? ⟨g, off + k * 4 + 2, none⟩ = some u ∧ Rep wr B (.row 1 (labels2.flatMap strC)) u := cell_rep hbr (by omega) hB (hcell2 k 2 _ _ hx2 (by rw [Ty.pd_mk]; rfl))
      have R_labels2 := Lib.hid r_labels2
      clear r_labels2
      obtain ⟨kidsV2, c_kids2, r_kids2⟩ : ∃ u, wr.cell? ⟨g, off + k * 4 + 3, none⟩ = some u ∧ Rep wr B (.row 4 (kids2.flatMap Ty.pd)) u := cell_rep hbr (by omega) hB (hcell2 k 3 _ _ hx2 (by rw [Ty.pd_mk]; rfl))
      have R_kids2 := Lib.hid r_kids2
      clear r_kids2
      have HX2 := Lib.hid hx2
      have HM2 := Lib.hid hmem2
      clear hx2 hmem2
      clear hcell2
      have hcall := HI.out _ HM2.out B [.int .i64 kind2, .string name2, labelsV2, kidsV2] wr (Nat.le_trans hB hbr.size) (Ty.close_ R_labels2.out R_kids2.out)
      obtain ⟨t, ht⟩ : ∃ t : Ty, t = ⟨kind2, name2, labels2, kids2⟩ := ⟨_, rfl⟩
      have hx := HX2.out
      rw [← ht] at hcall hx
      have HX := Lib.hid hx
      have HC := Lib.hid hcall
      clear hcall ht hx
      go_wp2_with fail
      refine HC.out.mono ?_
      rintro e w1 ⟨rfl, hb1⟩
      have bR1 := bR.step hb1
      have hB1 := hbr.trans (hb1.mono hbr.size)
      cases hb : t.has lo hi
      · go_wp2_with fail
        go_roundw
        case rel => exact ⟨k + 1, by omega, by go_num, Lib.hid (pre_next HP.out HX.out hb), hB1, bR1⟩
        case measure => simp [intOf]; omega
      · have HA := Lib.hid (any_hit (p := Ty.has lo hi) HX.out hb)
        go_wp2_with fail
        go_ret
        exact ⟨ret_bool (by rw [HF.out, HA.out, Bool.or_true]), hB1⟩
    · have hkn : k = n := by omega
      subst hkn
      have HA := Lib.hid (any_none (p := Ty.has lo hi) (ts := kids) (n := k) (by have := HN.out; omega) HP.out)
      go_wp2_with fail
      go_ret
      exact ⟨ret_bool (by rw [HF.out, HK.out, HA.out]; rfl), hbr⟩
theorem specHas_all (lo hi : Int) : ∀ t : Ty, HasC lo hi t := Ty.rec_kids fun kind name labels kids ih => specHas_step ih

set_option maxHeartbeats 1600000 in
theorem specUnits_any (t : Ty) {B : Nat} {cs : List Value} {w : World} (hB : B ≤ w.heap.size) (h : RepC w B (Ty.pd t) cs) :
    Calls Tryz.prog 170 #[.agg cs.toArray] w fun e w' => e = .returned (.bool (!noUnit t.kids)) ∧ Below w.heap.size w w' := by
  obtain ⟨kind, name, labels, kids⟩ := t
  obtain ⟨labelsV, kidsV, rfl, r_labels, r_kids⟩ := Ty.open_ h
  have R_labels := Lib.hid r_labels
  clear r_labels
  have R_kids := Lib.hid r_kids
  clear r_kids
  obtain ⟨A, n, c, rfl, hnl, hm, hat⟩ := rep_row Ty.pd_length (by decide) R_kids.out
  unfold maxLen at hm
  have HN := Lib.hid hnl
  clear hnl h
  have HF := Lib.hid (show (!noUnit (Ty.mk kind name labels kids).kids) = kids.any Ty.isUnit by simp [noUnit, Ty.kids])
  go_enter Tryz.func170, Tryz.ntmps170
  go_wp2_with fail
  obtain ⟨w0, hw0⟩ : ∃ W, W = w.alloc (.cells #[.int .i64 kind, .string name, labelsV, .slice A n c] 60) := ⟨_, rfl⟩
  rw [← hw0]
  have bA : Blk w0 w.heap.size 60 #[.int .i64 kind, .string name, labelsV, .slice A n c] := by rw [hw0]; exact Blk.new w _ _
  have hB0 : Below w.heap.size w w0 := by rw [hw0]; exact (Below.refl _ _).alloc (Nat.le_refl _) _
  clear hw0
  have a_kids : w0.cell? ⟨w.heap.size, 3, none⟩ = some (.slice A n c) := bA.cell 3
  go_loop [3] (fun i => ∃ k : Nat, k ≤ n ∧ i = .int .i64 k ∧ Hid (∀ (j : Nat) (t : Ty), j < k → kids[j]? = some t → Ty.isUnit t = false)) (fun i => n - (intOf i).toNat)
  case atStart => exact ⟨0, Nat.zero_le _, rfl, Lib.hid fun j t h => absurd h (by omega)⟩
  case round =>
    obtain ⟨k, hk, rfl, HP⟩ := hrel
    by_cases hlt : k < n
    · obtain ⟨g, off, rfl, hg2, hcell2⟩ := hat (by omega)
      obtain ⟨t2, hx2, hmem2⟩ := at_lt HN.out hlt
      obtain ⟨kind2, name2, labels2, kids2⟩ := t2
      have c_kind2 : w0.cell? ⟨g, off + k * 4, none⟩ = some (.int .i64 kind2) := cell_lit hB0 (by omega) (hcell2 k 0 _ _ hx2 (by rw [Ty.pd_mk]; rfl))
      have HX2 := Lib.hid hx2
      have HM2 := Lib.hid hmem2
      clear hx2 hmem2
      clear hcell2
      obtain ⟨t, ht⟩ : ∃ t : Ty, t = ⟨kind2, name2, labels2, kids2⟩ := ⟨_, rfl⟩
      have hx := HX2.out
      have HU := Lib.hid (show t.isUnit = (kind2 == 1) by rw [ht]; rfl)
      rw [← ht] at hx
      have HX := Lib.hid hx
      clear ht hx
      cases hb : (kind2 == 1)
      · have HB := Lib.hid (pre_next HP.out HX.out (by rw [HU.out, hb]))
        go_wp2_with fail
        go_round
        case rel => exact ⟨k + 1, by omega, by go_num, HB⟩
        case measure => simp [intOf]; omega
      · have HA := Lib.hid (any_hit (p := Ty.isUnit) HX.out (by rw [HU.out, hb]))
        go_wp2_with fail
        go_ret
        exact ⟨ret_bool (by rw [HF.out, HA.out]), hB0⟩
    · have hkn : k = n := by omega
      subst hkn
      have HA := Lib.hid (any_none (p := Ty.isUnit) (ts := kids) (n := k) (by have := HN.out; omega) HP.out)
      go_wp2_with fail
      go_ret
      exact ⟨ret_bool (by rw [HF.out, HA.out]), hB0⟩

theorem isUnit_any (t : Ty) {B : Nat} {cs : List Value} {w : World} (h : RepC w B (Ty.pd t) cs) :
    Calls Tryz.prog 109 #[.agg cs.toArray] w fun e w' => e = .returned (.bool t.isUnit) ∧ Below w.heap.size w w' := by
  obtain ⟨kind, name, labels, kids⟩ := t
  obtain ⟨labelsV, kidsV, rfl, _, _⟩ := Ty.open_ h
  go_enter Tryz.func109, Tryz.ntmps109
  go_wp2_with fail
  go_ret
  exact ⟨ret_bool rfl, (Below.refl _ _).alloc (Nat.le_refl _) _⟩
theorem isUnit_enter (a : Array Value) (W : World) : Sem.run Tryz.prog (callFunc 109 a) W = .ok (.enter 109 a) W := by kernel_rfl

theorem sizeT_any {ts : List Ty} {v : Value} {B : Nat} {w : World} (h : Rep w B (.row 4 (ts.flatMap Ty.pd)) v) :
    Calls Tryz.prog 142 #[v] w fun e w' => e = .returned (.int .i64 ts.length) ∧ w = w' := by
  obtain ⟨A, n, c, rfl, hnl, hm, _⟩ := rep_row Ty.pd_length (by decide) h
  unfold maxLen at hm
  rw [← hnl]
  clear h hnl
  go_enter Tryz.func142, Tryz.ntmps142
  go_wp2
  go_ret
  exact ⟨rfl, rfl⟩
theorem sizeS_any {ts : List ByteArray} {v : Value} {B : Nat} {w : World} (h : Rep w B (.row 1 (ts.flatMap strC)) v) :
    Calls Tryz.prog 143 #[v] w fun e w' => e = .returned (.int .i64 ts.length) ∧ w = w' := by
  obtain ⟨A, n, c, rfl, hnl, hm, _⟩ := rep_row strC_length (by decide) h
  unfold maxLen at hm
  rw [← hnl]
  clear h hnl
  go_enter Tryz.func143, Tryz.ntmps143
  go_wp2
  go_ret
  exact ⟨rfl, rfl⟩

set_option maxHeartbeats 1600000 in
theorem kidsOk_any (t : Ty) (many : Int) {B : Nat} {cs : List Value} {w : World} (hB : B ≤ w.heap.size) (h : RepC w B (Ty.pd t) cs) :
    Calls Tryz.prog 141 #[.agg cs.toArray, .int .i64 many] w fun e w' => e = .returned (.bool (decide ((t.kids.length : Int) = many) && noUnit t.kids)) ∧ Below w.heap.size w w' := by
  obtain ⟨kind, name, labels, kids⟩ := t
  obtain ⟨labelsV, kidsV, rfl, r_labels, r_kids⟩ := Ty.open_ h
  have R_labels := Lib.hid r_labels
  clear r_labels
  have R_kids := Lib.hid r_kids
  clear r_kids
  obtain ⟨A, n, c, rfl⟩ := R_kids.out.form
  clear h
  have HF := Lib.hid (show (decide (((Ty.mk kind name labels kids).kids.length : Int) = many) && noUnit (Ty.mk kind name labels kids).kids) = (decide ((kids.length : Int) = many) && !kids.any Ty.isUnit) by rfl)
  obtain ⟨L, hL⟩ : ∃ L : Nat, L = kids.length := ⟨_, rfl⟩
  have HL := Lib.hid hL
  clear hL
  cases he : ((L : Int) == many)
  · have HE : Hid (decide ((L : Int) = many) = false) := by show _ = _; simpa using he
    go_enter Tryz.func141, Tryz.ntmps141
    go_wp2_with fail
    obtain ⟨w0, hw0⟩ : ∃ W, W = w.alloc (.cells #[.int .i64 kind, .string name, labelsV, .slice A n c] 60) := ⟨_, rfl⟩
    rw [← hw0]
    have bA : Blk w0 w.heap.size 60 #[.int .i64 kind, .string name, labelsV, .slice A n c] := by rw [hw0]; exact Blk.new w _ _
    have hB0 : Below w.heap.size w w0 := by rw [hw0]; exact (Below.refl _ _).alloc (Nat.le_refl _) _
    clear hw0
    refine (sizeT_any (R_kids.out.below (hB0.mono hB))).mono ?_
    rintro e w1 ⟨rfl, rfl⟩
    rw [← HL.out]
    go_wp2_with fail
    go_ret
    exact ⟨ret_bool (by rw [HF.out, ← HL.out, HE.out]; rfl), hB0⟩
  · have HE : Hid (decide ((L : Int) = many) = true) := by show _ = _; simpa using he
    go_enter Tryz.func141, Tryz.ntmps141
    go_wp2_with fail
    obtain ⟨w0, hw0⟩ : ∃ W, W = w.alloc (.cells #[.int .i64 kind, .string name, labelsV, .slice A n c] 60) := ⟨_, rfl⟩
    rw [← hw0]
    have bA : Blk w0 w.heap.size 60 #[.int .i64 kind, .string name, labelsV, .slice A n c] := by rw [hw0]; exact Blk.new w _ _
    have hB0 : Below w.heap.size w w0 := by rw [hw0]; exact (Below.refl _ _).alloc (Nat.le_refl _) _
    clear hw0
    refine (sizeT_any (R_kids.out.below (hB0.mono hB))).mono ?_
    rintro e w1 ⟨rfl, rfl⟩
    rw [← HL.out]
    have a_kids : w0.cell? ⟨w.heap.size, 3, none⟩ = some (.slice A n c) := bA.cell 3
    go_wp2_with fail
    refine (hasTypeS_any 109 #[] Ty.isUnit (by have := hB0.size; omega) (R_kids.out.below (hB0.mono hB)) isUnit_enter (fun t _ cs W _ hr => isUnit_any t hr)).mono ?_
    rintro e w2 ⟨rfl, hb2⟩
    go_wp2_with fail
    go_ret
    exact ⟨ret_bool (by rw [HF.out, ← HL.out, HE.out]; rfl), hB0.trans (hb2.mono hB0.size)⟩

/-- impl.hasKind at the one kind TyBorrow -/
def HasKC (t : Ty) : Prop := ∀ (B : Nat) (cs : List Value) (v : Value) (w : World), B ≤ w.heap.size → RepC w B (Ty.pd t) cs → Rep w B (.row 1 ([21].flatMap intC)) v →
  Calls Tryz.prog 85 #[.agg cs.toArray, v] w fun e w' => e = .returned (.bool (t.has 21 21)) ∧ Below w.heap.size w w'
theorem hasKind_enter (a : Array Value) (W : World) : Sem.run Tryz.prog (callFunc 116 a) W = .ok (.enter 116 a) W := by kernel_rfl
theorem hasKind1_any {t : Ty} (ih : HasKC t) {B b : Nat} {cs : List Value} {v : Value} {w : World} (hB : B ≤ w.heap.size) (h : RepC w B (Ty.pd t) cs) (k : Rep w B (.row 1 ([21].flatMap intC)) v) (hc : w.cell? ⟨b, 0, none⟩ = some v) (hb : b < w.heap.size) :
    Calls Tryz.prog 116 #[.agg cs.toArray, .pointer (some ⟨b, 0, none⟩)] w fun e w' => e = .returned (.bool (t.has 21 21)) ∧ Below w.heap.size w w' := by
  obtain ⟨kind, name, labels, kids⟩ := t
  obtain ⟨labelsV, kidsV, rfl, r_labels, r_kids⟩ := Ty.open_ h
  have R_labels := Lib.hid r_labels
  clear r_labels
  have R_kids := Lib.hid r_kids
  clear r_kids
  have IH := Lib.hid ih
  have K := Lib.hid k
  clear ih k h
  go_enter Tryz.func116, Tryz.ntmps116
  go_wp2_with fail
  obtain ⟨w0, hw0⟩ : ∃ W, W = w.alloc (.cells #[.int .i64 kind, .string name, labelsV, kidsV] 60) := ⟨_, rfl⟩
  rw [← hw0]
  have bA : Blk w0 w.heap.size 60 #[.int .i64 kind, .string name, labelsV, kidsV] := by rw [hw0]; exact Blk.new w _ _
  have hB0 : Below w.heap.size w w0 := by rw [hw0]; exact (Below.refl _ _).alloc (Nat.le_refl _) _
  clear hw0
  refine (IH.out B [.int .i64 kind, .string name, labelsV, kidsV] v w0 (by have := hB0.size; omega) (Ty.close_ (R_labels.out.below (hB0.mono hB)) (R_kids.out.below (hB0.mono hB))) (K.out.below (hB0.mono hB))).mono ?_
  rintro e w1 ⟨rfl, hb1⟩
  go_wp2_with fail
  go_ret
  exact ⟨rfl, hB0.trans (hb1.mono hB0.size)⟩
set_option maxHeartbeats 1600000 in
theorem hasKind_step {kind : Int} {name : ByteArray} {labels : List ByteArray} {kids : List Ty} (ih : ∀ t ∈ kids, HasKC t) : HasKC ⟨kind, name, labels, kids⟩ := by
  intro B cs v w hB h k
  obtain ⟨labelsV, kidsV, rfl, r_labels, r_kids⟩ := Ty.open_ h
  have R_labels := Lib.hid r_labels
  clear r_labels
  have R_kids := Lib.hid r_kids
  clear r_kids
  obtain ⟨A, n, c, rfl⟩ := R_kids.out.form
  obtain ⟨A', n', c', rfl⟩ := k.form
  have HI := Lib.hid ih
  have K := Lib.hid k
  clear h k ih
  have HF := Lib.hid (show (Ty.mk kind name labels kids).has 21 21 = (inB kind 21 21 || kids.any (Ty.has 21 21)) by rw [Ty.has, hasL_eq])
  have HG : Hid ([21].any (fun t => decide (kind = t)) = inB kind 21 21) := by
    show _ = _
    rw [List.any_cons, List.any_nil, Bool.or_false, Bool.eq_iff_iff, inB_iff, decide_eq_true_iff]
    omega
  go_enter Tryz.func85, Tryz.ntmps85
  go_wp2_with fail
  obtain ⟨w0, hw0⟩ : ∃ W, W = (w.alloc (.cells #[.int .i64 kind, .string name, labelsV, .slice A n c] 60)).alloc (.cells #[.slice A' n' c'] 140) := ⟨_, rfl⟩
  rw [← hw0]
  have bA : Blk w0 w.heap.size 60 #[.int .i64 kind, .string name, labelsV, .slice A n c] := by rw [hw0]; exact (Blk.new w _ _).alloc _
  have bK : Blk w0 (w.heap.size + 1) 140 #[.slice A' n' c'] := by rw [hw0]; have := Blk.new (w.alloc (.cells #[.int .i64 kind, .string name, labelsV, .slice A n c] 60)) 140 #[.slice A' n' c']; simpa using this
  have hB0 : Below w.heap.size w w0 := by rw [hw0]; exact ((Below.refl _ _).alloc (Nat.le_refl _) _).alloc (by simp) _
  clear hw0
  refine (containsInt64S_any kind (B := B) (by have := hB0.size; omega) (K.out.below (hB0.mono hB))).mono ?_
  rintro e w1 ⟨rfl, hb1⟩
  rw [HG.out]
  have hB1 := hB0.trans (hb1.mono hB0.size)
  have bA1 := bA.step hb1
  have bK1 := bK.step hb1
  clear bA bK
  cases hk : inB kind 21 21
  case true =>
    go_wp2_with fail
    go_ret
    exact ⟨ret_bool (by rw [HF.out, hk]; rfl), hB1⟩
  have HK := Lib.hid hk
  clear hk
  have a_kids : w1.cell? ⟨w.heap.size, 3, none⟩ = some (.slice A n c) := bA1.cell 3
  go_wp2_with fail
  refine (hasTypeS_any 116 #[.pointer (some ⟨w.heap.size + 1, 0, none⟩)] (Ty.has 21 21) (B := B) (by have := hB1.size; omega) (R_kids.out.below (hB1.mono hB)) hasKind_enter (fun t ht cs W hW hr => ?_)).mono ?_
  · have hsz := hW.size
    have hl := bK1.lt
    refine hasKind1_any (HI.out t ht) (B := W.heap.size) (v := .slice A' n' c') (Nat.le_refl _) (hr.more (by have := hB1.size; omega)) ((((K.out.below (hB1.mono hB)).more (by have := hB1.size; omega)).below hW).more (by omega)) ?_ (by omega)
    exact (hW.cell (p := ⟨w.heap.size + 1, 0, none⟩) hl).trans (bK1.cell 0)
  rintro e w2 ⟨rfl, hb2⟩
  go_wp2_with fail
  go_ret
  exact ⟨ret_bool (by rw [HF.out, HK.out]; rfl), hB1.trans (hb2.mono hB1.size)⟩
theorem hasKind_all : ∀ t : Ty, HasKC t := Ty.rec_kids fun kind name labels kids ih => hasKind_step ih
end Go.Proofs.YtbafphecjijdmaaGreatDoor

