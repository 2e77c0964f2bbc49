/-
  impl.alignOf, impl.sizeOf and what they call (by program: gen_layimpl.py).
-/
import Derived.Test.YtmmeaakhikcigaaLaySpec
import Derived.Deep.RegionHeld3
import Derived.Deep.AppendLies
namespace Go.Proofs.Ytmmeaakhikcigaa
open Go.RowKit
set_option linter.unusedVariables false
set_option linter.unusedSimpArgs false
set_option linter.unnecessarySimpa false

def AlC (t : Ty) : Prop := ∀ (B : Nat) (cs : List Value) (w : World), t.parts ≤ 4194304 → t.shapes = true → PD.wfL (Ty.pd t) → B ≤ w.heap.size → RepC w B (Ty.pd t) cs →
  Calls Try.prog 89 #[.agg cs.toArray] w fun e w' => e = .returned (.int .i64 (t.lay.2 : Nat)) ∧ Below w.heap.size w w'
def SiC (t : Ty) : Prop := ∀ (B : Nat) (cs : List Value) (w : World), t.parts ≤ 4194304 → t.shapes = true → PD.wfL (Ty.pd t) → B ≤ w.heap.size → RepC w B (Ty.pd t) cs →
  Calls Try.prog 103 #[.agg cs.toArray] w fun e w' => e = .returned (.int .i64 (t.lay.1 : Nat)) ∧ Below w.heap.size w w'
theorem lay_flags {name : ByteArray} {labels : List ByteArray} {kids : List Ty} (hs : (Ty.mk 19 name labels kids).shapes = true) :
    (Ty.mk 19 name labels kids).lay = ((labels.length + 7) / 8, (labels.length + 7) / 8) ∧ labels.length ≤ 16 := by
  have h1 := (shapes_right hs).2 rfl
  simp only [labelsOk, Bool.and_eq_true, inB_iff] at h1
  refine ⟨?_, by omega⟩
  rw [Ty.lay, lay1, if_neg (by decide), if_neg (by decide), if_neg (by decide), if_pos rfl]
  split
  · rw [show (labels.length + 7) / 8 = 2 by omega]
  · rw [show (labels.length + 7) / 8 = 1 by omega]
theorem flagsSize_any {kind : Int} {name : ByteArray} {labels : List ByteArray} {kids : List Ty} {B n n' c c' : Nat} {A A' : Option Addr} {w : World} (HT : Hid (TyIn B n n' c c' A A' name labels kids w)) (h16 : labels.length ≤ 16) :
    Calls Try.prog 142 #[.agg #[.int .i64 kind, .string name, .slice A' n' c', .slice A n c]] w fun e w' => e = .returned (.int .i64 ((labels.length + 7) / 8 : Nat)) ∧ Below w.heap.size w w' := by
  go_enter Try.func142, Try.ntmps142
  go_wp2_with fail
  obtain ⟨w0, hw0⟩ : ∃ W, W = w.alloc (.cells #[.int .i64 kind, .string name, .slice A' n' c', .slice A n c] 51) := ⟨_, rfl⟩
  rw [← hw0]
  have bA : Blk w0 w.heap.size 51 #[.int .i64 kind, .string name, .slice A' n' c', .slice A n c] := by rw [hw0]; exact Blk.new w _ _
  have hB0 : Below w.heap.size w w0 := by rw [hw0]; exact (Below.refl _ _).alloc (Nat.le_refl _) _
  clear hw0
  refine (sizeS_any (HT.out.l hB0)).mono ?_
  rintro e w1 ⟨rfl, rfl⟩
  obtain ⟨m, hm⟩ : ∃ m, m = labels.length := ⟨_, rfl⟩
  rw [← hm] at h16 ⊢
  go_wp2_with fail
  go_ret
  exact ⟨ret_int (by push_cast; rfl), hB0⟩
set_option maxHeartbeats 1600000 in
theorem greatestAlign_any {ts : List Ty} (ih : ∀ t ∈ ts, AlC t) (hg : Good ts) {B : Nat} {v : Value} {w : World} (hB : B ≤ w.heap.size) (h : Rep w B (.row 4 (ts.flatMap Ty.pd)) v) :
    Calls Try.prog 102 #[v] w fun e w' => e = .returned (.int .i64 ((Ty.mostL ts).2 : Nat)) ∧ Below w.heap.size w w' := by
  obtain ⟨A, n, c, rfl, hnl, hm, hat⟩ := rep_row Ty.pd_length (by decide) h
  unfold maxLen at hm
  have HN := Lib.hid hnl
  have HI := Lib.hid ih
  have HG := Lib.hid hg
  clear hnl ih hg h
  go_enter Try.func102, Try.ntmps102
  go_wp2_with fail
  go_loopw [3, 8] (fun sz i wr => ∃ (k S : Nat), k ≤ n ∧ sz = .int .i64 S ∧ i = .int .i64 k ∧ Hid (S = (Ty.mostL (ts.take k)).2) ∧ Below w.heap.size w wr) (fun _ i _ => n - (intOf i).toNat)
  case atStart => exact ⟨0, 1, Nat.zero_le _, rfl, rfl, Lib.hid (by rw [List.take_zero, Ty.mostL]), Below.refl _ _⟩
  case round =>
    obtain ⟨k, S, hk, rfl, rfl, HS, hbr⟩ := hrel
    have hsz := hbr.size
    by_cases hlt : k < n
    · obtain ⟨g, off, rfl, hg2, hcell2⟩ := hat (by omega)
      obtain ⟨t2, hx2, hmem2⟩ := at_lt HN.out hlt
      obtain ⟨kind2, name2, labels2, kids2⟩ := t2
      have c_kind2 : wr.cell? ⟨g, off + k * 4, none⟩ = some (.int .i64 kind2) := cell_lit hbr (by omega) (hcell2 k 0 _ _ hx2 (by rw [Ty.pd_mk]; rfl))
      have c_name2 : wr.cell? ⟨g, off + k * 4 + 1, none⟩ = some (.string name2) := cell_lit hbr (by omega) (hcell2 k 1 _ _ hx2 (by rw [Ty.pd_mk]; rfl))
      obtain ⟨labelsV2, c_labels2, r_labels2⟩ : ∃ u, wr.cell? ⟨g, off + k * 4 + 2, none⟩ = some u ∧ Rep wr B (.row 1 (labels2.flatMap strC)) u := cell_rep hbr (by omega) hB (hcell2 k 2 _ _ hx2 (by rw [Ty.pd_mk]; rfl))
      have R_labels2 := Lib.hid r_labels2
      clear r_labels2
      obtain ⟨kidsV2, c_kids2, r_kids2⟩ : ∃ u, wr.cell? ⟨g, off + k * 4 + 3, none⟩ = some u ∧ Rep wr B (.row 4 (kids2.flatMap Ty.pd)) u := cell_rep hbr (by omega) hB (hcell2 k 3 _ _ hx2 (by rw [Ty.pd_mk]; rfl))
      have R_kids2 := Lib.hid r_kids2
      clear r_kids2
      obtain ⟨labelsA2, labelsN2, labelsC2, rfl⟩ := R_labels2.out.form
      obtain ⟨kidsA2, kidsN2, kidsC2, rfl⟩ := R_kids2.out.form
      have HX2 := Lib.hid hx2
      have HM2 := Lib.hid hmem2
      clear hx2 hmem2
      clear hcell2
      have HS1 := Lib.hid (most2_succ HX2.out)
      obtain ⟨t, ht⟩ : ∃ t : Ty, t = ⟨kind2, name2, labels2, kids2⟩ := ⟨_, rfl⟩
      have HT := Lib.hid ht
      clear ht
      go_wp2_with fail
      obtain ⟨w1, hw1⟩ : ∃ W, W = wr.alloc (.cells #[.int .i64 kind2, .string name2, .slice labelsA2 labelsN2 labelsC2, .slice kidsA2 kidsN2 kidsC2] 51) := ⟨_, rfl⟩
      rw [← hw1]
      have bE : Blk w1 wr.heap.size 51 #[.int .i64 kind2, .string name2, .slice labelsA2 labelsN2 labelsC2, .slice kidsA2 kidsN2 kidsC2] := by rw [hw1]; exact Blk.new wr _ _
      have hb1 : Below wr.heap.size wr w1 := by rw [hw1]; exact (Below.refl _ _).alloc (Nat.le_refl _) _
      clear hw1
      have hcall := HI.out _ HM2.out B [.int .i64 kind2, .string name2, .slice labelsA2 labelsN2 labelsC2, .slice kidsA2 kidsN2 kidsC2] w1 (Nat.le_trans (parts_mem HM2.out) HG.out.sz) (HG.out.sh _ HM2.out) (HG.out.wf _ HM2.out) (by have := hb1.size; omega) (Ty.close_ (R_labels2.out.below (hb1.mono (by omega))) (R_kids2.out.below (hb1.mono (by omega))))
      rw [← HT.out] at hcall
      obtain ⟨x, hx⟩ : ∃ x : Nat, x = t.lay.2 := ⟨_, rfl⟩
      rw [← hx] at hcall
      have HX := Lib.hid hx
      clear hx
      refine hcall.mono ?_
      rintro e w2 ⟨rfl, hb2⟩
      have hB1 := (hbr.trans (hb1.mono hbr.size)).trans (hb2.mono (by have := hb1.size; omega))
      clear hcall
      go_wp2_with fail
      go_roundw
      case rel => exact ⟨k + 1, max S x, by omega, by go_num, by go_num, Lib.hid (by rw [HS1.out, ← HT.out, HS.out, HX.out]), hB1⟩
      case measure => simp [intOf]; omega
    · have hkn : k = n := by omega
      have HT : Hid (ts.take k = ts) := List.take_of_length_le (by have := HN.out; omega)
      subst hkn
      go_wp2_with fail
      go_ret
      exact ⟨ret_int (by rw [HS.out, HT.out]), hbr⟩
set_option maxHeartbeats 1600000 in
theorem greatestSize_any {ts : List Ty} (ih : ∀ t ∈ ts, SiC t) (hg : Good ts) {B : Nat} {v : Value} {w : World} (hB : B ≤ w.heap.size) (h : Rep w B (.row 4 (ts.flatMap Ty.pd)) v) :
    Calls Try.prog 148 #[v] w fun e w' => e = .returned (.int .i64 ((Ty.mostL ts).1 : Nat)) ∧ Below w.heap.size w w' := by
  obtain ⟨A, n, c, rfl, hnl, hm, hat⟩ := rep_row Ty.pd_length (by decide) h
  unfold maxLen at hm
  have HN := Lib.hid hnl
  have HI := Lib.hid ih
  have HG := Lib.hid hg
  clear hnl ih hg h
  go_enter Try.func148, Try.ntmps148
  go_wp2_with fail
  go_loopw [3, 8] (fun sz i wr => ∃ (k S : Nat), k ≤ n ∧ sz = .int .i64 S ∧ i = .int .i64 k ∧ Hid (S = (Ty.mostL (ts.take k)).1) ∧ Below w.heap.size w wr) (fun _ i _ => n - (intOf i).toNat)
  case atStart => exact ⟨0, 0, Nat.zero_le _, rfl, rfl, Lib.hid (by rw [List.take_zero, Ty.mostL]), Below.refl _ _⟩
  case round =>
    obtain ⟨k, S, hk, rfl, rfl, HS, hbr⟩ := hrel
    have hsz := hbr.size
    by_cases hlt : k < n
    · obtain ⟨g, off, rfl, hg2, hcell2⟩ := hat (by omega)
      obtain ⟨t2, hx2, hmem2⟩ := at_lt HN.out hlt
      obtain ⟨kind2, name2, labels2, kids2⟩ := t2
      have c_kind2 : wr.cell? ⟨g, off + k * 4, none⟩ = some (.int .i64 kind2) := cell_lit hbr (by omega) (hcell2 k 0 _ _ hx2 (by rw [Ty.pd_mk]; rfl))
      have c_name2 : wr.cell? ⟨g, off + k * 4 + 1, none⟩ = some (.string name2) := cell_lit hbr (by omega) (hcell2 k 1 _ _ hx2 (by rw [Ty.pd_mk]; rfl))
      obtain ⟨labelsV2, c_labels2, r_labels2⟩ : ∃ u, wr.cell? ⟨g, off + k * 4 + 2, none⟩ = some u ∧ Rep wr B (.row 1 (labels2.flatMap strC)) u := cell_rep hbr (by omega) hB (hcell2 k 2 _ _ hx2 (by rw [Ty.pd_mk]; rfl))
      have R_labels2 := Lib.hid r_labels2
      clear r_labels2
      obtain ⟨kidsV2, c_kids2, r_kids2⟩ : ∃ u, wr.cell? ⟨g, off + k * 4 + 3, none⟩ = some u ∧ Rep wr B (.row 4 (kids2.flatMap Ty.pd)) u := cell_rep hbr (by omega) hB (hcell2 k 3 _ _ hx2 (by rw [Ty.pd_mk]; rfl))
      have R_kids2 := Lib.hid r_kids2
      clear r_kids2
      obtain ⟨labelsA2, labelsN2, labelsC2, rfl⟩ := R_labels2.out.form
      obtain ⟨kidsA2, kidsN2, kidsC2, rfl⟩ := R_kids2.out.form
      have HX2 := Lib.hid hx2
      have HM2 := Lib.hid hmem2
      clear hx2 hmem2
      clear hcell2
      have HS1 := Lib.hid (most1_succ HX2.out)
      obtain ⟨t, ht⟩ : ∃ t : Ty, t = ⟨kind2, name2, labels2, kids2⟩ := ⟨_, rfl⟩
      have HT := Lib.hid ht
      clear ht
      go_wp2_with fail
      obtain ⟨w1, hw1⟩ : ∃ W, W = wr.alloc (.cells #[.int .i64 kind2, .string name2, .slice labelsA2 labelsN2 labelsC2, .slice kidsA2 kidsN2 kidsC2] 51) := ⟨_, rfl⟩
      rw [← hw1]
      have bE : Blk w1 wr.heap.size 51 #[.int .i64 kind2, .string name2, .slice labelsA2 labelsN2 labelsC2, .slice kidsA2 kidsN2 kidsC2] := by rw [hw1]; exact Blk.new wr _ _
      have hb1 : Below wr.heap.size wr w1 := by rw [hw1]; exact (Below.refl _ _).alloc (Nat.le_refl _) _
      clear hw1
      have hcall := HI.out _ HM2.out B [.int .i64 kind2, .string name2, .slice labelsA2 labelsN2 labelsC2, .slice kidsA2 kidsN2 kidsC2] w1 (Nat.le_trans (parts_mem HM2.out) HG.out.sz) (HG.out.sh _ HM2.out) (HG.out.wf _ HM2.out) (by have := hb1.size; omega) (Ty.close_ (R_labels2.out.below (hb1.mono (by omega))) (R_kids2.out.below (hb1.mono (by omega))))
      rw [← HT.out] at hcall
      obtain ⟨x, hx⟩ : ∃ x : Nat, x = t.lay.1 := ⟨_, rfl⟩
      rw [← hx] at hcall
      have HX := Lib.hid hx
      clear hx
      refine hcall.mono ?_
      rintro e w2 ⟨rfl, hb2⟩
      have hB1 := (hbr.trans (hb1.mono hbr.size)).trans (hb2.mono (by have := hb1.size; omega))
      clear hcall
      go_wp2_with fail
      go_roundw
      case rel => exact ⟨k + 1, max S x, by omega, by go_num, by go_num, Lib.hid (by rw [HS1.out, ← HT.out, HS.out, HX.out]), hB1⟩
      case measure => simp [intOf]; omega
    · have hkn : k = n := by omega
      have HT : Hid (ts.take k = ts) := List.take_of_length_le (by have := HN.out; omega)
      subst hkn
      go_wp2_with fail
      go_ret
      exact ⟨ret_int (by rw [HS.out, HT.out]), hbr⟩
set_option maxHeartbeats 1600000 in
theorem align_leaf {kind : Int} {name : ByteArray} {labels : List ByteArray} {kids : List Ty} {B n n' c c' : Nat} {A A' : Option Addr} {w : World} (HT : Hid (TyIn B n n' c c' A A' name labels kids w)) (hk : kind = 1 ∨ kind = 11 ∨ kind = 12 ∨ kind = 18) :
    Calls Try.prog 89 #[.agg #[.int .i64 kind, .string name, .slice A' n' c', .slice A n c]] w fun e w' => e = .returned (.int .i64 ((Ty.mk kind name labels kids).lay.2 : Nat)) ∧ Below w.heap.size w w' := by
  rcases hk with rfl | rfl | rfl | rfl
  · rw [show (Ty.mk 1 name labels kids).lay = (0, 1) by rw [Ty.lay]; rfl]
    go_enter Try.func89, Try.ntmps89
    go_wp2_with fail
    go_ret
    exact ⟨rfl, (Below.refl _ _).alloc (Nat.le_refl _) _⟩
  · rw [show (Ty.mk 11 name labels kids).lay = (8, 4) by rw [Ty.lay]; rfl]
    go_enter Try.func89, Try.ntmps89
    go_wp2_with fail
    go_ret
    exact ⟨rfl, (Below.refl _ _).alloc (Nat.le_refl _) _⟩
  · rw [show (Ty.mk 12 name labels kids).lay = (8, 4) by rw [Ty.lay]; rfl]
    go_enter Try.func89, Try.ntmps89
    go_wp2_with fail
    go_ret
    exact ⟨rfl, (Below.refl _ _).alloc (Nat.le_refl _) _⟩
  · rw [show (Ty.mk 18 name labels kids).lay = (1, 1) by rw [Ty.lay]; rfl]
    go_enter Try.func89, Try.ntmps89
    go_wp2_with fail
    go_ret
    exact ⟨rfl, (Below.refl _ _).alloc (Nat.le_refl _) _⟩
set_option maxHeartbeats 1600000 in
theorem align_num {kind : Int} {name : ByteArray} {labels : List ByteArray} {kids : List Ty} {B n n' c c' : Nat} {A A' : Option Addr} {w : World} (HT : Hid (TyIn B n n' c c' A A' name labels kids w)) {z : Nat} (hz : NumK kind z) :
    Calls Try.prog 89 #[.agg #[.int .i64 kind, .string name, .slice A' n' c', .slice A n c]] w fun e w' => e = .returned (.int .i64 ((Ty.mk kind name labels kids).lay.2 : Nat)) ∧ Below w.heap.size w w' := by
  rw [lay_num hz name labels kids]
  have HZ : Hid (numSz kind = (z : Int)) := by show _ = _; rw [numSz_nat, hz.sz]
  have h8 := hz.hz8
  obtain ⟨_, _, _, k1, k11, k12, k13, k14, k15, k16, k17, k18, k19, _⟩ := hz
  go_enter Try.func89, Try.ntmps89
  go_wp2_with fail
  obtain ⟨w0, hw0⟩ : ∃ W, W = w.alloc (.cells #[.int .i64 kind, .string name, .slice A' n' c', .slice A n c] 51) := ⟨_, rfl⟩
  rw [← hw0]
  have bA : Blk w0 w.heap.size 51 #[.int .i64 kind, .string name, .slice A' n' c', .slice A n c] := by rw [hw0]; exact Blk.new w _ _
  have hB0 : Below w.heap.size w w0 := by rw [hw0]; exact (Below.refl _ _).alloc (Nat.le_refl _) _
  clear hw0
  refine (implNumSize0_any _ _).mono ?_
  rintro e w1 ⟨rfl, rfl⟩
  rw [HZ.out]
  go_wp2_with fail
  go_ret
  exact ⟨rfl, hB0⟩
set_option maxHeartbeats 1600000 in
theorem align_flags {kind : Int} {name : ByteArray} {labels : List ByteArray} {kids : List Ty} {B n n' c c' : Nat} {A A' : Option Addr} {w : World} (HT : Hid (TyIn B n n' c c' A A' name labels kids w)) (hk : kind = 19) (hs : (Ty.mk kind name labels kids).shapes = true) :
    Calls Try.prog 89 #[.agg #[.int .i64 kind, .string name, .slice A' n' c', .slice A n c]] w fun e w' => e = .returned (.int .i64 ((Ty.mk kind name labels kids).lay.2 : Nat)) ∧ Below w.heap.size w w' := by
  subst hk
  obtain ⟨h1, h16⟩ := lay_flags hs
  rw [h1]
  clear h1
  go_enter Try.func89, Try.ntmps89
  go_wp2_with fail
  obtain ⟨w0, hw0⟩ : ∃ W, W = w.alloc (.cells #[.int .i64 19, .string name, .slice A' n' c', .slice A n c] 51) := ⟨_, rfl⟩
  rw [← hw0]
  have bA : Blk w0 w.heap.size 51 #[.int .i64 19, .string name, .slice A' n' c', .slice A n c] := by rw [hw0]; exact Blk.new w _ _
  have hB0 : Below w.heap.size w w0 := by rw [hw0]; exact (Below.refl _ _).alloc (Nat.le_refl _) _
  clear hw0
  have HT0 : Hid (TyIn B n n' c c' A A' name labels kids w0) := by
    have h1 := HT.out
    exact ⟨Nat.le_trans h1.hB hB0.size, h1.hn, h1.hn', h1.HN, h1.HN', h1.HS1, h1.HS2, h1.l hB0, h1.k hB0⟩
  refine (flagsSize_any HT0 h16).mono ?_
  rintro e w1 ⟨rfl, hb1⟩
  go_wp2_with fail
  go_ret
  exact ⟨rfl, hB0.trans (hb1.mono hB0.size)⟩
set_option maxHeartbeats 1600000 in
theorem align_row {kind : Int} {name : ByteArray} {labels : List ByteArray} {kids : List Ty} {B n n' c c' : Nat} {A A' : Option Addr} {w : World} (HT : Hid (TyIn B n n' c c' A A' name labels kids w)) (hk : kind = 15 ∨ kind = 16) (HI : Hid (∀ t ∈ kids, AlC t)) (HG : Hid (Good kids)) :
    Calls Try.prog 89 #[.agg #[.int .i64 kind, .string name, .slice A' n' c', .slice A n c]] w fun e w' => e = .returned (.int .i64 ((Ty.mk kind name labels kids).lay.2 : Nat)) ∧ Below w.heap.size w w' := by
  rw [lay_row hk]
  rcases hk with rfl | rfl
  · go_enter Try.func89, Try.ntmps89
    go_wp2_with fail
    obtain ⟨w0, hw0⟩ : ∃ W, W = w.alloc (.cells #[.int .i64 15, .string name, .slice A' n' c', .slice A n c] 51) := ⟨_, rfl⟩
    rw [← hw0]
    have bA : Blk w0 w.heap.size 51 #[.int .i64 15, .string name, .slice A' n' c', .slice A n c] := by rw [hw0]; exact Blk.new w _ _
    have hB0 : Below w.heap.size w w0 := by rw [hw0]; exact (Below.refl _ _).alloc (Nat.le_refl _) _
    clear hw0
    refine (greatestAlign_any HI.out HG.out (HT.out.c (kind := 0) hB0).1 (HT.out.k hB0)).mono ?_
    rintro e w1 ⟨rfl, hb1⟩
    go_wp2_with fail
    go_ret
    exact ⟨rfl, hB0.trans (hb1.mono hB0.size)⟩
  · go_enter Try.func89, Try.ntmps89
    go_wp2_with fail
    obtain ⟨w0, hw0⟩ : ∃ W, W = w.alloc (.cells #[.int .i64 16, .string name, .slice A' n' c', .slice A n c] 51) := ⟨_, rfl⟩
    rw [← hw0]
    have bA : Blk w0 w.heap.size 51 #[.int .i64 16, .string name, .slice A' n' c', .slice A n c] := by rw [hw0]; exact Blk.new w _ _
    have hB0 : Below w.heap.size w w0 := by rw [hw0]; exact (Below.refl _ _).alloc (Nat.le_refl _) _
    clear hw0
    refine (greatestAlign_any HI.out HG.out (HT.out.c (kind := 0) hB0).1 (HT.out.k hB0)).mono ?_
    rintro e w1 ⟨rfl, hb1⟩
    go_wp2_with fail
    go_ret
    exact ⟨rfl, hB0.trans (hb1.mono hB0.size)⟩
set_option maxHeartbeats 1600000 in
theorem align_var {kind : Int} {name : ByteArray} {labels : List ByteArray} {kids : List Ty} {B n n' c c' : Nat} {A A' : Option Addr} {w : World} (HT : Hid (TyIn B n n' c c' A A' name labels kids w)) (hk : kind = 13 ∨ kind = 14 ∨ kind = 17) (HI : Hid (∀ t ∈ Ty.cases ⟨kind, name, labels, kids⟩, AlC t)) (HG : Hid (Good (Ty.cases ⟨kind, name, labels, kids⟩))) (HS : Hid ((Ty.mk kind name labels kids).shapes = true)) (HW : Hid (PD.wfL (Ty.pd ⟨kind, name, labels, kids⟩))) :
    Calls Try.prog 89 #[.agg #[.int .i64 kind, .string name, .slice A' n' c', .slice A n c]] w fun e w' => e = .returned (.int .i64 ((Ty.mk kind name labels kids).lay.2 : Nat)) ∧ Below w.heap.size w w' := by
  rw [lay_var hk]
  have HM := Lib.hid (mostL_cases (name := name) (labels := labels) (kids := kids) hk)
  rcases hk with rfl | rfl | rfl
  · go_enter Try.func89, Try.ntmps89
    go_wp2_with fail
    obtain ⟨w0, hw0⟩ : ∃ W, W = w.alloc (.cells #[.int .i64 13, .string name, .slice A' n' c', .slice A n c] 51) := ⟨_, rfl⟩
    rw [← hw0]
    have bA : Blk w0 w.heap.size 51 #[.int .i64 13, .string name, .slice A' n' c', .slice A n c] := by rw [hw0]; exact Blk.new w _ _
    have hB0 : Below w.heap.size w w0 := by rw [hw0]; exact (Below.refl _ _).alloc (Nat.le_refl _) _
    clear hw0
    refine (implCases_any ⟨13, name, labels, kids⟩ (HT.out.c (kind := 0) hB0).1 HW.out HS.out (HT.out.c hB0).2).mono ?_
    rintro e w1 ⟨u, rfl, hu, hb1⟩
    have HU1 := Lib.hid hu
    have hB1 := hB0.trans (hb1.mono hB0.size)
    clear hu
    go_wp2_with fail
    refine (greatestAlign_any HI.out HG.out (Nat.le_refl _) HU1.out).mono ?_
    rintro e w2 ⟨rfl, hb2⟩
    rw [HM.out]
    go_wp2_with fail
    go_ret
    exact ⟨rfl, hB1.trans (hb2.mono hB1.size)⟩
  · go_enter Try.func89, Try.ntmps89
    go_wp2_with fail
    obtain ⟨w0, hw0⟩ : ∃ W, W = w.alloc (.cells #[.int .i64 14, .string name, .slice A' n' c', .slice A n c] 51) := ⟨_, rfl⟩
    rw [← hw0]
    have bA : Blk w0 w.heap.size 51 #[.int .i64 14, .string name, .slice A' n' c', .slice A n c] := by rw [hw0]; exact Blk.new w _ _
    have hB0 : Below w.heap.size w w0 := by rw [hw0]; exact (Below.refl _ _).alloc (Nat.le_refl _) _
    clear hw0
    refine (implCases_any ⟨14, name, labels, kids⟩ (HT.out.c (kind := 0) hB0).1 HW.out HS.out (HT.out.c hB0).2).mono ?_
    rintro e w1 ⟨u, rfl, hu, hb1⟩
    have HU1 := Lib.hid hu
    have hB1 := hB0.trans (hb1.mono hB0.size)
    clear hu
    go_wp2_with fail
    refine (greatestAlign_any HI.out HG.out (Nat.le_refl _) HU1.out).mono ?_
    rintro e w2 ⟨rfl, hb2⟩
    rw [HM.out]
    go_wp2_with fail
    go_ret
    exact ⟨rfl, hB1.trans (hb2.mono hB1.size)⟩
  · go_enter Try.func89, Try.ntmps89
    go_wp2_with fail
    obtain ⟨w0, hw0⟩ : ∃ W, W = w.alloc (.cells #[.int .i64 17, .string name, .slice A' n' c', .slice A n c] 51) := ⟨_, rfl⟩
    rw [← hw0]
    have bA : Blk w0 w.heap.size 51 #[.int .i64 17, .string name, .slice A' n' c', .slice A n c] := by rw [hw0]; exact Blk.new w _ _
    have hB0 : Below w.heap.size w w0 := by rw [hw0]; exact (Below.refl _ _).alloc (Nat.le_refl _) _
    clear hw0
    refine (implCases_any ⟨17, name, labels, kids⟩ (HT.out.c (kind := 0) hB0).1 HW.out HS.out (HT.out.c hB0).2).mono ?_
    rintro e w1 ⟨u, rfl, hu, hb1⟩
    have HU1 := Lib.hid hu
    have hB1 := hB0.trans (hb1.mono hB0.size)
    clear hu
    go_wp2_with fail
    refine (greatestAlign_any HI.out HG.out (Nat.le_refl _) HU1.out).mono ?_
    rintro e w2 ⟨rfl, hb2⟩
    rw [HM.out]
    go_wp2_with fail
    go_ret
    exact ⟨rfl, hB1.trans (hb2.mono hB1.size)⟩
theorem align_unit : AlC unitT := by
  intro B cs w hp hs hw hB h
  rw [unitT] at hw h
  obtain ⟨A, n, c, A', n', c', rfl, ht⟩ := tyIn hB hw h
  exact align_leaf (Lib.hid ht) (.inl rfl)
theorem align_all : ∀ t : Ty, AlC t := Ty.rec_kids fun kind name labels kids ih => by
  intro B cs w hp hs hw hB h
  obtain ⟨A, n, c, A', n', c', rfl, ht⟩ := tyIn hB hw h
  obtain ⟨hg, hgk⟩ := good_cases hp hs hw
  obtain ⟨k1, k2⟩ := shapes_kind hs
  rcases lay_kinds k1 k2 with h | h | h | h | h | h | h | ⟨z, h⟩
  · exact align_leaf (Lib.hid ht) (by omega)
  · exact align_leaf (Lib.hid ht) (by omega)
  · exact align_leaf (Lib.hid ht) (by omega)
  · exact align_leaf (Lib.hid ht) (by omega)
  · exact align_flags (Lib.hid ht) h hs
  · exact align_row (Lib.hid ht) h (Lib.hid ih) (Lib.hid hgk)
  · refine align_var (Lib.hid ht) h (Lib.hid fun t hm => ?_) (Lib.hid hg) (Lib.hid hs) (Lib.hid hw)
    rw [Ty.cases] at hm
    split at hm
    · rcases List.mem_cons.1 hm with rfl | hm
      · exact align_unit
      · exact ih t hm
    split at hm
    · exact ih t hm
    · exact absurd hm List.not_mem_nil
  · exact align_num (Lib.hid ht) h
set_option maxHeartbeats 1600000 in
theorem size_leaf {kind : Int} {name : ByteArray} {labels : List ByteArray} {kids : List Ty} {B n n' c c' : Nat} {A A' : Option Addr} {w : World} (HT : Hid (TyIn B n n' c c' A A' name labels kids w)) (hk : kind = 1 ∨ kind = 11 ∨ kind = 12 ∨ kind = 18) :
    Calls Try.prog 103 #[.agg #[.int .i64 kind, .string name, .slice A' n' c', .slice A n c]] w fun e w' => e = .returned (.int .i64 ((Ty.mk kind name labels kids).lay.1 : Nat)) ∧ Below w.heap.size w w' := by
  rcases hk with rfl | rfl | rfl | rfl
  · rw [show (Ty.mk 1 name labels kids).lay = (0, 1) by rw [Ty.lay]; rfl]
    go_enter Try.func103, Try.ntmps103
    go_wp2_with fail
    go_ret
    exact ⟨rfl, (Below.refl _ _).alloc (Nat.le_refl _) _⟩
  · rw [show (Ty.mk 11 name labels kids).lay = (8, 4) by rw [Ty.lay]; rfl]
    go_enter Try.func103, Try.ntmps103
    go_wp2_with fail
    go_ret
    exact ⟨rfl, (Below.refl _ _).alloc (Nat.le_refl _) _⟩
  · rw [show (Ty.mk 12 name labels kids).lay = (8, 4) by rw [Ty.lay]; rfl]
    go_enter Try.func103, Try.ntmps103
    go_wp2_with fail
    go_ret
    exact ⟨rfl, (Below.refl _ _).alloc (Nat.le_refl _) _⟩
  · rw [show (Ty.mk 18 name labels kids).lay = (1, 1) by rw [Ty.lay]; rfl]
    go_enter Try.func103, Try.ntmps103
    go_wp2_with fail
    go_ret
    exact ⟨rfl, (Below.refl _ _).alloc (Nat.le_refl _) _⟩
set_option maxHeartbeats 1600000 in
theorem size_num {kind : Int} {name : ByteArray} {labels : List ByteArray} {kids : List Ty} {B n n' c c' : Nat} {A A' : Option Addr} {w : World} (HT : Hid (TyIn B n n' c c' A A' name labels kids w)) {z : Nat} (hz : NumK kind z) :
    Calls Try.prog 103 #[.agg #[.int .i64 kind, .string name, .slice A' n' c', .slice A n c]] w fun e w' => e = .returned (.int .i64 ((Ty.mk kind name labels kids).lay.1 : Nat)) ∧ Below w.heap.size w w' := by
  rw [lay_num hz name labels kids]
  have HZ : Hid (numSz kind = (z : Int)) := by show _ = _; rw [numSz_nat, hz.sz]
  have h8 := hz.hz8
  obtain ⟨_, _, _, k1, k11, k12, k13, k14, k15, k16, k17, k18, k19, _⟩ := hz
  go_enter Try.func103, Try.ntmps103
  go_wp2_with fail
  obtain ⟨w0, hw0⟩ : ∃ W, W = w.alloc (.cells #[.int .i64 kind, .string name, .slice A' n' c', .slice A n c] 51) := ⟨_, rfl⟩
  rw [← hw0]
  have bA : Blk w0 w.heap.size 51 #[.int .i64 kind, .string name, .slice A' n' c', .slice A n c] := by rw [hw0]; exact Blk.new w _ _
  have hB0 : Below w.heap.size w w0 := by rw [hw0]; exact (Below.refl _ _).alloc (Nat.le_refl _) _
  clear hw0
  refine (implNumSize0_any _ _).mono ?_
  rintro e w1 ⟨rfl, rfl⟩
  rw [HZ.out]
  go_wp2_with fail
  go_ret
  exact ⟨rfl, hB0⟩
set_option maxHeartbeats 1600000 in
theorem size_flags {kind : Int} {name : ByteArray} {labels : List ByteArray} {kids : List Ty} {B n n' c c' : Nat} {A A' : Option Addr} {w : World} (HT : Hid (TyIn B n n' c c' A A' name labels kids w)) (hk : kind = 19) (hs : (Ty.mk kind name labels kids).shapes = true) :
    Calls Try.prog 103 #[.agg #[.int .i64 kind, .string name, .slice A' n' c', .slice A n c]] w fun e w' => e = .returned (.int .i64 ((Ty.mk kind name labels kids).lay.1 : Nat)) ∧ Below w.heap.size w w' := by
  subst hk
  obtain ⟨h1, h16⟩ := lay_flags hs
  rw [h1]
  clear h1
  go_enter Try.func103, Try.ntmps103
  go_wp2_with fail
  obtain ⟨w0, hw0⟩ : ∃ W, W = w.alloc (.cells #[.int .i64 19, .string name, .slice A' n' c', .slice A n c] 51) := ⟨_, rfl⟩
  rw [← hw0]
  have bA : Blk w0 w.heap.size 51 #[.int .i64 19, .string name, .slice A' n' c', .slice A n c] := by rw [hw0]; exact Blk.new w _ _
  have hB0 : Below w.heap.size w w0 := by rw [hw0]; exact (Below.refl _ _).alloc (Nat.le_refl _) _
  clear hw0
  have HT0 : Hid (TyIn B n n' c c' A A' name labels kids w0) := by
    have h1 := HT.out
    exact ⟨Nat.le_trans h1.hB hB0.size, h1.hn, h1.hn', h1.HN, h1.HN', h1.HS1, h1.HS2, h1.l hB0, h1.k hB0⟩
  refine (flagsSize_any HT0 h16).mono ?_
  rintro e w1 ⟨rfl, hb1⟩
  go_wp2_with fail
  go_ret
  exact ⟨rfl, hB0.trans (hb1.mono hB0.size)⟩
/-! ### where a case stands -/
set_option maxHeartbeats 1600000 in
theorem caseAt_any (t : Ty) {B : Nat} {cs : List Value} {w : World} (hp : t.parts ≤ 4194304) (hs : t.shapes = true) (hw : PD.wfL (Ty.pd t)) (hB : B ≤ w.heap.size) (h : RepC w B (Ty.pd t) cs) :
    Calls Try.prog 100 #[.agg cs.toArray] w fun e w' => e = .returned (.int .i64 (up 1 (Ty.mostL t.cases).2 : Nat)) ∧ Below w.heap.size w w' := by
  obtain ⟨kind, name, labels, kids⟩ := t
  obtain ⟨A, n, c, A', n', c', rfl, ht⟩ := tyIn hB hw h
  obtain ⟨hg, hgk⟩ := good_cases hp hs hw
  obtain ⟨m1, m2, _, _⟩ := mostL_le (Ty.cases ⟨kind, name, labels, kids⟩)
  obtain ⟨L, hL⟩ : ∃ L, L = (Ty.mostL (Ty.cases ⟨kind, name, labels, kids⟩)).2 := ⟨_, rfl⟩
  rw [← hL] at m1 m2 ⊢
  have hu := up_of_le (x := 1) m1 m2
  have HC := fun W => implUp_any 1 L W (by omega) m1 m2
  obtain ⟨U, hU⟩ : ∃ U : Nat, U = up 1 L := ⟨_, rfl⟩
  rw [← hU] at hu HC ⊢
  have HC1 := Lib.hid HC
  have HL := Lib.hid hL
  clear hU HC hL
  have HT := Lib.hid ht
  have HG := Lib.hid hg
  have HS := Lib.hid hs
  have HW := Lib.hid hw
  clear ht hg hs hw hgk hp h
  go_enter Try.func100, Try.ntmps100
  go_wp2_with fail
  obtain ⟨w0, hw0⟩ : ∃ W, W = w.alloc (.cells #[.int .i64 kind, .string name, .slice A' n' c', .slice A n c] 51) := ⟨_, rfl⟩
  rw [← hw0]
  have bA : Blk w0 w.heap.size 51 #[.int .i64 kind, .string name, .slice A' n' c', .slice A n c] := by rw [hw0]; exact Blk.new w _ _
  have hB0 : Below w.heap.size w w0 := by rw [hw0]; exact (Below.refl _ _).alloc (Nat.le_refl _) _
  clear hw0
  refine (implCases_any ⟨kind, name, labels, kids⟩ (HT.out.c (kind := 0) hB0).1 HW.out HS.out (HT.out.c hB0).2).mono ?_
  rintro e w1 ⟨u, rfl, hu, hb1⟩
  have HU1 := Lib.hid hu
  have hB1 := hB0.trans (hb1.mono hB0.size)
  clear hu
  go_wp2_with fail
  refine (greatestAlign_any (fun t _ => align_all t) HG.out (Nat.le_refl _) HU1.out).mono ?_
  rintro e w2 ⟨rfl, hb2⟩
  rw [← HL.out]
  go_wp2_with fail
  refine (HC1.out _).mono ?_
  rintro e w3 ⟨rfl, rfl⟩
  go_wp2_with fail
  go_ret
  exact ⟨rfl, hB1.trans (hb2.mono hB1.size)⟩
/-! ### parts one behind the other -/
set_option maxRecDepth 16000 in
set_option maxHeartbeats 3200000 in
theorem partsAt_any {ts : List Ty} (ih : ∀ t ∈ ts, SiC t) (hg : Good ts) {B : Nat} {v : Value} {w : World} (hB : B ≤ w.heap.size) (h : Rep w B (.row 4 (ts.flatMap Ty.pd)) v) :
    Calls Try.prog 108 #[v] w fun e w' => ∃ u, e = .returned (.tuple #[u, .int .i64 (Ty.endL 0 ts : Nat)]) ∧ Lv w' w.heap.size w'.heap.size (.row 1 ((natI (offsL 0 ts)).flatMap intC)) u ∧ Below w.heap.size w w' := by
  obtain ⟨i0, hi, hz0, hz1, hz2⟩ := info_parts info_i64
  obtain ⟨A, n, c, rfl, hnl, hm, hat⟩ := rep_row Ty.pd_length (by decide) h
  unfold maxLen at hm
  have hn4 : n ≤ 4194304 := by rw [hnl]; exact Nat.le_trans (partsL_len ts) hg.sz
  have HN := Lib.hid hnl
  have HI := Lib.hid ih
  have HG := Lib.hid hg
  clear hnl ih hg h
  go_enter Try.func108, Try.ntmps108
  go_wp2_with fail
  go_loopw [4, 5, 12] (fun out at_ i wr => ∃ (k E : Nat), k ≤ n ∧ at_ = .int .i64 E ∧ i = .int .i64 k ∧ E ≤ 100663296 ∧ Hid (E = Ty.endL 0 (ts.take k)) ∧ wr.ownsRow w.heap.size 2 1 out k (i64s (natI (offsL 0 (ts.take k)))) ∧ Below w.heap.size w wr) (fun _ _ i _ => n - (intOf i).toNat)
  case atStart => exact ⟨0, 0, Nat.zero_le _, rfl, rfl, by omega, Lib.hid (by rw [List.take_zero, Ty.endL]), World.ownsRow_made w #[] 0 (Nat.le_refl _) (by simp) (by simp), (Below.refl _ _).alloc (Nat.le_refl _) _⟩
  case round =>
    obtain ⟨k, E, hk, rfl, rfl, hE, HE, hown, hbr⟩ := hrel
    have hsz := hbr.size
    by_cases hlt : k < n
    · obtain ⟨g, off, rfl, hg2, hcell2⟩ := hat (by omega)
      obtain ⟨t2, hx2, hmem2⟩ := at_lt HN.out hlt
      obtain ⟨kind2, name2, labels2, kids2⟩ := t2
      have c_kind2 : wr.cell? ⟨g, off + k * 4, none⟩ = some (.int .i64 kind2) := cell_lit hbr (by omega) (hcell2 k 0 _ _ hx2 (by rw [Ty.pd_mk]; rfl))
      have c_name2 : wr.cell? ⟨g, off + k * 4 + 1, none⟩ = some (.string name2) := cell_lit hbr (by omega) (hcell2 k 1 _ _ hx2 (by rw [Ty.pd_mk]; rfl))
      obtain ⟨labelsV2, c_labels2, r_labels2⟩ : ∃ u, wr.cell? ⟨g, off + k * 4 + 2, none⟩ = some u ∧ Rep wr B (.row 1 (labels2.flatMap strC)) u := cell_rep hbr (by omega) hB (hcell2 k 2 _ _ hx2 (by rw [Ty.pd_mk]; rfl))
      have R_labels2 := Lib.hid r_labels2
      clear r_labels2
      obtain ⟨kidsV2, c_kids2, r_kids2⟩ : ∃ u, wr.cell? ⟨g, off + k * 4 + 3, none⟩ = some u ∧ Rep wr B (.row 4 (kids2.flatMap Ty.pd)) u := cell_rep hbr (by omega) hB (hcell2 k 3 _ _ hx2 (by rw [Ty.pd_mk]; rfl))
      have R_kids2 := Lib.hid r_kids2
      clear r_kids2
      obtain ⟨labelsA2, labelsN2, labelsC2, rfl⟩ := R_labels2.out.form
      obtain ⟨kidsA2, kidsN2, kidsC2, rfl⟩ := R_kids2.out.form
      have HX2 := Lib.hid hx2
      have HM2 := Lib.hid hmem2
      clear hx2 hmem2
      clear hcell2
      have h3 := endL_succ (e := 0) HX2.out
      have h4 := offsL_succ (e := 0) HX2.out
      have h5 := lay_le (Ty.mk kind2 name2 labels2 kids2)
      have h6 := endL_le ts (k + 1)
      have h7 := HG.out.sz
      obtain ⟨x, hx⟩ : ∃ x : Nat, x = (Ty.mk kind2 name2 labels2 kids2).lay.1 := ⟨_, rfl⟩
      obtain ⟨y, hy⟩ : ∃ y : Nat, y = (Ty.mk kind2 name2 labels2 kids2).lay.2 := ⟨_, rfl⟩
      rw [← hx, ← hy] at h5
      rw [← hx, ← hy, ← HE.out] at h3
      rw [← hy, ← HE.out] at h4
      have hy1 := h5.1
      have hy8 := h5.2.1
      have HCU := fun W => implUp_any E y W (by omega) hy1 hy8
      obtain ⟨U, hU⟩ : ∃ U : Nat, U = up E y := ⟨_, rfl⟩
      have hU2 := up_of_le (x := E) hy1 hy8
      rw [← hU] at h3 h4 hU2 HCU
      have hUx : U + x ≤ 100663296 := by omega
      have hU1 : U ≤ 100663296 := by omega
      have H3 := Lib.hid h3
      have H4 := Lib.hid h4
      have HX1 := Lib.hid hx
      have HY1 := Lib.hid hy
      have HCU1 := Lib.hid HCU
      clear h3 h4 h5 h6 h7 hU HCU hx hy
      go_wp2_with fail
      obtain ⟨w1, hw1⟩ : ∃ W, W = wr.alloc (.cells #[.int .i64 kind2, .string name2, .slice labelsA2 labelsN2 labelsC2, .slice kidsA2 kidsN2 kidsC2] 51) := ⟨_, rfl⟩
      rw [← hw1]
      have bE : Blk w1 wr.heap.size 51 #[.int .i64 kind2, .string name2, .slice labelsA2 labelsN2 labelsC2, .slice kidsA2 kidsN2 kidsC2] := by rw [hw1]; exact Blk.new wr _ _
      have hb1 : Below wr.heap.size wr w1 := by rw [hw1]; exact (Below.refl _ _).alloc (Nat.le_refl _) _
      clear hw1
      have hs1 := hb1.size
      have hcall := align_all _ B [.int .i64 kind2, .string name2, .slice labelsA2 labelsN2 labelsC2, .slice kidsA2 kidsN2 kidsC2] w1 (Nat.le_trans (parts_mem HM2.out) HG.out.sz) (HG.out.sh _ HM2.out) (HG.out.wf _ HM2.out) (by omega) (Ty.close_ (R_labels2.out.below (hb1.mono (by omega))) (R_kids2.out.below (hb1.mono (by omega))))
      rw [← HY1.out] at hcall
      refine hcall.mono ?_
      rintro e w2 ⟨rfl, hb2⟩
      clear hcall
      have hB2 := (hbr.trans (hb1.mono hbr.size)).trans (hb2.mono (by omega))
      have bE2 := bE.step hb2
      clear bE
      have hsz2 := hb2.size
      have hown2 := owns_step (owns_step hown hb1) hb2
      have hag : some wr.heap.size ≠ u4.ownBlock := fun e => by have := (hown.lt wr.heap.size e.symm).2; omega
      have hab : ∀ g, u4.ownBlock = some g → w.heap.size ≤ g := fun g e => (hown.lt g e).1
      clear hown
      have H5 := Lib.hid (fun (W : World) (hW : Below w.heap.size w2 W) => HI.out _ HM2.out B [.int .i64 kind2, .string name2, .slice labelsA2 labelsN2 labelsC2, .slice kidsA2 kidsN2 kidsC2] W (Nat.le_trans (parts_mem HM2.out) HG.out.sz) (HG.out.sh _ HM2.out) (HG.out.wf _ HM2.out) (by have := hW.size; omega) (Ty.close_ (((R_labels2.out.below (hb1.mono (by omega))).below (hb2.mono (by omega))).below (hW.mono hB)) (((R_kids2.out.below (hb1.mono (by omega))).below (hb2.mono (by omega))).below (hW.mono hB))))
      rw [← HX1.out] at H5
      go_wp2_with fail
      refine (HCU1.out _).mono ?_
      rintro e w3 ⟨rfl, rfl⟩
      have a2_0 : w2.cell? ⟨wr.heap.size, 0, none⟩ = some (.int .i64 kind2) := bE2.cell 0
      have a2_1 : w2.cell? ⟨wr.heap.size, 1, none⟩ = some (.string name2) := bE2.cell 1
      have a2_2 : w2.cell? ⟨wr.heap.size, 2, none⟩ = some (.slice labelsA2 labelsN2 labelsC2) := bE2.cell 2
      have a2_3 : w2.cell? ⟨wr.heap.size, 3, none⟩ = some (.slice kidsA2 kidsN2 kidsC2) := bE2.cell 3
      go_wp2_with fail
      have hlt2 : wr.heap.size < w2.heap.size := bE2.lt
      have hsum : IntKind.i64.wrap ((U : Int) + (x : Int)) = (U : Int) + (x : Int) := IntWalk.i64_in _ (by omega)
      go_region_held3 (fun w' => w'.cell? ⟨wr.heap.size, 0, none⟩ = some (.int .i64 kind2) ∧ w'.cell? ⟨wr.heap.size, 1, none⟩ = some (.string name2) ∧ w'.cell? ⟨wr.heap.size, 2, none⟩ = some (.slice labelsA2 labelsN2 labelsC2) ∧ w'.cell? ⟨wr.heap.size, 3, none⟩ = some (.slice kidsA2 kidsN2 kidsC2))
        (first | go_keep | exact ⟨q0, q1, q2, q3⟩ | exact ⟨(hb5.cell (p := ⟨wr.heap.size, 0, none⟩) hlt4).trans q0, (hb5.cell (p := ⟨wr.heap.size, 1, none⟩) hlt4).trans q1, (hb5.cell (p := ⟨wr.heap.size, 2, none⟩) hlt4).trans q2, (hb5.cell (p := ⟨wr.heap.size, 3, none⟩) hlt4).trans q3⟩)
        (first
          | (go_at_call 103; refine (H5.out _ hW4).mono ?_; rintro e w5 ⟨rfl, hb5⟩)
          | ((refine step_append_lies _ (by rfl) _ _ _ (by rfl) w.heap.size 2 i0 _ 1 8 Try.underlying59 hi hz0 hz1 hz2 rfl (by omega) _ _ _ (by rfl) ((hown2.drew).alloc _) ⟨w2.heap.size, 0, none⟩ 1 1 [.int .i64 U] (by rfl) (by rfl) (World.news_of_block (cs := #[.int .i64 U]) (t := 2) (fr := (0, 0)) (heap_alloc_new w2.drew _)) (one64' _) (by omega) (by simp only [maxLen]; omega) (by omega) (by simp; omega) (w2.heap.size + 1) (by simp) ?_; intro gg cap w4 hown4 hgrow hat4 hltg; have hW4 : Below w.heap.size w2 w4 := (((Below.refl w.heap.size w2).drew).alloc (by simp; omega) _).grown hgrow (by simp; omega) hab; have hlt4 : wr.heap.size < w4.heap.size := Nat.lt_of_lt_of_le hlt2 hW4.size; have q0 : w4.cell? ⟨wr.heap.size, 0, none⟩ = _ := hgrow.cell ((World.cell?_alloc_lt w2.drew _ ⟨wr.heap.size, 0, none⟩ hlt2).trans a2_0) hag; have q1 : w4.cell? ⟨wr.heap.size, 1, none⟩ = _ := hgrow.cell ((World.cell?_alloc_lt w2.drew _ ⟨wr.heap.size, 1, none⟩ hlt2).trans a2_1) hag; have q2 : w4.cell? ⟨wr.heap.size, 2, none⟩ = _ := hgrow.cell ((World.cell?_alloc_lt w2.drew _ ⟨wr.heap.size, 2, none⟩ hlt2).trans a2_2) hag; have q3 : w4.cell? ⟨wr.heap.size, 3, none⟩ = _ := hgrow.cell ((World.cell?_alloc_lt w2.drew _ ⟨wr.heap.size, 3, none⟩ hlt2).trans a2_3) hag)))
      have hB5 := (hB2.trans hW4).trans (hb5.mono (Nat.le_trans hB2.size hW4.size))
      have hown5 := owns_step hown4 hb5
      clear hsum
      go_wp2_with fail
      go_roundw
      case rel => exact ⟨k + 1, U + x, by omega, by go_num, by go_num, hUx, Lib.hid H3.out.symm, by rw [H4.out, natI_append, i64s_append]; exact hown5, hB5⟩
      case measure => simp [intOf]; omega
    · have hkn : k = n := by omega
      have HT : Hid (ts.take k = ts) := List.take_of_length_le (by have := HN.out; omega)
      subst hkn
      go_wp2_with fail
      go_ret2
      have hE2 := HE.out
      rw [HT.out] at hE2 hown
      rw [← hE2]
      exact ⟨_, rfl, lv_ints hown, hbr⟩
set_option maxHeartbeats 1600000 in
theorem totalSize_any {ts : List Ty} (ih : ∀ t ∈ ts, SiC t) (hg : Good ts) {B : Nat} {v : Value} {w : World} (hB : B ≤ w.heap.size) (h : Rep w B (.row 4 (ts.flatMap Ty.pd)) v) :
    Calls Try.prog 106 #[v] w fun e w' => e = .returned (.int .i64 (up (Ty.endL 0 ts) (Ty.mostL ts).2 : Nat)) ∧ Below w.heap.size w w' := by
  obtain ⟨A, n, c, rfl⟩ := h.form
  obtain ⟨m1, m2, _, m4⟩ := mostL_le ts
  have hE := m4 0
  have hz := hg.sz
  obtain ⟨L, hL⟩ : ∃ L, L = (Ty.mostL ts).2 := ⟨_, rfl⟩
  obtain ⟨E, hEE⟩ : ∃ E, E = Ty.endL 0 ts := ⟨_, rfl⟩
  rw [← hL] at m1 m2 ⊢
  rw [← hEE] at hE ⊢
  have hu := up_of_le (x := E) m1 m2
  have HC := fun W => implUp_any E L W (by omega) m1 m2
  obtain ⟨U, hU⟩ : ∃ U : Nat, U = up E L := ⟨_, rfl⟩
  rw [← hU] at hu HC ⊢
  have HC1 := Lib.hid HC
  have HL := Lib.hid hL
  have HE := Lib.hid hEE
  have HG := Lib.hid hg
  have HI := Lib.hid ih
  have HR := Lib.hid h
  clear hU HC hL hEE hg ih h m4
  go_enter Try.func106, Try.ntmps106
  go_wp2_with fail
  refine (partsAt_any HI.out HG.out hB HR.out).mono ?_
  rintro e w1 ⟨u, rfl, _, hb1⟩
  rw [← HE.out]
  go_wp2_with fail
  refine (greatestAlign_any (fun t _ => align_all t) HG.out (Nat.le_trans hB hb1.size) (HR.out.below (hb1.mono hB))).mono ?_
  rintro e w2 ⟨rfl, hb2⟩
  rw [← HL.out]
  go_wp2_with fail
  refine (HC1.out _).mono ?_
  rintro e w3 ⟨rfl, rfl⟩
  go_wp2_with fail
  go_ret
  exact ⟨rfl, hb1.trans (hb2.mono hb1.size)⟩
/-! ### sizes -/
set_option maxHeartbeats 1600000 in
theorem size_row {kind : Int} {name : ByteArray} {labels : List ByteArray} {kids : List Ty} {B n n' c c' : Nat} {A A' : Option Addr} {w : World} (HT : Hid (TyIn B n n' c c' A A' name labels kids w)) (hk : kind = 15 ∨ kind = 16) (HI : Hid (∀ t ∈ kids, SiC t)) (HG : Hid (Good kids)) :
    Calls Try.prog 103 #[.agg #[.int .i64 kind, .string name, .slice A' n' c', .slice A n c]] w fun e w' => e = .returned (.int .i64 ((Ty.mk kind name labels kids).lay.1 : Nat)) ∧ Below w.heap.size w w' := by
  rw [lay_row hk]
  rcases hk with rfl | rfl
  · go_enter Try.func103, Try.ntmps103
    go_wp2_with fail
    obtain ⟨w0, hw0⟩ : ∃ W, W = w.alloc (.cells #[.int .i64 15, .string name, .slice A' n' c', .slice A n c] 51) := ⟨_, rfl⟩
    rw [← hw0]
    have bA : Blk w0 w.heap.size 51 #[.int .i64 15, .string name, .slice A' n' c', .slice A n c] := by rw [hw0]; exact Blk.new w _ _
    have hB0 : Below w.heap.size w w0 := by rw [hw0]; exact (Below.refl _ _).alloc (Nat.le_refl _) _
    clear hw0
    refine (totalSize_any HI.out HG.out (HT.out.c (kind := 0) hB0).1 (HT.out.k hB0)).mono ?_
    rintro e w1 ⟨rfl, hb1⟩
    go_wp2_with fail
    go_ret
    exact ⟨rfl, hB0.trans (hb1.mono hB0.size)⟩
  · go_enter Try.func103, Try.ntmps103
    go_wp2_with fail
    obtain ⟨w0, hw0⟩ : ∃ W, W = w.alloc (.cells #[.int .i64 16, .string name, .slice A' n' c', .slice A n c] 51) := ⟨_, rfl⟩
    rw [← hw0]
    have bA : Blk w0 w.heap.size 51 #[.int .i64 16, .string name, .slice A' n' c', .slice A n c] := by rw [hw0]; exact Blk.new w _ _
    have hB0 : Below w.heap.size w w0 := by rw [hw0]; exact (Below.refl _ _).alloc (Nat.le_refl _) _
    clear hw0
    refine (totalSize_any HI.out HG.out (HT.out.c (kind := 0) hB0).1 (HT.out.k hB0)).mono ?_
    rintro e w1 ⟨rfl, hb1⟩
    go_wp2_with fail
    go_ret
    exact ⟨rfl, hB0.trans (hb1.mono hB0.size)⟩
set_option maxRecDepth 16000 in
set_option maxHeartbeats 3200000 in
theorem size_var {kind : Int} {name : ByteArray} {labels : List ByteArray} {kids : List Ty} {B n n' c c' : Nat} {A A' : Option Addr} {w : World} (HT : Hid (TyIn B n n' c c' A A' name labels kids w)) (hk : kind = 13 ∨ kind = 14 ∨ kind = 17) (HI : Hid (∀ t ∈ Ty.cases ⟨kind, name, labels, kids⟩, SiC t)) (HG : Hid (Good (Ty.cases ⟨kind, name, labels, kids⟩))) (HS : Hid ((Ty.mk kind name labels kids).shapes = true)) (HW : Hid (PD.wfL (Ty.pd ⟨kind, name, labels, kids⟩))) (HP : Hid ((Ty.mk kind name labels kids).parts ≤ 4194304)) :
    Calls Try.prog 103 #[.agg #[.int .i64 kind, .string name, .slice A' n' c', .slice A n c]] w fun e w' => e = .returned (.int .i64 ((Ty.mk kind name labels kids).lay.1 : Nat)) ∧ Below w.heap.size w w' := by
  have HLV := Lib.hid (congrArg Prod.snd (lay_var (name := name) (labels := labels) (kids := kids) hk))
  rw [lay_var hk]
  have HM := Lib.hid (mostL_cases (name := name) (labels := labels) (kids := kids) hk)
  obtain ⟨m1, m2, m3, _⟩ := mostL_le (Ty.cases ⟨kind, name, labels, kids⟩)
  have m4 := HG.out.sz
  rw [HM.out] at m1 m2 m3
  obtain ⟨S, hS⟩ : ∃ S, S = (Ty.mostL kids).1 := ⟨_, rfl⟩
  obtain ⟨L, hL⟩ : ∃ L, L = (Ty.mostL kids).2 := ⟨_, rfl⟩
  rw [← hL] at m1 m2
  rw [← hS] at m3
  have hHM := HM.out
  have HS1 := Lib.hid hS
  have HL1 := Lib.hid hL
  have HLL := HLV.out
  change (Ty.mk kind name labels kids).lay.2 = (Ty.mostL kids).2 at HLL
  rw [← hL] at HLL
  have HLY := Lib.hid HLL
  show Calls _ _ _ _ fun e w' => e = .returned (.int .i64 ((up (up 1 (Ty.mostL kids).2 + (Ty.mostL kids).1) (Ty.mostL kids).2 : Nat) : Int)) ∧ _
  rw [← hS, ← hL]
  have hS2 : S ≤ 100663296 := by omega
  have hU2 := up_of_le (x := 1) m1 m2
  obtain ⟨U, hU⟩ : ∃ U : Nat, U = up 1 L := ⟨_, rfl⟩
  have HUE : Hid (up 1 (Ty.mostL (Ty.cases ⟨kind, name, labels, kids⟩)).2 = U) := by show _ = _; rw [HM.out, ← hL, hU]
  rw [← hU] at hU2 ⊢
  have hV2 := up_of_le (x := U + S) m1 m2
  have HCV := fun W => implUp_any (U + S) L W (by omega) m1 m2
  obtain ⟨V, hV⟩ : ∃ V : Nat, V = up (U + S) L := ⟨_, rfl⟩
  rw [← hV] at hV2 HCV ⊢
  have HCV1 := Lib.hid HCV
  clear hS hL hU hV HCV m3 m4 HLL hHM HLV
  rcases hk with rfl | rfl | rfl
  · go_enter Try.func103, Try.ntmps103
    go_wp2_with fail
    obtain ⟨w0, hw0⟩ : ∃ W, W = w.alloc (.cells #[.int .i64 13, .string name, .slice A' n' c', .slice A n c] 51) := ⟨_, rfl⟩
    rw [← hw0]
    have bA : Blk w0 w.heap.size 51 #[.int .i64 13, .string name, .slice A' n' c', .slice A n c] := by rw [hw0]; exact Blk.new w _ _
    have hB0 : Below w.heap.size w w0 := by rw [hw0]; exact (Below.refl _ _).alloc (Nat.le_refl _) _
    clear hw0
    have a0_0 : w0.cell? ⟨w.heap.size, 0, none⟩ = some (.int .i64 13) := bA.cell 0
    have a0_1 : w0.cell? ⟨w.heap.size, 1, none⟩ = some (.string name) := bA.cell 1
    have a0_2 : w0.cell? ⟨w.heap.size, 2, none⟩ = some (.slice A' n' c') := bA.cell 2
    have a0_3 : w0.cell? ⟨w.heap.size, 3, none⟩ = some (.slice A n c) := bA.cell 3
    have hsum : IntKind.i64.wrap ((U : Int) + (S : Int)) = ((U + S : Nat) : Int) := by rw [IntWalk.i64_in _ (by omega)]; push_cast; rfl
    have hBc := hB0.drew
    have bA' : Blk w0.drew w.heap.size 51 #[.int .i64 13, .string name, .slice A' n' c', .slice A n c] := bA
    clear bA
    go_region_held3 (fun w' => w'.cell? ⟨w.heap.size, 0, none⟩ = some (.int .i64 13) ∧ w'.cell? ⟨w.heap.size, 1, none⟩ = some (.string name) ∧ w'.cell? ⟨w.heap.size, 2, none⟩ = some (.slice A' n' c') ∧ w'.cell? ⟨w.heap.size, 3, none⟩ = some (.slice A n c))
      (first | exact ⟨bA'.cell 0, bA'.cell 1, bA'.cell 2, bA'.cell 3⟩ | go_keep)
      (first
        | (go_at_call 100; refine (caseAt_any ⟨13, name, labels, kids⟩ HP.out HS.out HW.out (HT.out.c (kind := 0) hBc).1 (HT.out.c hBc).2).mono ?_; rw [HUE.out]; rintro e wq ⟨rfl, hbq⟩; replace hBc := hBc.trans (hbq.mono hBc.size); replace bA' := bA'.step hbq)
        | (go_at_call 94; refine (implCases_any ⟨13, name, labels, kids⟩ (HT.out.c (kind := 0) hBc).1 HW.out HS.out (HT.out.c hBc).2).mono ?_; rintro e wq ⟨v1, rfl, hv1, hbq⟩; replace hBc := hBc.trans (hbq.mono hBc.size); replace bA' := bA'.step hbq)
        | (go_at_call 148; refine (greatestSize_any HI.out HG.out (Nat.le_refl _) hv1).mono ?_; rw [HM.out, ← HS1.out]; rintro e wq ⟨rfl, hbq⟩; replace hBc := hBc.trans (hbq.mono hBc.size); replace bA' := bA'.step hbq)
        | (go_at_call 89; refine (align_all ⟨13, name, labels, kids⟩ B _ _ HP.out HS.out HW.out (HT.out.c (kind := 0) hBc).1 (HT.out.c hBc).2).mono ?_; rw [HLY.out]; rintro e wq ⟨rfl, hbq⟩; replace hBc := hBc.trans (hbq.mono hBc.size); replace bA' := bA'.step hbq)
        | (go_at_call 146; refine (HCV1.out _).mono ?_; rintro e wq ⟨rfl, rfl⟩))
    clear hsum
    go_wp2_with fail
    go_ret
    exact ⟨rfl, hBc⟩
  · go_enter Try.func103, Try.ntmps103
    go_wp2_with fail
    obtain ⟨w0, hw0⟩ : ∃ W, W = w.alloc (.cells #[.int .i64 14, .string name, .slice A' n' c', .slice A n c] 51) := ⟨_, rfl⟩
    rw [← hw0]
    have bA : Blk w0 w.heap.size 51 #[.int .i64 14, .string name, .slice A' n' c', .slice A n c] := by rw [hw0]; exact Blk.new w _ _
    have hB0 : Below w.heap.size w w0 := by rw [hw0]; exact (Below.refl _ _).alloc (Nat.le_refl _) _
    clear hw0
    have a0_0 : w0.cell? ⟨w.heap.size, 0, none⟩ = some (.int .i64 14) := bA.cell 0
    have a0_1 : w0.cell? ⟨w.heap.size, 1, none⟩ = some (.string name) := bA.cell 1
    have a0_2 : w0.cell? ⟨w.heap.size, 2, none⟩ = some (.slice A' n' c') := bA.cell 2
    have a0_3 : w0.cell? ⟨w.heap.size, 3, none⟩ = some (.slice A n c) := bA.cell 3
    have hsum : IntKind.i64.wrap ((U : Int) + (S : Int)) = ((U + S : Nat) : Int) := by rw [IntWalk.i64_in _ (by omega)]; push_cast; rfl
    have hBc := hB0.drew
    have bA' : Blk w0.drew w.heap.size 51 #[.int .i64 14, .string name, .slice A' n' c', .slice A n c] := bA
    clear bA
    go_region_held3 (fun w' => w'.cell? ⟨w.heap.size, 0, none⟩ = some (.int .i64 14) ∧ w'.cell? ⟨w.heap.size, 1, none⟩ = some (.string name) ∧ w'.cell? ⟨w.heap.size, 2, none⟩ = some (.slice A' n' c') ∧ w'.cell? ⟨w.heap.size, 3, none⟩ = some (.slice A n c))
      (first | exact ⟨bA'.cell 0, bA'.cell 1, bA'.cell 2, bA'.cell 3⟩ | go_keep)
      (first
        | (go_at_call 100; refine (caseAt_any ⟨14, name, labels, kids⟩ HP.out HS.out HW.out (HT.out.c (kind := 0) hBc).1 (HT.out.c hBc).2).mono ?_; rw [HUE.out]; rintro e wq ⟨rfl, hbq⟩; replace hBc := hBc.trans (hbq.mono hBc.size); replace bA' := bA'.step hbq)
        | (go_at_call 94; refine (implCases_any ⟨14, name, labels, kids⟩ (HT.out.c (kind := 0) hBc).1 HW.out HS.out (HT.out.c hBc).2).mono ?_; rintro e wq ⟨v1, rfl, hv1, hbq⟩; replace hBc := hBc.trans (hbq.mono hBc.size); replace bA' := bA'.step hbq)
        | (go_at_call 148; refine (greatestSize_any HI.out HG.out (Nat.le_refl _) hv1).mono ?_; rw [HM.out, ← HS1.out]; rintro e wq ⟨rfl, hbq⟩; replace hBc := hBc.trans (hbq.mono hBc.size); replace bA' := bA'.step hbq)
        | (go_at_call 89; refine (align_all ⟨14, name, labels, kids⟩ B _ _ HP.out HS.out HW.out (HT.out.c (kind := 0) hBc).1 (HT.out.c hBc).2).mono ?_; rw [HLY.out]; rintro e wq ⟨rfl, hbq⟩; replace hBc := hBc.trans (hbq.mono hBc.size); replace bA' := bA'.step hbq)
        | (go_at_call 146; refine (HCV1.out _).mono ?_; rintro e wq ⟨rfl, rfl⟩))
    clear hsum
    go_wp2_with fail
    go_ret
    exact ⟨rfl, hBc⟩
  · go_enter Try.func103, Try.ntmps103
    go_wp2_with fail
    obtain ⟨w0, hw0⟩ : ∃ W, W = w.alloc (.cells #[.int .i64 17, .string name, .slice A' n' c', .slice A n c] 51) := ⟨_, rfl⟩
    rw [← hw0]
    have bA : Blk w0 w.heap.size 51 #[.int .i64 17, .string name, .slice A' n' c', .slice A n c] := by rw [hw0]; exact Blk.new w _ _
    have hB0 : Below w.heap.size w w0 := by rw [hw0]; exact (Below.refl _ _).alloc (Nat.le_refl _) _
    clear hw0
    have a0_0 : w0.cell? ⟨w.heap.size, 0, none⟩ = some (.int .i64 17) := bA.cell 0
    have a0_1 : w0.cell? ⟨w.heap.size, 1, none⟩ = some (.string name) := bA.cell 1
    have a0_2 : w0.cell? ⟨w.heap.size, 2, none⟩ = some (.slice A' n' c') := bA.cell 2
    have a0_3 : w0.cell? ⟨w.heap.size, 3, none⟩ = some (.slice A n c) := bA.cell 3
    have hsum : IntKind.i64.wrap ((U : Int) + (S : Int)) = ((U + S : Nat) : Int) := by rw [IntWalk.i64_in _ (by omega)]; push_cast; rfl
    have hBc := hB0.drew
    have bA' : Blk w0.drew w.heap.size 51 #[.int .i64 17, .string name, .slice A' n' c', .slice A n c] := bA
    clear bA
    go_region_held3 (fun w' => w'.cell? ⟨w.heap.size, 0, none⟩ = some (.int .i64 17) ∧ w'.cell? ⟨w.heap.size, 1, none⟩ = some (.string name) ∧ w'.cell? ⟨w.heap.size, 2, none⟩ = some (.slice A' n' c') ∧ w'.cell? ⟨w.heap.size, 3, none⟩ = some (.slice A n c))
      (first | exact ⟨bA'.cell 0, bA'.cell 1, bA'.cell 2, bA'.cell 3⟩ | go_keep)
      (first
        | (go_at_call 100; refine (caseAt_any ⟨17, name, labels, kids⟩ HP.out HS.out HW.out (HT.out.c (kind := 0) hBc).1 (HT.out.c hBc).2).mono ?_; rw [HUE.out]; rintro e wq ⟨rfl, hbq⟩; replace hBc := hBc.trans (hbq.mono hBc.size); replace bA' := bA'.step hbq)
        | (go_at_call 94; refine (implCases_any ⟨17, name, labels, kids⟩ (HT.out.c (kind := 0) hBc).1 HW.out HS.out (HT.out.c hBc).2).mono ?_; rintro e wq ⟨v1, rfl, hv1, hbq⟩; replace hBc := hBc.trans (hbq.mono hBc.size); replace bA' := bA'.step hbq)
        | (go_at_call 148; refine (greatestSize_any HI.out HG.out (Nat.le_refl _) hv1).mono ?_; rw [HM.out, ← HS1.out]; rintro e wq ⟨rfl, hbq⟩; replace hBc := hBc.trans (hbq.mono hBc.size); replace bA' := bA'.step hbq)
        | (go_at_call 89; refine (align_all ⟨17, name, labels, kids⟩ B _ _ HP.out HS.out HW.out (HT.out.c (kind := 0) hBc).1 (HT.out.c hBc).2).mono ?_; rw [HLY.out]; rintro e wq ⟨rfl, hbq⟩; replace hBc := hBc.trans (hbq.mono hBc.size); replace bA' := bA'.step hbq)
        | (go_at_call 146; refine (HCV1.out _).mono ?_; rintro e wq ⟨rfl, rfl⟩))
    clear hsum
    go_wp2_with fail
    go_ret
    exact ⟨rfl, hBc⟩
theorem size_unit : SiC unitT := by
  intro B cs w hp hs hw hB h
  rw [unitT] at hw h
  obtain ⟨A, n, c, A', n', c', rfl, ht⟩ := tyIn hB hw h
  exact size_leaf (Lib.hid ht) (.inl rfl)
theorem size_all : ∀ t : Ty, SiC t := Ty.rec_kids fun kind name labels kids ih => by
  intro B cs w hp hs hw hB h
  obtain ⟨A, n, c, A', n', c', rfl, ht⟩ := tyIn hB hw h
  obtain ⟨hg, hgk⟩ := good_cases hp hs hw
  obtain ⟨k1, k2⟩ := shapes_kind hs
  rcases lay_kinds k1 k2 with h | h | h | h | h | h | h | ⟨z, h⟩
  · exact size_leaf (Lib.hid ht) (by omega)
  · exact size_leaf (Lib.hid ht) (by omega)
  · exact size_leaf (Lib.hid ht) (by omega)
  · exact size_leaf (Lib.hid ht) (by omega)
  · exact size_flags (Lib.hid ht) h hs
  · exact size_row (Lib.hid ht) h (Lib.hid ih) (Lib.hid hgk)
  · refine size_var (Lib.hid ht) h (Lib.hid fun t hm => ?_) (Lib.hid hg) (Lib.hid hs) (Lib.hid hw) (Lib.hid hp)
    rw [Ty.cases] at hm
    split at hm
    · rcases List.mem_cons.1 hm with rfl | hm
      · exact size_unit
      · exact ih t hm
    split at hm
    · exact ih t hm
    · exact absurd hm List.not_mem_nil
  · exact size_num (Lib.hid ht) h
end Go.Proofs.Ytmmeaakhikcigaa

