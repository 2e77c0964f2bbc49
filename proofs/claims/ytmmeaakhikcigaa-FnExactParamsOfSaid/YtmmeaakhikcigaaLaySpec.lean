/-
  spec.l09Most, spec.l09Parts, spec.l09Shape, spec.l09Case.
-/
import Derived.Test.YtmmeaakhikcigaaLayUp
import Derived.Test.YtmmeaakhikcigaaRowI
namespace Go.Proofs.Ytmmeaakhikcigaa
open Go.RowKit
set_option linter.unusedVariables false
set_option linter.unusedSimpArgs false
set_option linter.unnecessarySimpa false

/-- right types, not too many parts -/
structure Good (ts : List Ty) : Prop where
  sz : Ty.partsL ts ≤ 4194304
  sh : ∀ t ∈ ts, t.shapes = true
  wf : ∀ t ∈ ts, PD.wfL (Ty.pd t)
def ShC (t : Ty) : Prop := ∀ (B : Nat) (cs : List Value) (w : World), t.parts ≤ 4194304 → t.shapes = true → PD.wfL (Ty.pd t) → B ≤ w.heap.size → RepC w B (Ty.pd t) cs →
  Calls Try.prog 86 #[.agg cs.toArray] w fun e w' => e = .returned (.tuple #[.int .i64 (t.lay.1 : Nat), .int .i64 (t.lay.2 : Nat)]) ∧ Below w.heap.size w w'
set_option maxHeartbeats 1600000 in
theorem specMost_any {ts : List Ty} (ih : ∀ t ∈ ts, ShC t) (hg : Good ts) {B : Nat} {v : Value} {w : World} (hB : B ≤ w.heap.size) (h : Rep w B (.row 4 (ts.flatMap Ty.pd)) v) :
    Calls Try.prog 137 #[v] w fun e w' => e = .returned (.tuple #[.int .i64 ((Ty.mostL ts).1 : Nat), .int .i64 ((Ty.mostL ts).2 : Nat)]) ∧ Below w.heap.size w w' := by
  obtain ⟨A, n, c, rfl, hnl, hm, hat⟩ := rep_row Ty.pd_length (by decide) h
  unfold maxLen at hm
  have HN := Lib.hid hnl
  have HI := Lib.hid ih
  have HG := Lib.hid hg
  clear hnl ih hg h
  go_enter Try.func137, Try.ntmps137
  go_wp2_with fail
  go_loopw [4, 5, 6] (fun sz al i wr => ∃ (k S L : Nat), k ≤ n ∧ sz = .int .i64 S ∧ al = .int .i64 L ∧ i = .int .i64 k ∧ Hid (S = (Ty.mostL (ts.take k)).1) ∧ Hid (L = (Ty.mostL (ts.take k)).2) ∧ Below w.heap.size w wr) (fun _ _ i _ => n - (intOf i).toNat)
  case atStart => exact ⟨0, 0, 1, Nat.zero_le _, rfl, rfl, rfl, Lib.hid (by rw [List.take_zero, Ty.mostL]), Lib.hid (by rw [List.take_zero, Ty.mostL]), Below.refl _ _⟩
  case round =>
    obtain ⟨k, S, L, hk, rfl, rfl, rfl, HS, HL, hbr⟩ := hrel
    have hsz := hbr.size
    by_cases hlt : k < n
    · obtain ⟨g, off, rfl, hg2, hcell2⟩ := hat (by omega)
      obtain ⟨t2, hx2, hmem2⟩ := at_lt HN.out hlt
      obtain ⟨kind2, name2, labels2, kids2⟩ := t2
      have c_kind2 : wr.cell? ⟨g, off + k * 4, none⟩ = some (.int .i64 kind2) := cell_lit hbr (by omega) (hcell2 k 0 _ _ hx2 (by rw [Ty.pd_mk]; rfl))
      have c_name2 : wr.cell? ⟨g, off + k * 4 + 1, none⟩ = some (.string name2) := cell_lit hbr (by omega) (hcell2 k 1 _ _ hx2 (by rw [Ty.pd_mk]; rfl))
      obtain ⟨labelsV2, c_labels2, r_labels2⟩ : ∃ u, wr.cell? ⟨g, off + k * 4 + 2, none⟩ = some u ∧ Rep wr B (.row 1 (labels2.flatMap strC)) u := cell_rep hbr (by omega) hB (hcell2 k 2 _ _ hx2 (by rw [Ty.pd_mk]; rfl))
      have R_labels2 := Lib.hid r_labels2
      clear r_labels2
      obtain ⟨kidsV2, c_kids2, r_kids2⟩ : ∃ u, wr.cell? ⟨g, off + k * 4 + 3, none⟩ = some u ∧ Rep wr B (.row 4 (kids2.flatMap Ty.pd)) u := cell_rep hbr (by omega) hB (hcell2 k 3 _ _ hx2 (by rw [Ty.pd_mk]; rfl))
      have R_kids2 := Lib.hid r_kids2
      clear r_kids2
      have HX2 := Lib.hid hx2
      have HM2 := Lib.hid hmem2
      clear hx2 hmem2
      clear hcell2
      have hcall := HI.out _ HM2.out B [.int .i64 kind2, .string name2, labelsV2, kidsV2] wr (Nat.le_trans (parts_mem HM2.out) HG.out.sz) (HG.out.sh _ HM2.out) (HG.out.wf _ HM2.out) (Nat.le_trans hB hbr.size) (Ty.close_ R_labels2.out R_kids2.out)
      have h1 := most1_succ HX2.out
      have h2 := most2_succ HX2.out
      obtain ⟨x, hx⟩ : ∃ x : Nat, x = (Ty.mk kind2 name2 labels2 kids2).lay.1 := ⟨_, rfl⟩
      obtain ⟨y, hy⟩ : ∃ y : Nat, y = (Ty.mk kind2 name2 labels2 kids2).lay.2 := ⟨_, rfl⟩
      rw [← hx, ← hy] at hcall
      rw [← hx, ← HS.out] at h1
      rw [← hy, ← HL.out] at h2
      have H1 := Lib.hid h1
      have H2 := Lib.hid h2
      have HC := Lib.hid hcall
      clear hcall h1 h2 hx hy
      go_wp2_with fail
      refine HC.out.mono ?_
      rintro e w1 ⟨rfl, hb1⟩
      have hB1 := hbr.trans (hb1.mono hbr.size)
      go_wp2_with fail
      refine (l00Max_any _ _ _).mono ?_
      rintro e w2 ⟨rfl, rfl⟩
      go_wp2_with fail
      refine (l00Max_any _ _ _).mono ?_
      rintro e w2 ⟨rfl, rfl⟩
      go_wp2_with fail
      go_roundw
      case rel => exact ⟨k + 1, max S x, max L y, by omega, by go_num, by go_num, by go_num, Lib.hid H1.out.symm, Lib.hid H2.out.symm, hB1⟩
      case measure => simp [intOf]; omega
    · have hkn : k = n := by omega
      have HT : Hid (ts.take k = ts) := List.take_of_length_le (by have := HN.out; omega)
      subst hkn
      go_wp2_with fail
      go_ret2
      exact ⟨ret_ii (by rw [HS.out, HT.out]) (by rw [HL.out, HT.out]), hbr⟩
theorem one64' (x : Int) : ∀ u ∈ [Value.int .i64 x], u.oneCell' = true := by
  intro u hu
  rw [List.mem_singleton.1 hu]
  rfl
set_option maxHeartbeats 1600000 in
theorem specPartsAt_any {ts : List Ty} (ih : ∀ t ∈ ts, ShC t) (hg : Good ts) {B : Nat} {v : Value} {w : World} (hB : B ≤ w.heap.size) (h : Rep w B (.row 4 (ts.flatMap Ty.pd)) v) :
    Calls Try.prog 101 #[v] w fun e w' => ∃ u, e = .returned (.tuple #[u, .int .i64 (up (Ty.endL 0 ts) (Ty.mostL ts).2 : Nat), .int .i64 ((Ty.mostL ts).2 : Nat)]) ∧ Lv w' w.heap.size w'.heap.size (.row 1 ((natI (offsL 0 ts)).flatMap intC)) u ∧ Below w.heap.size w w' := by
  obtain ⟨i0, hi, hz0, hz1, hz2⟩ := info_parts info_i64
  obtain ⟨A, n, c, rfl, hnl, hm, hat⟩ := rep_row Ty.pd_length (by decide) h
  unfold maxLen at hm
  have hn4 : n ≤ 4194304 := by rw [hnl]; exact Nat.le_trans (partsL_len ts) hg.sz
  have HN := Lib.hid hnl
  have HI := Lib.hid ih
  have HG := Lib.hid hg
  clear hnl ih hg h
  go_enter Try.func101, Try.ntmps101
  go_wp2_with fail
  go_loopw [5, 6, 7, 8] (fun at_ al out i wr => ∃ (k E L : Nat), k ≤ n ∧ at_ = .int .i64 E ∧ al = .int .i64 L ∧ i = .int .i64 k ∧ E ≤ 100663296 ∧ 1 ≤ L ∧ L ≤ 8 ∧ Hid (E = Ty.endL 0 (ts.take k)) ∧ Hid (L = (Ty.mostL (ts.take k)).2) ∧ wr.ownsRow w.heap.size 2 1 out k (i64s (natI (offsL 0 (ts.take k)))) ∧ Below w.heap.size w wr) (fun _ _ _ i _ => n - (intOf i).toNat)
  case atStart => exact ⟨0, 0, 1, Nat.zero_le _, rfl, rfl, rfl, by omega, by omega, by omega, Lib.hid (by rw [List.take_zero, Ty.endL]), Lib.hid (by rw [List.take_zero, Ty.mostL]), World.ownsRow_made w #[] 0 (Nat.le_refl _) (by simp) (by simp), (Below.refl _ _).alloc (Nat.le_refl _) _⟩
  case round =>
    obtain ⟨k, E, L, hk, rfl, rfl, rfl, hE, hL1, hL8, HE, HL, hown, hbr⟩ := hrel
    have hsz := hbr.size
    by_cases hlt : k < n
    · obtain ⟨g, off, rfl, hg2, hcell2⟩ := hat (by omega)
      obtain ⟨t2, hx2, hmem2⟩ := at_lt HN.out hlt
      obtain ⟨kind2, name2, labels2, kids2⟩ := t2
      have c_kind2 : wr.cell? ⟨g, off + k * 4, none⟩ = some (.int .i64 kind2) := cell_lit hbr (by omega) (hcell2 k 0 _ _ hx2 (by rw [Ty.pd_mk]; rfl))
      have c_name2 : wr.cell? ⟨g, off + k * 4 + 1, none⟩ = some (.string name2) := cell_lit hbr (by omega) (hcell2 k 1 _ _ hx2 (by rw [Ty.pd_mk]; rfl))
      obtain ⟨labelsV2, c_labels2, r_labels2⟩ : ∃ u, wr.cell? ⟨g, off + k * 4 + 2, none⟩ = some u ∧ Rep wr B (.row 1 (labels2.flatMap strC)) u := cell_rep hbr (by omega) hB (hcell2 k 2 _ _ hx2 (by rw [Ty.pd_mk]; rfl))
      have R_labels2 := Lib.hid r_labels2
      clear r_labels2
      obtain ⟨kidsV2, c_kids2, r_kids2⟩ : ∃ u, wr.cell? ⟨g, off + k * 4 + 3, none⟩ = some u ∧ Rep wr B (.row 4 (kids2.flatMap Ty.pd)) u := cell_rep hbr (by omega) hB (hcell2 k 3 _ _ hx2 (by rw [Ty.pd_mk]; rfl))
      have R_kids2 := Lib.hid r_kids2
      clear r_kids2
      have HX2 := Lib.hid hx2
      have HM2 := Lib.hid hmem2
      clear hx2 hmem2
      clear hcell2
      have hcall := HI.out _ HM2.out B [.int .i64 kind2, .string name2, labelsV2, kidsV2] wr (Nat.le_trans (parts_mem HM2.out) HG.out.sz) (HG.out.sh _ HM2.out) (HG.out.wf _ HM2.out) (Nat.le_trans hB hbr.size) (Ty.close_ R_labels2.out R_kids2.out)
      have h2 := most2_succ HX2.out
      have h3 := endL_succ (e := 0) HX2.out
      have h4 := offsL_succ (e := 0) HX2.out
      have h5 := lay_le (Ty.mk kind2 name2 labels2 kids2)
      have h6 := endL_le ts (k + 1)
      have h7 := HG.out.sz
      obtain ⟨x, hx⟩ : ∃ x : Nat, x = (Ty.mk kind2 name2 labels2 kids2).lay.1 := ⟨_, rfl⟩
      obtain ⟨y, hy⟩ : ∃ y : Nat, y = (Ty.mk kind2 name2 labels2 kids2).lay.2 := ⟨_, rfl⟩
      rw [← hx, ← hy] at hcall h5
      rw [← hy, ← HL.out] at h2
      rw [← hx, ← hy, ← HE.out] at h3
      rw [← hy, ← HE.out] at h4
      have hy1 := h5.1
      have hy8 := h5.2.1
      obtain ⟨U, hU⟩ : ∃ U : Nat, U = up E y := ⟨_, rfl⟩
      have hU2 := up_of_le (x := E) hy1 hy8
      rw [← hU] at h3 h4 hU2
      have hUx : U + x ≤ 100663296 := by omega
      have HU := Lib.hid hU
      have H2 := Lib.hid h2
      have H3 := Lib.hid h3
      have H4 := Lib.hid h4
      have HC := Lib.hid hcall
      clear hcall h2 h3 h4 h5 h6 h7 hx hy hU
      go_wp2_with fail
      refine HC.out.mono ?_
      rintro e w1 ⟨rfl, hb1⟩
      have hB1 := hbr.trans (hb1.mono hbr.size)
      replace hown := owns_step hown hb1
      have hs1 := hown.alloc (.cells #[Value.int .i64 U] 2)
      have hc1 := cell_one_new w1 (Value.int .i64 U) 2
      have hbr1 : Below w.heap.size w (w1.alloc (.cells #[Value.int .i64 U] 2)) := hB1.alloc hB1.size _
      have hsz1 := hB1.size
      go_wp2_with fail
      refine (specUp_any E y _ (by omega) hy1 hy8).mono ?_
      rintro e w2 ⟨rfl, rfl⟩
      rw [← HU.out]
      go_wp2_with (at_builtin; refine wpList_append_own _ rfl _ _ 59 rfl w.heap.size 2 i0 (.int .i64 0) 1 8 Try.underlying59 hi hz0 hz1 hz2 rfl (by decide) _ _ _ rfl hs1 ⟨w1.heap.size, 0, none⟩ 1 1 [_] rfl rfl hc1 (one64' _) (by simp only [maxLen]; omega) (by omega) (by simp; omega) ?_; intro v' w3 hown' hgrow _)
      have hbr3 := hbr1.grown hgrow (by simp; omega) (fun g hg => (hs1.lt g hg).1)
      refine (l00Max_any _ _ _).mono ?_
      rintro e w4 ⟨rfl, rfl⟩
      go_wp2_with fail
      go_roundw
      case rel => exact ⟨k + 1, U + x, max L y, by omega, by go_num, by go_num, by go_num, hUx, by omega, by omega, Lib.hid H3.out.symm, Lib.hid H2.out.symm, by rw [H4.out, natI_append, i64s_append]; exact hown', hbr3⟩
      case measure => simp [intOf]; omega
    · have hkn : k = n := by omega
      have HT : Hid (ts.take k = ts) := List.take_of_length_le (by have := HN.out; omega)
      subst hkn
      go_wp2_with fail
      refine (specUp_any E L _ (by omega) hL1 hL8).mono ?_
      rintro e w1 ⟨rfl, rfl⟩
      go_wp2_with fail
      go_ret3
      have hE2 := HE.out
      have hL2 := HL.out
      rw [HT.out] at hE2 hL2 hown
      rw [← hE2, ← hL2]
      refine ⟨_, rfl, ?_, hbr⟩
      exact lv_ints hown

/-! ### one type -/
theorem good_cases {kind : Int} {name : ByteArray} {labels : List ByteArray} {kids : List Ty} (hp : (Ty.mk kind name labels kids).parts ≤ 4194304) (hs : (Ty.mk kind name labels kids).shapes = true) (hw : PD.wfL (Ty.pd ⟨kind, name, labels, kids⟩)) :
    Good (Ty.cases ⟨kind, name, labels, kids⟩) ∧ Good kids := by
  rw [Ty.parts] at hp
  have hk := (tyWf hw).2.2
  refine ⟨⟨Nat.le_trans cases_parts (by omega), shapes_cases hs, fun t ht => ?_⟩, ⟨by omega, shapes_kids hs, hk⟩⟩
  rw [Ty.cases] at ht
  split at ht
  · rcases List.mem_cons.1 ht with rfl | ht
    · rw [pd_unit]
      simp only [PD.wfL, PD.wf]
      exact ⟨by decide, by decide, trivial, trivial, trivial⟩
    · exact hk t ht
  split at ht
  · exact hk t ht
  · exact absurd ht List.not_mem_nil
theorem lay_num {kind : Int} {z : Nat} (hz : NumK kind z) (name : ByteArray) (labels : List ByteArray) (kids : List Ty) : (Ty.mk kind name labels kids).lay = (z, z) := by
  rw [Ty.lay, lay1, hz.sz, if_pos hz.hz]
set_option maxHeartbeats 1600000 in
theorem specLay_leaf {kind : Int} {name : ByteArray} {labels : List ByteArray} {kids : List Ty} {B n n' c c' : Nat} {A A' : Option Addr} {w : World} (HT : Hid (TyIn B n n' c c' A A' name labels kids w)) (hk : kind = 1 ∨ kind = 11 ∨ kind = 12 ∨ kind = 18 ∨ kind = 19) :
    Calls Try.prog 86 #[.agg #[.int .i64 kind, .string name, .slice A' n' c', .slice A n c]] w fun e w' => e = .returned (.tuple #[.int .i64 ((Ty.mk kind name labels kids).lay.1 : Nat), .int .i64 ((Ty.mk kind name labels kids).lay.2 : Nat)]) ∧ Below w.heap.size w w' := by
  have hn' := HT.out.hn'
  rcases hk with rfl | rfl | rfl | rfl | rfl
  case' inr.inr.inr.inr =>
    by_cases hl : 8 < n'
    · have HF : Hid ((Ty.mk 19 name labels kids).lay = (2, 2)) := by
        show _ = _
        rw [Ty.lay, lay1, ← HT.out.HN', if_neg (by decide), if_neg (by decide), if_neg (by decide), if_pos rfl, if_pos hl]
      rw [HF.out]
      go_enter Try.func86, Try.ntmps86
      go_wp2_with fail
      obtain ⟨w0, hw0⟩ : ∃ W, W = w.alloc (.cells #[.int .i64 19, .string name, .slice A' n' c', .slice A n c] 51) := ⟨_, rfl⟩
      rw [← hw0]
      have bA : Blk w0 w.heap.size 51 #[.int .i64 19, .string name, .slice A' n' c', .slice A n c] := by rw [hw0]; exact Blk.new w _ _
      have hB0 : Below w.heap.size w w0 := by rw [hw0]; exact (Below.refl _ _).alloc (Nat.le_refl _) _
      clear hw0
      refine (specNumSize_any _ _).mono ?_
      rintro e w1 ⟨rfl, rfl⟩
      rw [show numSz 19 = 0 from rfl]
      have a0_0 : w0.cell? ⟨w.heap.size, 0, none⟩ = some (.int .i64 19) := bA.cell 0
      have a0_2 : w0.cell? ⟨w.heap.size, 2, none⟩ = some (.slice A' n' c') := bA.cell 2
      go_wp2_with fail
      go_ret2
      exact ⟨rfl, hB0⟩
    have HF : Hid ((Ty.mk 19 name labels kids).lay = (1, 1)) := by
      show _ = _
      rw [Ty.lay, lay1, ← HT.out.HN', if_neg (by decide), if_neg (by decide), if_neg (by decide), if_pos rfl, if_neg hl]
    have hl2 : n' ≤ 8 := by omega
  case' inl => have HF : Hid ((Ty.mk 1 name labels kids).lay = (0, 1)) := by show _ = _; rw [Ty.lay]; rfl
  case' inr.inl => have HF : Hid ((Ty.mk 11 name labels kids).lay = (8, 4)) := by show _ = _; rw [Ty.lay]; rfl
  case' inr.inr.inl => have HF : Hid ((Ty.mk 12 name labels kids).lay = (8, 4)) := by show _ = _; rw [Ty.lay]; rfl
  case' inr.inr.inr.inl => have HF : Hid ((Ty.mk 18 name labels kids).lay = (1, 1)) := by show _ = _; rw [Ty.lay]; rfl
  case inl =>
    rw [HF.out]
    go_enter Try.func86, Try.ntmps86
    go_wp2_with fail
    obtain ⟨w0, hw0⟩ : ∃ W, W = w.alloc (.cells #[.int .i64 1, .string name, .slice A' n' c', .slice A n c] 51) := ⟨_, rfl⟩
    rw [← hw0]
    have bA : Blk w0 w.heap.size 51 #[.int .i64 1, .string name, .slice A' n' c', .slice A n c] := by rw [hw0]; exact Blk.new w _ _
    have hB0 : Below w.heap.size w w0 := by rw [hw0]; exact (Below.refl _ _).alloc (Nat.le_refl _) _
    clear hw0
    refine (specNumSize_any _ _).mono ?_
    rintro e w1 ⟨rfl, rfl⟩
    rw [show numSz 1 = 0 from rfl]
    have a0_0 : w0.cell? ⟨w.heap.size, 0, none⟩ = some (.int .i64 1) := bA.cell 0
    have a0_2 : w0.cell? ⟨w.heap.size, 2, none⟩ = some (.slice A' n' c') := bA.cell 2
    go_wp2_with fail
    go_ret2
    exact ⟨rfl, hB0⟩
  case inr.inl =>
    rw [HF.out]
    go_enter Try.func86, Try.ntmps86
    go_wp2_with fail
    obtain ⟨w0, hw0⟩ : ∃ W, W = w.alloc (.cells #[.int .i64 11, .string name, .slice A' n' c', .slice A n c] 51) := ⟨_, rfl⟩
    rw [← hw0]
    have bA : Blk w0 w.heap.size 51 #[.int .i64 11, .string name, .slice A' n' c', .slice A n c] := by rw [hw0]; exact Blk.new w _ _
    have hB0 : Below w.heap.size w w0 := by rw [hw0]; exact (Below.refl _ _).alloc (Nat.le_refl _) _
    clear hw0
    refine (specNumSize_any _ _).mono ?_
    rintro e w1 ⟨rfl, rfl⟩
    rw [show numSz 11 = 0 from rfl]
    have a0_0 : w0.cell? ⟨w.heap.size, 0, none⟩ = some (.int .i64 11) := bA.cell 0
    have a0_2 : w0.cell? ⟨w.heap.size, 2, none⟩ = some (.slice A' n' c') := bA.cell 2
    go_wp2_with fail
    go_ret2
    exact ⟨rfl, hB0⟩
  case inr.inr.inl =>
    rw [HF.out]
    go_enter Try.func86, Try.ntmps86
    go_wp2_with fail
    obtain ⟨w0, hw0⟩ : ∃ W, W = w.alloc (.cells #[.int .i64 12, .string name, .slice A' n' c', .slice A n c] 51) := ⟨_, rfl⟩
    rw [← hw0]
    have bA : Blk w0 w.heap.size 51 #[.int .i64 12, .string name, .slice A' n' c', .slice A n c] := by rw [hw0]; exact Blk.new w _ _
    have hB0 : Below w.heap.size w w0 := by rw [hw0]; exact (Below.refl _ _).alloc (Nat.le_refl _) _
    clear hw0
    refine (specNumSize_any _ _).mono ?_
    rintro e w1 ⟨rfl, rfl⟩
    rw [show numSz 12 = 0 from rfl]
    have a0_0 : w0.cell? ⟨w.heap.size, 0, none⟩ = some (.int .i64 12) := bA.cell 0
    have a0_2 : w0.cell? ⟨w.heap.size, 2, none⟩ = some (.slice A' n' c') := bA.cell 2
    go_wp2_with fail
    go_ret2
    exact ⟨rfl, hB0⟩
  case inr.inr.inr.inl =>
    rw [HF.out]
    go_enter Try.func86, Try.ntmps86
    go_wp2_with fail
    obtain ⟨w0, hw0⟩ : ∃ W, W = w.alloc (.cells #[.int .i64 18, .string name, .slice A' n' c', .slice A n c] 51) := ⟨_, rfl⟩
    rw [← hw0]
    have bA : Blk w0 w.heap.size 51 #[.int .i64 18, .string name, .slice A' n' c', .slice A n c] := by rw [hw0]; exact Blk.new w _ _
    have hB0 : Below w.heap.size w w0 := by rw [hw0]; exact (Below.refl _ _).alloc (Nat.le_refl _) _
    clear hw0
    refine (specNumSize_any _ _).mono ?_
    rintro e w1 ⟨rfl, rfl⟩
    rw [show numSz 18 = 0 from rfl]
    have a0_0 : w0.cell? ⟨w.heap.size, 0, none⟩ = some (.int .i64 18) := bA.cell 0
    have a0_2 : w0.cell? ⟨w.heap.size, 2, none⟩ = some (.slice A' n' c') := bA.cell 2
    go_wp2_with fail
    go_ret2
    exact ⟨rfl, hB0⟩
  case inr.inr.inr.inr =>
    rw [HF.out]
    go_enter Try.func86, Try.ntmps86
    go_wp2_with fail
    obtain ⟨w0, hw0⟩ : ∃ W, W = w.alloc (.cells #[.int .i64 19, .string name, .slice A' n' c', .slice A n c] 51) := ⟨_, rfl⟩
    rw [← hw0]
    have bA : Blk w0 w.heap.size 51 #[.int .i64 19, .string name, .slice A' n' c', .slice A n c] := by rw [hw0]; exact Blk.new w _ _
    have hB0 : Below w.heap.size w w0 := by rw [hw0]; exact (Below.refl _ _).alloc (Nat.le_refl _) _
    clear hw0
    refine (specNumSize_any _ _).mono ?_
    rintro e w1 ⟨rfl, rfl⟩
    rw [show numSz 19 = 0 from rfl]
    have a0_0 : w0.cell? ⟨w.heap.size, 0, none⟩ = some (.int .i64 19) := bA.cell 0
    have a0_2 : w0.cell? ⟨w.heap.size, 2, none⟩ = some (.slice A' n' c') := bA.cell 2
    go_wp2_with fail
    go_ret2
    exact ⟨rfl, hB0⟩

set_option maxHeartbeats 1600000 in
theorem specLay_num {kind : Int} {name : ByteArray} {labels : List ByteArray} {kids : List Ty} {B n n' c c' : Nat} {A A' : Option Addr} {w : World} (HT : Hid (TyIn B n n' c c' A A' name labels kids w)) {z : Nat} (hz : NumK kind z) :
    Calls Try.prog 86 #[.agg #[.int .i64 kind, .string name, .slice A' n' c', .slice A n c]] w fun e w' => e = .returned (.tuple #[.int .i64 ((Ty.mk kind name labels kids).lay.1 : Nat), .int .i64 ((Ty.mk kind name labels kids).lay.2 : Nat)]) ∧ Below w.heap.size w w' := by
  have HF := Lib.hid (lay_num hz name labels kids)
  have HZ : Hid (numSz kind = (z : Int)) := by show _ = _; rw [numSz_nat, hz.sz]
  have h0 := hz.hz
  have h8 := hz.hz8
  rw [HF.out]
  clear hz
  go_enter Try.func86, Try.ntmps86
  go_wp2_with fail
  obtain ⟨w0, hw0⟩ : ∃ W, W = w.alloc (.cells #[.int .i64 kind, .string name, .slice A' n' c', .slice A n c] 51) := ⟨_, rfl⟩
  rw [← hw0]
  have bA : Blk w0 w.heap.size 51 #[.int .i64 kind, .string name, .slice A' n' c', .slice A n c] := by rw [hw0]; exact Blk.new w _ _
  have hB0 : Below w.heap.size w w0 := by rw [hw0]; exact (Below.refl _ _).alloc (Nat.le_refl _) _
  clear hw0
  refine (specNumSize_any _ _).mono ?_
  rintro e w1 ⟨rfl, rfl⟩
  rw [HZ.out]
  go_wp2_with fail
  go_ret2
  exact ⟨rfl, hB0⟩
theorem lay_row {kind : Int} {name : ByteArray} {labels : List ByteArray} {kids : List Ty} (hk : kind = 15 ∨ kind = 16) : (Ty.mk kind name labels kids).lay = (up (Ty.endL 0 kids) (Ty.mostL kids).2, (Ty.mostL kids).2) := by
  rw [Ty.lay]
  rcases hk with rfl | rfl <;> rfl
theorem lay_var {kind : Int} {name : ByteArray} {labels : List ByteArray} {kids : List Ty} (hk : kind = 13 ∨ kind = 14 ∨ kind = 17) : (Ty.mk kind name labels kids).lay = (up (up 1 (Ty.mostL kids).2 + (Ty.mostL kids).1) (Ty.mostL kids).2, (Ty.mostL kids).2) := by
  rw [Ty.lay]
  rcases hk with rfl | rfl | rfl <;> rfl
set_option maxHeartbeats 1600000 in
theorem specLay_row {kind : Int} {name : ByteArray} {labels : List ByteArray} {kids : List Ty} {B n n' c c' : Nat} {A A' : Option Addr} {w : World} (HT : Hid (TyIn B n n' c c' A A' name labels kids w)) (hk : kind = 15 ∨ kind = 16) (HI : Hid (∀ t ∈ kids, ShC t)) (HG : Hid (Good kids)) :
    Calls Try.prog 86 #[.agg #[.int .i64 kind, .string name, .slice A' n' c', .slice A n c]] w fun e w' => e = .returned (.tuple #[.int .i64 ((Ty.mk kind name labels kids).lay.1 : Nat), .int .i64 ((Ty.mk kind name labels kids).lay.2 : Nat)]) ∧ Below w.heap.size w w' := by
  have HF := Lib.hid (lay_row (name := name) (labels := labels) (kids := kids) hk)
  rw [HF.out]
  rcases hk with rfl | rfl
  · go_enter Try.func86, Try.ntmps86
    go_wp2_with fail
    obtain ⟨w0, hw0⟩ : ∃ W, W = w.alloc (.cells #[.int .i64 15, .string name, .slice A' n' c', .slice A n c] 51) := ⟨_, rfl⟩
    rw [← hw0]
    have bA : Blk w0 w.heap.size 51 #[.int .i64 15, .string name, .slice A' n' c', .slice A n c] := by rw [hw0]; exact Blk.new w _ _
    have hB0 : Below w.heap.size w w0 := by rw [hw0]; exact (Below.refl _ _).alloc (Nat.le_refl _) _
    clear hw0
    refine (specNumSize_any _ _).mono ?_
    rintro e w1 ⟨rfl, rfl⟩
    rw [show numSz 15 = 0 from rfl]
    have a0_0 : w0.cell? ⟨w.heap.size, 0, none⟩ = some (.int .i64 15) := bA.cell 0
    have a0_3 : w0.cell? ⟨w.heap.size, 3, none⟩ = some (.slice A n c) := bA.cell 3
    go_wp2_with fail
    refine (specPartsAt_any HI.out HG.out (HT.out.c (kind := 0) hB0).1 (HT.out.k hB0)).mono ?_
    rintro e w1 ⟨u, rfl, hu, hb1⟩
    go_wp2_with fail
    go_ret2
    exact ⟨rfl, hB0.trans (hb1.mono hB0.size)⟩
  · go_enter Try.func86, Try.ntmps86
    go_wp2_with fail
    obtain ⟨w0, hw0⟩ : ∃ W, W = w.alloc (.cells #[.int .i64 16, .string name, .slice A' n' c', .slice A n c] 51) := ⟨_, rfl⟩
    rw [← hw0]
    have bA : Blk w0 w.heap.size 51 #[.int .i64 16, .string name, .slice A' n' c', .slice A n c] := by rw [hw0]; exact Blk.new w _ _
    have hB0 : Below w.heap.size w w0 := by rw [hw0]; exact (Below.refl _ _).alloc (Nat.le_refl _) _
    clear hw0
    refine (specNumSize_any _ _).mono ?_
    rintro e w1 ⟨rfl, rfl⟩
    rw [show numSz 16 = 0 from rfl]
    have a0_0 : w0.cell? ⟨w.heap.size, 0, none⟩ = some (.int .i64 16) := bA.cell 0
    have a0_3 : w0.cell? ⟨w.heap.size, 3, none⟩ = some (.slice A n c) := bA.cell 3
    go_wp2_with fail
    refine (specPartsAt_any HI.out HG.out (HT.out.c (kind := 0) hB0).1 (HT.out.k hB0)).mono ?_
    rintro e w1 ⟨u, rfl, hu, hb1⟩
    go_wp2_with fail
    go_ret2
    exact ⟨rfl, hB0.trans (hb1.mono hB0.size)⟩
set_option maxHeartbeats 1600000 in
theorem specLay_var {kind : Int} {name : ByteArray} {labels : List ByteArray} {kids : List Ty} {B n n' c c' : Nat} {A A' : Option Addr} {w : World} (HT : Hid (TyIn B n n' c c' A A' name labels kids w)) (hk : kind = 13 ∨ kind = 14 ∨ kind = 17) (HI : Hid (∀ t ∈ Ty.cases ⟨kind, name, labels, kids⟩, ShC t)) (HG : Hid (Good (Ty.cases ⟨kind, name, labels, kids⟩))) (HS : Hid ((Ty.mk kind name labels kids).shapes = true)) (HW : Hid (PD.wfL (Ty.pd ⟨kind, name, labels, kids⟩))) :
    Calls Try.prog 86 #[.agg #[.int .i64 kind, .string name, .slice A' n' c', .slice A n c]] w fun e w' => e = .returned (.tuple #[.int .i64 ((Ty.mk kind name labels kids).lay.1 : Nat), .int .i64 ((Ty.mk kind name labels kids).lay.2 : Nat)]) ∧ Below w.heap.size w w' := by
  have HF := Lib.hid (lay_var (name := name) (labels := labels) (kids := kids) hk)
  have HM := Lib.hid (mostL_cases (name := name) (labels := labels) (kids := kids) hk)
  rw [HF.out]
  obtain ⟨m1, m2, m3, _⟩ := mostL_le (Ty.cases ⟨kind, name, labels, kids⟩)
  have m4 := HG.out.sz
  rw [HM.out] at m1 m2 m3
  obtain ⟨S, hS⟩ : ∃ S, S = (Ty.mostL kids).1 := ⟨_, rfl⟩
  obtain ⟨L, hL⟩ : ∃ L, L = (Ty.mostL kids).2 := ⟨_, rfl⟩
  rw [← hL] at m1 m2
  rw [← hS] at m3
  have HS1 := Lib.hid hS
  have HL1 := Lib.hid hL
  rw [← hS, ← hL]
  have hS2 : S ≤ 100663296 := by omega
  have hU2 := up_of_le (x := 1) m1 m2
  obtain ⟨U, hU⟩ : ∃ U : Nat, U = up 1 L := ⟨_, rfl⟩
  rw [← hU] at hU2 ⊢
  have hV2 := up_of_le (x := U + S) m1 m2
  obtain ⟨V, hV⟩ : ∃ V : Nat, V = up (U + S) L := ⟨_, rfl⟩
  rw [← hV] at hV2 ⊢
  have HU := Lib.hid hU
  have HV := Lib.hid hV
  clear hS hL hU hV m3 m4
  rcases hk with rfl | rfl | rfl
  · go_enter Try.func86, Try.ntmps86
    go_wp2_with fail
    obtain ⟨w0, hw0⟩ : ∃ W, W = w.alloc (.cells #[.int .i64 13, .string name, .slice A' n' c', .slice A n c] 51) := ⟨_, rfl⟩
    rw [← hw0]
    have bA : Blk w0 w.heap.size 51 #[.int .i64 13, .string name, .slice A' n' c', .slice A n c] := by rw [hw0]; exact Blk.new w _ _
    have hB0 : Below w.heap.size w w0 := by rw [hw0]; exact (Below.refl _ _).alloc (Nat.le_refl _) _
    clear hw0
    refine (specNumSize_any _ _).mono ?_
    rintro e w1 ⟨rfl, rfl⟩
    rw [show numSz 13 = 0 from rfl]
    have a0_0 : w0.cell? ⟨w.heap.size, 0, none⟩ = some (.int .i64 13) := bA.cell 0
    have a0_1 : w0.cell? ⟨w.heap.size, 1, none⟩ = some (.string name) := bA.cell 1
    have a0_2 : w0.cell? ⟨w.heap.size, 2, none⟩ = some (.slice A' n' c') := bA.cell 2
    have a0_3 : w0.cell? ⟨w.heap.size, 3, none⟩ = some (.slice A n c) := bA.cell 3
    go_wp2_with fail
    refine (specCases_any ⟨13, name, labels, kids⟩ (HT.out.c (kind := 0) hB0).1 HW.out HS.out (HT.out.c hB0).2).mono ?_
    rintro e w1 ⟨u, rfl, hu, hb1⟩
    have HU1 := Lib.hid hu
    have hB1 := hB0.trans (hb1.mono hB0.size)
    clear hu
    go_wp2_with fail
    refine (specMost_any HI.out HG.out (Nat.le_refl _) HU1.out).mono ?_
    rintro e w2 ⟨rfl, hb2⟩
    have hB2 := hB1.trans (hb2.mono hB1.size)
    rw [HM.out, ← HS1.out, ← HL1.out]
    go_wp2_with fail
    refine (specUp_any 1 L _ (by omega) m1 m2).mono ?_
    rintro e w3 ⟨rfl, rfl⟩
    rw [← HU.out]
    go_wp2_with fail
    refine (specUp_any (U + S) L _ (by omega) m1 m2).mono ?_
    rintro e w3 ⟨rfl, rfl⟩
    rw [← HV.out]
    go_wp2_with fail
    go_ret2
    exact ⟨rfl, hB2⟩
  · go_enter Try.func86, Try.ntmps86
    go_wp2_with fail
    obtain ⟨w0, hw0⟩ : ∃ W, W = w.alloc (.cells #[.int .i64 14, .string name, .slice A' n' c', .slice A n c] 51) := ⟨_, rfl⟩
    rw [← hw0]
    have bA : Blk w0 w.heap.size 51 #[.int .i64 14, .string name, .slice A' n' c', .slice A n c] := by rw [hw0]; exact Blk.new w _ _
    have hB0 : Below w.heap.size w w0 := by rw [hw0]; exact (Below.refl _ _).alloc (Nat.le_refl _) _
    clear hw0
    refine (specNumSize_any _ _).mono ?_
    rintro e w1 ⟨rfl, rfl⟩
    rw [show numSz 14 = 0 from rfl]
    have a0_0 : w0.cell? ⟨w.heap.size, 0, none⟩ = some (.int .i64 14) := bA.cell 0
    have a0_1 : w0.cell? ⟨w.heap.size, 1, none⟩ = some (.string name) := bA.cell 1
    have a0_2 : w0.cell? ⟨w.heap.size, 2, none⟩ = some (.slice A' n' c') := bA.cell 2
    have a0_3 : w0.cell? ⟨w.heap.size, 3, none⟩ = some (.slice A n c) := bA.cell 3
    go_wp2_with fail
    refine (specCases_any ⟨14, name, labels, kids⟩ (HT.out.c (kind := 0) hB0).1 HW.out HS.out (HT.out.c hB0).2).mono ?_
    rintro e w1 ⟨u, rfl, hu, hb1⟩
    have HU1 := Lib.hid hu
    have hB1 := hB0.trans (hb1.mono hB0.size)
    clear hu
    go_wp2_with fail
    refine (specMost_any HI.out HG.out (Nat.le_refl _) HU1.out).mono ?_
    rintro e w2 ⟨rfl, hb2⟩
    have hB2 := hB1.trans (hb2.mono hB1.size)
    rw [HM.out, ← HS1.out, ← HL1.out]
    go_wp2_with fail
    refine (specUp_any 1 L _ (by omega) m1 m2).mono ?_
    rintro e w3 ⟨rfl, rfl⟩
    rw [← HU.out]
    go_wp2_with fail
    refine (specUp_any (U + S) L _ (by omega) m1 m2).mono ?_
    rintro e w3 ⟨rfl, rfl⟩
    rw [← HV.out]
    go_wp2_with fail
    go_ret2
    exact ⟨rfl, hB2⟩
  · go_enter Try.func86, Try.ntmps86
    go_wp2_with fail
    obtain ⟨w0, hw0⟩ : ∃ W, W = w.alloc (.cells #[.int .i64 17, .string name, .slice A' n' c', .slice A n c] 51) := ⟨_, rfl⟩
    rw [← hw0]
    have bA : Blk w0 w.heap.size 51 #[.int .i64 17, .string name, .slice A' n' c', .slice A n c] := by rw [hw0]; exact Blk.new w _ _
    have hB0 : Below w.heap.size w w0 := by rw [hw0]; exact (Below.refl _ _).alloc (Nat.le_refl _) _
    clear hw0
    refine (specNumSize_any _ _).mono ?_
    rintro e w1 ⟨rfl, rfl⟩
    rw [show numSz 17 = 0 from rfl]
    have a0_0 : w0.cell? ⟨w.heap.size, 0, none⟩ = some (.int .i64 17) := bA.cell 0
    have a0_1 : w0.cell? ⟨w.heap.size, 1, none⟩ = some (.string name) := bA.cell 1
    have a0_2 : w0.cell? ⟨w.heap.size, 2, none⟩ = some (.slice A' n' c') := bA.cell 2
    have a0_3 : w0.cell? ⟨w.heap.size, 3, none⟩ = some (.slice A n c) := bA.cell 3
    go_wp2_with fail
    refine (specCases_any ⟨17, name, labels, kids⟩ (HT.out.c (kind := 0) hB0).1 HW.out HS.out (HT.out.c hB0).2).mono ?_
    rintro e w1 ⟨u, rfl, hu, hb1⟩
    have HU1 := Lib.hid hu
    have hB1 := hB0.trans (hb1.mono hB0.size)
    clear hu
    go_wp2_with fail
    refine (specMost_any HI.out HG.out (Nat.le_refl _) HU1.out).mono ?_
    rintro e w2 ⟨rfl, hb2⟩
    have hB2 := hB1.trans (hb2.mono hB1.size)
    rw [HM.out, ← HS1.out, ← HL1.out]
    go_wp2_with fail
    refine (specUp_any 1 L _ (by omega) m1 m2).mono ?_
    rintro e w3 ⟨rfl, rfl⟩
    rw [← HU.out]
    go_wp2_with fail
    refine (specUp_any (U + S) L _ (by omega) m1 m2).mono ?_
    rintro e w3 ⟨rfl, rfl⟩
    rw [← HV.out]
    go_wp2_with fail
    go_ret2
    exact ⟨rfl, hB2⟩
theorem ShC_unit : ShC unitT := by
  intro B cs w hp hs hw hB h
  rw [unitT] at hw h
  obtain ⟨A, n, c, A', n', c', rfl, ht⟩ := tyIn hB hw h
  exact specLay_leaf (Lib.hid ht) (.inl rfl)
theorem specLay_all : ∀ t : Ty, ShC t := Ty.rec_kids fun kind name labels kids ih => by
  intro B cs w hp hs hw hB h
  obtain ⟨A, n, c, A', n', c', rfl, ht⟩ := tyIn hB hw h
  obtain ⟨hg, hgk⟩ := good_cases hp hs hw
  obtain ⟨k1, k2⟩ := shapes_kind hs
  rcases lay_kinds k1 k2 with h | h | h | h | h | h | h | ⟨z, h⟩
  · exact specLay_leaf (Lib.hid ht) (by omega)
  · exact specLay_leaf (Lib.hid ht) (by omega)
  · exact specLay_leaf (Lib.hid ht) (by omega)
  · exact specLay_leaf (Lib.hid ht) (by omega)
  · exact specLay_leaf (Lib.hid ht) (by omega)
  · exact specLay_row (Lib.hid ht) h (Lib.hid ih) (Lib.hid hgk)
  · refine specLay_var (Lib.hid ht) h (Lib.hid fun t hm => ?_) (Lib.hid hg) (Lib.hid hs) (Lib.hid hw)
    rw [Ty.cases] at hm
    split at hm
    · rcases List.mem_cons.1 hm with rfl | hm
      · exact ShC_unit
      · exact ih t hm
    split at hm
    · exact ih t hm
    · exact absurd hm List.not_mem_nil
  · exact specLay_num (Lib.hid ht) h
end Go.Proofs.Ytmmeaakhikcigaa

