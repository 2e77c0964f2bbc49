/-
  Parameters' types: spec.l03Params, impl.params (by program: gen_pa.py).
-/
import Derived.Test.YtmmeaakhikcigaaPaSpec
namespace Go.Proofs.Ytmmeaakhikcigaa
open Go.RowKit
set_option linter.unusedVariables false
set_option linter.unusedSimpArgs false
set_option linter.unnecessarySimpa false
set_option maxRecDepth 16000

def typs (ps : List Param) : List Ty := ps.map Param.typ
theorem typs_succ {ps : List Param} {k : Nat} {p : Param} (h : ps[k]? = some p) : (typs (ps.take (k + 1))).flatMap Ty.pd = (typs (ps.take k)).flatMap Ty.pd ++ Ty.pd p.typ := by
  rw [typs, typs, List.take_add_one, h, List.map_append, List.flatMap_append]
  simp
theorem rep_owns {w : World} {base n B : Nat} {e : TypeId} {v : Value} {ds : List PD} {cs : List Value} (h : w.ownsRow base e 4 v n cs) (hr : RepC w B ds cs) (hB : B ≤ w.heap.size) : Rep w w.heap.size (.row 4 ds) v := by
  obtain ⟨A, n', c, rfl, hm, hl, hg⟩ := (Own.of_own h).rd
  rw [Rep]
  refine ⟨A, n', c, rfl, hr.1.trans hl, hm, fun h0 => ?_⟩
  obtain ⟨g, off, rfl, hgl, hc⟩ := hg h0
  refine ⟨g, off, rfl, hgl, repL_iff.2 fun j x hj => ?_⟩
  have hj2 : j < cs.length := by rw [← hr.1]; exact (List.getElem?_eq_some_iff.1 hj).1
  exact ⟨_, hc j _ (List.getElem?_eq_getElem hj2), Rep.more hB _ _ (hr.2 j x _ hj (List.getElem?_eq_getElem hj2))⟩
set_option maxHeartbeats 3200000 in
theorem specParams_any (f : FuncType) (hn : f.params.length ≤ 1048576) (hz : ∀ p ∈ f.params, PD.szL (Ty.pd p.typ) ≤ 1048576) {B : Nat} {cs : List Value} {w : World} (hB : B ≤ w.heap.size) (h : RepC w B (FuncType.pd f) cs) :
    Calls Try.prog 111 #[.agg cs.toArray] w fun e w' => ∃ u, e = .returned u ∧ Lv w' w.heap.size w'.heap.size (.row 4 ((typs f.params).flatMap Ty.pd)) u ∧ Below w.heap.size w w' := by
  obtain ⟨params, ⟨result_kind, result_name, result_labels, result_kids⟩, async⟩ := f
  simp only at hn hz
  obtain ⟨paramsV, result_labelsV, result_kidsV, rfl, r_params, r_result_labels, r_result_kids⟩ := FuncType.open_ h
  have R_params := Lib.hid r_params
  clear r_params
  have R_result_labels := Lib.hid r_result_labels
  clear r_result_labels
  have R_result_kids := Lib.hid r_result_kids
  clear r_result_kids
  obtain ⟨A, n, c, rfl, hnl, hm, hat⟩ := rep_row Param.pd_length (by decide) R_params.out
  obtain ⟨i0, hi, hz0, hz1, hz2⟩ := info_parts toTypeS_info
  unfold maxLen at hm
  have hnn : n ≤ 1048576 := by omega
  have HN := Lib.hid hnl
  have HZ := Lib.hid hz
  clear h hnl hn hz
  go_enter Try.func111, Try.ntmps111
  go_wp2_with fail
  obtain ⟨w0, hw0⟩ : ∃ W, W = w.alloc (.cells #[.slice A n c, .int .i64 result_kind, .string result_name, result_labelsV, result_kidsV, .bool async] 71) := ⟨_, rfl⟩
  have hs1 : w0.heap.size = w.heap.size + 1 := by rw [hw0]; simp
  rw [← hw0]
  have bA : Blk w0 w.heap.size 71 #[.slice A n c, .int .i64 result_kind, .string result_name, result_labelsV, result_kidsV, .bool async] := by rw [hw0]; exact Blk.new w _ _
  have hB0 : Below w.heap.size w w0 := by rw [hw0]; exact (Below.refl _ _).alloc (Nat.le_refl _) _
  clear hw0
  have hG0 : Grow w (w0.alloc (.cells #[] 51)) w0.heap.size 51 4 0 (.slice (some ⟨w.heap.size + 1, 0, none⟩) 0 0) [] [] [] := by rw [← hs1]; exact Grow.made hB0 hB0.size (Nat.le_refl _) (by simp) (by simp)
  have bA0 := bA.alloc (.cells #[] 51)
  go_loopw [3, 4] (fun out i wr => ∃ (k : Nat) (u : Value) (cs : List Value) (F : List Nat), u = out ∧ k ≤ n ∧ i = .int .i64 k ∧ Grow w wr w0.heap.size 51 4 k u ((typs (params.take k)).flatMap Ty.pd) cs F ∧ Blk wr w.heap.size 71 #[.slice A n c, .int .i64 result_kind, .string result_name, result_labelsV, result_kidsV, .bool async]) (fun _ i _ => n - (intOf i).toNat)
  case atStart => exact ⟨0, _, [], [], rfl, Nat.zero_le _, rfl, hG0, bA0⟩
  case round =>
    clear hG0 bA0 bA
    obtain ⟨k, u, cs, F, rfl, hk, rfl, hG, bA⟩ := hrel
    have hbr := hG.2.2.2.2.1
    have hlo := hG.2.2.2.2.2.2
    have hsz := hbr.size
    by_cases hlt : k < n
    · obtain ⟨g, off, rfl, hg2, hcell2⟩ := hat (by omega)
      obtain ⟨t2, hx2, hmem2⟩ := at_lt HN.out hlt
      obtain ⟨name2, ⟨typ_kind2, typ_name2, typ_labels2, typ_kids2⟩⟩ := t2
      have c_name2 : wr.cell? ⟨g, off + k * 5, none⟩ = some (.string name2) := cell_lit hbr (by omega) (hcell2 k 0 _ _ hx2 (by rw [Param.pd_mk]; rfl))
      have c_typ_kind2 : wr.cell? ⟨g, off + k * 5 + 1, none⟩ = some (.int .i64 typ_kind2) := cell_lit hbr (by omega) (hcell2 k 1 _ _ hx2 (by rw [Param.pd_mk]; rfl))
      have c_typ_name2 : wr.cell? ⟨g, off + k * 5 + 2, none⟩ = some (.string typ_name2) := cell_lit hbr (by omega) (hcell2 k 2 _ _ hx2 (by rw [Param.pd_mk]; rfl))
      obtain ⟨typ_labelsV2, c_typ_labels2, r_typ_labels2⟩ : ∃ u, wr.cell? ⟨g, off + k * 5 + 3, none⟩ = some u ∧ Rep wr B (.row 1 (typ_labels2.flatMap strC)) u := cell_rep hbr (by omega) hB (hcell2 k 3 _ _ hx2 (by rw [Param.pd_mk]; rfl))
      have R_typ_labels2 := Lib.hid r_typ_labels2
      clear r_typ_labels2
      obtain ⟨typ_kidsV2, c_typ_kids2, r_typ_kids2⟩ : ∃ u, wr.cell? ⟨g, off + k * 5 + 4, none⟩ = some u ∧ Rep wr B (.row 4 (typ_kids2.flatMap Ty.pd)) u := cell_rep hbr (by omega) hB (hcell2 k 4 _ _ hx2 (by rw [Param.pd_mk]; rfl))
      have R_typ_kids2 := Lib.hid r_typ_kids2
      clear r_typ_kids2
      have HX2 := Lib.hid hx2
      have HM2 := Lib.hid hmem2
      clear hx2 hmem2
      clear hcell2
      have hz2' := HZ.out _ HM2.out
      have HZ2 := Lib.hid hz2'
      have HT := Lib.hid (typs_succ HX2.out)
      have b_0 : wr.cell? ⟨w.heap.size, 0, none⟩ = some (.slice (some ⟨g, off, none⟩) n c) := bA.cell 0
      clear hz2'
      go_wp2_with fail
      refine (own_all ⟨typ_kind2, typ_name2, typ_labels2, typ_kids2⟩ B [.int .i64 typ_kind2, .string typ_name2, typ_labelsV2, typ_kidsV2] wr (Nat.le_trans hB hbr.size) HZ2.out (Ty.close_ R_typ_labels2.out R_typ_kids2.out)).mono ?_
      rintro e wq ⟨us, rfl, hl, hbq⟩
      obtain ⟨lA, lN, lC, kA, kN, kC, rfl⟩ := Ty.lopen hl
      obtain ⟨F2, hh, hi3, _⟩ := hl
      have hG1 := hG.step hbq
      have hown := hG1.1.alloc (.cells #[.int .i64 typ_kind2, .string typ_name2, .slice lA lN lC, .slice kA kN kC] 51)
      have hnew : ∀ j u, [Value.int .i64 typ_kind2, .string typ_name2, .slice lA lN lC, .slice kA kN kC][j]? = some u → (wq.alloc (.cells #[.int .i64 typ_kind2, .string typ_name2, .slice lA lN lC, .slice kA kN kC] 51)).cell? ((⟨wq.heap.size, 0, none⟩ : Addr).add j) = some u := World.news_of_block (heap_alloc_new wq _)
      have hlo2 : w0.heap.size ≤ (wq.alloc (.cells #[.int .i64 typ_kind2, .string typ_name2, .slice lA lN lC, .slice kA kN kC] 51)).heap.size := by have := hbq.size; simp; omega
      have bQ := (bA.step hbq).alloc (.cells #[.int .i64 typ_kind2, .string typ_name2, .slice lA lN lC, .slice kA kN kC] 51)
      have HG := Lib.hid hG
      have HH := Lib.hid hh
      clear hG hG1 hh b_0
      go_wp2_with (at_builtin; refine wpList_append_own_at _ rfl _ _ 41 rfl w0.heap.size 51 i0 (.agg #[.int .i64 0, .string { data := #[] }, .slice none 0 0, .slice none 0 0]) 4 72 Try.underlying41 hi hz0 hz1 hz2 rfl (by decide) _ _ _ rfl hown ⟨wq.heap.size, 0, none⟩ 1 1 [.int .i64 typ_kind2, .string typ_name2, .slice lA lN lC, .slice kA kN kC] rfl rfl hnew (oneCells _ _ _ _ _ _ _ _) (by simp only [maxLen]; omega) (by omega) hlo2 ?_; intro v' w3 hown' hgrow _ hat2)
      have hG2 := HG.out.next hbq HH.out hi3 ((Below.refl _ _).alloc (Nat.le_refl _) _) hown' hgrow hat2
      have bW := (hgrow.block w.heap.size bQ.lt (fun e => by have := (HG.out.1.lt _ e.symm).1; omega)).trans bQ
      have HG2 := Lib.hid hG2
      have HBW := Lib.hid bW
      clear hG2 hown hown' hnew hgrow hat2 bW bQ
      go_roundw
      case rel => exact ⟨k + 1, _, _, _, rfl, by omega, by go_num, by rw [HT.out]; exact HG2.out, HBW.out⟩
      case measure => simp [intOf]; omega
    · have hkn : k = n := by omega
      have HT : Hid (params.take k = params) := List.take_of_length_le (by have := HN.out; omega)
      have hfin := hG.done
      rw [HT.out] at hfin
      have HF := Lib.hid (hfin.more hB0.size (Nat.le_refl _) (Nat.le_refl _))
      have b_0 : wr.cell? ⟨w.heap.size, 0, none⟩ = some (.slice A n c) := bA.cell 0
      clear hfin hG bA
      subst hkn
      go_wp2_with fail
      go_ret
      exact ⟨_, rfl, HF.out, hbr⟩
set_option maxHeartbeats 3200000 in
theorem implParams_any (f : FuncType) (hn : f.params.length ≤ 1048576) {B : Nat} {cs : List Value} {w : World} (hB : B ≤ w.heap.size) (h : RepC w B (FuncType.pd f) cs) :
    Calls Try.prog 114 #[.agg cs.toArray] w fun e w' => ∃ u, e = .returned u ∧ Rep w' w'.heap.size (.row 4 ((typs f.params).flatMap Ty.pd)) u ∧ Below w.heap.size w w' := by
  obtain ⟨params, ⟨result_kind, result_name, result_labels, result_kids⟩, async⟩ := f
  simp only at hn
  obtain ⟨paramsV, result_labelsV, result_kidsV, rfl, r_params, r_result_labels, r_result_kids⟩ := FuncType.open_ h
  have R_params := Lib.hid r_params
  clear r_params
  have R_result_labels := Lib.hid r_result_labels
  clear r_result_labels
  have R_result_kids := Lib.hid r_result_kids
  clear r_result_kids
  obtain ⟨A, n, c, rfl, hnl, hm, hat⟩ := rep_row Param.pd_length (by decide) R_params.out
  obtain ⟨i0, hi, hz0, hz1, hz2⟩ := info_parts toTypeS_info
  unfold maxLen at hm
  have hnn : n ≤ 1048576 := by omega
  have HN := Lib.hid hnl
  clear h hnl hn
  go_enter Try.func114, Try.ntmps114
  go_wp2_with fail
  obtain ⟨w0, hw0⟩ : ∃ W, W = w.alloc (.cells #[.slice A n c, .int .i64 result_kind, .string result_name, result_labelsV, result_kidsV, .bool async] 71) := ⟨_, rfl⟩
  have hs1 : w0.heap.size = w.heap.size + 1 := by rw [hw0]; simp
  rw [← hw0]
  have hB0 : Below w.heap.size w w0 := by rw [hw0]; exact (Below.refl _ _).alloc (Nat.le_refl _) _
  clear hw0
  have ho0 : (w0.alloc (.cells #[] 51)).ownsRow w0.heap.size 51 4 (.slice (some ⟨w.heap.size + 1, 0, none⟩) 0 0) 0 [] := by rw [← hs1]; exact World.ownsRow_made w0 #[] 0 (Nat.le_refl _) (by simp) (by simp)
  have hb0 : Below w0.heap.size w0 (w0.alloc (.cells #[] 51)) := (Below.refl _ _).alloc (Nat.le_refl _) _
  go_loopw [3, 10] (fun out i wr => ∃ (k : Nat) (u : Value) (cs : List Value), u = out ∧ k ≤ n ∧ i = .int .i64 k ∧ wr.ownsRow w0.heap.size 51 4 u k cs ∧ RepC wr B ((typs (params.take k)).flatMap Ty.pd) cs ∧ Below w0.heap.size w0 wr) (fun _ i _ => n - (intOf i).toNat)
  case atStart => exact ⟨0, _, [], rfl, Nat.zero_le _, rfl, ho0, RepC.nil_, hb0⟩
  case round =>
    clear ho0 hb0
    obtain ⟨k, u, cs, rfl, hk, rfl, hown0, hrc, hbr0⟩ := hrel
    have hbr := hB0.trans (hbr0.mono hB0.size)
    have hsz := hbr0.size
    by_cases hlt : k < n
    · obtain ⟨g, off, rfl, hg2, hcell2⟩ := hat (by omega)
      obtain ⟨t2, hx2, hmem2⟩ := at_lt HN.out hlt
      obtain ⟨name2, ⟨typ_kind2, typ_name2, typ_labels2, typ_kids2⟩⟩ := t2
      have c_name2 : wr.cell? ⟨g, off + k * 5, none⟩ = some (.string name2) := cell_lit hbr (by omega) (hcell2 k 0 _ _ hx2 (by rw [Param.pd_mk]; rfl))
      have c_typ_kind2 : wr.cell? ⟨g, off + k * 5 + 1, none⟩ = some (.int .i64 typ_kind2) := cell_lit hbr (by omega) (hcell2 k 1 _ _ hx2 (by rw [Param.pd_mk]; rfl))
      have c_typ_name2 : wr.cell? ⟨g, off + k * 5 + 2, none⟩ = some (.string typ_name2) := cell_lit hbr (by omega) (hcell2 k 2 _ _ hx2 (by rw [Param.pd_mk]; rfl))
      obtain ⟨typ_labelsV2, c_typ_labels2, r_typ_labels2⟩ : ∃ u, wr.cell? ⟨g, off + k * 5 + 3, none⟩ = some u ∧ Rep wr B (.row 1 (typ_labels2.flatMap strC)) u := cell_rep hbr (by omega) hB (hcell2 k 3 _ _ hx2 (by rw [Param.pd_mk]; rfl))
      have R_typ_labels2 := Lib.hid r_typ_labels2
      clear r_typ_labels2
      obtain ⟨typ_kidsV2, c_typ_kids2, r_typ_kids2⟩ : ∃ u, wr.cell? ⟨g, off + k * 5 + 4, none⟩ = some u ∧ Rep wr B (.row 4 (typ_kids2.flatMap Ty.pd)) u := cell_rep hbr (by omega) hB (hcell2 k 4 _ _ hx2 (by rw [Param.pd_mk]; rfl))
      have R_typ_kids2 := Lib.hid r_typ_kids2
      clear r_typ_kids2
      obtain ⟨typ_labelsA2, typ_labelsN2, typ_labelsC2, rfl⟩ := R_typ_labels2.out.form
      obtain ⟨typ_kidsA2, typ_kidsN2, typ_kidsC2, rfl⟩ := R_typ_kids2.out.form
      have HX2 := Lib.hid hx2
      have HM2 := Lib.hid hmem2
      clear hx2 hmem2
      clear hcell2
      have HT := Lib.hid (typs_succ HX2.out)
      have HRC := Lib.hid hrc
      have hown := (hown0.alloc (.cells #[.string name2, .int .i64 typ_kind2, .string typ_name2, .slice typ_labelsA2 typ_labelsN2 typ_labelsC2, .slice typ_kidsA2 typ_kidsN2 typ_kidsC2] 142)).alloc (.cells #[Value.int .i64 typ_kind2, .string typ_name2, .slice typ_labelsA2 typ_labelsN2 typ_labelsC2, .slice typ_kidsA2 typ_kidsN2 typ_kidsC2] 51)
      have hnew : ∀ j u, [Value.int .i64 typ_kind2, .string typ_name2, .slice typ_labelsA2 typ_labelsN2 typ_labelsC2, .slice typ_kidsA2 typ_kidsN2 typ_kidsC2][j]? = some u → ((wr.alloc (.cells #[.string name2, .int .i64 typ_kind2, .string typ_name2, .slice typ_labelsA2 typ_labelsN2 typ_labelsC2, .slice typ_kidsA2 typ_kidsN2 typ_kidsC2] 142)).alloc (.cells #[Value.int .i64 typ_kind2, .string typ_name2, .slice typ_labelsA2 typ_labelsN2 typ_labelsC2, .slice typ_kidsA2 typ_kidsN2 typ_kidsC2] 51)).cell? ((⟨wr.heap.size + 1, 0, none⟩ : Addr).add j) = some u := by
        have := World.news_of_block (heap_alloc_new (wr.alloc (.cells #[.string name2, .int .i64 typ_kind2, .string typ_name2, .slice typ_labelsA2 typ_labelsN2 typ_labelsC2, .slice typ_kidsA2 typ_kidsN2 typ_kidsC2] 142)) (.cells #[Value.int .i64 typ_kind2, .string typ_name2, .slice typ_labelsA2 typ_labelsN2 typ_labelsC2, .slice typ_kidsA2 typ_kidsN2 typ_kidsC2] 51))
        simpa using this
      have hb2 : Below w0.heap.size w0 ((wr.alloc (.cells #[.string name2, .int .i64 typ_kind2, .string typ_name2, .slice typ_labelsA2 typ_labelsN2 typ_labelsC2, .slice typ_kidsA2 typ_kidsN2 typ_kidsC2] 142)).alloc (.cells #[Value.int .i64 typ_kind2, .string typ_name2, .slice typ_labelsA2 typ_labelsN2 typ_labelsC2, .slice typ_kidsA2 typ_kidsN2 typ_kidsC2] 51)) := (hbr0.alloc hsz _).alloc (by simp; omega) _
      have HN2 := Lib.hid hnew
      clear hrc hown0 hnew
      go_wp2_with (at_builtin; refine wpList_append_own_at _ rfl _ _ 41 rfl w0.heap.size 51 i0 (.agg #[.int .i64 0, .string { data := #[] }, .slice none 0 0, .slice none 0 0]) 4 72 Try.underlying41 hi hz0 hz1 hz2 rfl (by decide) _ _ _ rfl hown ⟨wr.heap.size + 1, 0, none⟩ 1 1 [Value.int .i64 typ_kind2, .string typ_name2, .slice typ_labelsA2 typ_labelsN2 typ_labelsC2, .slice typ_kidsA2 typ_kidsN2 typ_kidsC2] rfl rfl HN2.out (oneCells _ _ _ _ _ _ _ _) (by simp only [maxLen]; omega) (by omega) hb2.size ?_; intro v' w3 hown' hgrow _ hat2)
      have hb3 := hb2.grown hgrow hb2.size (fun g hg => (hown.lt g hg).1)
      have hq : Below B wr w3 := by
        have h1 : Below w0.heap.size wr ((wr.alloc (.cells #[.string name2, .int .i64 typ_kind2, .string typ_name2, .slice typ_labelsA2 typ_labelsN2 typ_labelsC2, .slice typ_kidsA2 typ_kidsN2 typ_kidsC2] 142)).alloc (.cells #[Value.int .i64 typ_kind2, .string typ_name2, .slice typ_labelsA2 typ_labelsN2 typ_labelsC2, .slice typ_kidsA2 typ_kidsN2 typ_kidsC2] 51)) := (((Below.refl _ _).alloc hsz _).alloc (by simp; omega) _)
        exact (h1.grown hgrow hb2.size (fun g hg => (hown.lt g hg).1)).mono (by omega)
      have HR3 := Lib.hid (RepC.append (HRC.out.below hq) (Ty.close_ (kind := typ_kind2) (name := typ_name2) (R_typ_labels2.out.below hq) (R_typ_kids2.out.below hq)))
      have HOW := Lib.hid hown'
      clear hown hown' hgrow hat2
      go_roundw
      case rel => exact ⟨k + 1, _, _, rfl, by omega, by go_num, HOW.out, by rw [HT.out]; exact HR3.out, hb3⟩
      case measure => simp [intOf]; omega
    · have hkn : k = n := by omega
      have HT : Hid (params.take k = params) := List.take_of_length_le (by have := HN.out; omega)
      have hfin := rep_owns hown0 hrc (Nat.le_trans hB hbr.size)
      rw [HT.out] at hfin
      have HF := Lib.hid hfin
      clear hfin hown0 hrc
      subst hkn
      go_wp2_with fail
      go_ret
      exact ⟨_, rfl, HF.out, hbr⟩
end Go.Proofs.Ytmmeaakhikcigaa

