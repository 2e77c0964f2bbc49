/-
  Types are copied (impl: copyType, copyTypes; by program: gen_own.py).
-/
import Derived.Test.YtmmeaakhikcigaaGrow
import Derived.Test.YtmmeaakhikcigaaTo
import Derived.Test.YtmmeaakhikcigaaShBase
import Derived.Deep.RegionHeld3
import Derived.Deep.AppendLies
namespace Go.Proofs.Ytmmeaakhikcigaa
open Go.RowKit
set_option linter.unusedVariables false
set_option linter.unusedSimpArgs false
set_option linter.unnecessarySimpa false
set_option maxRecDepth 16000
theorem oneCells (k : Int) (s : ByteArray) (A A' : Option Addr) (n n' c c' : Nat) : ∀ u ∈ [Value.int .i64 k, Value.string s, Value.slice A n c, Value.slice A' n' c'], u.oneCell' = true := by
  intro u hu
  simp only [List.mem_cons, List.not_mem_nil, or_false] at hu
  rcases hu with rfl | rfl | rfl | rfl <;> rfl
set_option maxHeartbeats 1600000 in
theorem copyTypes_step {ts : List Ty} (ih : ∀ t ∈ ts, ToC 145 (Ty.pd t)) : ToR 93 (.row 4 (ts.flatMap Ty.pd)) := by
  intro B v w hB hsz h
  rw [sz_row Ty.pd_length (by decide)] at hsz
  obtain ⟨A, n, c, rfl, hnl, hm, hat⟩ := rep_row Ty.pd_length (by decide) h
  obtain ⟨i0, hi, hz0, hz1, hz2⟩ := info_parts toTypeS_info
  unfold maxLen at hm
  have hnn : n ≤ 1048576 := by omega
  have HN := Lib.hid hnl
  have HS := Lib.hid hsz
  have HI := Lib.hid ih
  clear ih h hnl hsz
  go_enter Try.func93, Try.ntmps93
  go_wp2_with fail
  go_loopw [3, 9] (fun out i wr => ∃ (k : Nat) (u : Value) (cs : List Value) (F : List Nat), u = out ∧ k ≤ n ∧ i = .int .i64 k ∧ Grow w wr w.heap.size 51 4 k u ((ts.take k).flatMap Ty.pd) cs F) (fun _ i _ => n - (intOf i).toNat)
  case atStart => exact ⟨0, _, [], [], rfl, Nat.zero_le _, rfl, Grow.made (Below.refl _ _) (Nat.le_refl _) (Nat.le_refl _) (by simp) (by simp)⟩
  case round =>
    obtain ⟨k, u, cs, F, rfl, hk, rfl, hG⟩ := hrel
    have hbr := hG.2.2.2.2.1
    have hsz := hbr.size
    by_cases hlt : k < n
    · obtain ⟨g, off, rfl, hg2, hcell2⟩ := hat (by omega)
      obtain ⟨t2, hx2, hmem2⟩ := at_lt HN.out hlt
      obtain ⟨kind2, name2, labels2, kids2⟩ := t2
      have c_kind2 : wr.cell? ⟨g, off + k * 4, none⟩ = some (.int .i64 kind2) := cell_lit hbr (by omega) (hcell2 k 0 _ _ hx2 (by rw [Ty.pd_mk]; rfl))
      have c_name2 : wr.cell? ⟨g, off + k * 4 + 1, none⟩ = some (.string name2) := cell_lit hbr (by omega) (hcell2 k 1 _ _ hx2 (by rw [Ty.pd_mk]; rfl))
      obtain ⟨labelsV2, c_labels2, r_labels2⟩ : ∃ u, wr.cell? ⟨g, off + k * 4 + 2, none⟩ = some u ∧ Rep wr B (.row 1 (labels2.flatMap strC)) u := cell_rep hbr (by omega) hB (hcell2 k 2 _ _ hx2 (by rw [Ty.pd_mk]; rfl))
      have R_labels2 := Lib.hid r_labels2
      clear r_labels2
      obtain ⟨kidsV2, c_kids2, r_kids2⟩ : ∃ u, wr.cell? ⟨g, off + k * 4 + 3, none⟩ = some u ∧ Rep wr B (.row 4 (kids2.flatMap Ty.pd)) u := cell_rep hbr (by omega) hB (hcell2 k 3 _ _ hx2 (by rw [Ty.pd_mk]; rfl))
      have R_kids2 := Lib.hid r_kids2
      clear r_kids2
      obtain ⟨labelsA2, labelsN2, labelsC2, rfl⟩ := R_labels2.out.form
      obtain ⟨kidsA2, kidsN2, kidsC2, rfl⟩ := R_kids2.out.form
      have HX2 := Lib.hid hx2
      have HM2 := Lib.hid hmem2
      clear hx2 hmem2
      clear hcell2
      have HL2 := Lib.hid (szL_get_le (f := Ty.pd) HX2.out)
      go_wp2_with fail
      obtain ⟨wb, hwb⟩ : ∃ W, W = wr.alloc (.cells #[.int .i64 kind2, .string name2, .slice labelsA2 labelsN2 labelsC2, .slice kidsA2 kidsN2 kidsC2] 51) := ⟨_, rfl⟩
      rw [← hwb]
      have bE : Blk wb wr.heap.size 51 #[.int .i64 kind2, .string name2, .slice labelsA2 labelsN2 labelsC2, .slice kidsA2 kidsN2 kidsC2] := by rw [hwb]; exact Blk.new wr _ _
      have hbb : Below wr.heap.size wr wb := by rw [hwb]; exact (Below.refl _ _).alloc (Nat.le_refl _) _
      clear hwb
      refine (HI.out _ HM2.out B [.int .i64 kind2, .string name2, .slice labelsA2 labelsN2 labelsC2, .slice kidsA2 kidsN2 kidsC2] wb (Nat.le_trans hB (Nat.le_trans hbr.size hbb.size)) (by have := HS.out; have := HL2.out; omega) (Ty.close_ (R_labels2.out.below (hbb.mono (Nat.le_trans hB hbr.size))) (R_kids2.out.below (hbb.mono (Nat.le_trans hB hbr.size))))).mono ?_
      rintro e wq ⟨us, rfl, hl, hbq0⟩
      obtain ⟨lA, lN, lC, kA, kN, kC, rfl⟩ := Ty.lopen hl
      obtain ⟨F2, hh, hi2, _⟩ := hl
      have hbq := hbb.trans (hbq0.mono hbb.size)
      have hi3 : In F2 wr.heap.size wq.heap.size := hi2.more hbb.size (Nat.le_refl _)
      have hG1 := hG.step hbq
      have hown := hG1.1.alloc (.cells #[.int .i64 kind2, .string name2, .slice lA lN lC, .slice kA kN kC] 51)
      have hnew : ∀ j u, [.int .i64 kind2, .string name2, .slice lA lN lC, .slice kA kN kC][j]? = some u → (wq.alloc (.cells #[.int .i64 kind2, .string name2, .slice lA lN lC, .slice kA kN kC] 51)).cell? ((⟨wq.heap.size, 0, none⟩ : Addr).add j) = some u := World.news_of_block (heap_alloc_new wq _)
      have hlo := hG1.2.2.2.2.2.2
      have hlo2 : w.heap.size ≤ (wq.alloc (.cells #[.int .i64 kind2, .string name2, .slice lA lN lC, .slice kA kN kC] 51)).heap.size := by simp; omega
      have HG := Lib.hid hG
      have HH := Lib.hid hh
      clear hG hG1 hh
      go_wp2_with (at_builtin; refine wpList_append_own_at _ rfl _ _ 41 rfl w.heap.size 51 i0 (.agg #[.int .i64 0, .string { data := #[] }, .slice none 0 0, .slice none 0 0]) 4 72 Try.underlying41 hi hz0 hz1 hz2 rfl (by decide) _ _ _ rfl hown ⟨wq.heap.size, 0, none⟩ 1 1 [.int .i64 kind2, .string name2, .slice lA lN lC, .slice kA kN kC] rfl rfl hnew (oneCells _ _ _ _ _ _ _ _) (by simp only [maxLen]; omega) (by omega) hlo2 ?_; intro v' w3 hown' hgrow _ hat2)
      have hG2 := HG.out.next hbq HH.out hi3 ((Below.refl _ _).alloc (Nat.le_refl _) _) hown' hgrow hat2
      have HG2 := Lib.hid hG2
      clear hG2 hown hown' hnew hgrow hat2
      go_roundw
      case rel => exact ⟨k + 1, _, _, _, rfl, by omega, by go_num, by rw [List.take_add_one, HX2.out, List.flatMap_append, opt_flat]; exact HG2.out⟩
      case measure => simp [intOf]; omega
    · have hkn : k = n := by omega
      have HT : Hid (ts.take k = ts) := List.take_of_length_le (by have := HN.out; omega)
      have hfin := hG.done
      rw [HT.out] at hfin
      have HF := Lib.hid hfin
      clear hfin hG
      subst hkn
      go_wp2_with fail
      go_ret
      exact ⟨_, rfl, HF.out, hbr⟩

set_option maxHeartbeats 800000 in
theorem clone_any (ls : List ByteArray) : ToR 181 (.row 1 (ls.flatMap strC)) := by
  intro B v w hB hsz h
  rw [sz_row strC_length (by decide)] at hsz
  obtain ⟨i0, hi, hz0, hz1, hz2⟩ := info_parts str_info
  have hb0 : Below B w (w.alloc (.cells #[] 9)) := (Below.refl _ _).alloc hB _
  have hsrc := src_str (h.below hb0)
  obtain ⟨A, n, c, rfl, hnl, hm, hat⟩ := rep_row strC_length (by decide) h
  have hnn : ls.length ≤ 1048576 := by omega
  have q22 : ∀ (w : World) (a : Option Addr) (n c n' c' : Nat), (binOp .eql 45 (.slice a n c) (.slice none n' c')).run Try.prog w = .ok (.bool a.isNone) w := fun w a n c n' c' => Lib.run_eql_slice_nil w _ _ a n c n' c' Try.underlying45
  cases A with
  | none =>
    have hn0 : n = 0 := Nat.eq_zero_of_not_pos fun h0 => by obtain ⟨g, off, he, _⟩ := hat h0; cases he
    have hl0 : ls = [] := List.eq_nil_of_length_eq_zero (by omega)
    subst hn0 hl0
    clear hsrc hat hnl hsz hm hb0 hnn h
    go_enter Try.func181, Try.ntmps181
    go_wp2_with fail
    go_ret
    exact ⟨_, rfl, ⟨[], by rw [Hold]; exact ⟨none, 0, 0, rfl, by simp, Nat.le_refl _, by decide, .inl ⟨rfl, rfl⟩⟩, In.nil _ _, Nat.le_refl _⟩, Below.refl _ _⟩
  | some a =>
    have hown := World.ownsRow_made (base := w.heap.size) (e := 9) (size := 1) w #[] 0 (Nat.le_refl _) (by simp) (by simp)
    have HSRC := Lib.hid hsrc
    have hB1 : Below w.heap.size w (w.alloc (.cells #[] 9)) := (Below.refl _ _).alloc (Nat.le_refl _) _
    clear hat hsrc hnl hsz hm hb0 h
    go_enter Try.func181, Try.ntmps181
    go_wp2_with (at_builtin; refine wpList_append_src rfl _ _ 45 rfl w.heap.size 9 i0 (.string { data := #[] }) 1 16 Try.underlying45 hi hz0 hz1 hz2 rfl (by decide) _ _ _ rfl hown _ _ _ rfl HSRC.out (one_strs _) (by simp only [maxLen]; omega) (by omega) hB1.size ?_; intro v' w3 hown' hgrow hat2)
    have hB3 := hB1.grown hgrow hB1.size (fun g hg => (hown.lt g hg).1)
    go_ret
    exact ⟨_, rfl, lv_strs hown', hB3⟩
set_option maxHeartbeats 3200000 in
theorem copyType_step {kind : Int} {name : ByteArray} {labels : List ByteArray} {kids : List Ty} (ih : ToR 93 (.row 4 (kids.flatMap Ty.pd))) : ToC 145 (Ty.pd ⟨kind, name, labels, kids⟩) := by
  intro B cs w hB hsz h
  obtain ⟨labelsV, kidsV, rfl, r_labels, r_kids⟩ := Ty.open_ h
  have R_labels := Lib.hid r_labels
  clear r_labels
  have R_kids := Lib.hid r_kids
  clear r_kids
  obtain ⟨labelsA, labelsN, labelsC, rfl⟩ := R_labels.out.form
  obtain ⟨kidsA, kidsN, kidsC, rfl⟩ := R_kids.out.form
  simp only [Ty.pd_mk, PD.szL] at hsz
  have HS := Lib.hid hsz
  have IH := Lib.hid ih
  clear hsz ih h
  go_enter Try.func145, Try.ntmps145
  go_wp2_with fail
  obtain ⟨w0, hw0⟩ : ∃ w0, w0 = (w.alloc (.cells #[.int .i64 kind, .string name, .slice labelsA labelsN labelsC, .slice kidsA kidsN kidsC] 51)).alloc (.cells #[.int .i64 0, .string { data := #[] }, .slice none 0 0, .slice none 0 0] 51) := ⟨_, rfl⟩
  rw [← hw0]
  have bP0 : Blk w0 w.heap.size 51 #[.int .i64 kind, .string name, .slice labelsA labelsN labelsC, .slice kidsA kidsN kidsC] := by rw [hw0]; exact (Blk.new w _ _).alloc _
  have bR0 : Blk w0 (w.heap.size + 1) 51 #[.int .i64 0, .string { data := #[] }, .slice none 0 0, .slice none 0 0] := by rw [hw0]; have := Blk.new (w.alloc (.cells #[.int .i64 kind, .string name, .slice labelsA labelsN labelsC, .slice kidsA kidsN kidsC] 51)) 51 #[.int .i64 0, .string { data := #[] }, .slice none 0 0, .slice none 0 0]; simpa using this
  have bP := bP0.drew
  have bR := bR0.drew
  have hBc : Below w.heap.size w w0.drew := by rw [hw0]; exact (((Below.refl _ _).alloc (Nat.le_refl _) _).alloc (by simp) _).drew
  have hs0 : w.heap.size + 2 ≤ w0.drew.heap.size := by rw [hw0]; simp
  clear hw0 bP0 bR0
  have hlow : w0.drew.heap.size = w0.drew.heap.size := rfl
  go_region_held3 (fun w' => w'.cell? ⟨w.heap.size, 0, none⟩ = some (.int .i64 kind) ∧ w'.cell? ⟨w.heap.size, 1, none⟩ = some (.string name) ∧ w'.cell? ⟨w.heap.size, 2, none⟩ = some (.slice labelsA labelsN labelsC) ∧ w'.cell? ⟨w.heap.size, 3, none⟩ = some (.slice kidsA kidsN kidsC))
    (first | exact ⟨bP.cell 0, bP.cell 1, bP.cell 2, bP.cell 3⟩ | go_keep)
    (first
      | (go_at_call 181; refine (clone_any labels B _ _ (Nat.le_trans hB hBc.size) (by have := HS.out; omega) (R_labels.out.below (hBc.mono hB))).mono ?_; rintro e wq ⟨uL, rfl, LL, hbq⟩; obtain ⟨lA, lN, lC, rfl⟩ := LL.form; replace hBc := hBc.trans (hbq.mono hBc.size); have zq := hbq.size; replace bP := bP.step hbq; replace bR := bR.step hbq; (try replace LK := LK.step hbq); have fR0 := bR.frozen 0; have fR1 := bR.frozen 1; have fR2 := bR.frozen 2; have fR3 := bR.frozen 3; have cR0 : wq.cell? ⟨w.heap.size + 1, 0, none⟩ = some (.int .i64 0) := bR.cell 0; have cR1 : wq.cell? ⟨w.heap.size + 1, 1, none⟩ = some (.string { data := #[] }) := bR.cell 1; have cR2 : wq.cell? ⟨w.heap.size + 1, 2, none⟩ = some (.slice none 0 0) := bR.cell 2; have cR3 : wq.cell? ⟨w.heap.size + 1, 3, none⟩ = some (.slice none 0 0) := bR.cell 3)
      | (go_at_call 93; refine (IH.out B _ _ (Nat.le_trans hB hBc.size) (by have := HS.out; omega) (R_kids.out.below (hBc.mono hB))).mono ?_; rintro e wq ⟨uK, rfl, LK, hbq⟩; obtain ⟨kA, kN, kC, rfl⟩ := LK.form; replace hBc := hBc.trans (hbq.mono hBc.size); have zk := hbq.size; replace bP := bP.step hbq; replace bR := bR.step hbq; (try replace LL := LL.step hbq); have fR0 := bR.frozen 0; have fR1 := bR.frozen 1; have fR2 := bR.frozen 2; have fR3 := bR.frozen 3; have cR0 : wq.cell? ⟨w.heap.size + 1, 0, none⟩ = some (.int .i64 0) := bR.cell 0; have cR1 : wq.cell? ⟨w.heap.size + 1, 1, none⟩ = some (.string { data := #[] }) := bR.cell 1; have cR2 : wq.cell? ⟨w.heap.size + 1, 2, none⟩ = some (.slice none 0 0) := bR.cell 2; have cR3 : wq.cell? ⟨w.heap.size + 1, 3, none⟩ = some (.slice none 0 0) := bR.cell 3))
  all_goals
    go_wp2_with fail
    refine bodyPost_ret (v := .agg #[.int .i64 kind, .string name, .slice lA lN lC, .slice kA kN kC]) (by simp [results, Try.results145, go_sem, cR0, cR1, cR2, cR3]) rfl ⟨[.int .i64 kind, .string name, .slice lA lN lC, .slice kA kN kC], rfl, ?_, ?_⟩
    · have base := LvC.lit (LvC.lit (LvC.cons2 (lo := w0.drew.heap.size) (hi := wq.heap.size) LL LK (by omega) (by omega) (by omega) (by omega) (by omega) (Nat.le_refl _)) (.string name)) (.int .i64 kind)
      rw [Ty.pd_mk]
      refine LvC.low (lo2 := w0.drew.heap.size) ?_ (by omega)
      refine LvC.more (hi := wq.heap.size) ?_ (Nat.le_refl _) (by simp [World.setCell]) (Nat.le_refl _)
      iterate 4 (refine LvC.setCell ?_ (.inl (by show w.heap.size + 1 < w0.drew.heap.size; omega)) _)
      exact base
    · iterate 4 (refine Below.setCell ?_ (by simp; try omega) _)
      exact hBc
mutual
theorem copyType_all : ∀ t : Ty, ToC 145 (Ty.pd t)
  | .mk kind name labels kids => copyType_step (copyTypes_step (copyType_mem kids))
theorem copyType_mem : ∀ ts : List Ty, ∀ t ∈ ts, ToC 145 (Ty.pd t)
  | [], x, hx => absurd hx (by simp)
  | t :: r, x, hx => (List.mem_cons.1 hx).elim (fun e => e ▸ copyType_all t) (fun h => copyType_mem r x h)
end
theorem copyTypes_all (ts : List Ty) : ToR 93 (.row 4 (ts.flatMap Ty.pd)) := copyTypes_step fun t _ => copyType_all t
end Go.Proofs.Ytmmeaakhikcigaa

