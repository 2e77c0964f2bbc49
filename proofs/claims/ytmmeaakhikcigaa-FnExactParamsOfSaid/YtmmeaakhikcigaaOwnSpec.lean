/-
  Types are copied (spec: l03Own, l09OwnAll; by program: gen_own.py).
-/
import Derived.Test.YtmmeaakhikcigaaGrow
import Derived.Test.YtmmeaakhikcigaaTo
import Derived.Test.YtmmeaakhikcigaaShBase
import Derived.Deep.RegionHeld3
import Derived.Deep.AppendLies
import Derived.Deep.Cut
import Derived.Deep.CutRange
import Derived.Deep.RegionLaw
import Derived.Test.YtmmeaakhikcigaaOwnImpl
namespace Go.Proofs.Ytmmeaakhikcigaa
open Go.RowKit
set_option linter.unusedVariables false
set_option linter.unusedSimpArgs false
set_option linter.unnecessarySimpa false
set_option maxRecDepth 16000

set_option maxHeartbeats 1600000 in
theorem ownAll_step {ts : List Ty} (ih : ∀ t ∈ ts, ToC 144 (Ty.pd t)) : ToR 91 (.row 4 (ts.flatMap Ty.pd)) := by
  intro B v w hB hsz h
  rw [sz_row Ty.pd_length (by decide)] at hsz
  obtain ⟨A, n, c, rfl, hnl, hm, hat⟩ := rep_row Ty.pd_length (by decide) h
  obtain ⟨i0, hi, hz0, hz1, hz2⟩ := info_parts toTypeS_info
  unfold maxLen at hm
  have hnn : n ≤ 1048576 := by omega
  have HN := Lib.hid hnl
  have HS := Lib.hid hsz
  have HI := Lib.hid ih
  clear ih h hnl hsz
  go_enter Try.func91, Try.ntmps91
  go_wp2_with fail
  go_loopw [3, 4] (fun out i wr => ∃ (k : Nat) (u : Value) (cs : List Value) (F : List Nat), u = out ∧ k ≤ n ∧ i = .int .i64 k ∧ Grow w wr w.heap.size 51 4 k u ((ts.take k).flatMap Ty.pd) cs F) (fun _ i _ => n - (intOf i).toNat)
  case atStart => exact ⟨0, _, [], [], rfl, Nat.zero_le _, rfl, Grow.made (Below.refl _ _) (Nat.le_refl _) (Nat.le_refl _) (by simp) (by simp)⟩
  case round =>
    obtain ⟨k, u, cs, F, rfl, hk, rfl, hG⟩ := hrel
    have hbr := hG.2.2.2.2.1
    have hsz := hbr.size
    by_cases hlt : k < n
    · obtain ⟨g, off, rfl, hg2, hcell2⟩ := hat (by omega)
      obtain ⟨t2, hx2, hmem2⟩ := at_lt HN.out hlt
      obtain ⟨kind2, name2, labels2, kids2⟩ := t2
      have c_kind2 : wr.cell? ⟨g, off + k * 4, none⟩ = some (.int .i64 kind2) := cell_lit hbr (by omega) (hcell2 k 0 _ _ hx2 (by rw [Ty.pd_mk]; rfl))
      have c_name2 : wr.cell? ⟨g, off + k * 4 + 1, none⟩ = some (.string name2) := cell_lit hbr (by omega) (hcell2 k 1 _ _ hx2 (by rw [Ty.pd_mk]; rfl))
      obtain ⟨labelsV2, c_labels2, r_labels2⟩ : ∃ u, wr.cell? ⟨g, off + k * 4 + 2, none⟩ = some u ∧ Rep wr B (.row 1 (labels2.flatMap strC)) u := cell_rep hbr (by omega) hB (hcell2 k 2 _ _ hx2 (by rw [Ty.pd_mk]; rfl))
      have R_labels2 := Lib.hid r_labels2
      clear r_labels2
      obtain ⟨kidsV2, c_kids2, r_kids2⟩ : ∃ u, wr.cell? ⟨g, off + k * 4 + 3, none⟩ = some u ∧ Rep wr B (.row 4 (kids2.flatMap Ty.pd)) u := cell_rep hbr (by omega) hB (hcell2 k 3 _ _ hx2 (by rw [Ty.pd_mk]; rfl))
      have R_kids2 := Lib.hid r_kids2
      clear r_kids2
      have HX2 := Lib.hid hx2
      have HM2 := Lib.hid hmem2
      clear hx2 hmem2
      clear hcell2
      have HL2 := Lib.hid (szL_get_le (f := Ty.pd) HX2.out)
      go_wp2_with fail
      have hbb := Below.refl wr.heap.size wr
      refine (HI.out _ HM2.out B [.int .i64 kind2, .string name2, labelsV2, kidsV2] wr (Nat.le_trans hB (Nat.le_trans hbr.size hbb.size)) (by have := HS.out; have := HL2.out; omega) (Ty.close_ (R_labels2.out.below (hbb.mono (Nat.le_trans hB hbr.size))) (R_kids2.out.below (hbb.mono (Nat.le_trans hB hbr.size))))).mono ?_
      rintro e wq ⟨us, rfl, hl, hbq0⟩
      obtain ⟨lA, lN, lC, kA, kN, kC, rfl⟩ := Ty.lopen hl
      obtain ⟨F2, hh, hi2, _⟩ := hl
      have hbq := hbb.trans (hbq0.mono hbb.size)
      have hi3 : In F2 wr.heap.size wq.heap.size := hi2.more hbb.size (Nat.le_refl _)
      have hG1 := hG.step hbq
      have hown := hG1.1.alloc (.cells #[.int .i64 kind2, .string name2, .slice lA lN lC, .slice kA kN kC] 51)
      have hnew : ∀ j u, [.int .i64 kind2, .string name2, .slice lA lN lC, .slice kA kN kC][j]? = some u → (wq.alloc (.cells #[.int .i64 kind2, .string name2, .slice lA lN lC, .slice kA kN kC] 51)).cell? ((⟨wq.heap.size, 0, none⟩ : Addr).add j) = some u := World.news_of_block (heap_alloc_new wq _)
      have hlo := hG1.2.2.2.2.2.2
      have hlo2 : w.heap.size ≤ (wq.alloc (.cells #[.int .i64 kind2, .string name2, .slice lA lN lC, .slice kA kN kC] 51)).heap.size := by simp; omega
      have HG := Lib.hid hG
      have HH := Lib.hid hh
      clear hG hG1 hh
      go_wp2_with (at_builtin; refine wpList_append_own_at _ rfl _ _ 41 rfl w.heap.size 51 i0 (.agg #[.int .i64 0, .string { data := #[] }, .slice none 0 0, .slice none 0 0]) 4 72 Try.underlying41 hi hz0 hz1 hz2 rfl (by decide) _ _ _ rfl hown ⟨wq.heap.size, 0, none⟩ 1 1 [.int .i64 kind2, .string name2, .slice lA lN lC, .slice kA kN kC] rfl rfl hnew (oneCells _ _ _ _ _ _ _ _) (by simp only [maxLen]; omega) (by omega) hlo2 ?_; intro v' w3 hown' hgrow _ hat2)
      have hG2 := HG.out.next hbq HH.out hi3 ((Below.refl _ _).alloc (Nat.le_refl _) _) hown' hgrow hat2
      have HG2 := Lib.hid hG2
      clear hG2 hown hown' hnew hgrow hat2
      go_roundw
      case rel => exact ⟨k + 1, _, _, _, rfl, by omega, by go_num, by rw [List.take_add_one, HX2.out, List.flatMap_append, opt_flat]; exact HG2.out⟩
      case measure => simp [intOf]; omega
    · have hkn : k = n := by omega
      have HT : Hid (ts.take k = ts) := List.take_of_length_le (by have := HN.out; omega)
      have hfin := hG.done
      rw [HT.out] at hfin
      have HF := Lib.hid hfin
      clear hfin hG
      subst hkn
      go_wp2_with fail
      go_ret
      exact ⟨_, rfl, HF.out, hbr⟩

theorem owns_set {w : World} {base sz n : Nat} {e : TypeId} {v : Value} {xs : List Value} (h : w.ownsRow base e sz v n xs) {p : Addr} (hne : v.ownBlock ≠ some p.block) (u : Value) : (w.setCell p u).ownsRow base e sz v n xs := by
  obtain ⟨h1, h2⟩ := h
  refine ⟨h1, ?_⟩
  rcases h2 with h2 | ⟨g, cap, cur, rfl, hbb, hh, hr⟩
  · exact .inl h2
  · exact .inr ⟨g, cap, cur, rfl, hbb, (Below.heap_setCell w p u g (fun e => hne (by rw [← e]; rfl))).trans hh, hr⟩
theorem owns_far2 {w w' : World} {base sz n : Nat} {e : TypeId} {v : Value} {xs : List Value} {row : Option Nat} (h : w.ownsRow base e sz v n xs) (hg : w.grownBy w' row) (hne : ∀ g, v.ownBlock = some g → row ≠ some g) : w'.ownsRow base e sz v n xs := by
  obtain ⟨h1, h2⟩ := h
  refine ⟨h1, ?_⟩
  rcases h2 with h2 | ⟨g, cap, cur, rfl, hbb, hh, hr⟩
  · exact .inl h2
  · exact .inr ⟨g, cap, cur, rfl, hbb, by rw [hg.block g (Array.getElem?_eq_some_iff.1 hh).1 (fun e => hne g rfl e.symm)]; exact hh, hr⟩
theorem lv_strs_hi {w : World} {base n hi : Nat} {e : TypeId} {v : Value} {xs : List ByteArray} (h : w.ownsRow base e 1 v n (strs xs)) (hv : ∀ g, v.ownBlock = some g → g < hi) (hh : hi ≤ w.heap.size) : Lv w base hi (.row 1 (xs.flatMap strC)) v := by
  obtain ⟨A, n', c, rfl, hl, hnc, hcm, hg⟩ := Own.of_own h
  have hlen : (xs.flatMap strC).length = n' * 1 := by
    rw [← hl, flatMap_length strC_length]
    simp [strs]
  by_cases h0 : 0 < n'
  · obtain ⟨g, off, rfl, h1, h2, ho⟩ := hg h0
    exact ⟨[g], by rw [Hold]; exact ⟨_, n', c, rfl, hlen, hnc, hcm, .inr ⟨h0, g, off, [], _, rfl, rfl, ho, holdL_strs w xs⟩⟩, ⟨by simp, fun b hb => by rw [List.mem_singleton.1 hb]; exact ⟨h1, hv g rfl⟩⟩, hh⟩
  · exact ⟨[], by rw [Hold]; exact ⟨_, n', c, rfl, hlen, hnc, hcm, .inl ⟨by omega, rfl⟩⟩, In.nil _ _, hh⟩
set_option maxHeartbeats 12800000 in
theorem own_step {kind : Int} {name : ByteArray} {labels : List ByteArray} {kids : List Ty} (ih : ∀ t ∈ kids, ToC 144 (Ty.pd t)) : ToC 144 (Ty.pd ⟨kind, name, labels, kids⟩) := by
  intro B cs w hB hsz h
  obtain ⟨labelsV, kidsV, rfl, r_labels, r_kids⟩ := Ty.open_ h
  have R_labels := Lib.hid r_labels
  clear r_labels
  have R_kids := Lib.hid r_kids
  clear r_kids
  obtain ⟨labelsA, labelsN, labelsC, rfl⟩ := R_labels.out.form
  obtain ⟨A, n, c, rfl, hnl, hm, hat⟩ := rep_row Ty.pd_length (by decide) R_kids.out
  unfold maxLen at hm
  obtain ⟨s0, hs, hsz0, hsz1, hsz2⟩ := info_parts str_info
  obtain ⟨i0, hi, hz0, hz1, hz2⟩ := info_parts toTypeS_info
  simp only [Ty.pd_mk, PD.szL] at hsz
  rw [sz_row strC_length (by decide), sz_row Ty.pd_length (by decide)] at hsz
  have hll : labels.length ≤ 1048576 := by omega
  have hnn : n ≤ 1048576 := by omega
  have HN := Lib.hid hnl
  have HS := Lib.hid hsz
  have HI := Lib.hid ih
  have HAT := Lib.hid hat
  clear ih h hnl hsz hat
  go_enter Try.func144, Try.ntmps144
  go_wp2_with fail
  obtain ⟨w0, hw0⟩ : ∃ w0, w0 = (w.alloc (.cells #[.int .i64 kind, .string name, .slice labelsA labelsN labelsC, .slice A n c] 51)).alloc (.cells #[.int .i64 0, .string { data := #[] }, .slice none 0 0, .slice none 0 0] 51) := ⟨_, rfl⟩
  rw [← hw0]
  have bP : Blk w0 w.heap.size 51 #[.int .i64 kind, .string name, .slice labelsA labelsN labelsC, .slice A n c] := by rw [hw0]; exact (Blk.new w _ _).alloc _
  have bR : Blk w0 (w.heap.size + 1) 51 #[.int .i64 0, .string { data := #[] }, .slice none 0 0, .slice none 0 0] := by rw [hw0]; have := Blk.new (w.alloc (.cells #[.int .i64 kind, .string name, .slice labelsA labelsN labelsC, .slice A n c] 51)) 51 #[.int .i64 0, .string { data := #[] }, .slice none 0 0, .slice none 0 0]; simpa using this
  have hB0 : Below w.heap.size w w0 := by rw [hw0]; exact ((Below.refl _ _).alloc (Nat.le_refl _) _).alloc (by simp) _
  have hs0 : w0.heap.size = w.heap.size + 2 := by rw [hw0]; simp
  clear hw0
  have HSRC : Hid (∀ W, Below w0.heap.size w0 W → SrcOk W (.slice labelsA labelsN labelsC) 1 labels.length (strs labels)) := fun W hW => src_str (R_labels.out.below ((hB0.trans (hW.mono hB0.size)).mono hB))
  go_cut [3] from 5 to 13 (fun v wx => ∃ (b : Nat) (lA : Option Addr) (lN lC : Nat), v = .pointer (some ⟨b, 0, none⟩) ∧ w0.heap.size ≤ b ∧ b < wx.heap.size ∧ Blk wx b 51 #[.int .i64 kind, .string name, .slice lA lN lC, .slice none 0 0] ∧ wx.ownsRow w0.heap.size 9 1 (.slice lA lN lC) labels.length (strs labels) ∧ Hid ((Value.slice lA lN lC).ownBlock ≠ some b) ∧ Below w0.heap.size w0 wx)
  case first =>
    have hlP := bP.lt
    have hb0 : Below w0.heap.size w0 w0.drew := (Below.refl _ _).drew
    have hbS : Below w0.heap.size w0 (w0.alloc (.cells #[] 9)).drew := ((Below.refl _ _).alloc (Nat.le_refl _) _).drew
    have hoS : (w0.alloc (.cells #[] 9)).drew.ownsRow w0.heap.size 9 1 (.slice (some ⟨w.heap.size + 2, 0, none⟩) 0 0) 0 [] := (ownsRow_litAt w0 #[] (Nat.le_refl _) (by decide) hs0 rfl rfl).drew
    have hbZS : Below w0.heap.size w0 ((w0.alloc (.cells #[.int .i64 0, .string { data := #[] }, .slice none 0 0, .slice none 0 0] 51)).alloc (.cells #[] 9)).drew := (((Below.refl _ _).alloc (Nat.le_refl _) _).alloc (by simp) _).drew
    have hbSZ : Below w0.heap.size w0 ((w0.alloc (.cells #[] 9)).alloc (.cells #[.int .i64 0, .string { data := #[] }, .slice none 0 0, .slice none 0 0] 51)).drew := (((Below.refl _ _).alloc (Nat.le_refl _) _).alloc (by simp) _).drew
    have hbZ : Below w0.heap.size w0 (w0.alloc (.cells #[.int .i64 0, .string { data := #[] }, .slice none 0 0, .slice none 0 0] 51)).drew := ((Below.refl _ _).alloc (Nat.le_refl _) _).drew
    have hoSZ : ((w0.alloc (.cells #[] 9)).alloc (.cells #[.int .i64 0, .string { data := #[] }, .slice none 0 0, .slice none 0 0] 51)).drew.ownsRow w0.heap.size 9 1 (.slice (some ⟨w.heap.size + 2, 0, none⟩) 0 0) 0 [] := ((ownsRow_litAt w0 #[] (Nat.le_refl _) (by decide) hs0 rfl rfl).alloc _).drew
    have hoZS : ((w0.alloc (.cells #[.int .i64 0, .string { data := #[] }, .slice none 0 0, .slice none 0 0] 51)).alloc (.cells #[] 9)).drew.ownsRow w0.heap.size 9 1 (.slice (some ⟨w.heap.size + 3, 0, none⟩) 0 0) 0 [] := (ownsRow_litAt (w0.alloc (.cells #[.int .i64 0, .string { data := #[] }, .slice none 0 0, .slice none 0 0] 51)) #[] (by simp) (by decide) (by simp [hs0]) rfl rfl).drew
    have xA : Blk ((w0.alloc (.cells #[.int .i64 0, .string { data := #[] }, .slice none 0 0, .slice none 0 0] 51)).alloc (.cells #[] 9)).drew (w.heap.size + 2) 51 #[.int .i64 0, .string { data := #[] }, .slice none 0 0, .slice none 0 0] := by rw [← hs0]; exact (Blk.new w0 _ _).alloc _
    have xB : Blk ((w0.alloc (.cells #[] 9)).alloc (.cells #[.int .i64 0, .string { data := #[] }, .slice none 0 0, .slice none 0 0] 51)).drew (w.heap.size + 3) 51 #[.int .i64 0, .string { data := #[] }, .slice none 0 0, .slice none 0 0] := by have := (Blk.new (w0.alloc (.cells #[] 9)) 51 #[.int .i64 0, .string { data := #[] }, .slice none 0 0, .slice none 0 0]).drew; simpa [hs0] using this
    have bP0 := bP.below hb0 hlP
    have bPS := bP.below hbS hlP
    have bPZ := bP.below hbZ hlP
    have bPZS := bP.below hbZS hlP
    have bPSZ := bP.below hbSZ hlP
    have h23 : w.heap.size + 2 ≠ w.heap.size + 3 := by omega
    have h32 : w.heap.size + 3 ≠ w.heap.size + 2 := by omega
    have hWZS : w.heap.size + 2 ≠ ((w0.alloc (.cells #[.int .i64 0, .string { data := #[] }, .slice none 0 0, .slice none 0 0] 51)).alloc (.cells #[] 9)).drew.heap.size := by have := xA.lt; have := (World.ownsRow.lt hoZS) _ rfl; omega
    have hWSZ : w.heap.size + 3 ≠ ((w0.alloc (.cells #[] 9)).alloc (.cells #[.int .i64 0, .string { data := #[] }, .slice none 0 0, .slice none 0 0] 51)).drew.heap.size := by have := xB.lt; omega
    refine wp_region_held_drew (S := (fun w' => w'.cell? ⟨w.heap.size, 0, none⟩ = some (.int .i64 kind) ∧ w'.cell? ⟨w.heap.size, 1, none⟩ = some (.string name) ∧ w'.cell? ⟨w.heap.size, 2, none⟩ = some (.slice labelsA labelsN labelsC))) (by kernel_rfl) ⟨bP0.cell 0, bP0.cell 1, bP0.cell 2⟩ (fun hHeld => ?_)
    refine wpAnyH_take (i := 0) (oi := ?o0_1) (v := ?v0_1) ?h0_1 (by kernel_rfl) (by kernel_rfl) (by kernel_rfl) ?q0_1 (Or.inl ⟨?z0_1, ?y0_1⟩) (by assumption) ?r0_1
    case h0_1 =>
      simp only [List.getElem?_toArray, List.getElem?_cons_succ, List.getElem?_cons_zero]
      rfl
    case q0_1 => exact fun _ _ _ h => h
    case z0_1 => rfl
    case y0_1 =>
      intro w hSw
      try dsimp only at hSw
      go_simp
      try with_reducible rfl
    try simp only [Act.put, List.setIfInBounds_toArray, List.set_cons_zero, List.set_cons_succ]
    refine wpAnyH_take (i := 1) (oi := ?o1_2) (v := ?v1_2) ?h1_2 (by kernel_rfl) (by kernel_rfl) (by kernel_rfl) ?q1_2 (Or.inl ⟨?z1_2, ?y1_2⟩) (by assumption) ?r1_2
    case h1_2 =>
      simp only [List.getElem?_toArray, List.getElem?_cons_succ, List.getElem?_cons_zero]
      rfl
    case q1_2 => exact fun _ _ _ h => h
    case z1_2 => rfl
    case y1_2 =>
      intro w hSw
      try dsimp only at hSw
      go_simp
      try with_reducible rfl
    try simp only [Act.put, List.setIfInBounds_toArray, List.set_cons_zero, List.set_cons_succ]
    refine wpAnyH_take (i := 2) (oi := ?o2_3) (v := ?v2_3) ?h2_3 (by kernel_rfl) (by kernel_rfl) (by kernel_rfl) ?q2_3 (Or.inl ⟨?z2_3, ?y2_3⟩) (by assumption) ?r2_3
    case h2_3 =>
      simp only [List.getElem?_toArray, List.getElem?_cons_succ, List.getElem?_cons_zero]
      rfl
    case q2_3 => exact fun _ _ _ h => h
    case z2_3 => rfl
    case y2_3 =>
      intro w hSw
      try dsimp only at hSw
      go_simp
      try with_reducible rfl
    try simp only [Act.put, List.setIfInBounds_toArray, List.set_cons_zero, List.set_cons_succ]
    refine wpAnyH_take (i := 3) (oi := ?o3_4) (v := ?v3_4) ?h3_4 (by kernel_rfl) (by kernel_rfl) (by kernel_rfl) ?q3_4 (Or.inl ⟨?z3_4, ?y3_4⟩) (by assumption) ?r3_4
    case h3_4 =>
      simp only [List.getElem?_toArray, List.getElem?_cons_succ, List.getElem?_cons_zero]
      rfl
    case q3_4 => exact fun _ _ _ h => h
    case z3_4 => rfl
    case y3_4 =>
      intro w hSw
      try dsimp only at hSw
      go_simp
      try with_reducible rfl
    try simp only [Act.put, List.setIfInBounds_toArray, List.set_cons_zero, List.set_cons_succ]
    refine wpAnyH_take (i := 5) (oi := ?o5_5) (v := ?v5_5) ?h5_5 (by kernel_rfl) (by kernel_rfl) (by kernel_rfl) ?q5_5 (Or.inl ⟨?z5_5, ?y5_5⟩) (by assumption) ?r5_5
    case h5_5 =>
      simp only [List.getElem?_toArray, List.getElem?_cons_succ, List.getElem?_cons_zero]
      rfl
    case q5_5 => exact fun _ _ _ h => h
    case z5_5 => rfl
    case y5_5 =>
      intro w hSw
      try dsimp only at hSw
      go_simp
      try with_reducible rfl
    try simp only [Act.put, List.setIfInBounds_toArray, List.set_cons_zero, List.set_cons_succ]
    refine wpAnyH_take (i := 6) (oi := ?o6_6) (v := ?v6_6) ?h6_6 (by kernel_rfl) (by kernel_rfl) (by kernel_rfl) ?q6_6 (Or.inl ⟨?z6_6, ?y6_6⟩) (by assumption) ?r6_6
    case h6_6 =>
      simp only [List.getElem?_toArray, List.getElem?_cons_succ, List.getElem?_cons_zero]
      rfl
    case q6_6 => exact fun _ _ _ h => h
    case z6_6 => rfl
    case y6_6 =>
      intro w hSw
      try dsimp only at hSw
      go_simp
      try with_reducible rfl
    try simp only [Act.put, List.setIfInBounds_toArray, List.set_cons_zero, List.set_cons_succ]
    refine wpAnyH_ready (rs := [4, 9]) (by kernel_rfl) (by simp) ?_
    refine AllReadyH.cons (o := ?o4_7) ?h4_7 (fun K hK => ?k4_7) (AllReadyH.cons (o := ?o9_7) ?h9_7 (fun K hK => ?k9_7) AllReadyH.nil)
    case h4_7 =>
      simp only [List.getElem?_toArray, List.getElem?_cons_succ, List.getElem?_cons_zero]
      rfl
    case h9_7 =>
      simp only [List.getElem?_toArray, List.getElem?_cons_succ, List.getElem?_cons_zero]
      rfl
    case k4_7 =>
      go_simp
      refine hK.out _ _ (by first | exact ⟨bPS.cell 0, bPS.cell 1, bPS.cell 2⟩ | go_keep) (fun hHeld7 => ?_)
      clear hK K
      try simp only [Act.put, List.setIfInBounds_toArray, List.set_cons_zero, List.set_cons_succ]
      refine wpAnyH_ready (rs := [7, 9]) (by kernel_rfl) (by simp) ?_
      refine AllReadyH.cons (o := ?o7_8) ?h7_8 (fun K hK => ?k7_8) (AllReadyH.cons (o := ?o9_8) ?h9_8 (fun K hK => ?k9_8) AllReadyH.nil)
      case h7_8 =>
        simp only [List.getElem?_toArray, List.getElem?_cons_succ, List.getElem?_cons_zero]
        rfl
      case h9_8 =>
        simp only [List.getElem?_toArray, List.getElem?_cons_succ, List.getElem?_cons_zero]
        rfl
      case k7_8 =>
        refine step_append_src (by rfl) _ _ 45 (by rfl) w0.heap.size 9 s0 (.string { data := #[] }) 1 16 Try.underlying45 hs hsz0 hsz1 hsz2 rfl (by omega) (.slice (some ⟨w.heap.size + 2, 0, none⟩) 0 0) 0 [] (by rfl) hoS (.slice labelsA labelsN labelsC) labels.length (strs labels) (by rfl) (HSRC.out _ hbS) (one_strs _) (by simp only [maxLen]; omega) (by omega) hbS.size ?_
        intro v' w3 hown' hgrow hat2
        obtain ⟨lA, lN, lC, rfl, hl1, _⟩ := (Own.of_own hown').form
        rw [Nat.zero_add, List.nil_append] at hown'
        have hb3 : Below w0.heap.size w0 w3 := hbS.grown hgrow hbS.size (fun g hg => (hoS.lt g hg).1)
        have bPd := bP.below hb3 hlP
        refine hK.out _ _ (by first | exact ⟨bPd.cell 0, bPd.cell 1, bPd.cell 2⟩ | go_keep) (fun hHeld8 => ?_)
        clear hK K
        try simp only [Act.put, List.setIfInBounds_toArray, List.set_cons_zero, List.set_cons_succ]
        refine wpAnyH_take (i := 8) (oi := ?o8_9) (v := ?v8_9) ?h8_9 (by kernel_rfl) (by kernel_rfl) (by kernel_rfl) ?q8_9 (Or.inl ⟨?z8_9, ?y8_9⟩) (by assumption) ?r8_9
        case h8_9 =>
          simp only [List.getElem?_toArray, List.getElem?_cons_succ, List.getElem?_cons_zero]
          rfl
        case q8_9 => exact fun _ _ _ h => h
        case z8_9 => rfl
        case y8_9 =>
          intro w hSw
          try dsimp only at hSw
          go_simp
          try with_reducible rfl
        try simp only [Act.put, List.setIfInBounds_toArray, List.set_cons_zero, List.set_cons_succ]
        refine wpAnyH_ready (rs := [9]) (by kernel_rfl) (by simp) ?_
        refine AllReadyH.cons (o := ?o9_10) ?h9_10 (fun K hK => ?k9_10) AllReadyH.nil
        case h9_10 =>
          simp only [List.getElem?_toArray, List.getElem?_cons_succ, List.getElem?_cons_zero]
          rfl
        go_simp
        refine hK.out _ _ (by first | exact ⟨(bPd.alloc _).cell 0, (bPd.alloc _).cell 1, (bPd.alloc _).cell 2⟩ | go_keep) (fun hHeld10 => ?_)
        clear hK K
        try simp only [Act.put, List.setIfInBounds_toArray, List.set_cons_zero, List.set_cons_succ]
        refine wpAnyH_ready (rs := [10]) (by kernel_rfl) (by simp) ?_
        refine AllReadyH.cons (o := ?o10_11) ?h10_11 (fun K hK => ?k10_11) AllReadyH.nil
        case h10_11 =>
          simp only [List.getElem?_toArray, List.getElem?_cons_succ, List.getElem?_cons_zero]
          rfl
        go_simp
        refine hK.out _ _ (by first | exact ⟨(bPd.alloc _).cell 0, (bPd.alloc _).cell 1, (bPd.alloc _).cell 2⟩ | go_keep) (fun hHeld11 => ?_)
        clear hK K
        try simp only [Act.put, List.setIfInBounds_toArray, List.set_cons_zero, List.set_cons_succ]
        refine wpAnyH_done (by kernel_rfl) ?_ _
        go_wp2_with fail
        go_meet
        exact ⟨w3.heap.size, lA, lN, lC, rfl, hb3.size, by simp, Blk.new w3 _ _, hown'.alloc _, Lib.hid (fun e => by have := (hown'.lt _ e).2; omega), hb3.alloc hb3.size _⟩
      case k9_8 =>
        go_simp
        refine hK.out _ _ (by first | exact ⟨bPSZ.cell 0, bPSZ.cell 1, bPSZ.cell 2⟩ | go_keep) (fun hHeld8 => ?_)
        clear hK K
        try simp only [Act.put, List.setIfInBounds_toArray, List.set_cons_zero, List.set_cons_succ]
        refine wpAnyH_ready (rs := [7]) (by kernel_rfl) (by simp) ?_
        refine AllReadyH.cons (o := ?o7_12) ?h7_12 (fun K hK => ?k7_12) AllReadyH.nil
        case h7_12 =>
          simp only [List.getElem?_toArray, List.getElem?_cons_succ, List.getElem?_cons_zero]
          rfl
        refine step_append_src (by rfl) _ _ 45 (by rfl) w0.heap.size 9 s0 (.string { data := #[] }) 1 16 Try.underlying45 hs hsz0 hsz1 hsz2 rfl (by omega) (.slice (some ⟨w.heap.size + 2, 0, none⟩) 0 0) 0 [] (by rfl) hoSZ (.slice labelsA labelsN labelsC) labels.length (strs labels) (by rfl) (HSRC.out _ hbSZ) (one_strs _) (by simp only [maxLen]; omega) (by omega) hbSZ.size ?_
        intro v' w3 hown' hgrow hat2
        obtain ⟨lA, lN, lC, rfl, hl1, _⟩ := (Own.of_own hown').form
        rw [Nat.zero_add, List.nil_append] at hown'
        have hb3 : Below w0.heap.size w0 w3 := hbSZ.grown hgrow hbSZ.size (fun g hg => (hoSZ.lt g hg).1)
        have bPd := bP.below hb3 hlP
        have oA : Blk w3 (w.heap.size + 3) 51 #[.int .i64 0, .string { data := #[] }, .slice none 0 0, .slice none 0 0] := (hgrow.block (w.heap.size + 3) xB.lt (fun e => h32 (Option.some.inj e))).trans xB
        have neA : (Value.slice lA lN lC).ownBlock ≠ some (w.heap.size + 3) := fun e => hat2.elim (fun h => h32 (Option.some.inj (e.symm.trans h))) (fun h => hWSZ (Option.some.inj (e.symm.trans h)))
        have fA0 := oA.frozen 0
        have fA1 := oA.frozen 1
        have fA2 := oA.frozen 2
        have fA3 := oA.frozen 3
        have cA0 : w3.cell? ⟨w.heap.size + 3, 0, none⟩ = some (.int .i64 0) := oA.cell 0
        have cA1 : w3.cell? ⟨w.heap.size + 3, 1, none⟩ = some (.string { data := #[] }) := oA.cell 1
        have cA2 : w3.cell? ⟨w.heap.size + 3, 2, none⟩ = some (.slice none 0 0) := oA.cell 2
        have cA3 : w3.cell? ⟨w.heap.size + 3, 3, none⟩ = some (.slice none 0 0) := oA.cell 3
        refine hK.out _ _ (by first | exact ⟨bPd.cell 0, bPd.cell 1, bPd.cell 2⟩ | go_keep) (fun hHeld12 => ?_)
        clear hK K
        try simp only [Act.put, List.setIfInBounds_toArray, List.set_cons_zero, List.set_cons_succ]
        refine wpAnyH_take (i := 8) (oi := ?o8_13) (v := ?v8_13) ?h8_13 (by kernel_rfl) (by kernel_rfl) (by kernel_rfl) ?q8_13 (Or.inl ⟨?z8_13, ?y8_13⟩) (by assumption) ?r8_13
        case h8_13 =>
          simp only [List.getElem?_toArray, List.getElem?_cons_succ, List.getElem?_cons_zero]
          rfl
        case q8_13 => exact fun _ _ _ h => h
        case z8_13 => rfl
        case y8_13 =>
          intro w hSw
          try dsimp only at hSw
          go_simp
          try with_reducible rfl
        try simp only [Act.put, List.setIfInBounds_toArray, List.set_cons_zero, List.set_cons_succ]
        refine wpAnyH_ready (rs := [10]) (by kernel_rfl) (by simp) ?_
        refine AllReadyH.cons (o := ?o10_14) ?h10_14 (fun K hK => ?k10_14) AllReadyH.nil
        case h10_14 =>
          simp only [List.getElem?_toArray, List.getElem?_cons_succ, List.getElem?_cons_zero]
          rfl
        go_simp
        refine hK.out _ _ (by first | exact ⟨((((bPd.far (by first | (simp; done) | (simp; omega)) _).far (by first | (simp; done) | (simp; omega)) _).far (by first | (simp; done) | (simp; omega)) _).far (by first | (simp; done) | (simp; omega)) _).cell 0, ((((bPd.far (by first | (simp; done) | (simp; omega)) _).far (by first | (simp; done) | (simp; omega)) _).far (by first | (simp; done) | (simp; omega)) _).far (by first | (simp; done) | (simp; omega)) _).cell 1, ((((bPd.far (by first | (simp; done) | (simp; omega)) _).far (by first | (simp; done) | (simp; omega)) _).far (by first | (simp; done) | (simp; omega)) _).far (by first | (simp; done) | (simp; omega)) _).cell 2⟩ | go_keep) (fun hHeld14 => ?_)
        clear hK K
        try simp only [Act.put, List.setIfInBounds_toArray, List.set_cons_zero, List.set_cons_succ]
        refine wpAnyH_done (by kernel_rfl) ?_ _
        go_wp2_with fail
        go_meet
        refine ⟨w.heap.size + 3, lA, lN, lC, rfl, by omega, by have := oA.lt; first | omega | (simp [World.setCell]; omega) | simpa [World.setCell] using this, ?_, ?_, Lib.hid neA, ?_⟩
        · have := (((oA.set_ 0 (.int .i64 kind)).set_ 1 (.string name)).set_ 2 (.slice lA lN lC)).set_ 3 (.slice none 0 0)
          simpa using this
        · iterate 4 (refine owns_set ?_ neA _)
          exact hown'
        · iterate 4 (refine Below.setCell ?_ (by simp; omega) _)
          exact hb3
    case k9_7 =>
      go_simp
      refine hK.out _ _ (by first | exact ⟨bPZ.cell 0, bPZ.cell 1, bPZ.cell 2⟩ | go_keep) (fun hHeld7 => ?_)
      clear hK K
      try simp only [Act.put, List.setIfInBounds_toArray, List.set_cons_zero, List.set_cons_succ]
      refine wpAnyH_ready (rs := [4]) (by kernel_rfl) (by simp) ?_
      refine AllReadyH.cons (o := ?o4_15) ?h4_15 (fun K hK => ?k4_15) AllReadyH.nil
      case h4_15 =>
        simp only [List.getElem?_toArray, List.getElem?_cons_succ, List.getElem?_cons_zero]
        rfl
      go_simp
      refine hK.out _ _ (by first | exact ⟨bPZS.cell 0, bPZS.cell 1, bPZS.cell 2⟩ | go_keep) (fun hHeld15 => ?_)
      clear hK K
      try simp only [Act.put, List.setIfInBounds_toArray, List.set_cons_zero, List.set_cons_succ]
      refine wpAnyH_ready (rs := [7]) (by kernel_rfl) (by simp) ?_
      refine AllReadyH.cons (o := ?o7_16) ?h7_16 (fun K hK => ?k7_16) AllReadyH.nil
      case h7_16 =>
        simp only [List.getElem?_toArray, List.getElem?_cons_succ, List.getElem?_cons_zero]
        rfl
      refine step_append_src (by rfl) _ _ 45 (by rfl) w0.heap.size 9 s0 (.string { data := #[] }) 1 16 Try.underlying45 hs hsz0 hsz1 hsz2 rfl (by omega) (.slice (some ⟨w.heap.size + 3, 0, none⟩) 0 0) 0 [] (by rfl) hoZS (.slice labelsA labelsN labelsC) labels.length (strs labels) (by rfl) (HSRC.out _ hbZS) (one_strs _) (by simp only [maxLen]; omega) (by omega) hbZS.size ?_
      intro v' w3 hown' hgrow hat2
      obtain ⟨lA, lN, lC, rfl, hl1, _⟩ := (Own.of_own hown').form
      rw [Nat.zero_add, List.nil_append] at hown'
      have hb3 : Below w0.heap.size w0 w3 := hbZS.grown hgrow hbZS.size (fun g hg => (hoZS.lt g hg).1)
      have bPd := bP.below hb3 hlP
      have oA : Blk w3 (w.heap.size + 2) 51 #[.int .i64 0, .string { data := #[] }, .slice none 0 0, .slice none 0 0] := (hgrow.block (w.heap.size + 2) xA.lt (fun e => h23 (Option.some.inj e))).trans xA
      have neA : (Value.slice lA lN lC).ownBlock ≠ some (w.heap.size + 2) := fun e => hat2.elim (fun h => h23 (Option.some.inj (e.symm.trans h))) (fun h => hWZS (Option.some.inj (e.symm.trans h)))
      have fA0 := oA.frozen 0
      have fA1 := oA.frozen 1
      have fA2 := oA.frozen 2
      have fA3 := oA.frozen 3
      have cA0 : w3.cell? ⟨w.heap.size + 2, 0, none⟩ = some (.int .i64 0) := oA.cell 0
      have cA1 : w3.cell? ⟨w.heap.size + 2, 1, none⟩ = some (.string { data := #[] }) := oA.cell 1
      have cA2 : w3.cell? ⟨w.heap.size + 2, 2, none⟩ = some (.slice none 0 0) := oA.cell 2
      have cA3 : w3.cell? ⟨w.heap.size + 2, 3, none⟩ = some (.slice none 0 0) := oA.cell 3
      refine hK.out _ _ (by first | exact ⟨bPd.cell 0, bPd.cell 1, bPd.cell 2⟩ | go_keep) (fun hHeld16 => ?_)
      clear hK K
      try simp only [Act.put, List.setIfInBounds_toArray, List.set_cons_zero, List.set_cons_succ]
      refine wpAnyH_take (i := 8) (oi := ?o8_17) (v := ?v8_17) ?h8_17 (by kernel_rfl) (by kernel_rfl) (by kernel_rfl) ?q8_17 (Or.inl ⟨?z8_17, ?y8_17⟩) (by assumption) ?r8_17
      case h8_17 =>
        simp only [List.getElem?_toArray, List.getElem?_cons_succ, List.getElem?_cons_zero]
        rfl
      case q8_17 => exact fun _ _ _ h => h
      case z8_17 => rfl
      case y8_17 =>
        intro w hSw
        try dsimp only at hSw
        go_simp
        try with_reducible rfl
      try simp only [Act.put, List.setIfInBounds_toArray, List.set_cons_zero, List.set_cons_succ]
      refine wpAnyH_ready (rs := [10]) (by kernel_rfl) (by simp) ?_
      refine AllReadyH.cons (o := ?o10_18) ?h10_18 (fun K hK => ?k10_18) AllReadyH.nil
      case h10_18 =>
        simp only [List.getElem?_toArray, List.getElem?_cons_succ, List.getElem?_cons_zero]
        rfl
      go_simp
      refine hK.out _ _ (by first | exact ⟨((((bPd.far (by first | (simp; done) | (simp; omega)) _).far (by first | (simp; done) | (simp; omega)) _).far (by first | (simp; done) | (simp; omega)) _).far (by first | (simp; done) | (simp; omega)) _).cell 0, ((((bPd.far (by first | (simp; done) | (simp; omega)) _).far (by first | (simp; done) | (simp; omega)) _).far (by first | (simp; done) | (simp; omega)) _).far (by first | (simp; done) | (simp; omega)) _).cell 1, ((((bPd.far (by first | (simp; done) | (simp; omega)) _).far (by first | (simp; done) | (simp; omega)) _).far (by first | (simp; done) | (simp; omega)) _).far (by first | (simp; done) | (simp; omega)) _).cell 2⟩ | go_keep) (fun hHeld18 => ?_)
      clear hK K
      try simp only [Act.put, List.setIfInBounds_toArray, List.set_cons_zero, List.set_cons_succ]
      refine wpAnyH_done (by kernel_rfl) ?_ _
      go_wp2_with fail
      go_meet
      refine ⟨w.heap.size + 2, lA, lN, lC, rfl, by omega, by have := oA.lt; first | omega | (simp [World.setCell]; omega) | simpa [World.setCell] using this, ?_, ?_, Lib.hid neA, ?_⟩
      · have := (((oA.set_ 0 (.int .i64 kind)).set_ 1 (.string name)).set_ 2 (.slice lA lN lC)).set_ 3 (.slice none 0 0)
        simpa using this
      · iterate 4 (refine owns_set ?_ neA _)
        exact hown'
      · iterate 4 (refine Below.setCell ?_ (by simp; omega) _)
        exact hb3
  case rest =>
    obtain ⟨b, lA, lN, lC, rfl, hb1, hb2, bO, hL, HNE, hBx⟩ := hcut
    have hlP := bP.lt
    have hlR := bR.lt
    have bP1 := bP.below hBx hlP
    have bR1 := bR.below hBx hlR
    have hBc := hB0.trans (hBx.mono hB0.size)
    have HLT : Hid (∀ g, (Value.slice lA lN lC).ownBlock = some g → w0.heap.size ≤ g ∧ g < wc.heap.size) := fun g hg => hL.lt g hg
    have hwc := hBx.size
    clear bP bR HSRC hs hsz0 hsz1 hsz2 hBx
    go_wp2_with fail
    go_loopw [4] (fun i wr => ∃ (k : Nat) (u : Value) (cs : List Value) (F : List Nat), k ≤ n ∧ i = .int .i64 k ∧ Grow w wr wc.heap.size 51 4 k u ((kids.take k).flatMap Ty.pd) cs F ∧ Blk wr b 51 #[.int .i64 kind, .string name, .slice lA lN lC, u] ∧ Blk wr w.heap.size 51 #[.int .i64 kind, .string name, .slice labelsA labelsN labelsC, .slice A n c] ∧ Blk wr (w.heap.size + 1) 51 #[.int .i64 0, .string { data := #[] }, .slice none 0 0, .slice none 0 0] ∧ wr.ownsRow w0.heap.size 9 1 (.slice lA lN lC) labels.length (strs labels)) (fun i _ => n - (intOf i).toNat)
    case atStart => exact ⟨0, .slice none 0 0, [], [], Nat.zero_le _, rfl, Grow.none_ hBc, bO, bP1, bR1, hL⟩
    case round =>
      clear bO bP1 bR1 hL
      obtain ⟨k, u, cs, F, hk, rfl, hG, bO, bP, bR, hL⟩ := hrel
      obtain ⟨uA, uN, uC, rfl, _⟩ := (Own.of_own hG.1).form
      have hbr := hG.2.2.2.2.1
      have hlo := hG.2.2.2.2.2.2
      have hsz := hbr.size
      by_cases hlt : k < n
      · have hat := HAT.out
        obtain ⟨g, off, rfl, hg2, hcell2⟩ := hat (by omega)
        obtain ⟨t2, hx2, hmem2⟩ := at_lt HN.out hlt
        obtain ⟨kind2, name2, labels2, kids2⟩ := t2
        have c_kind2 : wr.cell? ⟨g, off + k * 4, none⟩ = some (.int .i64 kind2) := cell_lit hbr (by omega) (hcell2 k 0 _ _ hx2 (by rw [Ty.pd_mk]; rfl))
        have c_name2 : wr.cell? ⟨g, off + k * 4 + 1, none⟩ = some (.string name2) := cell_lit hbr (by omega) (hcell2 k 1 _ _ hx2 (by rw [Ty.pd_mk]; rfl))
        obtain ⟨labelsV2, c_labels2, r_labels2⟩ : ∃ u, wr.cell? ⟨g, off + k * 4 + 2, none⟩ = some u ∧ Rep wr B (.row 1 (labels2.flatMap strC)) u := cell_rep hbr (by omega) hB (hcell2 k 2 _ _ hx2 (by rw [Ty.pd_mk]; rfl))
        have R_labels2 := Lib.hid r_labels2
        clear r_labels2
        obtain ⟨kidsV2, c_kids2, r_kids2⟩ : ∃ u, wr.cell? ⟨g, off + k * 4 + 3, none⟩ = some u ∧ Rep wr B (.row 4 (kids2.flatMap Ty.pd)) u := cell_rep hbr (by omega) hB (hcell2 k 3 _ _ hx2 (by rw [Ty.pd_mk]; rfl))
        have R_kids2 := Lib.hid r_kids2
        clear r_kids2
        obtain ⟨labelsA2, labelsN2, labelsC2, rfl⟩ := R_labels2.out.form
        obtain ⟨kidsA2, kidsN2, kidsC2, rfl⟩ := R_kids2.out.form
        have HX2 := Lib.hid hx2
        have HM2 := Lib.hid hmem2
        clear hx2 hmem2
        clear hcell2
        have HL2 := Lib.hid (szL_get_le (f := Ty.pd) HX2.out)
        clear hat HAT
        have hcall := fun (W : World) (hW : Below wr.heap.size wr W) => HI.out _ HM2.out B [.int .i64 kind2, .string name2, .slice labelsA2 labelsN2 labelsC2, .slice kidsA2 kidsN2 kidsC2] W (Nat.le_trans hB (Nat.le_trans hbr.size hW.size)) (by have := HS.out; have := HL2.out; omega) (Ty.close_ (R_labels2.out.below (hW.mono (Nat.le_trans hB hbr.size))) (R_kids2.out.below (hW.mono (Nat.le_trans hB hbr.size))))
        have HC := Lib.hid hcall
        clear hcall
        have hgB : g < w.heap.size := by omega
        have KC : Hid (∀ W : World, (∀ i, i < w.heap.size + 2 → W.heap[i]? = wr.heap[i]?) → W.cell? ⟨w.heap.size, 3, none⟩ = some (.slice (some ⟨g, off, none⟩) n c) ∧ W.cell? ⟨g, off + k * 4, none⟩ = some (.int .i64 kind2) ∧ W.cell? ⟨g, off + k * 4 + 1, none⟩ = some (.string name2) ∧ W.cell? ⟨g, off + k * 4 + 2, none⟩ = some (.slice labelsA2 labelsN2 labelsC2) ∧ W.cell? ⟨g, off + k * 4 + 3, none⟩ = some (.slice kidsA2 kidsN2 kidsC2)) := fun W hW => ⟨(World.cell?_of_block (hW w.heap.size (by omega))).trans (bP.cell 3), (World.cell?_of_block (hW g (by omega))).trans c_kind2, (World.cell?_of_block (hW g (by omega))).trans c_name2, (World.cell?_of_block (hW g (by omega))).trans c_labels2, (World.cell?_of_block (hW g (by omega))).trans c_kids2⟩
        have hbD : Below wr.heap.size wr wr.drew := (Below.refl _ _).drew
        have eD : ∀ i, i < w.heap.size + 2 → wr.drew.heap[i]? = wr.heap[i]? := fun i hi => rfl
        have o3 : wr.drew.cell? ⟨b, 3, none⟩ = some (.slice uA uN uC) := bO.drew.cell 3
        have o3' : wr.cell? ⟨b, 3, none⟩ = some (.slice uA uN uC) := bO.cell 3
        have p3 : wr.cell? ⟨w.heap.size, 3, none⟩ = some (.slice (some ⟨g, off, none⟩) n c) := bP.cell 3
        have hk0 : (0 : Int) ≤ (k : Int) := by omega
        have hkn : (k : Int) < (n : Int) := by omega
        have HG := Lib.hid hG
        have HB4 := Lib.hid bP
        have HB5 := Lib.hid bR
        have HLL := Lib.hid hL
        clear hG bP bR hL c_kind2 c_name2 c_labels2 c_kids2
        go_wp2_with fail
        refine wp_region_held_drew (S := (fun w' => w'.cell? ⟨w.heap.size, 3, none⟩ = some (.slice (some ⟨g, off, none⟩) n c) ∧ w'.cell? ⟨g, off + k * 4, none⟩ = some (.int .i64 kind2) ∧ w'.cell? ⟨g, off + k * 4 + 1, none⟩ = some (.string name2) ∧ w'.cell? ⟨g, off + k * 4 + 2, none⟩ = some (.slice labelsA2 labelsN2 labelsC2) ∧ w'.cell? ⟨g, off + k * 4 + 3, none⟩ = some (.slice kidsA2 kidsN2 kidsC2))) (by kernel_rfl) (KC.out _ eD) (fun hHeld => ?_)
        refine wpAnyH_take (i := 0) (oi := ?o0_19) (v := ?v0_19) ?h0_19 (by kernel_rfl) (by kernel_rfl) (by kernel_rfl) ?q0_19 (Or.inl ⟨?z0_19, ?y0_19⟩) (by assumption) ?r0_19
        case h0_19 =>
          simp only [List.getElem?_toArray, List.getElem?_cons_succ, List.getElem?_cons_zero]
          rfl
        case q0_19 => exact fun _ _ _ h => h
        case z0_19 => rfl
        case y0_19 =>
          intro w hSw
          try dsimp only at hSw
          go_simp
          try with_reducible rfl
        try simp only [Act.put, List.setIfInBounds_toArray, List.set_cons_zero, List.set_cons_succ]
        refine wpAnyH_take (i := 2) (oi := ?o2_20) (v := ?v2_20) ?h2_20 (by kernel_rfl) (by kernel_rfl) (by kernel_rfl) ?q2_20 (Or.inl ⟨?z2_20, ?y2_20⟩) (by assumption) ?r2_20
        case h2_20 =>
          simp only [List.getElem?_toArray, List.getElem?_cons_succ, List.getElem?_cons_zero]
          rfl
        case q2_20 => exact fun _ _ _ h => h
        case z2_20 => rfl
        case y2_20 =>
          intro w hSw
          try dsimp only at hSw
          go_simp
          try with_reducible rfl
        try simp only [Act.put, List.setIfInBounds_toArray, List.set_cons_zero, List.set_cons_succ]
        refine wpAnyH_take (i := 3) (oi := ?o3_21) (v := ?v3_21) ?h3_21 (by kernel_rfl) (by kernel_rfl) (by kernel_rfl) ?q3_21 (Or.inl ⟨?z3_21, ?y3_21⟩) (by assumption) ?r3_21
        case h3_21 =>
          simp only [List.getElem?_toArray, List.getElem?_cons_succ, List.getElem?_cons_zero]
          rfl
        case q3_21 => exact fun _ _ _ h => h
        case z3_21 => rfl
        case y3_21 =>
          intro w hSw
          try dsimp only at hSw
          go_simp
          try with_reducible rfl
        try simp only [Act.put, List.setIfInBounds_toArray, List.set_cons_zero, List.set_cons_succ]
        refine wpAnyH_take (i := 4) (oi := ?o4_22) (v := ?v4_22) ?h4_22 (by kernel_rfl) (by kernel_rfl) (by kernel_rfl) ?q4_22 (Or.inl ⟨?z4_22, ?y4_22⟩) (by assumption) ?r4_22
        case h4_22 =>
          simp only [List.getElem?_toArray, List.getElem?_cons_succ, List.getElem?_cons_zero]
          rfl
        case q4_22 => exact fun _ _ _ h => h
        case z4_22 => rfl
        case y4_22 =>
          intro w hSw
          try dsimp only at hSw
          go_simp
          try with_reducible rfl
        try simp only [Act.put, List.setIfInBounds_toArray, List.set_cons_zero, List.set_cons_succ]
        refine wpAnyH_take (i := 5) (oi := ?o5_23) (v := ?v5_23) ?h5_23 (by kernel_rfl) (by kernel_rfl) (by kernel_rfl) ?q5_23 (Or.inl ⟨?z5_23, ?y5_23⟩) (by assumption) ?r5_23
        case h5_23 =>
          simp only [List.getElem?_toArray, List.getElem?_cons_succ, List.getElem?_cons_zero]
          rfl
        case q5_23 => exact fun _ _ _ h => h
        case z5_23 => rfl
        case y5_23 =>
          intro w hSw
          try dsimp only at hSw
          go_simp
          try with_reducible rfl
        try simp only [Act.put, List.setIfInBounds_toArray, List.set_cons_zero, List.set_cons_succ]
        refine wpAnyH_take (i := 6) (oi := ?o6_24) (v := ?v6_24) ?h6_24 (by kernel_rfl) (by kernel_rfl) (by kernel_rfl) ?q6_24 (Or.inl ⟨?z6_24, ?y6_24⟩) (by assumption) ?r6_24
        case h6_24 =>
          simp only [List.getElem?_toArray, List.getElem?_cons_succ, List.getElem?_cons_zero]
          rfl
        case q6_24 => exact fun _ _ _ h => h
        case z6_24 => rfl
        case y6_24 =>
          intro w hSw
          try dsimp only at hSw
          go_simp
          try with_reducible rfl
        try simp only [Act.put, List.setIfInBounds_toArray, List.set_cons_zero, List.set_cons_succ]
        refine wpAnyH_ready (rs := [1, 7]) (by kernel_rfl) (by simp) ?_
        refine AllReadyH.cons (o := ?o1_25) ?h1_25 (fun K hK => ?k1_25) (AllReadyH.cons (o := ?o7_25) ?h7_25 (fun K hK => ?k7_25) AllReadyH.nil)
        case h1_25 =>
          simp only [List.getElem?_toArray, List.getElem?_cons_succ, List.getElem?_cons_zero]
          rfl
        case h7_25 =>
          simp only [List.getElem?_toArray, List.getElem?_cons_succ, List.getElem?_cons_zero]
          rfl
        case k1_25 =>
          go_simp
          refine hK.out _ _ (by first | exact (KC.out _ eD) | go_keep) (fun hHeld25 => ?_)
          clear hK K
          try simp only [Act.put, List.setIfInBounds_toArray, List.set_cons_zero, List.set_cons_succ]
          refine wpAnyH_ready (rs := [7]) (by kernel_rfl) (by simp) ?_
          refine AllReadyH.cons (o := ?o7_26) ?h7_26 (fun K hK => ?k7_26) AllReadyH.nil
          case h7_26 =>
            simp only [List.getElem?_toArray, List.getElem?_cons_succ, List.getElem?_cons_zero]
            rfl
          go_simp
          go_at_call 144
          refine (HC.out _ hbD).mono ?_
          rintro e wq ⟨us, rfl, hl, hbq0⟩
          obtain ⟨lA2, lN2, lC2, kA2, kN2, kC2, rfl⟩ := Ty.lopen hl
          obtain ⟨F2, hh, hi2, _⟩ := hl
          have hi3 : In F2 wr.heap.size wq.heap.size := hi2
          have HH := Lib.hid hh
          have hbq : Below wr.heap.size wr wq := hbD.trans hbq0
          have eQ : ∀ i, i < w.heap.size + 2 → wq.heap[i]? = wr.heap[i]? := fun i hi => hbq.block i (by omega)
          have oQ := bO.step hbq
          have o3q : wq.cell? ⟨b, 3, none⟩ = some (.slice uA uN uC) := oQ.cell 3
          have oA := oQ.alloc (.cells #[.int .i64 kind2, .string name2, .slice lA2 lN2 lC2, .slice kA2 kN2 kC2] 51)
          have o3a : (wq.alloc (.cells #[.int .i64 kind2, .string name2, .slice lA2 lN2 lC2, .slice kA2 kN2 kC2] 51)).cell? ⟨b, 3, none⟩ = some (.slice uA uN uC) := oA.cell 3
          have eA : ∀ i, i < w.heap.size + 2 → (wq.alloc (.cells #[.int .i64 kind2, .string name2, .slice lA2 lN2 lC2, .slice kA2 kN2 kC2] 51)).heap[i]? = wr.heap[i]? := fun i hi => (Below.heap_alloc wq _ i (by have := hbq.size; omega)).trans (eQ i hi)
          clear hh hi2
          try go_wp2_with fail
          refine hK.out _ _ (by first | exact (KC.out _ eQ) | go_keep) (fun hHeld26 => ?_)
          clear hK K
          try simp only [Act.put, List.setIfInBounds_toArray, List.set_cons_zero, List.set_cons_succ]
          refine wpAnyH_ready (rs := [8]) (by kernel_rfl) (by simp) ?_
          refine AllReadyH.cons (o := ?o8_27) ?h8_27 (fun K hK => ?k8_27) AllReadyH.nil
          case h8_27 =>
            simp only [List.getElem?_toArray, List.getElem?_cons_succ, List.getElem?_cons_zero]
            rfl
          go_simp
          refine hK.out _ _ (by first | exact (KC.out _ eA) | go_keep) (fun hHeld27 => ?_)
          clear hK K
          try simp only [Act.put, List.setIfInBounds_toArray, List.set_cons_zero, List.set_cons_succ]
          refine wpAnyH_ready (rs := [9]) (by kernel_rfl) (by simp) ?_
          refine AllReadyH.cons (o := ?o9_28) ?h9_28 (fun K hK => ?k9_28) AllReadyH.nil
          case h9_28 =>
            simp only [List.getElem?_toArray, List.getElem?_cons_succ, List.getElem?_cons_zero]
            rfl
          refine step_append_src (by rfl) _ _ 41 (by rfl) wc.heap.size 51 i0 (.agg #[.int .i64 0, .string { data := #[] }, .slice none 0 0, .slice none 0 0]) 4 72 Try.underlying41 hi hz0 hz1 hz2 rfl (by decide) (.slice uA uN uC) k cs (by rfl) (((HG.out.step hbq).1).alloc _) (.slice (some ⟨wq.heap.size, 0, none⟩) 1 1) 1 [.int .i64 kind2, .string name2, .slice lA2 lN2 lC2, .slice kA2 kN2 kC2] (by rfl) (.inr ⟨⟨wq.heap.size, 0, none⟩, 1, rfl, rfl, World.news_of_block (heap_alloc_new wq _)⟩) (oneCells _ _ _ _ _ _ _ _) (by simp only [maxLen]; omega) (by omega) (by have := hbq.size; simp; omega) ?_
          intro v' w3 hown' hgrow hat2
          obtain ⟨vA, vN, vC, rfl, _⟩ := (Own.of_own hown').form
          have HG2 := Lib.hid (HG.out.next hbq HH.out hi3 ((Below.refl _ _).alloc (Nat.le_refl _) _) hown' hgrow hat2)
          have hrow : ∀ i, i < wc.heap.size → some i ≠ (Value.slice uA uN uC).ownBlock := fun i hi e => by have := (HG.out.1.lt _ e.symm).1; omega
          have oW : Blk w3 b 51 #[.int .i64 kind, .string name, .slice lA lN lC, .slice uA uN uC] := (hgrow.block b oA.lt (hrow b hb2)).trans oA
          have e3 : ∀ i, i < w.heap.size + 2 → w3.heap[i]? = wr.heap[i]? := fun i hi => (hgrow.block i (by have := hbq.size; simp; omega) (hrow i (by omega))).trans (eA i hi)
          have hL3 := Lib.hid (owns_far2 ((owns_step HLL.out hbq).alloc (.cells #[.int .i64 kind2, .string name2, .slice lA2 lN2 lC2, .slice kA2 kN2 kC2] 51)) hgrow (fun g' hg' e => hrow g' (HLT.out g' hg').2 e.symm))
          have eS : ∀ i, i < w.heap.size + 2 → (w3.setCell ⟨b, 3, none⟩ (.slice vA vN vC)).heap[i]? = wr.heap[i]? := fun i hi => (Below.heap_setCell w3 ⟨b, 3, none⟩ (.slice vA vN vC) i (by show i ≠ b; omega)).trans (e3 i hi)
          have fO := oW.frozen 3
          have cO : w3.cell? ⟨b, 3, none⟩ = some (.slice uA uN uC) := oW.cell 3
          clear hown' hgrow hat2 hrow
          refine hK.out _ _ (by first | exact (KC.out _ e3) | go_keep) (fun hHeld28 => ?_)
          clear hK K
          try simp only [Act.put, List.setIfInBounds_toArray, List.set_cons_zero, List.set_cons_succ]
          refine wpAnyH_take (i := 10) (oi := ?o10_29) (v := ?v10_29) ?h10_29 (by kernel_rfl) (by kernel_rfl) (by kernel_rfl) ?q10_29 (Or.inl ⟨?z10_29, ?y10_29⟩) (by assumption) ?r10_29
          case h10_29 =>
            simp only [List.getElem?_toArray, List.getElem?_cons_succ, List.getElem?_cons_zero]
            rfl
          case q10_29 => exact fun _ _ _ h => h
          case z10_29 => rfl
          case y10_29 =>
            intro w hSw
            try dsimp only at hSw
            go_simp
            try with_reducible rfl
          try simp only [Act.put, List.setIfInBounds_toArray, List.set_cons_zero, List.set_cons_succ]
          refine wpAnyH_ready (rs := [11]) (by kernel_rfl) (by simp) ?_
          refine AllReadyH.cons (o := ?o11_30) ?h11_30 (fun K hK => ?k11_30) AllReadyH.nil
          case h11_30 =>
            simp only [List.getElem?_toArray, List.getElem?_cons_succ, List.getElem?_cons_zero]
            rfl
          go_simp
          refine hK.out _ _ (by first | exact (KC.out _ eS) | go_keep) (fun hHeld30 => ?_)
          clear hK K
          try simp only [Act.put, List.setIfInBounds_toArray, List.set_cons_zero, List.set_cons_succ]
          refine wpAnyH_done (by kernel_rfl) ?_ _
          go_wp2_with fail
          go_roundw
          case rel => exact ⟨k + 1, .slice vA vN vC, _, _, by omega, by go_num, by rw [List.take_add_one, HX2.out, List.flatMap_append, opt_flat]; exact HG2.out.set (p := ⟨b, 3, none⟩) hb2 (by show w.heap.size ≤ b; omega) _, by have := oW.set_ 3 (.slice vA vN vC); simpa using this, (eS w.heap.size (by omega)).trans HB4.out, (eS (w.heap.size + 1) (by omega)).trans HB5.out, owns_set hL3.out (p := ⟨b, 3, none⟩) HNE.out _⟩
          case measure => simp [intOf]; omega
        case k7_25 =>
          go_simp
          go_at_call 144
          refine (HC.out _ hbD).mono ?_
          rintro e wq ⟨us, rfl, hl, hbq0⟩
          obtain ⟨lA2, lN2, lC2, kA2, kN2, kC2, rfl⟩ := Ty.lopen hl
          obtain ⟨F2, hh, hi2, _⟩ := hl
          have hi3 : In F2 wr.heap.size wq.heap.size := hi2
          have HH := Lib.hid hh
          have hbq : Below wr.heap.size wr wq := hbD.trans hbq0
          have eQ : ∀ i, i < w.heap.size + 2 → wq.heap[i]? = wr.heap[i]? := fun i hi => hbq.block i (by omega)
          have oQ := bO.step hbq
          have o3q : wq.cell? ⟨b, 3, none⟩ = some (.slice uA uN uC) := oQ.cell 3
          have oA := oQ.alloc (.cells #[.int .i64 kind2, .string name2, .slice lA2 lN2 lC2, .slice kA2 kN2 kC2] 51)
          have o3a : (wq.alloc (.cells #[.int .i64 kind2, .string name2, .slice lA2 lN2 lC2, .slice kA2 kN2 kC2] 51)).cell? ⟨b, 3, none⟩ = some (.slice uA uN uC) := oA.cell 3
          have eA : ∀ i, i < w.heap.size + 2 → (wq.alloc (.cells #[.int .i64 kind2, .string name2, .slice lA2 lN2 lC2, .slice kA2 kN2 kC2] 51)).heap[i]? = wr.heap[i]? := fun i hi => (Below.heap_alloc wq _ i (by have := hbq.size; omega)).trans (eQ i hi)
          clear hh hi2
          try go_wp2_with fail
          refine hK.out _ _ (by first | exact (KC.out _ eQ) | go_keep) (fun hHeld25 => ?_)
          clear hK K
          try simp only [Act.put, List.setIfInBounds_toArray, List.set_cons_zero, List.set_cons_succ]
          refine wpAnyH_ready (rs := [1, 8]) (by kernel_rfl) (by simp) ?_
          refine AllReadyH.cons (o := ?o1_31) ?h1_31 (fun K hK => ?k1_31) (AllReadyH.cons (o := ?o8_31) ?h8_31 (fun K hK => ?k8_31) AllReadyH.nil)
          case h1_31 =>
            simp only [List.getElem?_toArray, List.getElem?_cons_succ, List.getElem?_cons_zero]
            rfl
          case h8_31 =>
            simp only [List.getElem?_toArray, List.getElem?_cons_succ, List.getElem?_cons_zero]
            rfl
          case k1_31 =>
            go_simp
            refine hK.out _ _ (by first | exact (KC.out _ eQ) | go_keep) (fun hHeld31 => ?_)
            clear hK K
            try simp only [Act.put, List.setIfInBounds_toArray, List.set_cons_zero, List.set_cons_succ]
            refine wpAnyH_ready (rs := [8]) (by kernel_rfl) (by simp) ?_
            refine AllReadyH.cons (o := ?o8_32) ?h8_32 (fun K hK => ?k8_32) AllReadyH.nil
            case h8_32 =>
              simp only [List.getElem?_toArray, List.getElem?_cons_succ, List.getElem?_cons_zero]
              rfl
            go_simp
            refine hK.out _ _ (by first | exact (KC.out _ eA) | go_keep) (fun hHeld32 => ?_)
            clear hK K
            try simp only [Act.put, List.setIfInBounds_toArray, List.set_cons_zero, List.set_cons_succ]
            refine wpAnyH_ready (rs := [9]) (by kernel_rfl) (by simp) ?_
            refine AllReadyH.cons (o := ?o9_33) ?h9_33 (fun K hK => ?k9_33) AllReadyH.nil
            case h9_33 =>
              simp only [List.getElem?_toArray, List.getElem?_cons_succ, List.getElem?_cons_zero]
              rfl
            refine step_append_src (by rfl) _ _ 41 (by rfl) wc.heap.size 51 i0 (.agg #[.int .i64 0, .string { data := #[] }, .slice none 0 0, .slice none 0 0]) 4 72 Try.underlying41 hi hz0 hz1 hz2 rfl (by decide) (.slice uA uN uC) k cs (by rfl) (((HG.out.step hbq).1).alloc _) (.slice (some ⟨wq.heap.size, 0, none⟩) 1 1) 1 [.int .i64 kind2, .string name2, .slice lA2 lN2 lC2, .slice kA2 kN2 kC2] (by rfl) (.inr ⟨⟨wq.heap.size, 0, none⟩, 1, rfl, rfl, World.news_of_block (heap_alloc_new wq _)⟩) (oneCells _ _ _ _ _ _ _ _) (by simp only [maxLen]; omega) (by omega) (by have := hbq.size; simp; omega) ?_
            intro v' w3 hown' hgrow hat2
            obtain ⟨vA, vN, vC, rfl, _⟩ := (Own.of_own hown').form
            have HG2 := Lib.hid (HG.out.next hbq HH.out hi3 ((Below.refl _ _).alloc (Nat.le_refl _) _) hown' hgrow hat2)
            have hrow : ∀ i, i < wc.heap.size → some i ≠ (Value.slice uA uN uC).ownBlock := fun i hi e => by have := (HG.out.1.lt _ e.symm).1; omega
            have oW : Blk w3 b 51 #[.int .i64 kind, .string name, .slice lA lN lC, .slice uA uN uC] := (hgrow.block b oA.lt (hrow b hb2)).trans oA
            have e3 : ∀ i, i < w.heap.size + 2 → w3.heap[i]? = wr.heap[i]? := fun i hi => (hgrow.block i (by have := hbq.size; simp; omega) (hrow i (by omega))).trans (eA i hi)
            have hL3 := Lib.hid (owns_far2 ((owns_step HLL.out hbq).alloc (.cells #[.int .i64 kind2, .string name2, .slice lA2 lN2 lC2, .slice kA2 kN2 kC2] 51)) hgrow (fun g' hg' e => hrow g' (HLT.out g' hg').2 e.symm))
            have eS : ∀ i, i < w.heap.size + 2 → (w3.setCell ⟨b, 3, none⟩ (.slice vA vN vC)).heap[i]? = wr.heap[i]? := fun i hi => (Below.heap_setCell w3 ⟨b, 3, none⟩ (.slice vA vN vC) i (by show i ≠ b; omega)).trans (e3 i hi)
            have fO := oW.frozen 3
            have cO : w3.cell? ⟨b, 3, none⟩ = some (.slice uA uN uC) := oW.cell 3
            clear hown' hgrow hat2 hrow
            refine hK.out _ _ (by first | exact (KC.out _ e3) | go_keep) (fun hHeld33 => ?_)
            clear hK K
            try simp only [Act.put, List.setIfInBounds_toArray, List.set_cons_zero, List.set_cons_succ]
            refine wpAnyH_take (i := 10) (oi := ?o10_34) (v := ?v10_34) ?h10_34 (by kernel_rfl) (by kernel_rfl) (by kernel_rfl) ?q10_34 (Or.inl ⟨?z10_34, ?y10_34⟩) (by assumption) ?r10_34
            case h10_34 =>
              simp only [List.getElem?_toArray, List.getElem?_cons_succ, List.getElem?_cons_zero]
              rfl
            case q10_34 => exact fun _ _ _ h => h
            case z10_34 => rfl
            case y10_34 =>
              intro w hSw
              try dsimp only at hSw
              go_simp
              try with_reducible rfl
            try simp only [Act.put, List.setIfInBounds_toArray, List.set_cons_zero, List.set_cons_succ]
            refine wpAnyH_ready (rs := [11]) (by kernel_rfl) (by simp) ?_
            refine AllReadyH.cons (o := ?o11_35) ?h11_35 (fun K hK => ?k11_35) AllReadyH.nil
            case h11_35 =>
              simp only [List.getElem?_toArray, List.getElem?_cons_succ, List.getElem?_cons_zero]
              rfl
            go_simp
            refine hK.out _ _ (by first | exact (KC.out _ eS) | go_keep) (fun hHeld35 => ?_)
            clear hK K
            try simp only [Act.put, List.setIfInBounds_toArray, List.set_cons_zero, List.set_cons_succ]
            refine wpAnyH_done (by kernel_rfl) ?_ _
            go_wp2_with fail
            go_roundw
            case rel => exact ⟨k + 1, .slice vA vN vC, _, _, by omega, by go_num, by rw [List.take_add_one, HX2.out, List.flatMap_append, opt_flat]; exact HG2.out.set (p := ⟨b, 3, none⟩) hb2 (by show w.heap.size ≤ b; omega) _, by have := oW.set_ 3 (.slice vA vN vC); simpa using this, (eS w.heap.size (by omega)).trans HB4.out, (eS (w.heap.size + 1) (by omega)).trans HB5.out, owns_set hL3.out (p := ⟨b, 3, none⟩) HNE.out _⟩
            case measure => simp [intOf]; omega
          case k8_31 =>
            go_simp
            refine hK.out _ _ (by first | exact (KC.out _ eA) | go_keep) (fun hHeld31 => ?_)
            clear hK K
            try simp only [Act.put, List.setIfInBounds_toArray, List.set_cons_zero, List.set_cons_succ]
            refine wpAnyH_ready (rs := [1]) (by kernel_rfl) (by simp) ?_
            refine AllReadyH.cons (o := ?o1_36) ?h1_36 (fun K hK => ?k1_36) AllReadyH.nil
            case h1_36 =>
              simp only [List.getElem?_toArray, List.getElem?_cons_succ, List.getElem?_cons_zero]
              rfl
            go_simp
            refine hK.out _ _ (by first | exact (KC.out _ eA) | go_keep) (fun hHeld36 => ?_)
            clear hK K
            try simp only [Act.put, List.setIfInBounds_toArray, List.set_cons_zero, List.set_cons_succ]
            refine wpAnyH_ready (rs := [9]) (by kernel_rfl) (by simp) ?_
            refine AllReadyH.cons (o := ?o9_37) ?h9_37 (fun K hK => ?k9_37) AllReadyH.nil
            case h9_37 =>
              simp only [List.getElem?_toArray, List.getElem?_cons_succ, List.getElem?_cons_zero]
              rfl
            refine step_append_src (by rfl) _ _ 41 (by rfl) wc.heap.size 51 i0 (.agg #[.int .i64 0, .string { data := #[] }, .slice none 0 0, .slice none 0 0]) 4 72 Try.underlying41 hi hz0 hz1 hz2 rfl (by decide) (.slice uA uN uC) k cs (by rfl) (((HG.out.step hbq).1).alloc _) (.slice (some ⟨wq.heap.size, 0, none⟩) 1 1) 1 [.int .i64 kind2, .string name2, .slice lA2 lN2 lC2, .slice kA2 kN2 kC2] (by rfl) (.inr ⟨⟨wq.heap.size, 0, none⟩, 1, rfl, rfl, World.news_of_block (heap_alloc_new wq _)⟩) (oneCells _ _ _ _ _ _ _ _) (by simp only [maxLen]; omega) (by omega) (by have := hbq.size; simp; omega) ?_
            intro v' w3 hown' hgrow hat2
            obtain ⟨vA, vN, vC, rfl, _⟩ := (Own.of_own hown').form
            have HG2 := Lib.hid (HG.out.next hbq HH.out hi3 ((Below.refl _ _).alloc (Nat.le_refl _) _) hown' hgrow hat2)
            have hrow : ∀ i, i < wc.heap.size → some i ≠ (Value.slice uA uN uC).ownBlock := fun i hi e => by have := (HG.out.1.lt _ e.symm).1; omega
            have oW : Blk w3 b 51 #[.int .i64 kind, .string name, .slice lA lN lC, .slice uA uN uC] := (hgrow.block b oA.lt (hrow b hb2)).trans oA
            have e3 : ∀ i, i < w.heap.size + 2 → w3.heap[i]? = wr.heap[i]? := fun i hi => (hgrow.block i (by have := hbq.size; simp; omega) (hrow i (by omega))).trans (eA i hi)
            have hL3 := Lib.hid (owns_far2 ((owns_step HLL.out hbq).alloc (.cells #[.int .i64 kind2, .string name2, .slice lA2 lN2 lC2, .slice kA2 kN2 kC2] 51)) hgrow (fun g' hg' e => hrow g' (HLT.out g' hg').2 e.symm))
            have eS : ∀ i, i < w.heap.size + 2 → (w3.setCell ⟨b, 3, none⟩ (.slice vA vN vC)).heap[i]? = wr.heap[i]? := fun i hi => (Below.heap_setCell w3 ⟨b, 3, none⟩ (.slice vA vN vC) i (by show i ≠ b; omega)).trans (e3 i hi)
            have fO := oW.frozen 3
            have cO : w3.cell? ⟨b, 3, none⟩ = some (.slice uA uN uC) := oW.cell 3
            clear hown' hgrow hat2 hrow
            refine hK.out _ _ (by first | exact (KC.out _ e3) | go_keep) (fun hHeld37 => ?_)
            clear hK K
            try simp only [Act.put, List.setIfInBounds_toArray, List.set_cons_zero, List.set_cons_succ]
            refine wpAnyH_take (i := 10) (oi := ?o10_38) (v := ?v10_38) ?h10_38 (by kernel_rfl) (by kernel_rfl) (by kernel_rfl) ?q10_38 (Or.inl ⟨?z10_38, ?y10_38⟩) (by assumption) ?r10_38
            case h10_38 =>
              simp only [List.getElem?_toArray, List.getElem?_cons_succ, List.getElem?_cons_zero]
              rfl
            case q10_38 => exact fun _ _ _ h => h
            case z10_38 => rfl
            case y10_38 =>
              intro w hSw
              try dsimp only at hSw
              go_simp
              try with_reducible rfl
            try simp only [Act.put, List.setIfInBounds_toArray, List.set_cons_zero, List.set_cons_succ]
            refine wpAnyH_ready (rs := [11]) (by kernel_rfl) (by simp) ?_
            refine AllReadyH.cons (o := ?o11_39) ?h11_39 (fun K hK => ?k11_39) AllReadyH.nil
            case h11_39 =>
              simp only [List.getElem?_toArray, List.getElem?_cons_succ, List.getElem?_cons_zero]
              rfl
            go_simp
            refine hK.out _ _ (by first | exact (KC.out _ eS) | go_keep) (fun hHeld39 => ?_)
            clear hK K
            try simp only [Act.put, List.setIfInBounds_toArray, List.set_cons_zero, List.set_cons_succ]
            refine wpAnyH_done (by kernel_rfl) ?_ _
            go_wp2_with fail
            go_roundw
            case rel => exact ⟨k + 1, .slice vA vN vC, _, _, by omega, by go_num, by rw [List.take_add_one, HX2.out, List.flatMap_append, opt_flat]; exact HG2.out.set (p := ⟨b, 3, none⟩) hb2 (by show w.heap.size ≤ b; omega) _, by have := oW.set_ 3 (.slice vA vN vC); simpa using this, (eS w.heap.size (by omega)).trans HB4.out, (eS (w.heap.size + 1) (by omega)).trans HB5.out, owns_set hL3.out (p := ⟨b, 3, none⟩) HNE.out _⟩
            case measure => simp [intOf]; omega
      · have hkn : k = n := by omega
        have HT : Hid (kids.take k = kids) := List.take_of_length_le (by have := HN.out; omega)
        have hfin := hG.done
        rw [HT.out] at hfin
        have LK := Lib.hid hfin
        have LL := Lib.hid (lv_strs_hi hL (hi := wc.heap.size) (fun g hg => (HLT.out g hg).2) hlo)
        have cO0 : wr.cell? ⟨b, 0, none⟩ = some (.int .i64 kind) := bO.cell 0
        have cO1 : wr.cell? ⟨b, 1, none⟩ = some (.string name) := bO.cell 1
        have cO2 : wr.cell? ⟨b, 2, none⟩ = some (.slice lA lN lC) := bO.cell 2
        have cO3 : wr.cell? ⟨b, 3, none⟩ = some (.slice uA uN uC) := bO.cell 3
        have p3 : wr.cell? ⟨w.heap.size, 3, none⟩ = some (.slice A n c) := bP.cell 3
        have fR0 := bR.frozen 0
        have fR1 := bR.frozen 1
        have fR2 := bR.frozen 2
        have fR3 := bR.frozen 3
        have cR0 : wr.cell? ⟨w.heap.size + 1, 0, none⟩ = some (.int .i64 0) := bR.cell 0
        have cR1 : wr.cell? ⟨w.heap.size + 1, 1, none⟩ = some (.string { data := #[] }) := bR.cell 1
        have cR2 : wr.cell? ⟨w.heap.size + 1, 2, none⟩ = some (.slice none 0 0) := bR.cell 2
        have cR3 : wr.cell? ⟨w.heap.size + 1, 3, none⟩ = some (.slice none 0 0) := bR.cell 3
        clear hG hfin hL HAT bO bP
        go_wp2_with fail
        refine bodyPost_ret (v := .agg #[.int .i64 kind, .string name, .slice lA lN lC, .slice uA uN uC]) (by simp [results, Try.results144, go_sem, cR0, cR1, cR2, cR3]) rfl ⟨[.int .i64 kind, .string name, .slice lA lN lC, .slice uA uN uC], rfl, ?_, ?_⟩
        · have base := LvC.lit (LvC.lit (LvC.cons2 (lo := w0.heap.size) (hi := wr.heap.size) LL.out LK.out (.inl (Nat.le_refl _)) (Nat.le_refl _) (by omega) (by omega) (Nat.le_refl _) (Nat.le_refl _)) (.string name)) (.int .i64 kind)
          rw [Ty.pd_mk]
          refine LvC.low (lo2 := w0.heap.size) ?_ (by omega)
          refine LvC.more (hi := wr.heap.size) ?_ (Nat.le_refl _) (by simp [World.setCell]) (Nat.le_refl _)
          iterate 4 (refine LvC.setCell ?_ (.inl (by show w.heap.size + 1 < w0.heap.size; omega)) _)
          exact base
        · iterate 4 (refine Below.setCell ?_ (by simp; try omega) _)
          exact hbr
mutual
theorem own_all : ∀ t : Ty, ToC 144 (Ty.pd t)
  | .mk kind name labels kids => own_step (own_mem kids)
theorem own_mem : ∀ ts : List Ty, ∀ t ∈ ts, ToC 144 (Ty.pd t)
  | [], x, hx => absurd hx (by simp)
  | t :: r, x, hx => (List.mem_cons.1 hx).elim (fun e => e ▸ own_all t) (fun h => own_mem r x h)
end
theorem ownAll_all (ts : List Ty) : ToR 91 (.row 4 (ts.flatMap Ty.pd)) := ownAll_step fun t _ => own_all t
end Go.Proofs.Ytmmeaakhikcigaa

