/-
  spec.GrowMem and impl.GrowMem.
-/
import Derived.Test.YtlppngpafjfjeaaGrowA
import Derived.Test.YtlppngpafjfjeaaNewMem
namespace Go.Proofs.Ytlppngpafjfjeaa
open Go.RowKit
set_option linter.unusedVariables false
set_option linter.unusedSimpArgs false
set_option linter.unnecessarySimpa false
set_option maxRecDepth 16000

theorem l00Max_g (a b : Int) (w : World) : Calls Try.prog 52 #[.int .i64 a, .int .i64 b] w fun e w' => e = .returned (.int .i64 (max a b)) ∧ w = w' := by
  by_cases h : b < a
  · go_enter Try.func52, Try.ntmps52
    go_wp2
    go_ret
    exact ⟨ret_int (by omega), rfl⟩
  · go_enter Try.func52, Try.ntmps52
    go_wp2
    go_ret
    exact ⟨ret_int (by omega), rfl⟩
theorem mem_wf {s : ByteArray} {bs : List Block} (h : PD.wfL (Memory.pd ⟨s, bs⟩)) : ∀ b ∈ bs, b.wf := by
  intro b hb
  rw [Memory.pd_mk] at h
  simp only [PD.wfL, PD.wf, wfL_flatMap] at h
  have := h.2.1 b hb
  cases b
  simpa [Block.pd, PD.wfL, PD.wf, Block.wf] using this
theorem mem_sz {s : ByteArray} {bs : List Block} (h : PD.szL (Memory.pd ⟨s, bs⟩) ≤ 1048576) : s.size ≤ 1048576 ∧ bs.length ≤ 1048576 := by
  rw [Memory.pd_mk] at h
  simp only [PD.szL] at h
  rw [sz_row Block.pd_length (by decide)] at h
  simp only [PD.sz] at h
  omega
def MemR (w : World) (r : Memory × Int) (e : Ending) (w' : World) : Prop :=
  ∃ us, e = .returned (.tuple #[.agg us.toArray, .int .i64 r.2]) ∧ LvC w' w.heap.size w'.heap.size (Memory.pd r.1) us ∧ Below w.heap.size w w'
theorem own_form {w : World} {base size n a b : Nat} {e : TypeId} {v : Value} {xs : List Value} (h : w.ownsRow base e size v n xs) (hor : v.ownBlock = some a ∨ v.ownBlock = some b) : ∃ g cap, v = .slice (some ⟨g, 0, none⟩) n cap := by
  rcases h.2 with ⟨rfl, h0⟩ | ⟨g, cap, cur, hv, _⟩
  · rcases hor with h | h <;> cases h
  · exact ⟨g, cap, hv⟩
def OwnP (w : World) (s : ByteArray) (bs : List Block) (e : Ending) (w' : World) : Prop :=
  ∃ g c, e = .returned (.agg #[.string s, .slice (some ⟨g, 0, none⟩) bs.length c]) ∧ w'.ownsRow (w.heap.size + 2) 49 2 (.slice (some ⟨g, 0, none⟩) bs.length c) bs.length (bvals bs) ∧ Below w.heap.size w w'
set_option maxHeartbeats 3200000 in
theorem l10Own_any {s : ByteArray} {bs : List Block} {fv : Value} {w : World} (R : Rep w w.heap.size (blocks bs) fv) (hl : bs.length ≤ 1048576) :
    Calls Try.prog 51 #[.agg #[.string s, fv]] w fun e w' => OwnP w s bs e w' := by
  have HR := Lib.hid R
  obtain ⟨A2, n2, c2, rfl⟩ := R.form
  clear R
  obtain ⟨i0, hi, hz0, hz1, hz2⟩ := info_parts block_info
  obtain ⟨w0, hw0⟩ : ∃ W, W = ((w.alloc (.cells #[.string s, .slice A2 n2 c2] 29)).alloc (.cells #[.string ⟨#[]⟩, .slice none 0 0] 29)) := ⟨_, rfl⟩
  have bP : Blk w0 w.heap.size 29 #[.string s, .slice A2 n2 c2] := by rw [hw0]; exact (Blk.new w _ _).alloc _
  have bR : Blk w0 (w.heap.size + 1) 29 #[.string ⟨#[]⟩, .slice none 0 0] := by rw [hw0]; have := Blk.new (w.alloc (.cells #[.string s, .slice A2 n2 c2] 29)) 29 #[.string ⟨#[]⟩, .slice none 0 0]; simpa using this
  have hB : Below w.heap.size w w0 := by rw [hw0]; exact ((Below.refl _ _).alloc (Nat.le_refl _) _).alloc (by simp) _
  have hs0 : w0.heap.size = w.heap.size + 2 := by rw [hw0]; simp
  have HW := Lib.hid hw0
  clear hw0
  have hB1 : Below w0.heap.size w0 ((w0.alloc (.cells #[] 49)).drew) := ((Below.refl _ _).alloc (Nat.le_refl _) _).drew
  have HOWN : Hid (((w0.alloc (.cells #[] 49)).drew).ownsRow w0.heap.size 49 2 (.slice (some ⟨w.heap.size + 2, 0, none⟩) 0 0) 0 []) := by
    show World.ownsRow _ _ _ _ _ _ _
    rw [← hs0]
    exact World.ownsRow_made (base := w0.heap.size) (e := 49) (size := 2) w0.drew #[] 0 (Nat.le_refl _) (by simp) (by simp)
  have HSRC := Lib.hid (src_blk ((HR.out.below hB).below (hB1.mono hB.size)))
  have HB1 := Lib.hid hB1
  have HB := Lib.hid hB
  have HBR := Lib.hid bR
  have HBP := Lib.hid bP
  have r0 : w0.cell? ⟨w.heap.size + 1, 0, none⟩ = some (.string ⟨#[]⟩) := bR.cell 0
  have p0 : w0.cell? ⟨w.heap.size, 0, none⟩ = some (.string s) := bP.cell 0
  have p1 : w0.cell? ⟨w.heap.size, 1, none⟩ = some (.slice A2 n2 c2) := bP.cell 1
  clear hB hB1 bR
  go_enter Try.func51, Try.ntmps51
  go_wp2_with fail
  rw [← HW.out]
  refine wp_region_held_drew (S := (fun w' => w'.cell? ⟨w.heap.size, 0, none⟩ = some (.string s) ∧ w'.cell? ⟨w.heap.size, 1, none⟩ = some (.slice A2 n2 c2))) (by kernel_rfl) ⟨bP.cell 0, bP.cell 1⟩ (fun hHeld => ?_)
  refine wpAnyH_take (i := 0) (oi := ?o0_1) (v := ?v0_1) ?h0_1 (by kernel_rfl) (by kernel_rfl) (by kernel_rfl) ?q0_1 (Or.inl ⟨?z0_1, ?y0_1⟩) (by assumption) ?r0_1
  case h0_1 =>
    simp only [List.getElem?_toArray, List.getElem?_cons_succ, List.getElem?_cons_zero]
    rfl
  case q0_1 => exact fun _ _ _ h => h
  case z0_1 => rfl
  case y0_1 =>
    intro w hSw
    try dsimp only at hSw
    go_simp
    try with_reducible rfl
  try simp only [Act.put, List.setIfInBounds_toArray, List.set_cons_zero, List.set_cons_succ]
  refine wpAnyH_take (i := 1) (oi := ?o1_2) (v := ?v1_2) ?h1_2 (by kernel_rfl) (by kernel_rfl) (by kernel_rfl) ?q1_2 (Or.inl ⟨?z1_2, ?y1_2⟩) (by assumption) ?r1_2
  case h1_2 =>
    simp only [List.getElem?_toArray, List.getElem?_cons_succ, List.getElem?_cons_zero]
    rfl
  case q1_2 => exact fun _ _ _ h => h
  case z1_2 => rfl
  case y1_2 =>
    intro w hSw
    try dsimp only at hSw
    go_simp
    try with_reducible rfl
  try simp only [Act.put, List.setIfInBounds_toArray, List.set_cons_zero, List.set_cons_succ]
  refine wpAnyH_take (i := 3) (oi := ?o3_3) (v := ?v3_3) ?h3_3 (by kernel_rfl) (by kernel_rfl) (by kernel_rfl) ?q3_3 (Or.inl ⟨?z3_3, ?y3_3⟩) (by assumption) ?r3_3
  case h3_3 =>
    simp only [List.getElem?_toArray, List.getElem?_cons_succ, List.getElem?_cons_zero]
    rfl
  case q3_3 => exact fun _ _ _ h => h
  case z3_3 => rfl
  case y3_3 =>
    intro w hSw
    try dsimp only at hSw
    go_simp
    try with_reducible rfl
  try simp only [Act.put, List.setIfInBounds_toArray, List.set_cons_zero, List.set_cons_succ]
  refine wpAnyH_take (i := 4) (oi := ?o4_4) (v := ?v4_4) ?h4_4 (by kernel_rfl) (by kernel_rfl) (by kernel_rfl) ?q4_4 (Or.inl ⟨?z4_4, ?y4_4⟩) (by assumption) ?r4_4
  case h4_4 =>
    simp only [List.getElem?_toArray, List.getElem?_cons_succ, List.getElem?_cons_zero]
    rfl
  case q4_4 => exact fun _ _ _ h => h
  case z4_4 => rfl
  case y4_4 =>
    intro w hSw
    try dsimp only at hSw
    go_simp
    try with_reducible rfl
  try simp only [Act.put, List.setIfInBounds_toArray, List.set_cons_zero, List.set_cons_succ]
  refine wpAnyH_ready (rs := [2]) (by kernel_rfl) (by simp) ?_
  refine AllReadyH.cons (o := ?o2_5) ?h2_5 (fun K hK => ?k2_5) AllReadyH.nil
  case h2_5 =>
    simp only [List.getElem?_toArray, List.getElem?_cons_succ, List.getElem?_cons_zero]
    rfl
  go_simp
  refine hK.out _ _ (by first | exact ⟨(HBP.out.alloc _).cell 0, (HBP.out.alloc _).cell 1⟩ | go_keep) (fun hHeld5 => ?_)
  clear hK K
  try simp only [Act.put, List.setIfInBounds_toArray, List.set_cons_zero, List.set_cons_succ]
  refine wpAnyH_ready (rs := [5]) (by kernel_rfl) (by simp) ?_
  refine AllReadyH.cons (o := ?o5_6) ?h5_6 (fun K hK => ?k5_6) AllReadyH.nil
  case h5_6 =>
    simp only [List.getElem?_toArray, List.getElem?_cons_succ, List.getElem?_cons_zero]
    rfl
  refine step_append_src (by rfl) _ _ 27 (by rfl) w0.heap.size 49 i0 (.agg #[.int .i64 0, .int .i64 0]) 2 16 Try.underlying27 hi hz0 hz1 hz2 rfl (by decide) (.slice (some ⟨w.heap.size + 2, 0, none⟩) 0 0) 0 [] (by rfl) HOWN.out (.slice A2 n2 c2) bs.length (bvals bs) (by rfl) HSRC.out (one_blk _) (by simp only [maxLen]; omega) (by omega) HB1.out.size ?_
  intro v' w3 hown' hgrow hor
  have hB3 := HB1.out.grown hgrow HB1.out.size (fun g hg => (HOWN.out.lt g hg).1)
  have bR3 := HBR.out.step hB3
  have bP3 := HBP.out.step hB3
  rw [Nat.zero_add, List.nil_append] at hown'
  rw [hs0] at hown'
  obtain ⟨g, c, rfl⟩ := own_form hown' (hor.imp (fun h => h.trans rfl) id)
  have r0 : w3.cell? ⟨w.heap.size + 1, 0, none⟩ = some (.string ⟨#[]⟩) := bR3.cell 0
  have r1 : w3.cell? ⟨w.heap.size + 1, 1, none⟩ = some (.slice none 0 0) := bR3.cell 1
  have f0 := bR3.frozen 0
  have f1 := bR3.frozen 1
  refine hK.out _ _ (by first | exact ⟨bP3.cell 0, bP3.cell 1⟩ | go_keep) (fun hHeld6 => ?_)
  clear hK K
  try simp only [Act.put, List.setIfInBounds_toArray, List.set_cons_zero, List.set_cons_succ]
  refine wpAnyH_take (i := 6) (oi := ?o6_7) (v := ?v6_7) ?h6_7 (by kernel_rfl) (by kernel_rfl) (by kernel_rfl) ?q6_7 (Or.inl ⟨?z6_7, ?y6_7⟩) (by assumption) ?r6_7
  case h6_7 =>
    simp only [List.getElem?_toArray, List.getElem?_cons_succ, List.getElem?_cons_zero]
    rfl
  case q6_7 => exact fun _ _ _ h => h
  case z6_7 => rfl
  case y6_7 =>
    intro w hSw
    try dsimp only at hSw
    go_simp
    try with_reducible rfl
  try simp only [Act.put, List.setIfInBounds_toArray, List.set_cons_zero, List.set_cons_succ]
  refine wpAnyH_ready (rs := [7]) (by kernel_rfl) (by simp) ?_
  refine AllReadyH.cons (o := ?o7_8) ?h7_8 (fun K hK => ?k7_8) AllReadyH.nil
  case h7_8 =>
    simp only [List.getElem?_toArray, List.getElem?_cons_succ, List.getElem?_cons_zero]
    rfl
  go_simp
  refine hK.out _ _ (by first | exact ⟨((bP3.far (p := ⟨w.heap.size + 1, 0, none⟩) (by simp) _).far (p := ⟨w.heap.size + 1, 1, none⟩) (by simp) _).cell 0, ((bP3.far (p := ⟨w.heap.size + 1, 0, none⟩) (by simp) _).far (p := ⟨w.heap.size + 1, 1, none⟩) (by simp) _).cell 1⟩ | go_keep) (fun hHeld8 => ?_)
  clear hK K
  try simp only [Act.put, List.setIfInBounds_toArray, List.set_cons_zero, List.set_cons_succ]
  refine wpAnyH_done (by kernel_rfl) ?_ _
  have bR4 : Blk ((w3.setCell ⟨w.heap.size + 1, 0, none⟩ (.string s)).setCell ⟨w.heap.size + 1, 1, none⟩ (.slice (some ⟨g, 0, none⟩) bs.length c)) (w.heap.size + 1) 29 #[.string s, .slice (some ⟨g, 0, none⟩) bs.length c] := by have := (bR3.set_ 0 (.string s)).set_ 1 (.slice (some ⟨g, 0, none⟩) bs.length c); simpa using this
  have s0 := bR4.cell 0
  have s1 := bR4.cell 1
  go_wp2_with fail
  refine bodyPost_ret (v := .agg #[.string s, .slice (some ⟨g, 0, none⟩) bs.length c]) (by simp [results, Try.results51, go_sem, s0, s1]) rfl ⟨g, c, rfl, ?_, ?_⟩
  · exact owns_far (owns_far hown' (p := ⟨w.heap.size + 1, 0, none⟩) (Nat.lt_succ_self _) _) (p := ⟨w.heap.size + 1, 1, none⟩) (Nat.lt_succ_self _) _
  · exact ((HB.out.trans (hB3.mono HB.out.size)).setCell (p := ⟨w.heap.size + 1, 0, none⟩) (by simp) _).setCell (p := ⟨w.heap.size + 1, 1, none⟩) (by simp) _
end Go.Proofs.Ytlppngpafjfjeaa

