/-
  l10Any, DrawAlloc: the walks (by program: gen_any.py).
-/
import Derived.Test.YtlppngpafjfjeaaMadeM
namespace Go.Proofs.Ytlppngpafjfjeaa
open Go.RowKit
set_option linter.unusedVariables false
set_option linter.unusedSimpArgs false
set_option linter.unnecessarySimpa false
set_option maxRecDepth 16000

theorem owns_put1 {w : World} {base sz g cap n m : Nat} {e : TypeId} {xs : List Value} (h : w.ownsRow base e sz (.slice (some ⟨g, 0, none⟩) m cap) n xs) (i : Nat) (hi : i < n * sz) (u : Value) : (w.setCell ⟨g, i, none⟩ u).ownsRow base e sz (.slice (some ⟨g, 0, none⟩) m cap) n (xs.set i u) := by
  obtain ⟨h1, h2⟩ := h
  refine ⟨by rw [List.length_set]; exact h1, ?_⟩
  rcases h2 with ⟨h2, _⟩ | ⟨g', cap', cur, hv, hbb, hh, h3, h4, h5, h6⟩
  · injection h2 with h2; cases h2
  · injection hv with hv1 hv2 hv3
    injection hv1 with hv1
    injection hv1 with hv1
    subst hv1 hv2 hv3
    refine .inr ⟨g, cap, cur.setIfInBounds i u, rfl, hbb, ?_, h3, h4, by simpa using h5, ?_⟩
    · simp [World.setCell, Array.getElem?_modify, hh]
    · rw [← h6, Array.toList_setIfInBounds, List.take_set]
theorem owns_frz {w : World} {base sz g cap n m : Nat} {e : TypeId} {xs : List Value} (h : w.ownsRow base e sz (.slice (some ⟨g, 0, none⟩) m cap) n xs) (i : Nat) : w.frozen? ⟨g, i, none⟩ = false := by
  rcases h.2 with ⟨h2, _⟩ | ⟨g', cap', cur, hv, hbb, hh, h3, h4, h5, h6⟩
  · injection h2 with h2; cases h2
  · injection hv with hv1 hv2 hv3
    injection hv1 with hv1
    injection hv1 with hv1
    subst hv1
    simp [World.frozen?, hh]
theorem MB.far1 {w W : World} {q K pr pm : Nat} {s : ByteArray} {fv : Value} (h : MB w W q K pr pm s fv [] (.slice none 0 0)) {g : Nat} (hg : pr < g) (hne : g ≠ pm) (i : Nat) (u : Value) : MB w (W.setCell ⟨g, i, none⟩ u) q K pr pm s fv [] (.slice none 0 0) := by
  have h1 := h.lo
  have h2 := h.lt
  have h3 := h.qlt
  exact ⟨h.src.below ((Below.refl g W).setCell (p := ⟨g, i, none⟩) (Nat.le_refl _) _) (by omega), h.res.far (p := ⟨g, i, none⟩) (by show pr ≠ g; omega) _, h.box.far (p := ⟨g, i, none⟩) (by show pm ≠ g; omega) _, own_nil _ _, h.keep.high (p := ⟨g, i, none⟩) (by show w.heap.size ≤ g; omega) _, h.lo, h.lt, h.qlt, h.wf⟩
theorem MB.set0 {w W : World} {q K pr pm : Nat} {s : ByteArray} {fv : Value} (h : MB w W q K pr pm s fv [] (.slice none 0 0)) (s' : ByteArray) : MB w (W.setCell ⟨pm, 0, none⟩ (.string s')) q K pr pm s' fv [] (.slice none 0 0) := by
  have h1 := h.lo
  have h2 := h.lt
  have h3 := h.qlt
  exact ⟨h.src.below ((Below.refl pm W).setCell (p := ⟨pm, 0, none⟩) (Nat.le_refl _) _) (by omega), h.res.far (p := ⟨pm, 0, none⟩) (by show pr ≠ pm; omega) _, by have := h.box.set_ 0 (.string s'); simpa using this, own_nil _ _, h.keep.high (p := ⟨pm, 0, none⟩) (by show w.heap.size ≤ pm; omega) _, h.lo, h.lt, h.qlt, h.wf⟩
theorem MB.set1 {w W : World} {q K pr pm : Nat} {s : ByteArray} {fv : Value} (h : MB w W q K pr pm s fv [] (.slice none 0 0)) (fv' : Value) : MB w (W.setCell ⟨pm, 1, none⟩ fv') q K pr pm s fv' [] (.slice none 0 0) := by
  have h1 := h.lo
  have h2 := h.lt
  have h3 := h.qlt
  exact ⟨h.src.below ((Below.refl pm W).setCell (p := ⟨pm, 1, none⟩) (Nat.le_refl _) _) (by omega), h.res.far (p := ⟨pm, 1, none⟩) (by show pr ≠ pm; omega) _, by have := h.box.set_ 1 fv'; simpa using this, own_nil _ _, h.keep.high (p := ⟨pm, 1, none⟩) (by show w.heap.size ≤ pm; omega) _, h.lo, h.lt, h.qlt, h.wf⟩
theorem amongAny {q K g n : Nat} {xs : List Int} {cs : Array Value} {w : World} (h : Src w q K) (hK : K ≤ 3000000000) (hn : xs.length = n) (h0 : 0 < n ∧ n ≤ 1000) (hg : g ≠ q) (hb : Blk w g 2 cs) (hc : cs = (i64s xs).toArray) (hw : ∀ x ∈ xs, (Lit.int .i64 x).wf = true) :
    Calls Try.prog 60 #[.pointer (some ⟨q, 0, none⟩), .slice (some ⟨g, 0, none⟩) n n] w fun e w' => ∃ x, (Lit.int .i64 x).wf = true ∧ e = .returned (.int .i64 x) ∧ Src w' q (K + 2) ∧ Keep q (q + 1) w w' := by
  subst hn
  refine (among_any (c := xs.length) (xs := xs) h hK h0.1 h0.2 hg ?_).mono ?_
  · intro j x hx
    rw [hb.cell j, hc]
    simp [i64s, hx]
  · rintro e w' ⟨x, hx, rfl, h1, h2⟩
    exact ⟨x, hw x hx, rfl, h1, h2⟩
theorem MB.grow {w W W' : World} {q K pr pm : Nat} {s : ByteArray} {fv : Value} {row : Option Nat} (h : MB w W q K pr pm s fv [] (.slice none 0 0)) (hg : W.grownBy W' row) (hr : ∀ k, row = some k → pr < k ∧ k ≠ pm) : MB w W' q K pr pm s fv [] (.slice none 0 0) := by
  have h1 := h.lo
  have h2 := h.lt
  have h3 := h.qlt
  have hb : Below (pr + 1) W W' := ⟨hg.os, hg.tape, hg.output, hg.size, fun k hk => hg.block k (by have := h.res.lt; omega) (fun e => by have := hr k e.symm; omega)⟩
  exact ⟨h.src.below hb (by omega), h.res.below hb (by omega), (hg.block pm h.box.lt (fun e => (hr pm e.symm).2 rfl)).trans h.box, own_nil _ _, h.keep.grown hg (fun k e => by have := (hr k e).1; omega), h.lo, h.lt, h.qlt, h.wf⟩
/-- some memory: its row lies above the box of the result -/
def AnyP (W : World) (b : Nat) (s : ByteArray) (fs : List Block) (u : Value) : Prop := s.size ≤ 4097 ∧ (∀ x ∈ fs, x.wf) ∧ fs.length ≤ 5000 ∧ ∃ hi, Lv W b hi (blocks fs) u
def AnyQ (w : World) (q K : Nat) (e : Ending) (w' : World) : Prop :=
  ∃ s fs u, e = .returned (.agg #[.string s, u]) ∧ AnyP w' (w.heap.size + 1) s fs u ∧ Src w' q (K + 30000) ∧ Keep q (q + 1) w w'
theorem AnyP.set {W : World} {b p i : Nat} {s : ByteArray} {fs : List Block} {u : Value} (h : AnyP W b s fs u) (hp : p < b) (x : Value) : AnyP (W.setCell ⟨p, i, none⟩ x) b s fs u := by
  obtain ⟨h1, h2, h3, hi, h4⟩ := h
  exact ⟨h1, h2, h3, hi, h4.setCell (p := ⟨p, i, none⟩) (.inl hp) _⟩
theorem AnyP.step {W W' : World} {b : Nat} {s : ByteArray} {fs : List Block} {u : Value} (h : AnyP W b s fs u) (hb : Below W.heap.size W W') : AnyP W' b s fs u := by
  obtain ⟨h1, h2, h3, hi, h4⟩ := h
  exact ⟨h1, h2, h3, hi, h4.step hb⟩
theorem AnyP.of {W : World} {pr pm : Nat} {s : ByteArray} {fs : List Block} {tv fv : Value} (h : MO W pr pm s fs tv fv) : AnyP W (pr + 1) s fs fv :=
  ⟨by have := (memF h.ok).size; omega, blk_wf (memF h.ok), by have := (memF h.ok).len; omega, _, lv_blk h.own⟩
theorem AnyP.own {W : World} {b : Nat} {s : ByteArray} {fs : List Block} {u : Value} (hs : s.size ≤ 4097) (hw : ∀ x ∈ fs, x.wf) (hl : fs.length ≤ 5000) (ho : W.ownsRow b 49 2 u fs.length (bvals fs)) : AnyP W b s fs u := ⟨hs, hw, hl, _, lv_blk ho⟩
set_option maxHeartbeats 25600000 in
theorem l10Any_any {q KK : Nat} {w : World} (h : Src w q KK) (hK : KK ≤ 900000) : Calls Try.prog 61 #[.pointer (some ⟨q, 0, none⟩)] w fun e w' => AnyQ w q KK e w' := by
  obtain ⟨i0, hi, hy0, hy1, hy2⟩ := info_parts block_info
  obtain ⟨j0, hj, hz0, hz1, hz2⟩ := info_parts byte_info
  have hq := h.lt
  have HS0 : Hid (Src (w.alloc (.cells #[.string ⟨#[]⟩, .slice none 0 0] 29)) q KK) := h.step ((Below.refl _ _).alloc (Nat.le_refl _) (.cells #[.string ⟨#[]⟩, .slice none 0 0] 29))
  have HR0 : Hid (Blk (w.alloc (.cells #[.string ⟨#[]⟩, .slice none 0 0] 29)) w.heap.size 29 #[.string ⟨#[]⟩, .slice none 0 0]) := Blk.new w _ _
  have HK0 : Hid (Keep q (q + 1) w (w.alloc (.cells #[.string ⟨#[]⟩, .slice none 0 0] 29))) := (Keep.refl _ _ _).alloc _
  clear h
  go_enter Try.func61, Try.ntmps61
  go_wp2_with fail
  refine (l10Made_any HS0.out (by omega)).mono ?_
  rintro e w1 ⟨s, fs, u, rfl, hok, hown, S1, k1⟩
  obtain ⟨A3, n3, c3, rfl⟩ := owns_form hown
  have hpr : w.heap.size < w1.heap.size := by have := k1.size; simp at this; omega
  have HMS : Hid (MB w (w1.alloc (.cells #[.string s, .slice A3 n3 c3] 29)) q (KK + 20000) w.heap.size w1.heap.size s (.slice A3 n3 c3) [] (.slice none 0 0) ∧ MO (w1.alloc (.cells #[.string s, .slice A3 n3 c3] 29)) w.heap.size w1.heap.size s fs (.slice none 0 0) (.slice A3 n3 c3)) := by
    have b1 := Blk.new w1 29 #[.string s, .slice A3 n3 c3]
    have hb : Below w1.heap.size w1 (w1.alloc (.cells #[.string s, .slice A3 n3 c3] 29)) := (Below.refl _ _).alloc (Nat.le_refl _) _
    have HR1 : Blk w1 w.heap.size 29 #[.string ⟨#[]⟩, .slice none 0 0] := (k1.block _ HR0.out.lt (.inr (by omega))).trans HR0.out
    exact ⟨⟨S1.step hb, HR1.step hb, b1, own_nil _ _, (HK0.out.trans k1).trans (Keep.of_below hb), Nat.le_refl _, hpr, hq, fun b hb => by cases hb⟩, owns_mono2 (owns_step hown hb) (by simp), fun g e => ⟨by have := (hown.lt g e).2; omega, fun e2 => by simp [Value.ownBlock] at e2⟩, hok⟩
  clear hok hown S1 k1 HS0 HR0 HK0
  go_wp2_with fail
  refine (pick_any HMS.out.1.src (by omega) (by omega)).mono ?_
  rintro e w4 ⟨b, hb, rfl, S4, k4⟩
  have HM := Lib.hid (HMS.out.1.drawn k4 S4)
  have HO := Lib.hid (HMS.out.2.drawn k4 (by omega))
  clear S4 k4 HMS hb
  by_cases hb0 : b = 0
  case pos =>
    subst hb0
    have m1 : w4.cell? ⟨w1.heap.size, 1, none⟩ = some (.slice A3 n3 c3) := HM.out.box.cell 1
    go_upto_region 4 with fail
    refine wp_region_held_drew (S := (fun _ => True)) (by kernel_rfl) trivial (fun hHeld => ?_)
    refine wpAnyH_take (i := 0) (oi := ?o0_1) (v := ?v0_1) ?h0_1 (by kernel_rfl) (by kernel_rfl) (by kernel_rfl) ?q0_1 (Or.inl ⟨?z0_1, ?y0_1⟩) (by assumption) ?r0_1
    case h0_1 =>
      simp only [List.getElem?_toArray, List.getElem?_cons_succ, List.getElem?_cons_zero]
      rfl
    case q0_1 => exact fun _ _ _ h => h
    case z0_1 => rfl
    case y0_1 =>
      intro w hSw
      try dsimp only at hSw
      go_simp
      try with_reducible rfl
    try simp only [Act.put, List.setIfInBounds_toArray, List.set_cons_zero, List.set_cons_succ]
    refine wpAnyH_take (i := 2) (oi := ?o2_2) (v := ?v2_2) ?h2_2 (by kernel_rfl) (by kernel_rfl) (by kernel_rfl) ?q2_2 (Or.inl ⟨?z2_2, ?y2_2⟩) (by assumption) ?r2_2
    case h2_2 =>
      simp only [List.getElem?_toArray, List.getElem?_cons_succ, List.getElem?_cons_zero]
      rfl
    case q2_2 => exact fun _ _ _ h => h
    case z2_2 => rfl
    case y2_2 =>
      intro w hSw
      try dsimp only at hSw
      go_simp
      try with_reducible rfl
    try simp only [Act.put, List.setIfInBounds_toArray, List.set_cons_zero, List.set_cons_succ]
    refine wpAnyH_take (i := 4) (oi := ?o4_3) (v := ?v4_3) ?h4_3 (by kernel_rfl) (by kernel_rfl) (by kernel_rfl) ?q4_3 (Or.inl ⟨?z4_3, ?y4_3⟩) (by assumption) ?r4_3
    case h4_3 =>
      simp only [List.getElem?_toArray, List.getElem?_cons_succ, List.getElem?_cons_zero]
      rfl
    case q4_3 => exact fun _ _ _ h => h
    case z4_3 => rfl
    case y4_3 =>
      intro w hSw
      try dsimp only at hSw
      go_simp
      try with_reducible rfl
    try simp only [Act.put, List.setIfInBounds_toArray, List.set_cons_zero, List.set_cons_succ]
    refine wpAnyH_ready (rs := [1, 3]) (by kernel_rfl) (by simp) ?_
    refine AllReadyH.cons (o := ?o1_4) ?h1_4 (fun K hK => ?k1_4) (AllReadyH.cons (o := ?o3_4) ?h3_4 (fun K hK => ?k3_4) AllReadyH.nil)
    case h1_4 =>
      simp only [List.getElem?_toArray, List.getElem?_cons_succ, List.getElem?_cons_zero]
      rfl
    case h3_4 =>
      simp only [List.getElem?_toArray, List.getElem?_cons_succ, List.getElem?_cons_zero]
      rfl
    case k1_4 =>
      go_simp
      refine hK.out _ _ (by first | exact trivial | go_keep) (fun hHeld4 => ?_)
      clear hK K
      try simp only [Act.put, List.setIfInBounds_toArray, List.set_cons_zero, List.set_cons_succ]
      refine wpAnyH_ready (rs := [3]) (by kernel_rfl) (by simp) ?_
      refine AllReadyH.cons (o := ?o3_5) ?h3_5 (fun K hK => ?k3_5) AllReadyH.nil
      case h3_5 =>
        simp only [List.getElem?_toArray, List.getElem?_cons_succ, List.getElem?_cons_zero]
        rfl
      have hM5 : MB w w4.drew q (KK + 20000 + 2) w.heap.size w1.heap.size s (.slice A3 n3 c3) [] (.slice none 0 0) := HM.out.step ((Below.refl _ _).drew)
      have hO5 : MO w4.drew w.heap.size w1.heap.size s fs (.slice none 0 0) (.slice A3 n3 c3) := HO.out.step ((Below.refl _ _).drew)
      go_simp
      go_at_call 58
      refine (pick_any hM5.src (by omega) (by omega)).mono ?_
      rintro e wa ⟨x, hx, rfl, Sa, ka⟩
      have HMA := Lib.hid (hM5.drawn ka Sa)
      have HOA := Lib.hid (hO5.drawn ka (by omega))
      have ma : wa.cell? ⟨w1.heap.size, 1, none⟩ = some (.slice A3 n3 c3) := HMA.out.box.cell 1
      clear hM5 hO5 Sa ka
      try go_wp2_with fail
      refine hK.out _ _ (by first | exact trivial | go_keep) (fun hHeld5 => ?_)
      clear hK K
      try simp only [Act.put, List.setIfInBounds_toArray, List.set_cons_zero, List.set_cons_succ]
      refine wpAnyH_ready (rs := [5]) (by kernel_rfl) (by simp) ?_
      refine AllReadyH.cons (o := ?o5_6) ?h5_6 (fun K hK => ?k5_6) AllReadyH.nil
      case h5_6 =>
        simp only [List.getElem?_toArray, List.getElem?_cons_succ, List.getElem?_cons_zero]
        rfl
      go_simp
      go_at_call 58
      refine (pick_any HMA.out.src (by omega) (by omega)).mono ?_
      rintro e wb ⟨y, hy, rfl, Sb, kb⟩
      have HMB := Lib.hid (HMA.out.drawn kb Sb)
      have HOB := Lib.hid (HOA.out.drawn kb (by omega))
      have mb : wb.cell? ⟨w1.heap.size, 1, none⟩ = some (.slice A3 n3 c3) := HMB.out.box.cell 1
      clear Sb kb
      try go_wp2_with fail
      refine hK.out _ _ (by first | exact trivial | go_keep) (fun hHeld6 => ?_)
      clear hK K
      try simp only [Act.put, List.setIfInBounds_toArray, List.set_cons_zero, List.set_cons_succ]
      refine wpAnyH_take (i := 6) (oi := ?o6_7) (v := ?v6_7) ?h6_7 (by kernel_rfl) (by kernel_rfl) (by kernel_rfl) ?q6_7 (Or.inl ⟨?z6_7, ?y6_7⟩) (by assumption) ?r6_7
      case h6_7 =>
        simp only [List.getElem?_toArray, List.getElem?_cons_succ, List.getElem?_cons_zero]
        rfl
      case q6_7 => exact fun _ _ _ h => h
      case z6_7 => rfl
      case y6_7 =>
        intro w hSw
        try dsimp only at hSw
        go_simp
        try with_reducible rfl
      try simp only [Act.put, List.setIfInBounds_toArray, List.set_cons_zero, List.set_cons_succ]
      refine wpAnyH_ready (rs := [7]) (by kernel_rfl) (by simp) ?_
      refine AllReadyH.cons (o := ?o7_8) ?h7_8 (fun K hK => ?k7_8) AllReadyH.nil
      case h7_8 =>
        simp only [List.getElem?_toArray, List.getElem?_cons_succ, List.getElem?_cons_zero]
        rfl
      go_simp
      refine hK.out _ _ (by first | exact trivial | go_keep) (fun hHeld8 => ?_)
      clear hK K
      try simp only [Act.put, List.setIfInBounds_toArray, List.set_cons_zero, List.set_cons_succ]
      refine wpAnyH_ready (rs := [8]) (by kernel_rfl) (by simp) ?_
      refine AllReadyH.cons (o := ?o8_9) ?h8_9 (fun K hK => ?k8_9) AllReadyH.nil
      case h8_9 =>
        simp only [List.getElem?_toArray, List.getElem?_cons_succ, List.getElem?_cons_zero]
        rfl
      have HOC : Hid ((wb.alloc (.cells #[Value.int .i64 (x : Int), Value.int .i64 (y : Int)] 49)).ownsRow (w.heap.size + 1) 49 2 (.slice A3 n3 c3) fs.length (bvals fs)) := HOB.out.own.alloc _
      have HMC : Hid (MB w (wb.alloc (.cells #[Value.int .i64 (x : Int), Value.int .i64 (y : Int)] 49)) q (KK + 20000 + 2 + 2 + 2) w.heap.size w1.heap.size s (.slice A3 n3 c3) [] (.slice none 0 0)) := HMB.out.step ((Below.refl _ _).alloc (Nat.le_refl _) _)
      have hOC := (HOB.out.step ((Below.refl wb.heap.size wb).alloc (Nat.le_refl _) (.cells #[Value.int .i64 (x : Int), Value.int .i64 (y : Int)] 49))).off
      have HSC : Hid (SrcOk (wb.alloc (.cells #[Value.int .i64 (x : Int), Value.int .i64 (y : Int)] 49)) (.slice (some ⟨wb.heap.size, 0, none⟩) 1 1) 2 1 (bvals [⟨(x : Int), (y : Int)⟩])) := .inr ⟨⟨wb.heap.size, 0, none⟩, 1, rfl, rfl, news_blk wb ⟨(x : Int), (y : Int)⟩⟩
      have hl0 := (memF HOB.out.ok).len
      have hs0 := (memF HOB.out.ok).size
      have hwf0 := blk_wf (memF HOB.out.ok)
      have hwx : Lit.wf (.int .i64 (x : Int)) = true := WalkArith.wf_i64 (by omega)
      have hwy : Lit.wf (.int .i64 (y : Int)) = true := WalkArith.wf_i64 (by omega)
      refine step_append_src (by rfl) _ _ 27 (by rfl) (w.heap.size + 1) 49 i0 (.agg #[.int .i64 0, .int .i64 0]) 2 16 Try.underlying27 hi hy0 hy1 hy2 rfl (by decide) (.slice A3 n3 c3) fs.length (bvals fs) (by rfl) HOC.out (.slice (some ⟨wb.heap.size, 0, none⟩) 1 1) 1 (bvals [⟨(x : Int), (y : Int)⟩]) (by rfl) HSC.out (one_blk _) (by simp only [maxLen]; omega) (by omega) (by have := HMC.out.res.lt; omega) ?_
      intro v' w6 hown' hgrow hor
      obtain ⟨A6, n6, c6, rfl⟩ := owns_form hown'
      have HM6 := Lib.hid (HMC.out.grow hgrow (fun k e => by have := HOC.out.lt k e; have := hOC k e; omega))
      have g1 := HM6.out.box.frozen 1
      have m6 : w6.cell? ⟨w1.heap.size, 1, none⟩ = some (.slice A3 n3 c3) := HM6.out.box.cell 1
      refine hK.out _ _ (by first | exact trivial | go_keep) (fun hHeld9 => ?_)
      clear hK K
      try simp only [Act.put, List.setIfInBounds_toArray, List.set_cons_zero, List.set_cons_succ]
      refine wpAnyH_take (i := 9) (oi := ?o9_10) (v := ?v9_10) ?h9_10 (by kernel_rfl) (by kernel_rfl) (by kernel_rfl) ?q9_10 (Or.inl ⟨?z9_10, ?y9_10⟩) (by assumption) ?r9_10
      case h9_10 =>
        simp only [List.getElem?_toArray, List.getElem?_cons_succ, List.getElem?_cons_zero]
        rfl
      case q9_10 => exact fun _ _ _ h => h
      case z9_10 => rfl
      case y9_10 =>
        intro w hSw
        try dsimp only at hSw
        go_simp
        try with_reducible rfl
      try simp only [Act.put, List.setIfInBounds_toArray, List.set_cons_zero, List.set_cons_succ]
      refine wpAnyH_ready (rs := [10]) (by kernel_rfl) (by simp) ?_
      refine AllReadyH.cons (o := ?o10_11) ?h10_11 (fun K hK => ?k10_11) AllReadyH.nil
      case h10_11 =>
        simp only [List.getElem?_toArray, List.getElem?_cons_succ, List.getElem?_cons_zero]
        rfl
      go_simp
      refine hK.out _ _ (by first | exact trivial | go_keep) (fun hHeld11 => ?_)
      clear hK K
      try simp only [Act.put, List.setIfInBounds_toArray, List.set_cons_zero, List.set_cons_succ]
      refine wpAnyH_done (by kernel_rfl) ?_ _
      have HM9 := Lib.hid (HM6.out.set1 (.slice A6 n6 c6))
      have hne : Value.ownBlock (.slice A6 n6 c6) ≠ some w1.heap.size := fun e => by
        rcases hor with h1 | h1
        · exact (hOC _ (h1 ▸ e)).1 rfl
        · rw [h1] at e; injection e with e; have := HMB.out.box.lt; simp at e; omega
      have HP : Hid (AnyP (w6.setCell ⟨w1.heap.size, 1, none⟩ (.slice A6 n6 c6)) (w.heap.size + 1) s (fs ++ [⟨(x : Int), (y : Int)⟩]) (.slice A6 n6 c6)) := AnyP.own (by omega) (fun b hb => by rcases List.mem_append.1 hb with hb | hb; exact hwf0 b hb; rw [List.mem_singleton.1 hb]; exact ⟨hwx, hwy⟩) (by rw [List.length_append, List.length_singleton]; omega) (owns_set2 (by rw [bvals_append, List.length_append]; exact hown') (p := ⟨w1.heap.size, 1, none⟩) hne _)
      clear HMC HOC HSC hgrow hown' hor
      have m0 : (w6.setCell ⟨w1.heap.size, 1, none⟩ (.slice A6 n6 c6)).cell? ⟨w1.heap.size, 0, none⟩ = some (.string s) := HM9.out.box.cell 0
      have m1 : (w6.setCell ⟨w1.heap.size, 1, none⟩ (.slice A6 n6 c6)).cell? ⟨w1.heap.size, 1, none⟩ = some (.slice A6 n6 c6) := HM9.out.box.cell 1
      have r0 : (w6.setCell ⟨w1.heap.size, 1, none⟩ (.slice A6 n6 c6)).cell? ⟨w.heap.size, 0, none⟩ = some (.string ⟨#[]⟩) := HM9.out.res.cell 0
      have r1 : (w6.setCell ⟨w1.heap.size, 1, none⟩ (.slice A6 n6 c6)).cell? ⟨w.heap.size, 1, none⟩ = some (.slice none 0 0) := HM9.out.res.cell 1
      have f0 := HM9.out.res.frozen 0
      have f1 := HM9.out.res.frozen 1
      go_wp2_with fail
      have bR : Blk (((w6.setCell ⟨w1.heap.size, 1, none⟩ (.slice A6 n6 c6)).setCell ⟨w.heap.size, 0, none⟩ (.string s)).setCell ⟨w.heap.size, 1, none⟩ (.slice A6 n6 c6)) w.heap.size 29 #[.string s, (.slice A6 n6 c6)] := by
        have := (HM9.out.res.set_ 0 (.string s)).set_ 1 (.slice A6 n6 c6)
        simpa using this
      have r0 := bR.cell 0
      have r1 := bR.cell 1
      refine bodyPost_ret (v := .agg #[.string s, (.slice A6 n6 c6)]) (by simp [results, Try.results61, go_sem, r0, r1]) rfl ⟨s, (fs ++ [⟨(x : Int), (y : Int)⟩]), (.slice A6 n6 c6), rfl, ?_, ?_, ?_⟩
      · exact (HP.out.set (i := 0) (Nat.lt_succ_self _) _).set (i := 1) (Nat.lt_succ_self _) _
      · exact ((HM9.out.src.below ((Below.refl w.heap.size _).setCell (p := ⟨w.heap.size, 0, none⟩) (Nat.le_refl _) _) hq).below ((Below.refl w.heap.size _).setCell (p := ⟨w.heap.size, 1, none⟩) (Nat.le_refl _) _) hq).more (by omega)
      · exact (HM9.out.keep.high (p := ⟨w.heap.size, 0, none⟩) (Nat.le_refl _) _).high (p := ⟨w.heap.size, 1, none⟩) (Nat.le_refl _) _
    case k3_4 =>
      have hM5 : MB w w4.drew q (KK + 20000 + 2) w.heap.size w1.heap.size s (.slice A3 n3 c3) [] (.slice none 0 0) := HM.out.step ((Below.refl _ _).drew)
      have hO5 : MO w4.drew w.heap.size w1.heap.size s fs (.slice none 0 0) (.slice A3 n3 c3) := HO.out.step ((Below.refl _ _).drew)
      go_simp
      go_at_call 58
      refine (pick_any hM5.src (by omega) (by omega)).mono ?_
      rintro e wa ⟨x, hx, rfl, Sa, ka⟩
      have HMA := Lib.hid (hM5.drawn ka Sa)
      have HOA := Lib.hid (hO5.drawn ka (by omega))
      have ma : wa.cell? ⟨w1.heap.size, 1, none⟩ = some (.slice A3 n3 c3) := HMA.out.box.cell 1
      clear hM5 hO5 Sa ka
      try go_wp2_with fail
      refine hK.out _ _ (by first | exact trivial | go_keep) (fun hHeld4 => ?_)
      clear hK K
      try simp only [Act.put, List.setIfInBounds_toArray, List.set_cons_zero, List.set_cons_succ]
      refine wpAnyH_ready (rs := [1, 5]) (by kernel_rfl) (by simp) ?_
      refine AllReadyH.cons (o := ?o1_12) ?h1_12 (fun K hK => ?k1_12) (AllReadyH.cons (o := ?o5_12) ?h5_12 (fun K hK => ?k5_12) AllReadyH.nil)
      case h1_12 =>
        simp only [List.getElem?_toArray, List.getElem?_cons_succ, List.getElem?_cons_zero]
        rfl
      case h5_12 =>
        simp only [List.getElem?_toArray, List.getElem?_cons_succ, List.getElem?_cons_zero]
        rfl
      case k1_12 =>
        go_simp
        refine hK.out _ _ (by first | exact trivial | go_keep) (fun hHeld12 => ?_)
        clear hK K
        try simp only [Act.put, List.setIfInBounds_toArray, List.set_cons_zero, List.set_cons_succ]
        refine wpAnyH_ready (rs := [5]) (by kernel_rfl) (by simp) ?_
        refine AllReadyH.cons (o := ?o5_13) ?h5_13 (fun K hK => ?k5_13) AllReadyH.nil
        case h5_13 =>
          simp only [List.getElem?_toArray, List.getElem?_cons_succ, List.getElem?_cons_zero]
          rfl
        go_simp
        go_at_call 58
        refine (pick_any HMA.out.src (by omega) (by omega)).mono ?_
        rintro e wb ⟨y, hy, rfl, Sb, kb⟩
        have HMB := Lib.hid (HMA.out.drawn kb Sb)
        have HOB := Lib.hid (HOA.out.drawn kb (by omega))
        have mb : wb.cell? ⟨w1.heap.size, 1, none⟩ = some (.slice A3 n3 c3) := HMB.out.box.cell 1
        clear Sb kb
        try go_wp2_with fail
        refine hK.out _ _ (by first | exact trivial | go_keep) (fun hHeld13 => ?_)
        clear hK K
        try simp only [Act.put, List.setIfInBounds_toArray, List.set_cons_zero, List.set_cons_succ]
        refine wpAnyH_take (i := 6) (oi := ?o6_14) (v := ?v6_14) ?h6_14 (by kernel_rfl) (by kernel_rfl) (by kernel_rfl) ?q6_14 (Or.inl ⟨?z6_14, ?y6_14⟩) (by assumption) ?r6_14
        case h6_14 =>
          simp only [List.getElem?_toArray, List.getElem?_cons_succ, List.getElem?_cons_zero]
          rfl
        case q6_14 => exact fun _ _ _ h => h
        case z6_14 => rfl
        case y6_14 =>
          intro w hSw
          try dsimp only at hSw
          go_simp
          try with_reducible rfl
        try simp only [Act.put, List.setIfInBounds_toArray, List.set_cons_zero, List.set_cons_succ]
        refine wpAnyH_ready (rs := [7]) (by kernel_rfl) (by simp) ?_
        refine AllReadyH.cons (o := ?o7_15) ?h7_15 (fun K hK => ?k7_15) AllReadyH.nil
        case h7_15 =>
          simp only [List.getElem?_toArray, List.getElem?_cons_succ, List.getElem?_cons_zero]
          rfl
        go_simp
        refine hK.out _ _ (by first | exact trivial | go_keep) (fun hHeld15 => ?_)
        clear hK K
        try simp only [Act.put, List.setIfInBounds_toArray, List.set_cons_zero, List.set_cons_succ]
        refine wpAnyH_ready (rs := [8]) (by kernel_rfl) (by simp) ?_
        refine AllReadyH.cons (o := ?o8_16) ?h8_16 (fun K hK => ?k8_16) AllReadyH.nil
        case h8_16 =>
          simp only [List.getElem?_toArray, List.getElem?_cons_succ, List.getElem?_cons_zero]
          rfl
        have HOC : Hid ((wb.alloc (.cells #[Value.int .i64 (x : Int), Value.int .i64 (y : Int)] 49)).ownsRow (w.heap.size + 1) 49 2 (.slice A3 n3 c3) fs.length (bvals fs)) := HOB.out.own.alloc _
        have HMC : Hid (MB w (wb.alloc (.cells #[Value.int .i64 (x : Int), Value.int .i64 (y : Int)] 49)) q (KK + 20000 + 2 + 2 + 2) w.heap.size w1.heap.size s (.slice A3 n3 c3) [] (.slice none 0 0)) := HMB.out.step ((Below.refl _ _).alloc (Nat.le_refl _) _)
        have hOC := (HOB.out.step ((Below.refl wb.heap.size wb).alloc (Nat.le_refl _) (.cells #[Value.int .i64 (x : Int), Value.int .i64 (y : Int)] 49))).off
        have HSC : Hid (SrcOk (wb.alloc (.cells #[Value.int .i64 (x : Int), Value.int .i64 (y : Int)] 49)) (.slice (some ⟨wb.heap.size, 0, none⟩) 1 1) 2 1 (bvals [⟨(x : Int), (y : Int)⟩])) := .inr ⟨⟨wb.heap.size, 0, none⟩, 1, rfl, rfl, news_blk wb ⟨(x : Int), (y : Int)⟩⟩
        have hl0 := (memF HOB.out.ok).len
        have hs0 := (memF HOB.out.ok).size
        have hwf0 := blk_wf (memF HOB.out.ok)
        have hwx : Lit.wf (.int .i64 (x : Int)) = true := WalkArith.wf_i64 (by omega)
        have hwy : Lit.wf (.int .i64 (y : Int)) = true := WalkArith.wf_i64 (by omega)
        refine step_append_src (by rfl) _ _ 27 (by rfl) (w.heap.size + 1) 49 i0 (.agg #[.int .i64 0, .int .i64 0]) 2 16 Try.underlying27 hi hy0 hy1 hy2 rfl (by decide) (.slice A3 n3 c3) fs.length (bvals fs) (by rfl) HOC.out (.slice (some ⟨wb.heap.size, 0, none⟩) 1 1) 1 (bvals [⟨(x : Int), (y : Int)⟩]) (by rfl) HSC.out (one_blk _) (by simp only [maxLen]; omega) (by omega) (by have := HMC.out.res.lt; omega) ?_
        intro v' w6 hown' hgrow hor
        obtain ⟨A6, n6, c6, rfl⟩ := owns_form hown'
        have HM6 := Lib.hid (HMC.out.grow hgrow (fun k e => by have := HOC.out.lt k e; have := hOC k e; omega))
        have g1 := HM6.out.box.frozen 1
        have m6 : w6.cell? ⟨w1.heap.size, 1, none⟩ = some (.slice A3 n3 c3) := HM6.out.box.cell 1
        refine hK.out _ _ (by first | exact trivial | go_keep) (fun hHeld16 => ?_)
        clear hK K
        try simp only [Act.put, List.setIfInBounds_toArray, List.set_cons_zero, List.set_cons_succ]
        refine wpAnyH_take (i := 9) (oi := ?o9_17) (v := ?v9_17) ?h9_17 (by kernel_rfl) (by kernel_rfl) (by kernel_rfl) ?q9_17 (Or.inl ⟨?z9_17, ?y9_17⟩) (by assumption) ?r9_17
        case h9_17 =>
          simp only [List.getElem?_toArray, List.getElem?_cons_succ, List.getElem?_cons_zero]
          rfl
        case q9_17 => exact fun _ _ _ h => h
        case z9_17 => rfl
        case y9_17 =>
          intro w hSw
          try dsimp only at hSw
          go_simp
          try with_reducible rfl
        try simp only [Act.put, List.setIfInBounds_toArray, List.set_cons_zero, List.set_cons_succ]
        refine wpAnyH_ready (rs := [10]) (by kernel_rfl) (by simp) ?_
        refine AllReadyH.cons (o := ?o10_18) ?h10_18 (fun K hK => ?k10_18) AllReadyH.nil
        case h10_18 =>
          simp only [List.getElem?_toArray, List.getElem?_cons_succ, List.getElem?_cons_zero]
          rfl
        go_simp
        refine hK.out _ _ (by first | exact trivial | go_keep) (fun hHeld18 => ?_)
        clear hK K
        try simp only [Act.put, List.setIfInBounds_toArray, List.set_cons_zero, List.set_cons_succ]
        refine wpAnyH_done (by kernel_rfl) ?_ _
        have HM9 := Lib.hid (HM6.out.set1 (.slice A6 n6 c6))
        have hne : Value.ownBlock (.slice A6 n6 c6) ≠ some w1.heap.size := fun e => by
          rcases hor with h1 | h1
          · exact (hOC _ (h1 ▸ e)).1 rfl
          · rw [h1] at e; injection e with e; have := HMB.out.box.lt; simp at e; omega
        have HP : Hid (AnyP (w6.setCell ⟨w1.heap.size, 1, none⟩ (.slice A6 n6 c6)) (w.heap.size + 1) s (fs ++ [⟨(x : Int), (y : Int)⟩]) (.slice A6 n6 c6)) := AnyP.own (by omega) (fun b hb => by rcases List.mem_append.1 hb with hb | hb; exact hwf0 b hb; rw [List.mem_singleton.1 hb]; exact ⟨hwx, hwy⟩) (by rw [List.length_append, List.length_singleton]; omega) (owns_set2 (by rw [bvals_append, List.length_append]; exact hown') (p := ⟨w1.heap.size, 1, none⟩) hne _)
        clear HMC HOC HSC hgrow hown' hor
        have m0 : (w6.setCell ⟨w1.heap.size, 1, none⟩ (.slice A6 n6 c6)).cell? ⟨w1.heap.size, 0, none⟩ = some (.string s) := HM9.out.box.cell 0
        have m1 : (w6.setCell ⟨w1.heap.size, 1, none⟩ (.slice A6 n6 c6)).cell? ⟨w1.heap.size, 1, none⟩ = some (.slice A6 n6 c6) := HM9.out.box.cell 1
        have r0 : (w6.setCell ⟨w1.heap.size, 1, none⟩ (.slice A6 n6 c6)).cell? ⟨w.heap.size, 0, none⟩ = some (.string ⟨#[]⟩) := HM9.out.res.cell 0
        have r1 : (w6.setCell ⟨w1.heap.size, 1, none⟩ (.slice A6 n6 c6)).cell? ⟨w.heap.size, 1, none⟩ = some (.slice none 0 0) := HM9.out.res.cell 1
        have f0 := HM9.out.res.frozen 0
        have f1 := HM9.out.res.frozen 1
        go_wp2_with fail
        have bR : Blk (((w6.setCell ⟨w1.heap.size, 1, none⟩ (.slice A6 n6 c6)).setCell ⟨w.heap.size, 0, none⟩ (.string s)).setCell ⟨w.heap.size, 1, none⟩ (.slice A6 n6 c6)) w.heap.size 29 #[.string s, (.slice A6 n6 c6)] := by
          have := (HM9.out.res.set_ 0 (.string s)).set_ 1 (.slice A6 n6 c6)
          simpa using this
        have r0 := bR.cell 0
        have r1 := bR.cell 1
        refine bodyPost_ret (v := .agg #[.string s, (.slice A6 n6 c6)]) (by simp [results, Try.results61, go_sem, r0, r1]) rfl ⟨s, (fs ++ [⟨(x : Int), (y : Int)⟩]), (.slice A6 n6 c6), rfl, ?_, ?_, ?_⟩
        · exact (HP.out.set (i := 0) (Nat.lt_succ_self _) _).set (i := 1) (Nat.lt_succ_self _) _
        · exact ((HM9.out.src.below ((Below.refl w.heap.size _).setCell (p := ⟨w.heap.size, 0, none⟩) (Nat.le_refl _) _) hq).below ((Below.refl w.heap.size _).setCell (p := ⟨w.heap.size, 1, none⟩) (Nat.le_refl _) _) hq).more (by omega)
        · exact (HM9.out.keep.high (p := ⟨w.heap.size, 0, none⟩) (Nat.le_refl _) _).high (p := ⟨w.heap.size, 1, none⟩) (Nat.le_refl _) _
      case k5_12 =>
        go_simp
        go_at_call 58
        refine (pick_any HMA.out.src (by omega) (by omega)).mono ?_
        rintro e wb ⟨y, hy, rfl, Sb, kb⟩
        have HMB := Lib.hid (HMA.out.drawn kb Sb)
        have HOB := Lib.hid (HOA.out.drawn kb (by omega))
        have mb : wb.cell? ⟨w1.heap.size, 1, none⟩ = some (.slice A3 n3 c3) := HMB.out.box.cell 1
        clear Sb kb
        try go_wp2_with fail
        refine hK.out _ _ (by first | exact trivial | go_keep) (fun hHeld12 => ?_)
        clear hK K
        try simp only [Act.put, List.setIfInBounds_toArray, List.set_cons_zero, List.set_cons_succ]
        refine wpAnyH_take (i := 6) (oi := ?o6_19) (v := ?v6_19) ?h6_19 (by kernel_rfl) (by kernel_rfl) (by kernel_rfl) ?q6_19 (Or.inl ⟨?z6_19, ?y6_19⟩) (by assumption) ?r6_19
        case h6_19 =>
          simp only [List.getElem?_toArray, List.getElem?_cons_succ, List.getElem?_cons_zero]
          rfl
        case q6_19 => exact fun _ _ _ h => h
        case z6_19 => rfl
        case y6_19 =>
          intro w hSw
          try dsimp only at hSw
          go_simp
          try with_reducible rfl
        try simp only [Act.put, List.setIfInBounds_toArray, List.set_cons_zero, List.set_cons_succ]
        refine wpAnyH_ready (rs := [1, 7]) (by kernel_rfl) (by simp) ?_
        refine AllReadyH.cons (o := ?o1_20) ?h1_20 (fun K hK => ?k1_20) (AllReadyH.cons (o := ?o7_20) ?h7_20 (fun K hK => ?k7_20) AllReadyH.nil)
        case h1_20 =>
          simp only [List.getElem?_toArray, List.getElem?_cons_succ, List.getElem?_cons_zero]
          rfl
        case h7_20 =>
          simp only [List.getElem?_toArray, List.getElem?_cons_succ, List.getElem?_cons_zero]
          rfl
        case k1_20 =>
          go_simp
          refine hK.out _ _ (by first | exact trivial | go_keep) (fun hHeld20 => ?_)
          clear hK K
          try simp only [Act.put, List.setIfInBounds_toArray, List.set_cons_zero, List.set_cons_succ]
          refine wpAnyH_ready (rs := [7]) (by kernel_rfl) (by simp) ?_
          refine AllReadyH.cons (o := ?o7_21) ?h7_21 (fun K hK => ?k7_21) AllReadyH.nil
          case h7_21 =>
            simp only [List.getElem?_toArray, List.getElem?_cons_succ, List.getElem?_cons_zero]
            rfl
          go_simp
          refine hK.out _ _ (by first | exact trivial | go_keep) (fun hHeld21 => ?_)
          clear hK K
          try simp only [Act.put, List.setIfInBounds_toArray, List.set_cons_zero, List.set_cons_succ]
          refine wpAnyH_ready (rs := [8]) (by kernel_rfl) (by simp) ?_
          refine AllReadyH.cons (o := ?o8_22) ?h8_22 (fun K hK => ?k8_22) AllReadyH.nil
          case h8_22 =>
            simp only [List.getElem?_toArray, List.getElem?_cons_succ, List.getElem?_cons_zero]
            rfl
          have HOC : Hid ((wb.alloc (.cells #[Value.int .i64 (x : Int), Value.int .i64 (y : Int)] 49)).ownsRow (w.heap.size + 1) 49 2 (.slice A3 n3 c3) fs.length (bvals fs)) := HOB.out.own.alloc _
          have HMC : Hid (MB w (wb.alloc (.cells #[Value.int .i64 (x : Int), Value.int .i64 (y : Int)] 49)) q (KK + 20000 + 2 + 2 + 2) w.heap.size w1.heap.size s (.slice A3 n3 c3) [] (.slice none 0 0)) := HMB.out.step ((Below.refl _ _).alloc (Nat.le_refl _) _)
          have hOC := (HOB.out.step ((Below.refl wb.heap.size wb).alloc (Nat.le_refl _) (.cells #[Value.int .i64 (x : Int), Value.int .i64 (y : Int)] 49))).off
          have HSC : Hid (SrcOk (wb.alloc (.cells #[Value.int .i64 (x : Int), Value.int .i64 (y : Int)] 49)) (.slice (some ⟨wb.heap.size, 0, none⟩) 1 1) 2 1 (bvals [⟨(x : Int), (y : Int)⟩])) := .inr ⟨⟨wb.heap.size, 0, none⟩, 1, rfl, rfl, news_blk wb ⟨(x : Int), (y : Int)⟩⟩
          have hl0 := (memF HOB.out.ok).len
          have hs0 := (memF HOB.out.ok).size
          have hwf0 := blk_wf (memF HOB.out.ok)
          have hwx : Lit.wf (.int .i64 (x : Int)) = true := WalkArith.wf_i64 (by omega)
          have hwy : Lit.wf (.int .i64 (y : Int)) = true := WalkArith.wf_i64 (by omega)
          refine step_append_src (by rfl) _ _ 27 (by rfl) (w.heap.size + 1) 49 i0 (.agg #[.int .i64 0, .int .i64 0]) 2 16 Try.underlying27 hi hy0 hy1 hy2 rfl (by decide) (.slice A3 n3 c3) fs.length (bvals fs) (by rfl) HOC.out (.slice (some ⟨wb.heap.size, 0, none⟩) 1 1) 1 (bvals [⟨(x : Int), (y : Int)⟩]) (by rfl) HSC.out (one_blk _) (by simp only [maxLen]; omega) (by omega) (by have := HMC.out.res.lt; omega) ?_
          intro v' w6 hown' hgrow hor
          obtain ⟨A6, n6, c6, rfl⟩ := owns_form hown'
          have HM6 := Lib.hid (HMC.out.grow hgrow (fun k e => by have := HOC.out.lt k e; have := hOC k e; omega))
          have g1 := HM6.out.box.frozen 1
          have m6 : w6.cell? ⟨w1.heap.size, 1, none⟩ = some (.slice A3 n3 c3) := HM6.out.box.cell 1
          refine hK.out _ _ (by first | exact trivial | go_keep) (fun hHeld22 => ?_)
          clear hK K
          try simp only [Act.put, List.setIfInBounds_toArray, List.set_cons_zero, List.set_cons_succ]
          refine wpAnyH_take (i := 9) (oi := ?o9_23) (v := ?v9_23) ?h9_23 (by kernel_rfl) (by kernel_rfl) (by kernel_rfl) ?q9_23 (Or.inl ⟨?z9_23, ?y9_23⟩) (by assumption) ?r9_23
          case h9_23 =>
            simp only [List.getElem?_toArray, List.getElem?_cons_succ, List.getElem?_cons_zero]
            rfl
          case q9_23 => exact fun _ _ _ h => h
          case z9_23 => rfl
          case y9_23 =>
            intro w hSw
            try dsimp only at hSw
            go_simp
            try with_reducible rfl
          try simp only [Act.put, List.setIfInBounds_toArray, List.set_cons_zero, List.set_cons_succ]
          refine wpAnyH_ready (rs := [10]) (by kernel_rfl) (by simp) ?_
          refine AllReadyH.cons (o := ?o10_24) ?h10_24 (fun K hK => ?k10_24) AllReadyH.nil
          case h10_24 =>
            simp only [List.getElem?_toArray, List.getElem?_cons_succ, List.getElem?_cons_zero]
            rfl
          go_simp
          refine hK.out _ _ (by first | exact trivial | go_keep) (fun hHeld24 => ?_)
          clear hK K
          try simp only [Act.put, List.setIfInBounds_toArray, List.set_cons_zero, List.set_cons_succ]
          refine wpAnyH_done (by kernel_rfl) ?_ _
          have HM9 := Lib.hid (HM6.out.set1 (.slice A6 n6 c6))
          have hne : Value.ownBlock (.slice A6 n6 c6) ≠ some w1.heap.size := fun e => by
            rcases hor with h1 | h1
            · exact (hOC _ (h1 ▸ e)).1 rfl
            · rw [h1] at e; injection e with e; have := HMB.out.box.lt; simp at e; omega
          have HP : Hid (AnyP (w6.setCell ⟨w1.heap.size, 1, none⟩ (.slice A6 n6 c6)) (w.heap.size + 1) s (fs ++ [⟨(x : Int), (y : Int)⟩]) (.slice A6 n6 c6)) := AnyP.own (by omega) (fun b hb => by rcases List.mem_append.1 hb with hb | hb; exact hwf0 b hb; rw [List.mem_singleton.1 hb]; exact ⟨hwx, hwy⟩) (by rw [List.length_append, List.length_singleton]; omega) (owns_set2 (by rw [bvals_append, List.length_append]; exact hown') (p := ⟨w1.heap.size, 1, none⟩) hne _)
          clear HMC HOC HSC hgrow hown' hor
          have m0 : (w6.setCell ⟨w1.heap.size, 1, none⟩ (.slice A6 n6 c6)).cell? ⟨w1.heap.size, 0, none⟩ = some (.string s) := HM9.out.box.cell 0
          have m1 : (w6.setCell ⟨w1.heap.size, 1, none⟩ (.slice A6 n6 c6)).cell? ⟨w1.heap.size, 1, none⟩ = some (.slice A6 n6 c6) := HM9.out.box.cell 1
          have r0 : (w6.setCell ⟨w1.heap.size, 1, none⟩ (.slice A6 n6 c6)).cell? ⟨w.heap.size, 0, none⟩ = some (.string ⟨#[]⟩) := HM9.out.res.cell 0
          have r1 : (w6.setCell ⟨w1.heap.size, 1, none⟩ (.slice A6 n6 c6)).cell? ⟨w.heap.size, 1, none⟩ = some (.slice none 0 0) := HM9.out.res.cell 1
          have f0 := HM9.out.res.frozen 0
          have f1 := HM9.out.res.frozen 1
          go_wp2_with fail
          have bR : Blk (((w6.setCell ⟨w1.heap.size, 1, none⟩ (.slice A6 n6 c6)).setCell ⟨w.heap.size, 0, none⟩ (.string s)).setCell ⟨w.heap.size, 1, none⟩ (.slice A6 n6 c6)) w.heap.size 29 #[.string s, (.slice A6 n6 c6)] := by
            have := (HM9.out.res.set_ 0 (.string s)).set_ 1 (.slice A6 n6 c6)
            simpa using this
          have r0 := bR.cell 0
          have r1 := bR.cell 1
          refine bodyPost_ret (v := .agg #[.string s, (.slice A6 n6 c6)]) (by simp [results, Try.results61, go_sem, r0, r1]) rfl ⟨s, (fs ++ [⟨(x : Int), (y : Int)⟩]), (.slice A6 n6 c6), rfl, ?_, ?_, ?_⟩
          · exact (HP.out.set (i := 0) (Nat.lt_succ_self _) _).set (i := 1) (Nat.lt_succ_self _) _
          · exact ((HM9.out.src.below ((Below.refl w.heap.size _).setCell (p := ⟨w.heap.size, 0, none⟩) (Nat.le_refl _) _) hq).below ((Below.refl w.heap.size _).setCell (p := ⟨w.heap.size, 1, none⟩) (Nat.le_refl _) _) hq).more (by omega)
          · exact (HM9.out.keep.high (p := ⟨w.heap.size, 0, none⟩) (Nat.le_refl _) _).high (p := ⟨w.heap.size, 1, none⟩) (Nat.le_refl _) _
        case k7_20 =>
          go_simp
          refine hK.out _ _ (by first | exact trivial | go_keep) (fun hHeld20 => ?_)
          clear hK K
          try simp only [Act.put, List.setIfInBounds_toArray, List.set_cons_zero, List.set_cons_succ]
          refine wpAnyH_ready (rs := [1]) (by kernel_rfl) (by simp) ?_
          refine AllReadyH.cons (o := ?o1_25) ?h1_25 (fun K hK => ?k1_25) AllReadyH.nil
          case h1_25 =>
            simp only [List.getElem?_toArray, List.getElem?_cons_succ, List.getElem?_cons_zero]
            rfl
          have m7 : (wb.alloc (.cells #[Value.int .i64 (x : Int), Value.int .i64 (y : Int)] 49)).cell? ⟨w1.heap.size, 1, none⟩ = some (.slice A3 n3 c3) := (HMB.out.step ((Below.refl _ _).alloc (Nat.le_refl _) _)).box.cell 1
          go_simp
          refine hK.out _ _ (by first | exact trivial | go_keep) (fun hHeld25 => ?_)
          clear hK K
          try simp only [Act.put, List.setIfInBounds_toArray, List.set_cons_zero, List.set_cons_succ]
          refine wpAnyH_ready (rs := [8]) (by kernel_rfl) (by simp) ?_
          refine AllReadyH.cons (o := ?o8_26) ?h8_26 (fun K hK => ?k8_26) AllReadyH.nil
          case h8_26 =>
            simp only [List.getElem?_toArray, List.getElem?_cons_succ, List.getElem?_cons_zero]
            rfl
          have HOC : Hid ((wb.alloc (.cells #[Value.int .i64 (x : Int), Value.int .i64 (y : Int)] 49)).ownsRow (w.heap.size + 1) 49 2 (.slice A3 n3 c3) fs.length (bvals fs)) := HOB.out.own.alloc _
          have HMC : Hid (MB w (wb.alloc (.cells #[Value.int .i64 (x : Int), Value.int .i64 (y : Int)] 49)) q (KK + 20000 + 2 + 2 + 2) w.heap.size w1.heap.size s (.slice A3 n3 c3) [] (.slice none 0 0)) := HMB.out.step ((Below.refl _ _).alloc (Nat.le_refl _) _)
          have hOC := (HOB.out.step ((Below.refl wb.heap.size wb).alloc (Nat.le_refl _) (.cells #[Value.int .i64 (x : Int), Value.int .i64 (y : Int)] 49))).off
          have HSC : Hid (SrcOk (wb.alloc (.cells #[Value.int .i64 (x : Int), Value.int .i64 (y : Int)] 49)) (.slice (some ⟨wb.heap.size, 0, none⟩) 1 1) 2 1 (bvals [⟨(x : Int), (y : Int)⟩])) := .inr ⟨⟨wb.heap.size, 0, none⟩, 1, rfl, rfl, news_blk wb ⟨(x : Int), (y : Int)⟩⟩
          have hl0 := (memF HOB.out.ok).len
          have hs0 := (memF HOB.out.ok).size
          have hwf0 := blk_wf (memF HOB.out.ok)
          have hwx : Lit.wf (.int .i64 (x : Int)) = true := WalkArith.wf_i64 (by omega)
          have hwy : Lit.wf (.int .i64 (y : Int)) = true := WalkArith.wf_i64 (by omega)
          refine step_append_src (by rfl) _ _ 27 (by rfl) (w.heap.size + 1) 49 i0 (.agg #[.int .i64 0, .int .i64 0]) 2 16 Try.underlying27 hi hy0 hy1 hy2 rfl (by decide) (.slice A3 n3 c3) fs.length (bvals fs) (by rfl) HOC.out (.slice (some ⟨wb.heap.size, 0, none⟩) 1 1) 1 (bvals [⟨(x : Int), (y : Int)⟩]) (by rfl) HSC.out (one_blk _) (by simp only [maxLen]; omega) (by omega) (by have := HMC.out.res.lt; omega) ?_
          intro v' w6 hown' hgrow hor
          obtain ⟨A6, n6, c6, rfl⟩ := owns_form hown'
          have HM6 := Lib.hid (HMC.out.grow hgrow (fun k e => by have := HOC.out.lt k e; have := hOC k e; omega))
          have g1 := HM6.out.box.frozen 1
          have m6 : w6.cell? ⟨w1.heap.size, 1, none⟩ = some (.slice A3 n3 c3) := HM6.out.box.cell 1
          refine hK.out _ _ (by first | exact trivial | go_keep) (fun hHeld26 => ?_)
          clear hK K
          try simp only [Act.put, List.setIfInBounds_toArray, List.set_cons_zero, List.set_cons_succ]
          refine wpAnyH_take (i := 9) (oi := ?o9_27) (v := ?v9_27) ?h9_27 (by kernel_rfl) (by kernel_rfl) (by kernel_rfl) ?q9_27 (Or.inl ⟨?z9_27, ?y9_27⟩) (by assumption) ?r9_27
          case h9_27 =>
            simp only [List.getElem?_toArray, List.getElem?_cons_succ, List.getElem?_cons_zero]
            rfl
          case q9_27 => exact fun _ _ _ h => h
          case z9_27 => rfl
          case y9_27 =>
            intro w hSw
            try dsimp only at hSw
            go_simp
            try with_reducible rfl
          try simp only [Act.put, List.setIfInBounds_toArray, List.set_cons_zero, List.set_cons_succ]
          refine wpAnyH_ready (rs := [10]) (by kernel_rfl) (by simp) ?_
          refine AllReadyH.cons (o := ?o10_28) ?h10_28 (fun K hK => ?k10_28) AllReadyH.nil
          case h10_28 =>
            simp only [List.getElem?_toArray, List.getElem?_cons_succ, List.getElem?_cons_zero]
            rfl
          go_simp
          refine hK.out _ _ (by first | exact trivial | go_keep) (fun hHeld28 => ?_)
          clear hK K
          try simp only [Act.put, List.setIfInBounds_toArray, List.set_cons_zero, List.set_cons_succ]
          refine wpAnyH_done (by kernel_rfl) ?_ _
          have HM9 := Lib.hid (HM6.out.set1 (.slice A6 n6 c6))
          have hne : Value.ownBlock (.slice A6 n6 c6) ≠ some w1.heap.size := fun e => by
            rcases hor with h1 | h1
            · exact (hOC _ (h1 ▸ e)).1 rfl
            · rw [h1] at e; injection e with e; have := HMB.out.box.lt; simp at e; omega
          have HP : Hid (AnyP (w6.setCell ⟨w1.heap.size, 1, none⟩ (.slice A6 n6 c6)) (w.heap.size + 1) s (fs ++ [⟨(x : Int), (y : Int)⟩]) (.slice A6 n6 c6)) := AnyP.own (by omega) (fun b hb => by rcases List.mem_append.1 hb with hb | hb; exact hwf0 b hb; rw [List.mem_singleton.1 hb]; exact ⟨hwx, hwy⟩) (by rw [List.length_append, List.length_singleton]; omega) (owns_set2 (by rw [bvals_append, List.length_append]; exact hown') (p := ⟨w1.heap.size, 1, none⟩) hne _)
          clear HMC HOC HSC hgrow hown' hor
          have m0 : (w6.setCell ⟨w1.heap.size, 1, none⟩ (.slice A6 n6 c6)).cell? ⟨w1.heap.size, 0, none⟩ = some (.string s) := HM9.out.box.cell 0
          have m1 : (w6.setCell ⟨w1.heap.size, 1, none⟩ (.slice A6 n6 c6)).cell? ⟨w1.heap.size, 1, none⟩ = some (.slice A6 n6 c6) := HM9.out.box.cell 1
          have r0 : (w6.setCell ⟨w1.heap.size, 1, none⟩ (.slice A6 n6 c6)).cell? ⟨w.heap.size, 0, none⟩ = some (.string ⟨#[]⟩) := HM9.out.res.cell 0
          have r1 : (w6.setCell ⟨w1.heap.size, 1, none⟩ (.slice A6 n6 c6)).cell? ⟨w.heap.size, 1, none⟩ = some (.slice none 0 0) := HM9.out.res.cell 1
          have f0 := HM9.out.res.frozen 0
          have f1 := HM9.out.res.frozen 1
          go_wp2_with fail
          have bR : Blk (((w6.setCell ⟨w1.heap.size, 1, none⟩ (.slice A6 n6 c6)).setCell ⟨w.heap.size, 0, none⟩ (.string s)).setCell ⟨w.heap.size, 1, none⟩ (.slice A6 n6 c6)) w.heap.size 29 #[.string s, (.slice A6 n6 c6)] := by
            have := (HM9.out.res.set_ 0 (.string s)).set_ 1 (.slice A6 n6 c6)
            simpa using this
          have r0 := bR.cell 0
          have r1 := bR.cell 1
          refine bodyPost_ret (v := .agg #[.string s, (.slice A6 n6 c6)]) (by simp [results, Try.results61, go_sem, r0, r1]) rfl ⟨s, (fs ++ [⟨(x : Int), (y : Int)⟩]), (.slice A6 n6 c6), rfl, ?_, ?_, ?_⟩
          · exact (HP.out.set (i := 0) (Nat.lt_succ_self _) _).set (i := 1) (Nat.lt_succ_self _) _
          · exact ((HM9.out.src.below ((Below.refl w.heap.size _).setCell (p := ⟨w.heap.size, 0, none⟩) (Nat.le_refl _) _) hq).below ((Below.refl w.heap.size _).setCell (p := ⟨w.heap.size, 1, none⟩) (Nat.le_refl _) _) hq).more (by omega)
          · exact (HM9.out.keep.high (p := ⟨w.heap.size, 0, none⟩) (Nat.le_refl _) _).high (p := ⟨w.heap.size, 1, none⟩) (Nat.le_refl _) _
  by_cases hb1 : b = 1
  case pos =>
    subst hb1
    have m1 : w4.cell? ⟨w1.heap.size, 1, none⟩ = some (.slice A3 n3 c3) := HM.out.box.cell 1
    have hlen := owns_len HO.out.own
    by_cases h0 : 0 < n3
    case neg =>
      obtain rfl : n3 = 0 := by omega
      have HP := Lib.hid (AnyP.of HO.out)
      clear hlen h0
      have m0 : w4.cell? ⟨w1.heap.size, 0, none⟩ = some (.string s) := HM.out.box.cell 0
      have m1 : w4.cell? ⟨w1.heap.size, 1, none⟩ = some (.slice A3 0 c3) := HM.out.box.cell 1
      have r0 : w4.cell? ⟨w.heap.size, 0, none⟩ = some (.string ⟨#[]⟩) := HM.out.res.cell 0
      have r1 : w4.cell? ⟨w.heap.size, 1, none⟩ = some (.slice none 0 0) := HM.out.res.cell 1
      have f0 := HM.out.res.frozen 0
      have f1 := HM.out.res.frozen 1
      go_wp2_with fail
      have bR : Blk ((w4.setCell ⟨w.heap.size, 0, none⟩ (.string s)).setCell ⟨w.heap.size, 1, none⟩ (.slice A3 0 c3)) w.heap.size 29 #[.string s, (.slice A3 0 c3)] := by
        have := (HM.out.res.set_ 0 (.string s)).set_ 1 (.slice A3 0 c3)
        simpa using this
      have r0 := bR.cell 0
      have r1 := bR.cell 1
      refine bodyPost_ret (v := .agg #[.string s, (.slice A3 0 c3)]) (by simp [results, Try.results61, go_sem, r0, r1]) rfl ⟨s, fs, (.slice A3 0 c3), rfl, ?_, ?_, ?_⟩
      · exact (HP.out.set (i := 0) (Nat.lt_succ_self _) _).set (i := 1) (Nat.lt_succ_self _) _
      · exact ((HM.out.src.below ((Below.refl w.heap.size _).setCell (p := ⟨w.heap.size, 0, none⟩) (Nat.le_refl _) _) hq).below ((Below.refl w.heap.size _).setCell (p := ⟨w.heap.size, 1, none⟩) (Nat.le_refl _) _) hq).more (by omega)
      · exact (HM.out.keep.high (p := ⟨w.heap.size, 0, none⟩) (Nat.le_refl _) _).high (p := ⟨w.heap.size, 1, none⟩) (Nat.le_refl _) _
    have hz : decide ((0 : Int) < (n3 : Int)) = true := decide_eq_true (by omega)
    have hz2 : (0 : Int) < (n3 : Int) := by omega
    have hz3 : 0 < n3 := h0
    obtain ⟨g, cc, hrow, hpg, _⟩ := HO.out.own.form (by omega)
    injection hrow with e1 e2 e3
    clear e2
    subst e1 e3
    obtain ⟨b0, rr, hfs⟩ : ∃ b r, fs = b :: r := by cases fs with | nil => simp at hlen; omega | cons b r => exact ⟨b, r, rfl⟩
    have hgm : g ≠ w1.heap.size := (HO.out.off g rfl).1
    have hwf0 := blk_wf (memF HO.out.ok)
    have hl0 := (memF HO.out.ok).len
    have hs0 := (memF HO.out.ok).size
    have HLEN := Lib.hid hlen
    clear hlen
    go_upto_region 7 with fail
    have m1 : w4.cell? ⟨w1.heap.size, 1, none⟩ = some (.slice (some ⟨g, 0, none⟩) n3 c3) := HM.out.box.cell 1
    refine wp_region_held_drew (S := (fun w' => w'.cell? ⟨w1.heap.size, 1, none⟩ = some (.slice (some ⟨g, 0, none⟩) n3 c3))) (by kernel_rfl) (HM.out.box.cell 1) (fun hHeld => ?_)
    refine wpAnyH_take (i := 0) (oi := ?o0_29) (v := ?v0_29) ?h0_29 (by kernel_rfl) (by kernel_rfl) (by kernel_rfl) ?q0_29 (Or.inl ⟨?z0_29, ?y0_29⟩) (by assumption) ?r0_29
    case h0_29 =>
      simp only [List.getElem?_toArray, List.getElem?_cons_succ, List.getElem?_cons_zero]
      rfl
    case q0_29 => exact fun _ _ _ h => h
    case z0_29 => rfl
    case y0_29 =>
      intro w hSw
      try dsimp only at hSw
      go_simp
      try with_reducible rfl
    try simp only [Act.put, List.setIfInBounds_toArray, List.set_cons_zero, List.set_cons_succ]
    refine wpAnyH_take (i := 1) (oi := ?o1_30) (v := ?v1_30) ?h1_30 (by kernel_rfl) (by kernel_rfl) (by kernel_rfl) ?q1_30 (Or.inl ⟨?z1_30, ?y1_30⟩) (by assumption) ?r1_30
    case h1_30 =>
      simp only [List.getElem?_toArray, List.getElem?_cons_succ, List.getElem?_cons_zero]
      rfl
    case q1_30 => exact fun _ _ _ h => h
    case z1_30 => rfl
    case y1_30 =>
      intro w hSw
      try dsimp only at hSw
      go_simp
      try with_reducible rfl
    try simp only [Act.put, List.setIfInBounds_toArray, List.set_cons_zero, List.set_cons_succ]
    refine wpAnyH_take (i := 2) (oi := ?o2_31) (v := ?v2_31) ?h2_31 (by kernel_rfl) (by kernel_rfl) (by kernel_rfl) ?q2_31 (Or.inl ⟨?z2_31, ?y2_31⟩) (by assumption) ?r2_31
    case h2_31 =>
      simp only [List.getElem?_toArray, List.getElem?_cons_succ, List.getElem?_cons_zero]
      rfl
    case q2_31 => exact fun _ _ _ h => h
    case z2_31 => rfl
    case y2_31 =>
      intro w hSw
      try dsimp only at hSw
      go_simp
      try with_reducible rfl
    try simp only [Act.put, List.setIfInBounds_toArray, List.set_cons_zero, List.set_cons_succ]
    refine wpAnyH_ready (rs := [3]) (by kernel_rfl) (by simp) ?_
    refine AllReadyH.cons (o := ?o3_32) ?h3_32 (fun K hK => ?k3_32) AllReadyH.nil
    case h3_32 =>
      simp only [List.getElem?_toArray, List.getElem?_cons_succ, List.getElem?_cons_zero]
      rfl
    go_simp
    refine hK.out _ _ (by first | exact ((HM.out.step (((Below.refl _ _).alloc (Nat.le_refl _) _).drew)).box.cell 1) | go_keep) (fun hHeld32 => ?_)
    clear hK K
    try simp only [Act.put, List.setIfInBounds_toArray, List.set_cons_zero, List.set_cons_succ]
    refine wpAnyH_ready (rs := [4]) (by kernel_rfl) (by simp) ?_
    refine AllReadyH.cons (o := ?o4_33) ?h4_33 (fun K hK => ?k4_33) AllReadyH.nil
    case h4_33 =>
      simp only [List.getElem?_toArray, List.getElem?_cons_succ, List.getElem?_cons_zero]
      rfl
    have hbb : Below w4.heap.size w4 ((w4.alloc (.cells #[.int .i64 0, .int .i64 7, .int .i64 8, .int .i64 4611686018427387904] 2)).drew) := ((Below.refl _ _).alloc (Nat.le_refl _) _).drew
    have hM5 := HM.out.step hbb
    have hO5 := HO.out.step hbb
    have hbl : Blk ((w4.alloc (.cells #[.int .i64 0, .int .i64 7, .int .i64 8, .int .i64 4611686018427387904] 2)).drew) w4.heap.size 2 #[.int .i64 0, .int .i64 7, .int .i64 8, .int .i64 4611686018427387904] := (Blk.new w4 _ _).drew
    go_simp
    go_at_call 60
    refine (amongAny (xs := [0, 7, 8, 4611686018427387904]) (n := 4) hM5.src (by omega) rfl (by decide) (by have := HM.out.box.lt; omega) hbl rfl (by decide)).mono ?_
    rintro e wa ⟨x, hx, rfl, Sa, ka⟩
    have HMA := Lib.hid (hM5.drawn ka Sa)
    have HOA := Lib.hid (hO5.drawn ka (by omega))
    obtain ⟨hc0, hc1⟩ := (owns_at HOA.out.own (by have := HLEN.out; omega)).2.1 0 b0 (by rw [hfs]; rfl)
    have c0 : wa.cell? ⟨g, 0, none⟩ = some (.int .i64 b0.at_) := by simpa using hc0
    have f0 := owns_frz HOA.out.own 0
    clear hbb hM5 hO5 hbl hc0 hc1
    try go_wp2_with fail
    refine hK.out _ _ (by first | exact (HMA.out.box.cell 1) | go_keep) (fun hHeld33 => ?_)
    clear hK K
    try simp only [Act.put, List.setIfInBounds_toArray, List.set_cons_zero, List.set_cons_succ]
    refine wpAnyH_take (i := 5) (oi := ?o5_34) (v := ?v5_34) ?h5_34 (by kernel_rfl) (by kernel_rfl) (by kernel_rfl) ?q5_34 (Or.inl ⟨?z5_34, ?y5_34⟩) (by assumption) ?r5_34
    case h5_34 =>
      simp only [List.getElem?_toArray, List.getElem?_cons_succ, List.getElem?_cons_zero]
      rfl
    case q5_34 => exact fun _ _ _ h => h
    case z5_34 => rfl
    case y5_34 =>
      intro w hSw
      try dsimp only at hSw
      go_simp
      try with_reducible rfl
    try simp only [Act.put, List.setIfInBounds_toArray, List.set_cons_zero, List.set_cons_succ]
    refine wpAnyH_take (i := 6) (oi := ?o6_35) (v := ?v6_35) ?h6_35 (by kernel_rfl) (by kernel_rfl) (by kernel_rfl) ?q6_35 (Or.inl ⟨?z6_35, ?y6_35⟩) (by assumption) ?r6_35
    case h6_35 =>
      simp only [List.getElem?_toArray, List.getElem?_cons_succ, List.getElem?_cons_zero]
      rfl
    case q6_35 => exact fun _ _ _ h => h
    case z6_35 => rfl
    case y6_35 =>
      intro w hSw
      try dsimp only at hSw
      go_simp
      try with_reducible rfl
    try simp only [Act.put, List.setIfInBounds_toArray, List.set_cons_zero, List.set_cons_succ]
    refine wpAnyH_ready (rs := [7]) (by kernel_rfl) (by simp) ?_
    refine AllReadyH.cons (o := ?o7_36) ?h7_36 (fun K hK => ?k7_36) AllReadyH.nil
    case h7_36 =>
      simp only [List.getElem?_toArray, List.getElem?_cons_succ, List.getElem?_cons_zero]
      rfl
    go_simp
    refine hK.out _ _ (by first | exact ((HMA.out.far1 (g := g) (by omega) hgm 0 (.int .i64 x)).box.cell 1) | go_keep) (fun hHeld36 => ?_)
    clear hK K
    try simp only [Act.put, List.setIfInBounds_toArray, List.set_cons_zero, List.set_cons_succ]
    refine wpAnyH_done (by kernel_rfl) ?_ _
    have HM9 := Lib.hid (HMA.out.far1 (g := g) (by omega) hgm 0 (.int .i64 x))
    have HP : Hid (AnyP (wa.setCell ⟨g, 0, none⟩ (.int .i64 x)) (w.heap.size + 1) s (⟨x, b0.size⟩ :: rr) (.slice (some ⟨g, 0, none⟩) n3 c3)) := by
      have ho := owns_put1 HOA.out.own 0 (by have := HLEN.out; omega) (.int .i64 x)
      have hw0 := hwf0 b0 (by rw [hfs]; simp)
      exact AnyP.own (by omega) (fun y hy => by rcases List.mem_cons.1 hy with rfl | hy; exact ⟨hx, hw0.2⟩; exact hwf0 y (by rw [hfs]; simp [hy])) (by rw [hfs] at hl0; simp only [List.length_cons] at hl0 ⊢; omega) (by rw [hfs] at ho; simpa [bvals, blkC] using ho)
    clear HLEN hfs hwf0 hl0 hs0
    have m0 : (wa.setCell ⟨g, 0, none⟩ (.int .i64 x)).cell? ⟨w1.heap.size, 0, none⟩ = some (.string s) := HM9.out.box.cell 0
    have m1 : (wa.setCell ⟨g, 0, none⟩ (.int .i64 x)).cell? ⟨w1.heap.size, 1, none⟩ = some (.slice (some ⟨g, 0, none⟩) n3 c3) := HM9.out.box.cell 1
    have r0 : (wa.setCell ⟨g, 0, none⟩ (.int .i64 x)).cell? ⟨w.heap.size, 0, none⟩ = some (.string ⟨#[]⟩) := HM9.out.res.cell 0
    have r1 : (wa.setCell ⟨g, 0, none⟩ (.int .i64 x)).cell? ⟨w.heap.size, 1, none⟩ = some (.slice none 0 0) := HM9.out.res.cell 1
    have f0 := HM9.out.res.frozen 0
    have f1 := HM9.out.res.frozen 1
    go_wp2_with fail
    have bR : Blk (((wa.setCell ⟨g, 0, none⟩ (.int .i64 x)).setCell ⟨w.heap.size, 0, none⟩ (.string s)).setCell ⟨w.heap.size, 1, none⟩ (.slice (some ⟨g, 0, none⟩) n3 c3)) w.heap.size 29 #[.string s, (.slice (some ⟨g, 0, none⟩) n3 c3)] := by
      have := (HM9.out.res.set_ 0 (.string s)).set_ 1 (.slice (some ⟨g, 0, none⟩) n3 c3)
      simpa using this
    have r0 := bR.cell 0
    have r1 := bR.cell 1
    refine bodyPost_ret (v := .agg #[.string s, (.slice (some ⟨g, 0, none⟩) n3 c3)]) (by simp [results, Try.results61, go_sem, r0, r1]) rfl ⟨s, (⟨x, b0.size⟩ :: rr), (.slice (some ⟨g, 0, none⟩) n3 c3), rfl, ?_, ?_, ?_⟩
    · exact (HP.out.set (i := 0) (Nat.lt_succ_self _) _).set (i := 1) (Nat.lt_succ_self _) _
    · exact ((HM9.out.src.below ((Below.refl w.heap.size _).setCell (p := ⟨w.heap.size, 0, none⟩) (Nat.le_refl _) _) hq).below ((Below.refl w.heap.size _).setCell (p := ⟨w.heap.size, 1, none⟩) (Nat.le_refl _) _) hq).more (by omega)
    · exact (HM9.out.keep.high (p := ⟨w.heap.size, 0, none⟩) (Nat.le_refl _) _).high (p := ⟨w.heap.size, 1, none⟩) (Nat.le_refl _) _
  by_cases hb2 : b = 2
  case pos =>
    subst hb2
    have m1 : w4.cell? ⟨w1.heap.size, 1, none⟩ = some (.slice A3 n3 c3) := HM.out.box.cell 1
    have hlen := owns_len HO.out.own
    by_cases h0 : 0 < n3
    case neg =>
      obtain rfl : n3 = 0 := by omega
      have HP := Lib.hid (AnyP.of HO.out)
      clear hlen h0
      have m0 : w4.cell? ⟨w1.heap.size, 0, none⟩ = some (.string s) := HM.out.box.cell 0
      have m1 : w4.cell? ⟨w1.heap.size, 1, none⟩ = some (.slice A3 0 c3) := HM.out.box.cell 1
      have r0 : w4.cell? ⟨w.heap.size, 0, none⟩ = some (.string ⟨#[]⟩) := HM.out.res.cell 0
      have r1 : w4.cell? ⟨w.heap.size, 1, none⟩ = some (.slice none 0 0) := HM.out.res.cell 1
      have f0 := HM.out.res.frozen 0
      have f1 := HM.out.res.frozen 1
      go_wp2_with fail
      have bR : Blk ((w4.setCell ⟨w.heap.size, 0, none⟩ (.string s)).setCell ⟨w.heap.size, 1, none⟩ (.slice A3 0 c3)) w.heap.size 29 #[.string s, (.slice A3 0 c3)] := by
        have := (HM.out.res.set_ 0 (.string s)).set_ 1 (.slice A3 0 c3)
        simpa using this
      have r0 := bR.cell 0
      have r1 := bR.cell 1
      refine bodyPost_ret (v := .agg #[.string s, (.slice A3 0 c3)]) (by simp [results, Try.results61, go_sem, r0, r1]) rfl ⟨s, fs, (.slice A3 0 c3), rfl, ?_, ?_, ?_⟩
      · exact (HP.out.set (i := 0) (Nat.lt_succ_self _) _).set (i := 1) (Nat.lt_succ_self _) _
      · exact ((HM.out.src.below ((Below.refl w.heap.size _).setCell (p := ⟨w.heap.size, 0, none⟩) (Nat.le_refl _) _) hq).below ((Below.refl w.heap.size _).setCell (p := ⟨w.heap.size, 1, none⟩) (Nat.le_refl _) _) hq).more (by omega)
      · exact (HM.out.keep.high (p := ⟨w.heap.size, 0, none⟩) (Nat.le_refl _) _).high (p := ⟨w.heap.size, 1, none⟩) (Nat.le_refl _) _
    have hz : decide ((0 : Int) < (n3 : Int)) = true := decide_eq_true (by omega)
    have hz2 : (0 : Int) < (n3 : Int) := by omega
    have hz3 : 0 < n3 := h0
    obtain ⟨g, cc, hrow, hpg, _⟩ := HO.out.own.form (by omega)
    injection hrow with e1 e2 e3
    clear e2
    subst e1 e3
    obtain ⟨b0, rr, hfs⟩ : ∃ b r, fs = b :: r := by cases fs with | nil => simp at hlen; omega | cons b r => exact ⟨b, r, rfl⟩
    have hgm : g ≠ w1.heap.size := (HO.out.off g rfl).1
    have hwf0 := blk_wf (memF HO.out.ok)
    have hl0 := (memF HO.out.ok).len
    have hs0 := (memF HO.out.ok).size
    have HLEN := Lib.hid hlen
    clear hlen
    go_upto_region 10 with fail
    have m1 : w4.cell? ⟨w1.heap.size, 1, none⟩ = some (.slice (some ⟨g, 0, none⟩) n3 c3) := HM.out.box.cell 1
    refine wp_region_held_drew (S := (fun w' => w'.cell? ⟨w1.heap.size, 1, none⟩ = some (.slice (some ⟨g, 0, none⟩) n3 c3))) (by kernel_rfl) (HM.out.box.cell 1) (fun hHeld => ?_)
    refine wpAnyH_take (i := 0) (oi := ?o0_37) (v := ?v0_37) ?h0_37 (by kernel_rfl) (by kernel_rfl) (by kernel_rfl) ?q0_37 (Or.inl ⟨?z0_37, ?y0_37⟩) (by assumption) ?r0_37
    case h0_37 =>
      simp only [List.getElem?_toArray, List.getElem?_cons_succ, List.getElem?_cons_zero]
      rfl
    case q0_37 => exact fun _ _ _ h => h
    case z0_37 => rfl
    case y0_37 =>
      intro w hSw
      try dsimp only at hSw
      go_simp
      try with_reducible rfl
    try simp only [Act.put, List.setIfInBounds_toArray, List.set_cons_zero, List.set_cons_succ]
    refine wpAnyH_take (i := 1) (oi := ?o1_38) (v := ?v1_38) ?h1_38 (by kernel_rfl) (by kernel_rfl) (by kernel_rfl) ?q1_38 (Or.inl ⟨?z1_38, ?y1_38⟩) (by assumption) ?r1_38
    case h1_38 =>
      simp only [List.getElem?_toArray, List.getElem?_cons_succ, List.getElem?_cons_zero]
      rfl
    case q1_38 => exact fun _ _ _ h => h
    case z1_38 => rfl
    case y1_38 =>
      intro w hSw
      try dsimp only at hSw
      go_simp
      try with_reducible rfl
    try simp only [Act.put, List.setIfInBounds_toArray, List.set_cons_zero, List.set_cons_succ]
    refine wpAnyH_take (i := 2) (oi := ?o2_39) (v := ?v2_39) ?h2_39 (by kernel_rfl) (by kernel_rfl) (by kernel_rfl) ?q2_39 (Or.inl ⟨?z2_39, ?y2_39⟩) (by assumption) ?r2_39
    case h2_39 =>
      simp only [List.getElem?_toArray, List.getElem?_cons_succ, List.getElem?_cons_zero]
      rfl
    case q2_39 => exact fun _ _ _ h => h
    case z2_39 => rfl
    case y2_39 =>
      intro w hSw
      try dsimp only at hSw
      go_simp
      try with_reducible rfl
    try simp only [Act.put, List.setIfInBounds_toArray, List.set_cons_zero, List.set_cons_succ]
    refine wpAnyH_ready (rs := [3]) (by kernel_rfl) (by simp) ?_
    refine AllReadyH.cons (o := ?o3_40) ?h3_40 (fun K hK => ?k3_40) AllReadyH.nil
    case h3_40 =>
      simp only [List.getElem?_toArray, List.getElem?_cons_succ, List.getElem?_cons_zero]
      rfl
    go_simp
    refine hK.out _ _ (by first | exact ((HM.out.step (((Below.refl _ _).alloc (Nat.le_refl _) _).drew)).box.cell 1) | go_keep) (fun hHeld40 => ?_)
    clear hK K
    try simp only [Act.put, List.setIfInBounds_toArray, List.set_cons_zero, List.set_cons_succ]
    refine wpAnyH_ready (rs := [4]) (by kernel_rfl) (by simp) ?_
    refine AllReadyH.cons (o := ?o4_41) ?h4_41 (fun K hK => ?k4_41) AllReadyH.nil
    case h4_41 =>
      simp only [List.getElem?_toArray, List.getElem?_cons_succ, List.getElem?_cons_zero]
      rfl
    have hbb : Below w4.heap.size w4 ((w4.alloc (.cells #[.int .i64 0, .int .i64 (-1), .int .i64 9223372036854775807] 2)).drew) := ((Below.refl _ _).alloc (Nat.le_refl _) _).drew
    have hM5 := HM.out.step hbb
    have hO5 := HO.out.step hbb
    have hbl : Blk ((w4.alloc (.cells #[.int .i64 0, .int .i64 (-1), .int .i64 9223372036854775807] 2)).drew) w4.heap.size 2 #[.int .i64 0, .int .i64 (-1), .int .i64 9223372036854775807] := (Blk.new w4 _ _).drew
    go_simp
    go_at_call 60
    refine (amongAny (xs := [0, -1, 9223372036854775807]) (n := 3) hM5.src (by omega) rfl (by decide) (by have := HM.out.box.lt; omega) hbl rfl (by decide)).mono ?_
    rintro e wa ⟨x, hx, rfl, Sa, ka⟩
    have HMA := Lib.hid (hM5.drawn ka Sa)
    have HOA := Lib.hid (hO5.drawn ka (by omega))
    obtain ⟨hc0, hc1⟩ := (owns_at HOA.out.own (by have := HLEN.out; omega)).2.1 0 b0 (by rw [hfs]; rfl)
    have c0 : wa.cell? ⟨g, 1, none⟩ = some (.int .i64 b0.size) := by simpa using hc1
    have f0 := owns_frz HOA.out.own 1
    clear hbb hM5 hO5 hbl hc0 hc1
    try go_wp2_with fail
    refine hK.out _ _ (by first | exact (HMA.out.box.cell 1) | go_keep) (fun hHeld41 => ?_)
    clear hK K
    try simp only [Act.put, List.setIfInBounds_toArray, List.set_cons_zero, List.set_cons_succ]
    refine wpAnyH_take (i := 5) (oi := ?o5_42) (v := ?v5_42) ?h5_42 (by kernel_rfl) (by kernel_rfl) (by kernel_rfl) ?q5_42 (Or.inl ⟨?z5_42, ?y5_42⟩) (by assumption) ?r5_42
    case h5_42 =>
      simp only [List.getElem?_toArray, List.getElem?_cons_succ, List.getElem?_cons_zero]
      rfl
    case q5_42 => exact fun _ _ _ h => h
    case z5_42 => rfl
    case y5_42 =>
      intro w hSw
      try dsimp only at hSw
      go_simp
      try with_reducible rfl
    try simp only [Act.put, List.setIfInBounds_toArray, List.set_cons_zero, List.set_cons_succ]
    refine wpAnyH_take (i := 6) (oi := ?o6_43) (v := ?v6_43) ?h6_43 (by kernel_rfl) (by kernel_rfl) (by kernel_rfl) ?q6_43 (Or.inl ⟨?z6_43, ?y6_43⟩) (by assumption) ?r6_43
    case h6_43 =>
      simp only [List.getElem?_toArray, List.getElem?_cons_succ, List.getElem?_cons_zero]
      rfl
    case q6_43 => exact fun _ _ _ h => h
    case z6_43 => rfl
    case y6_43 =>
      intro w hSw
      try dsimp only at hSw
      go_simp
      try with_reducible rfl
    try simp only [Act.put, List.setIfInBounds_toArray, List.set_cons_zero, List.set_cons_succ]
    refine wpAnyH_ready (rs := [7]) (by kernel_rfl) (by simp) ?_
    refine AllReadyH.cons (o := ?o7_44) ?h7_44 (fun K hK => ?k7_44) AllReadyH.nil
    case h7_44 =>
      simp only [List.getElem?_toArray, List.getElem?_cons_succ, List.getElem?_cons_zero]
      rfl
    go_simp
    refine hK.out _ _ (by first | exact ((HMA.out.far1 (g := g) (by omega) hgm 1 (.int .i64 x)).box.cell 1) | go_keep) (fun hHeld44 => ?_)
    clear hK K
    try simp only [Act.put, List.setIfInBounds_toArray, List.set_cons_zero, List.set_cons_succ]
    refine wpAnyH_done (by kernel_rfl) ?_ _
    have HM9 := Lib.hid (HMA.out.far1 (g := g) (by omega) hgm 1 (.int .i64 x))
    have HP : Hid (AnyP (wa.setCell ⟨g, 1, none⟩ (.int .i64 x)) (w.heap.size + 1) s (⟨b0.at_, x⟩ :: rr) (.slice (some ⟨g, 0, none⟩) n3 c3)) := by
      have ho := owns_put1 HOA.out.own 1 (by have := HLEN.out; omega) (.int .i64 x)
      have hw0 := hwf0 b0 (by rw [hfs]; simp)
      exact AnyP.own (by omega) (fun y hy => by rcases List.mem_cons.1 hy with rfl | hy; exact ⟨hw0.1, hx⟩; exact hwf0 y (by rw [hfs]; simp [hy])) (by rw [hfs] at hl0; simp only [List.length_cons] at hl0 ⊢; omega) (by rw [hfs] at ho; simpa [bvals, blkC] using ho)
    clear HLEN hfs hwf0 hl0 hs0
    have m0 : (wa.setCell ⟨g, 1, none⟩ (.int .i64 x)).cell? ⟨w1.heap.size, 0, none⟩ = some (.string s) := HM9.out.box.cell 0
    have m1 : (wa.setCell ⟨g, 1, none⟩ (.int .i64 x)).cell? ⟨w1.heap.size, 1, none⟩ = some (.slice (some ⟨g, 0, none⟩) n3 c3) := HM9.out.box.cell 1
    have r0 : (wa.setCell ⟨g, 1, none⟩ (.int .i64 x)).cell? ⟨w.heap.size, 0, none⟩ = some (.string ⟨#[]⟩) := HM9.out.res.cell 0
    have r1 : (wa.setCell ⟨g, 1, none⟩ (.int .i64 x)).cell? ⟨w.heap.size, 1, none⟩ = some (.slice none 0 0) := HM9.out.res.cell 1
    have f0 := HM9.out.res.frozen 0
    have f1 := HM9.out.res.frozen 1
    go_wp2_with fail
    have bR : Blk (((wa.setCell ⟨g, 1, none⟩ (.int .i64 x)).setCell ⟨w.heap.size, 0, none⟩ (.string s)).setCell ⟨w.heap.size, 1, none⟩ (.slice (some ⟨g, 0, none⟩) n3 c3)) w.heap.size 29 #[.string s, (.slice (some ⟨g, 0, none⟩) n3 c3)] := by
      have := (HM9.out.res.set_ 0 (.string s)).set_ 1 (.slice (some ⟨g, 0, none⟩) n3 c3)
      simpa using this
    have r0 := bR.cell 0
    have r1 := bR.cell 1
    refine bodyPost_ret (v := .agg #[.string s, (.slice (some ⟨g, 0, none⟩) n3 c3)]) (by simp [results, Try.results61, go_sem, r0, r1]) rfl ⟨s, (⟨b0.at_, x⟩ :: rr), (.slice (some ⟨g, 0, none⟩) n3 c3), rfl, ?_, ?_, ?_⟩
    · exact (HP.out.set (i := 0) (Nat.lt_succ_self _) _).set (i := 1) (Nat.lt_succ_self _) _
    · exact ((HM9.out.src.below ((Below.refl w.heap.size _).setCell (p := ⟨w.heap.size, 0, none⟩) (Nat.le_refl _) _) hq).below ((Below.refl w.heap.size _).setCell (p := ⟨w.heap.size, 1, none⟩) (Nat.le_refl _) _) hq).more (by omega)
    · exact (HM9.out.keep.high (p := ⟨w.heap.size, 0, none⟩) (Nat.le_refl _) _).high (p := ⟨w.heap.size, 1, none⟩) (Nat.le_refl _) _
  by_cases hb3 : b = 3
  case pos =>
    subst hb3
    go_wp2_with fail
    refine (pick_any HM.out.src (by omega) (by omega)).mono ?_
    rintro e w5 ⟨x, hx, rfl, S5, k5⟩
    replace HM := Lib.hid (HM.out.drawn k5 S5)
    replace HO := Lib.hid (HO.out.drawn k5 (by omega))
    clear S5 k5
    obtain ⟨N, hN⟩ : ∃ N : Nat, N = 4096 + x := ⟨_, rfl⟩
    have hN1 : N ≤ 4097 := by omega
    have hNw : IntKind.i64.wrap (4096 + (x : Int)) = (N : Int) := (IntWalk.i64_in _ (by omega)).trans (by omega)
    clear hN hx
    have hmk := run_make_rowN (P := Try.prog) 45 5 j0 _ Try.underlying45 hj hz0 .i64 .i64 N N (Nat.le_refl _) (by rw [hz2]; omega) (by omega) w5
    rw [hz1, Nat.mul_one, show (Value.int .u8 0).cells = #[Value.int .u8 0] from rfl] at hmk
    have hml : (madeCells #[Value.int .u8 0] N).toList = List.replicate N (.int .u8 0) := toList_madeCells_one _ _
    have hx := RowX.zeros (B := w.heap.size) (w := w5) (cur := madeCells #[Value.int .u8 0] N) (n := N) (cap := N) (by have := HM.out.res.lt; omega) (Nat.le_refl _) (by simp only [maxLen]; omega) (by simp [size_madeCells]) (by rw [hml, List.take_replicate, Nat.min_self])
    have cv := hx.str
    obtain ⟨w6, hw6⟩ : ∃ V, V = w5.alloc (.cells (madeCells #[Value.int .u8 0] N) 5) := ⟨_, rfl⟩
    have hb6 : Below w5.heap.size w5 w6 := by rw [hw6]; exact (Below.refl _ _).alloc (Nat.le_refl _) _
    replace HM := Lib.hid (HM.out.step hb6)
    replace HO := Lib.hid (HO.out.step hb6)
    rw [← hw6] at cv hmk
    have f2 := HM.out.box.frozen 0
    have m0 : w6.cell? ⟨w1.heap.size, 0, none⟩ = some (.string s) := HM.out.box.cell 0
    obtain ⟨zb, hzb⟩ : ∃ z, z = zerosB N := ⟨_, rfl⟩
    have hzs : zb.size ≤ 4097 := by rw [hzb, zerosB_size]; exact hN1
    rw [← hzb] at cv
    have HM7 := Lib.hid (HM.out.set0 zb)
    have HP := Lib.hid (AnyP.own (s := zb) hzs (blk_wf (memF HO.out.ok)) (by have := (memF HO.out.ok).len; omega) (owns_set2 HO.out.own (p := ⟨w1.heap.size, 0, none⟩) (fun e => (HO.out.off _ e).1 rfl) (.string zb)))
    clear hw6 hx hml hzb hzs hb6 hj hz0 hz1 hz2
    have m0 : (w6.setCell ⟨w1.heap.size, 0, none⟩ (.string zb)).cell? ⟨w1.heap.size, 0, none⟩ = some (.string zb) := HM7.out.box.cell 0
    have m1 : (w6.setCell ⟨w1.heap.size, 0, none⟩ (.string zb)).cell? ⟨w1.heap.size, 1, none⟩ = some (.slice A3 n3 c3) := HM7.out.box.cell 1
    have r0 : (w6.setCell ⟨w1.heap.size, 0, none⟩ (.string zb)).cell? ⟨w.heap.size, 0, none⟩ = some (.string ⟨#[]⟩) := HM7.out.res.cell 0
    have r1 : (w6.setCell ⟨w1.heap.size, 0, none⟩ (.string zb)).cell? ⟨w.heap.size, 1, none⟩ = some (.slice none 0 0) := HM7.out.res.cell 1
    have f0 := HM7.out.res.frozen 0
    have f1 := HM7.out.res.frozen 1
    go_wp2_with fail
    have bR : Blk (((w6.setCell ⟨w1.heap.size, 0, none⟩ (.string zb)).setCell ⟨w.heap.size, 0, none⟩ (.string zb)).setCell ⟨w.heap.size, 1, none⟩ (.slice A3 n3 c3)) w.heap.size 29 #[.string zb, (.slice A3 n3 c3)] := by
      have := (HM7.out.res.set_ 0 (.string zb)).set_ 1 (.slice A3 n3 c3)
      simpa using this
    have r0 := bR.cell 0
    have r1 := bR.cell 1
    refine bodyPost_ret (v := .agg #[.string zb, (.slice A3 n3 c3)]) (by simp [results, Try.results61, go_sem, r0, r1]) rfl ⟨zb, fs, (.slice A3 n3 c3), rfl, ?_, ?_, ?_⟩
    · exact (HP.out.set (i := 0) (Nat.lt_succ_self _) _).set (i := 1) (Nat.lt_succ_self _) _
    · exact ((HM7.out.src.below ((Below.refl w.heap.size _).setCell (p := ⟨w.heap.size, 0, none⟩) (Nat.le_refl _) _) hq).below ((Below.refl w.heap.size _).setCell (p := ⟨w.heap.size, 1, none⟩) (Nat.le_refl _) _) hq).more (by omega)
    · exact (HM7.out.keep.high (p := ⟨w.heap.size, 0, none⟩) (Nat.le_refl _) _).high (p := ⟨w.heap.size, 1, none⟩) (Nat.le_refl _) _
  have e0 : ((b : Int) == 0) = false := by simpa using hb0
  have e1 : ((b : Int) == 1) = false := by simp; omega
  have e2 : ((b : Int) == 2) = false := by simp; omega
  have e3 : ((b : Int) == 3) = false := by simp; omega
  clear hb0 hb1 hb2 hb3
  have HP := Lib.hid (AnyP.of HO.out)
  have m0 : w4.cell? ⟨w1.heap.size, 0, none⟩ = some (.string s) := HM.out.box.cell 0
  have m1 : w4.cell? ⟨w1.heap.size, 1, none⟩ = some (.slice A3 n3 c3) := HM.out.box.cell 1
  have r0 : w4.cell? ⟨w.heap.size, 0, none⟩ = some (.string ⟨#[]⟩) := HM.out.res.cell 0
  have r1 : w4.cell? ⟨w.heap.size, 1, none⟩ = some (.slice none 0 0) := HM.out.res.cell 1
  have f0 := HM.out.res.frozen 0
  have f1 := HM.out.res.frozen 1
  go_wp2_with fail
  have bR : Blk ((w4.setCell ⟨w.heap.size, 0, none⟩ (.string s)).setCell ⟨w.heap.size, 1, none⟩ (.slice A3 n3 c3)) w.heap.size 29 #[.string s, (.slice A3 n3 c3)] := by
    have := (HM.out.res.set_ 0 (.string s)).set_ 1 (.slice A3 n3 c3)
    simpa using this
  have r0 := bR.cell 0
  have r1 := bR.cell 1
  refine bodyPost_ret (v := .agg #[.string s, (.slice A3 n3 c3)]) (by simp [results, Try.results61, go_sem, r0, r1]) rfl ⟨s, fs, (.slice A3 n3 c3), rfl, ?_, ?_, ?_⟩
  · exact (HP.out.set (i := 0) (Nat.lt_succ_self _) _).set (i := 1) (Nat.lt_succ_self _) _
  · exact ((HM.out.src.below ((Below.refl w.heap.size _).setCell (p := ⟨w.heap.size, 0, none⟩) (Nat.le_refl _) _) hq).below ((Below.refl w.heap.size _).setCell (p := ⟨w.heap.size, 1, none⟩) (Nat.le_refl _) _) hq).more (by omega)
  · exact (HM.out.keep.high (p := ⟨w.heap.size, 0, none⟩) (Nat.le_refl _) _).high (p := ⟨w.heap.size, 1, none⟩) (Nat.le_refl _) _

def DrawQ (w : World) (e : Ending) (w' : World) : Prop := ∃ s fs u sz al, e = .returned (.tuple #[.agg #[.string s, u], .int .i64 sz, .int .i64 al]) ∧ AnyP w' w.heap.size s fs u ∧ (Lit.int .i64 sz).wf = true ∧ (Lit.int .i64 al).wf = true ∧ Below w.heap.size w w'
theorem AnyP.more {W : World} {b b' : Nat} {s : ByteArray} {fs : List Block} {u : Value} (h : AnyP W b s fs u) (hb : b' ≤ b) : AnyP W b' s fs u := by
  obtain ⟨h1, h2, h3, hi, h4⟩ := h
  exact ⟨h1, h2, h3, _, h4.more hb (by obtain ⟨F, _, _, h5⟩ := h4; exact h5) (Nat.le_refl _)⟩
set_option maxHeartbeats 6400000 in
theorem DrawAlloc_any {A : Option Addr} {n c : Nat} {w : World} (hn : n ≤ 1048576) (h : BytesAt w w.heap.size A n) : Calls Try.prog 33 #[.slice A n c] w fun e w' => DrawQ w e w' := by
  obtain ⟨w0, hw0⟩ : ∃ V, V = w.alloc (.cells #[.string ⟨#[]⟩, .slice none 0 0] 29) := ⟨_, rfl⟩
  have hb0 : Below w.heap.size w w0 := by rw [hw0]; exact (Below.refl _ _).alloc (Nat.le_refl _) _
  have bR0 : Blk w0 w.heap.size 29 #[.string ⟨#[]⟩, .slice none 0 0] := by rw [hw0]; exact Blk.new w _ _
  have hs0 : w0.heap.size = w.heap.size + 1 := by rw [hw0]; simp
  have HA := Lib.hid ((h.below hb0 (Nat.le_refl _)).more hb0.size)
  have HW := Lib.hid hw0
  have HS := Lib.hid hs0
  clear hw0 h hs0
  go_enter Try.func33, Try.ntmps33
  go_wp2_with fail
  rw [← HW.out]
  refine (from_any hn HA.out).mono ?_
  rintro e w1 ⟨rfl, S1, b1⟩
  obtain ⟨q, hqe⟩ : ∃ q, q = w0.heap.size := ⟨_, rfl⟩
  rw [← hqe] at S1 ⊢
  have hqw : w.heap.size < q := by rw [hqe, HS.out]; exact Nat.lt_succ_self _
  have HS1 := Lib.hid S1
  have HR1 := Lib.hid (bR0.step b1)
  have HB1 := Lib.hid (hb0.trans (b1.mono hb0.size))
  clear S1 b1 hb0 bR0 HA HW HS hqe
  go_wp2_with fail
  refine (pick_any HS1.out (by omega) (by omega)).mono ?_
  rintro e w2 ⟨z, hz, rfl, S2, k2⟩
  have HS2 := Lib.hid S2
  have HR2 : Hid (Blk w2 w.heap.size 29 #[.string ⟨#[]⟩, .slice none 0 0]) := (k2.block _ HR1.out.lt (.inl hqw)).trans HR1.out
  have HB2 := Lib.hid (HB1.out.trans ((k2.below (by have := HS1.out.lt; omega)).mono (Nat.le_of_lt hqw)))
  have hzw : (Lit.int .i64 (z : Int)).wf = true := WalkArith.wf_i64 (by omega)
  clear S2 k2 HS1 HR1 HB1 hz
  go_wp2_with fail
  refine (one_any HS2.out (by omega) (by omega)).mono ?_
  rintro e w3 ⟨bv, rfl, S3, k3⟩
  have HS3 := Lib.hid S3
  have HR3 : Hid (Blk w3 w.heap.size 29 #[.string ⟨#[]⟩, .slice none 0 0]) := (k3.block _ HR2.out.lt (.inl hqw)).trans HR2.out
  have HB3 := Lib.hid (HB2.out.trans ((k3.below (by have := HS2.out.lt; omega)).mono (Nat.le_of_lt hqw)))
  clear S3 k3 HS2 HR2 HB2
  cases bv with
  | false =>
    obtain ⟨w6, hw6⟩ : ∃ V, V = w3.alloc (.cells #[.int .i64 1, .int .i64 2, .int .i64 4, .int .i64 8, .int .i64 8, .int .i64 4, .int .i64 3, .int .i64 0, .int .i64 16] 2) := ⟨_, rfl⟩
    have hb6 : Below w3.heap.size w3 w6 := by rw [hw6]; exact (Below.refl _ _).alloc (Nat.le_refl _) _
    have bl6 : Blk w6 w3.heap.size 2 #[.int .i64 1, .int .i64 2, .int .i64 4, .int .i64 8, .int .i64 8, .int .i64 4, .int .i64 3, .int .i64 0, .int .i64 16] := by rw [hw6]; exact Blk.new w3 _ _
    have HAN := Lib.hid (amongAny (xs := [1, 2, 4, 8, 8, 4, 3, 0, 16]) (n := 9) (HS3.out.step hb6) (by omega) rfl (by decide) (by have := HS3.out.lt; omega) bl6 rfl (by decide))
    have HR6 := Lib.hid (HR3.out.step hb6)
    have HB6 := Lib.hid (HB3.out.trans (hb6.mono HB3.out.size))
    have HQ6 : Hid (q < w6.heap.size) := Nat.lt_of_lt_of_le HS3.out.lt hb6.size
    have HW6 := Lib.hid hw6
    clear hw6 hb6 bl6 HS3 HR3 HB3
    go_wp2_with fail
    rw [← HW6.out]
    refine HAN.out.mono ?_
    rintro e w7 ⟨al, hal, rfl, S7, k7⟩
    have HS7 := Lib.hid S7
    have HR7 : Hid (Blk w7 w.heap.size 29 #[.string ⟨#[]⟩, .slice none 0 0]) := (k7.block _ HR6.out.lt (.inl hqw)).trans HR6.out
    have HB7 := Lib.hid (HB6.out.trans ((k7.below (Nat.le_of_lt HQ6.out)).mono (Nat.le_of_lt hqw)))
    clear S7 k7 HR6 HB6 HQ6 HAN HW6
    go_wp2_with fail
    refine (l10Any_any HS7.out (by omega)).mono ?_
    rintro e w8 ⟨s, fs, u, rfl, hP, S8, k8⟩
    have HR8 : Hid (Blk w8 w.heap.size 29 #[.string ⟨#[]⟩, .slice none 0 0]) := (k8.block _ HR7.out.lt (.inl hqw)).trans HR7.out
    have HB8 := Lib.hid (HB7.out.trans ((k8.below (Nat.le_of_lt HS7.out.lt)).mono (Nat.le_of_lt hqw)))
    have hlt7 := HR7.out.lt
    have HP := Lib.hid hP
    clear S8 k8 HR7 HB7 HS7 hP
    have r0 : w8.cell? ⟨w.heap.size, 0, none⟩ = some (.string ⟨#[]⟩) := HR8.out.cell 0
    have r1 : w8.cell? ⟨w.heap.size, 1, none⟩ = some (.slice none 0 0) := HR8.out.cell 1
    have f0 := HR8.out.frozen 0
    have f1 := HR8.out.frozen 1
    obtain ⟨A3, n3, c3, rfl⟩ := HP.out.2.2.2.choose_spec.form
    go_wp2_with fail
    have bR : Blk ((w8.setCell ⟨w.heap.size, 0, none⟩ (.string s)).setCell ⟨w.heap.size, 1, none⟩ (.slice A3 n3 c3)) w.heap.size 29 #[.string s, .slice A3 n3 c3] := by
      have := (HR8.out.set_ 0 (.string s)).set_ 1 (.slice A3 n3 c3)
      simpa using this
    have r0 := bR.cell 0
    have r1 := bR.cell 1
    refine bodyPost_ret (v := .tuple #[.agg #[.string s, .slice A3 n3 c3], .int .i64 z, .int .i64 al]) (by simp [results, Try.results33, go_sem, r0, r1]) rfl ⟨s, fs, .slice A3 n3 c3, z, al, rfl, ?_, hzw, hal, ?_⟩
    · exact ((HP.out.set (i := 0) (by omega) _).set (i := 1) (by omega) _).more (by omega)
    · exact (HB8.out.setCell (p := ⟨w.heap.size, 0, none⟩) (Nat.le_refl _) _).setCell (p := ⟨w.heap.size, 1, none⟩) (Nat.le_refl _) _
  | true =>
    obtain ⟨w4, hw4⟩ : ∃ V, V = w3.alloc (.cells #[.int .i64 (-1), .int .i64 0, .int .i64 4096, .int .i64 9223372036854775807] 2) := ⟨_, rfl⟩
    have hb4 : Below w3.heap.size w3 w4 := by rw [hw4]; exact (Below.refl _ _).alloc (Nat.le_refl _) _
    have bl4 : Blk w4 w3.heap.size 2 #[.int .i64 (-1), .int .i64 0, .int .i64 4096, .int .i64 9223372036854775807] := by rw [hw4]; exact Blk.new w3 _ _
    have HAM := Lib.hid (amongAny (xs := [-1, 0, 4096, 9223372036854775807]) (n := 4) (HS3.out.step hb4) (by omega) rfl (by decide) (by have := HS3.out.lt; omega) bl4 rfl (by decide))
    have HR4 := Lib.hid (HR3.out.step hb4)
    have HB4 := Lib.hid (HB3.out.trans (hb4.mono HB3.out.size))
    have HQ4 : Hid (q < w4.heap.size) := Nat.lt_of_lt_of_le HS3.out.lt hb4.size
    have HW := Lib.hid hw4
    clear hw4 hb4 bl4 HS3 HR3 HB3
    go_wp2_with fail
    rw [← HW.out]
    refine HAM.out.mono ?_
    rintro e w5 ⟨z, hzw, rfl, S5, k5⟩
    have HS3 := Lib.hid S5
    have HR3 : Hid (Blk w5 w.heap.size 29 #[.string ⟨#[]⟩, .slice none 0 0]) := (k5.block _ HR4.out.lt (.inl hqw)).trans HR4.out
    have HB3 := Lib.hid (HB4.out.trans ((k5.below (Nat.le_of_lt HQ4.out)).mono (Nat.le_of_lt hqw)))
    clear S5 k5 HR4 HB4 HQ4 HAM HW
    obtain ⟨w6, hw6⟩ : ∃ V, V = w5.alloc (.cells #[.int .i64 1, .int .i64 2, .int .i64 4, .int .i64 8, .int .i64 8, .int .i64 4, .int .i64 3, .int .i64 0, .int .i64 16] 2) := ⟨_, rfl⟩
    have hb6 : Below w5.heap.size w5 w6 := by rw [hw6]; exact (Below.refl _ _).alloc (Nat.le_refl _) _
    have bl6 : Blk w6 w5.heap.size 2 #[.int .i64 1, .int .i64 2, .int .i64 4, .int .i64 8, .int .i64 8, .int .i64 4, .int .i64 3, .int .i64 0, .int .i64 16] := by rw [hw6]; exact Blk.new w5 _ _
    have HAN := Lib.hid (amongAny (xs := [1, 2, 4, 8, 8, 4, 3, 0, 16]) (n := 9) (HS3.out.step hb6) (by omega) rfl (by decide) (by have := HS3.out.lt; omega) bl6 rfl (by decide))
    have HR6 := Lib.hid (HR3.out.step hb6)
    have HB6 := Lib.hid (HB3.out.trans (hb6.mono HB3.out.size))
    have HQ6 : Hid (q < w6.heap.size) := Nat.lt_of_lt_of_le HS3.out.lt hb6.size
    have HW6 := Lib.hid hw6
    clear hw6 hb6 bl6 HS3 HR3 HB3
    go_wp2_with fail
    rw [← HW6.out]
    refine HAN.out.mono ?_
    rintro e w7 ⟨al, hal, rfl, S7, k7⟩
    have HS7 := Lib.hid S7
    have HR7 : Hid (Blk w7 w.heap.size 29 #[.string ⟨#[]⟩, .slice none 0 0]) := (k7.block _ HR6.out.lt (.inl hqw)).trans HR6.out
    have HB7 := Lib.hid (HB6.out.trans ((k7.below (Nat.le_of_lt HQ6.out)).mono (Nat.le_of_lt hqw)))
    clear S7 k7 HR6 HB6 HQ6 HAN HW6
    go_wp2_with fail
    refine (l10Any_any HS7.out (by omega)).mono ?_
    rintro e w8 ⟨s, fs, u, rfl, hP, S8, k8⟩
    have HR8 : Hid (Blk w8 w.heap.size 29 #[.string ⟨#[]⟩, .slice none 0 0]) := (k8.block _ HR7.out.lt (.inl hqw)).trans HR7.out
    have HB8 := Lib.hid (HB7.out.trans ((k8.below (Nat.le_of_lt HS7.out.lt)).mono (Nat.le_of_lt hqw)))
    have hlt7 := HR7.out.lt
    have HP := Lib.hid hP
    clear S8 k8 HR7 HB7 HS7 hP
    have r0 : w8.cell? ⟨w.heap.size, 0, none⟩ = some (.string ⟨#[]⟩) := HR8.out.cell 0
    have r1 : w8.cell? ⟨w.heap.size, 1, none⟩ = some (.slice none 0 0) := HR8.out.cell 1
    have f0 := HR8.out.frozen 0
    have f1 := HR8.out.frozen 1
    obtain ⟨A3, n3, c3, rfl⟩ := HP.out.2.2.2.choose_spec.form
    go_wp2_with fail
    have bR : Blk ((w8.setCell ⟨w.heap.size, 0, none⟩ (.string s)).setCell ⟨w.heap.size, 1, none⟩ (.slice A3 n3 c3)) w.heap.size 29 #[.string s, .slice A3 n3 c3] := by
      have := (HR8.out.set_ 0 (.string s)).set_ 1 (.slice A3 n3 c3)
      simpa using this
    have r0 := bR.cell 0
    have r1 := bR.cell 1
    refine bodyPost_ret (v := .tuple #[.agg #[.string s, .slice A3 n3 c3], .int .i64 z, .int .i64 al]) (by simp [results, Try.results33, go_sem, r0, r1]) rfl ⟨s, fs, .slice A3 n3 c3, z, al, rfl, ?_, hzw, hal, ?_⟩
    · exact ((HP.out.set (i := 0) (by omega) _).set (i := 1) (by omega) _).more (by omega)
    · exact (HB8.out.setCell (p := ⟨w.heap.size, 0, none⟩) (Nat.le_refl _) _).setCell (p := ⟨w.heap.size, 1, none⟩) (Nat.le_refl _) _
end Go.Proofs.Ytlppngpafjfjeaa

