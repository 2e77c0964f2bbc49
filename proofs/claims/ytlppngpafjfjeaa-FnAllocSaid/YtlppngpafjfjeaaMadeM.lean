/-
  l10Made: the walk (by program: gen_made.py).
-/
import Derived.Test.YtlppngpafjfjeaaGrp
import Derived.Deep.RegionHeld3
import Derived.Deep.Cut
import Derived.Deep.CutRange
namespace Go.Proofs.Ytlppngpafjfjeaa
open Go.RowKit
set_option linter.unusedVariables false
set_option linter.unusedSimpArgs false
set_option linter.unnecessarySimpa false
set_option maxRecDepth 16000

theorem memOk_new {m : Nat} (hm : m ≤ 4096) : memOk (zerosB m) (freeN m) = true := by
  by_cases h8 : 8 < m
  · rw [freeN_yes h8, memOk_iff, zerosB_size, ok_cons]; exact ⟨hm, by simp; omega, rfl⟩
  · rw [freeN_no h8, memOk_iff, zerosB_size]; exact ⟨hm, rfl⟩
/-- the memory that l10Made makes: a right one, its row its own -/
def MadeQ (w : World) (q K : Nat) (e : Ending) (w' : World) : Prop :=
  ∃ s fs u, e = .returned (.agg #[.string s, u]) ∧ memOk s fs = true ∧ w'.ownsRow (w.heap.size + 1) 49 2 u fs.length (bvals fs) ∧ Src w' q (K + 20000) ∧ Keep q (q + 1) w w'
theorem eight_at {W : World} {g : Nat} (h : Blk W g 2 #[.int .i64 0, .int .i64 8, .int .i64 9, .int .i64 16, .int .i64 40, .int .i64 100, .int .i64 256, .int .i64 400]) : ∀ (j : Nat) (x : Int), [(0 : Int), 8, 9, 16, 40, 100, 256, 400][j]? = some x → W.cell? ⟨g, j, none⟩ = some (.int .i64 x) := by
  intro j x hx
  rw [h.cell j]
  rcases (show j = 0 ∨ j = 1 ∨ j = 2 ∨ j = 3 ∨ j = 4 ∨ j = 5 ∨ j = 6 ∨ j = 7 ∨ 8 ≤ j by omega) with rfl | rfl | rfl | rfl | rfl | rfl | rfl | rfl | hj
  all_goals first | (simp at hx; subst hx; rfl) | (exfalso; rw [List.getElem?_eq_none (by simp; omega)] at hx; cases hx)
theorem four_of {W : World} {g : Nat} (h : Blk W g 2 #[.int .i64 1, .int .i64 2, .int .i64 4, .int .i64 8]) : ∀ (j : Nat) (x : Int), [(1 : Int), 2, 4, 8][j]? = some x → W.cell? ⟨g, j, none⟩ = some (.int .i64 x) := by
  intro j x hx
  rw [h.cell j]
  rcases (show j = 0 ∨ j = 1 ∨ j = 2 ∨ j = 3 ∨ 4 ≤ j by omega) with rfl | rfl | rfl | rfl | hj
  all_goals first | (simp at hx; subst hx; rfl) | (exfalso; rw [List.getElem?_eq_none (by simp; omega)] at hx; cases hx)
theorem amongFour {q K g : Nat} {w : World} (h : Src w q K) (hK : K ≤ 3000000000) (hg : g ≠ q) (hb : Blk w g 2 #[.int .i64 1, .int .i64 2, .int .i64 4, .int .i64 8]) :
    Calls Try.prog 60 #[.pointer (some ⟨q, 0, none⟩), .slice (some ⟨g, 0, none⟩) 4 4] w fun e w' => ∃ al : Nat, 1 ≤ al ∧ al ≤ 8 ∧ e = .returned (.int .i64 al) ∧ Src w' q (K + 2) ∧ Keep q (q + 1) w w' := by
  refine (among_any (c := 4) (xs := [1, 2, 4, 8]) h hK (by decide) (by decide) hg (four_of hb)).mono ?_
  rintro e w' ⟨x, hx, rfl, h1, h2⟩
  simp only [List.mem_cons, List.mem_nil_iff, or_false] at hx
  rcases hx with rfl | rfl | rfl | rfl
  · exact ⟨1, by decide, by decide, rfl, h1, h2⟩
  · exact ⟨2, by decide, by decide, rfl, h1, h2⟩
  · exact ⟨4, by decide, by decide, rfl, h1, h2⟩
  · exact ⟨8, by decide, by decide, rfl, h1, h2⟩
theorem amongEight {q K g : Nat} {w : World} (h : Src w q K) (hK : K ≤ 3000000000) (hg : g ≠ q) (hb : Blk w g 2 #[.int .i64 0, .int .i64 8, .int .i64 9, .int .i64 16, .int .i64 40, .int .i64 100, .int .i64 256, .int .i64 400]) :
    Calls Try.prog 60 #[.pointer (some ⟨q, 0, none⟩), .slice (some ⟨g, 0, none⟩) 8 8] w fun e w' => ∃ m : Nat, m ≤ 400 ∧ e = .returned (.int .i64 m) ∧ Src w' q (K + 2) ∧ Keep q (q + 1) w w' := by
  refine (among_any (c := 8) (xs := [0, 8, 9, 16, 40, 100, 256, 400]) h hK (by decide) (by decide) hg (eight_at hb)).mono ?_
  rintro e w' ⟨x, hx, rfl, h1, h2⟩
  obtain ⟨n, rfl, hn⟩ : ∃ n : Nat, x = n ∧ n ≤ 400 := by
    simp only [List.mem_cons, List.mem_nil_iff, or_false] at hx
    exact ⟨x.toNat, by omega, by omega⟩
  exact ⟨n, hn, rfl, h1, h2⟩
set_option maxHeartbeats 51200000 in
theorem l10Made_any {q KK : Nat} {w : World} (h : Src w q KK) (hK : KK ≤ 1000000) : Calls Try.prog 74 #[.pointer (some ⟨q, 0, none⟩)] w fun e w' => MadeQ w q KK e w' := by
  obtain ⟨i0, hi, hy0, hy1, hy2⟩ := info_parts block_info
  have hq := h.lt
  have HS0 : Hid (Src ((w.alloc (.cells #[.string ⟨#[]⟩, .slice none 0 0] 29)).alloc (.cells #[.int .i64 0, .int .i64 8, .int .i64 9, .int .i64 16, .int .i64 40, .int .i64 100, .int .i64 256, .int .i64 400] 2)) q KK) := (h.step ((Below.refl _ _).alloc (Nat.le_refl _) (.cells #[.string ⟨#[]⟩, .slice none 0 0] 29))).step ((Below.refl _ _).alloc (Nat.le_refl _) (.cells #[.int .i64 0, .int .i64 8, .int .i64 9, .int .i64 16, .int .i64 40, .int .i64 100, .int .i64 256, .int .i64 400] 2))
  have HB0 : Hid (Blk ((w.alloc (.cells #[.string ⟨#[]⟩, .slice none 0 0] 29)).alloc (.cells #[.int .i64 0, .int .i64 8, .int .i64 9, .int .i64 16, .int .i64 40, .int .i64 100, .int .i64 256, .int .i64 400] 2)) (w.heap.size + 1) 2 #[.int .i64 0, .int .i64 8, .int .i64 9, .int .i64 16, .int .i64 40, .int .i64 100, .int .i64 256, .int .i64 400]) := by
    show Blk _ _ _ _
    have := Blk.new (w.alloc (.cells #[.string ⟨#[]⟩, .slice none 0 0] 29)) 2 #[.int .i64 0, .int .i64 8, .int .i64 9, .int .i64 16, .int .i64 40, .int .i64 100, .int .i64 256, .int .i64 400]
    simpa using this
  have HR0 : Hid (Blk ((w.alloc (.cells #[.string ⟨#[]⟩, .slice none 0 0] 29)).alloc (.cells #[.int .i64 0, .int .i64 8, .int .i64 9, .int .i64 16, .int .i64 40, .int .i64 100, .int .i64 256, .int .i64 400] 2)) w.heap.size 29 #[.string ⟨#[]⟩, .slice none 0 0]) := (Blk.new w _ _).alloc _
  have HK0 : Hid (Keep q (q + 1) w ((w.alloc (.cells #[.string ⟨#[]⟩, .slice none 0 0] 29)).alloc (.cells #[.int .i64 0, .int .i64 8, .int .i64 9, .int .i64 16, .int .i64 40, .int .i64 100, .int .i64 256, .int .i64 400] 2))) := ((Keep.refl _ _ _).alloc _).alloc _
  clear h
  go_enter Try.func74, Try.ntmps74
  go_wp2_with fail
  refine (amongEight HS0.out (by omega) (by omega) HB0.out).mono ?_
  rintro e w1 ⟨m, hm, rfl, S1, k1⟩
  have HS1 := Lib.hid S1
  have HK1 := Lib.hid (HK0.out.trans k1)
  have HR1 : Hid (Blk w1 w.heap.size 29 #[.string ⟨#[]⟩, .slice none 0 0]) := (k1.block _ HR0.out.lt (.inr (by omega))).trans HR0.out
  clear S1 k1 HS0 HB0 HR0 HK0
  go_wp2_with fail
  refine (specNewO (by omega) w1).mono ?_
  rw [memNew_yes (by omega : m ≤ 4096)]
  rintro e w2 ⟨u, rfl, hown, hb2⟩
  obtain ⟨A3, n3, c3, rfl⟩ := owns_form hown
  simp only at hown
  obtain ⟨s0, hs0⟩ : ∃ s, s = zerosB m := ⟨_, rfl⟩
  have hok0 : memOk s0 (freeN m) = true := by rw [hs0]; exact memOk_new (by omega)
  have HMS : Hid (MB w ((w2.alloc (.cells #[.string s0, .slice A3 n3 c3] 29)).alloc (.cells #[] 49)) q (KK + 2) w.heap.size w2.heap.size s0 (.slice A3 n3 c3) [] (.slice (some ⟨w2.heap.size + 1, 0, none⟩) 0 0) ∧ MO ((w2.alloc (.cells #[.string s0, .slice A3 n3 c3] 29)).alloc (.cells #[] 49)) w.heap.size w2.heap.size s0 (freeN m) (.slice (some ⟨w2.heap.size + 1, 0, none⟩) 0 0) (.slice A3 n3 c3)) := by
    have b1 := Blk.new w2 29 #[.string s0, .slice A3 n3 c3]
    have hb : Below w2.heap.size w2 ((w2.alloc (.cells #[.string s0, .slice A3 n3 c3] 29)).alloc (.cells #[] 49)) := ((Below.refl _ _).alloc (Nat.le_refl _) _).alloc (by simp) _
    have hz1 := hb2.size
    have hz0 := HR1.out.lt
    have hr := World.ownsRow_made (base := w2.heap.size + 1) (e := 49) (size := 2) (w2.alloc (.cells #[.string s0, .slice A3 n3 c3] 29)) #[] 0 (by simp) (by simp) (by simp)
    refine ⟨⟨(HS1.out.step hb2).step hb, (HR1.out.step hb2).step hb, b1.alloc _, by simpa [bvals] using hr, (HK1.out.trans (Keep.of_below hb2)).trans (Keep.of_below hb), Nat.le_refl _, by omega, hq, fun b hb => by cases hb⟩, owns_mono2 (owns_step hown hb) (by omega), fun g e => ?_, hok0⟩
    have hl := (hown.lt g e).2
    exact ⟨by omega, fun e2 => by simp [Value.ownBlock] at e2; omega⟩
  rw [← hs0]
  clear hs0 hown hb2 HS1 HK1 HR1 hok0
  have hpr : w.heap.size < w2.heap.size := HMS.out.1.lt
  go_wp2_with fail
  refine (pick_any HMS.out.1.src (by omega) (by omega)).mono ?_
  rintro e w4 ⟨b, hb, rfl, S4, k4⟩
  have HM4 := Lib.hid (HMS.out.1.drawn k4 S4)
  have HO4 := Lib.hid (HMS.out.2.drawn k4 (by omega))
  have hb8 : b ≤ 8 := by omega
  clear hb S4 k4 HMS
  go_wp2_with fail
  go_loopw [5, 6] (fun tv kk wr => ∃ (j : Nat) (s : ByteArray) (fs taken : List Block) (fv tv' : Value), tv' = tv ∧ kk = .int .i64 j ∧ j ≤ 8 ∧ taken.length ≤ 8 - j ∧ Hid (MB w wr q (KK + 4 + (8 - j) * 2000) w.heap.size w2.heap.size s fv taken tv') ∧ Hid (MO wr w.heap.size w2.heap.size s fs tv' fv)) (fun _ kk _ => (intOf kk).toNat)
  case atStart => exact ⟨b, s0, freeN m, [], _, _, rfl, rfl, hb8, by simp, Lib.hid (HM4.out.more (by omega)), HO4⟩
  case round =>
    clear HM4 HO4 hb8
    obtain ⟨j, s, fs, taken, fv, tv', rfl, rfl, hj, htk, HM, HO⟩ := hrel
    obtain ⟨uA, uN, uC, rfl, -, hcap, -⟩ := (Own.of_own HM.out.row).form
    have huN := owns_len HM.out.row
    have huk : uN ≤ 8 - j := by omega
    have HUN := Lib.hid huN
    clear huN
    obtain ⟨fA, fN, fC, rfl⟩ := HO.out.rep.form
    by_cases hj0 : 0 < j
    case neg =>
      have hj0 : j = 0 := by omega
      subst hj0
      have m0 : wr.cell? ⟨w2.heap.size, 0, none⟩ = some (.string s) := HM.out.box.cell 0
      have m1 : wr.cell? ⟨w2.heap.size, 1, none⟩ = some (.slice fA fN fC) := HM.out.box.cell 1
      have r0 : wr.cell? ⟨w.heap.size, 0, none⟩ = some (.string ⟨#[]⟩) := HM.out.res.cell 0
      have r1 : wr.cell? ⟨w.heap.size, 1, none⟩ = some (.slice none 0 0) := HM.out.res.cell 1
      have f0 := HM.out.res.frozen 0
      have f1 := HM.out.res.frozen 1
      have hpr2 : w.heap.size < w2.heap.size := hpr
      go_wp2_with fail
      have bR : Blk ((wr.setCell ⟨w.heap.size, 0, none⟩ (.string s)).setCell ⟨w.heap.size, 1, none⟩ (.slice fA fN fC)) w.heap.size 29 #[.string s, (.slice fA fN fC)] := by
        have := (HM.out.res.set_ 0 (.string s)).set_ 1 (.slice fA fN fC)
        simpa using this
      have r0 := bR.cell 0
      have r1 := bR.cell 1
      refine bodyPost_ret (v := .agg #[.string s, (.slice fA fN fC)]) (by simp [results, Try.results74, go_sem, r0, r1]) rfl ⟨s, fs, (.slice fA fN fC), rfl, HO.out.ok, ?_, ?_, ?_⟩
      · exact owns_far (owns_far HO.out.own (p := ⟨w.heap.size, 0, none⟩) (Nat.lt_succ_self _) _) (p := ⟨w.heap.size, 1, none⟩) (Nat.lt_succ_self _) _
      · exact ((HM.out.src.below ((Below.refl w.heap.size _).setCell (p := ⟨w.heap.size, 0, none⟩) (Nat.le_refl _) _) hq).below ((Below.refl w.heap.size _).setCell (p := ⟨w.heap.size, 1, none⟩) (Nat.le_refl _) _) hq).more (by omega)
      · exact (HM.out.keep.high (p := ⟨w.heap.size, 0, none⟩) (Nat.le_refl _) _).high (p := ⟨w.heap.size, 1, none⟩) (Nat.le_refl _) _
    have hj1 : (0 : Int) < (j : Int) := by omega
    go_upto_region 7 with fail
    go_cut [34] from 23 to 93 (fun v34 wx => ∃ bv : Bool, v34 = .bool bv ∧ (bv = true → 0 < uN) ∧ Hid (MB w wx q (KK + 4 + (8 - j) * 2000 + 2) w.heap.size w2.heap.size s (.slice fA fN fC) taken (.slice uA uN uC)) ∧ Hid (MO wx w.heap.size w2.heap.size s fs (.slice uA uN uC) (.slice fA fN fC)))
    case first =>
      by_cases hn0 : 0 < uN
      case neg =>
        have hz : uN = 0 := by omega
        have hzd : decide ((0 : Int) < (uN : Int)) = false := decide_eq_false (by omega)
        go_wp2_with fail
        go_meet
        exact ⟨false, rfl, (fun h => by cases h), Lib.hid (HM.out.more (by omega)), HO⟩
      case pos =>
        have hzd : decide ((0 : Int) < (uN : Int)) = true := decide_eq_true (by omega)
        go_wp2_with fail
        refine (one_any HM.out.src (by omega) (by omega)).mono ?_
        rintro e w5 ⟨bv, rfl, S5, k5⟩
        have HM5 := Lib.hid (HM.out.drawn k5 S5)
        have HO5 := Lib.hid (HO.out.drawn k5 (by omega))
        clear S5 k5
        go_wp2_with fail
        go_meet
        exact ⟨_, rfl, fun _ => hn0, HM5, HO5⟩
    case rest =>
      clear HM HO
      obtain ⟨bv, rfl, hbv, HM, HO⟩ := hcut
      cases bv with
      | false =>
        clear hbv
        go_wp2_with fail
        refine (pick_any HM.out.src (by omega) (by omega)).mono ?_
        rintro e w5 ⟨z1, hz1, rfl, S5, k5⟩
        replace HM := Lib.hid (HM.out.drawn k5 S5)
        replace HO := Lib.hid (HO.out.drawn k5 (by omega))
        clear S5 k5
        obtain ⟨Z, hZ⟩ : ∃ Z : Nat, Z = 1 + z1 := ⟨_, rfl⟩
        have x3 : IntKind.i64.wrap (1 + (z1 : Int)) = (Z : Int) := (IntWalk.i64_in _ (by omega)).trans (by omega)
        have hZ0 : 0 < Z ∧ Z ≤ 20 := by omega
        clear hZ hz1
        have m0 : w5.cell? ⟨w2.heap.size, 0, none⟩ = some (.string s) := HM.out.box.cell 0
        have m1 : w5.cell? ⟨w2.heap.size, 1, none⟩ = some (.slice fA fN fC) := HM.out.box.cell 1
        go_upto_region 12 with fail
        go_cut [10, 11, 12] from 23 to 93 (fun v10 v11 v12 wx => ∃ (px al : Nat) (sR : ByteArray) (fR : List Block) (tR cR : Int) (A5 : Option Addr) (n5 c5 : Nat), v10 = .pointer (some ⟨px, 0, none⟩) ∧ v11 = .int .i64 tR ∧ v12 = .int .i64 cR ∧ Hid (1 ≤ al ∧ allocM s fs (Z : Int) al = (⟨sR, fR⟩, tR, cR)) ∧ Hid (Blk wx px 29 #[.string sR, .slice A5 n5 c5]) ∧ Hid (MB w wx q (KK + 4 + (8 - j) * 2000 + 6) w.heap.size w2.heap.size s (.slice fA fN fC) taken (.slice uA uN uC)) ∧ Hid (MO wx w.heap.size w2.heap.size s fs (.slice uA uN uC) (.slice fA fN fC)) ∧ Hid (LvA wx w2.heap.size fR (.slice A5 n5 c5)))
        case first =>
          refine wp_region_held_drew (S := (fun w' => w'.cell? ⟨w2.heap.size, 0, none⟩ = some (.string s) ∧ w'.cell? ⟨w2.heap.size, 1, none⟩ = some (.slice fA fN fC))) (by kernel_rfl) ⟨HM.out.box.cell 0, HM.out.box.cell 1⟩ (fun hHeld => ?_)
          refine wpAnyH_take (i := 0) (oi := ?o0_1) (v := ?v0_1) ?h0_1 (by kernel_rfl) (by kernel_rfl) (by kernel_rfl) ?q0_1 (Or.inl ⟨?z0_1, ?y0_1⟩) (by assumption) ?r0_1
          case h0_1 =>
            simp only [List.getElem?_toArray, List.getElem?_cons_succ, List.getElem?_cons_zero]
            rfl
          case q0_1 => exact fun _ _ _ h => h
          case z0_1 => rfl
          case y0_1 =>
            intro w hSw
            try dsimp only at hSw
            go_simp
            try with_reducible rfl
          try simp only [Act.put, List.setIfInBounds_toArray, List.set_cons_zero, List.set_cons_succ]
          refine wpAnyH_take (i := 1) (oi := ?o1_2) (v := ?v1_2) ?h1_2 (by kernel_rfl) (by kernel_rfl) (by kernel_rfl) ?q1_2 (Or.inl ⟨?z1_2, ?y1_2⟩) (by assumption) ?r1_2
          case h1_2 =>
            simp only [List.getElem?_toArray, List.getElem?_cons_succ, List.getElem?_cons_zero]
            rfl
          case q1_2 => exact fun _ _ _ h => h
          case z1_2 => rfl
          case y1_2 =>
            intro w hSw
            try dsimp only at hSw
            go_simp
            try with_reducible rfl
          try simp only [Act.put, List.setIfInBounds_toArray, List.set_cons_zero, List.set_cons_succ]
          refine wpAnyH_take (i := 2) (oi := ?o2_3) (v := ?v2_3) ?h2_3 (by kernel_rfl) (by kernel_rfl) (by kernel_rfl) ?q2_3 (Or.inl ⟨?z2_3, ?y2_3⟩) (by assumption) ?r2_3
          case h2_3 =>
            simp only [List.getElem?_toArray, List.getElem?_cons_succ, List.getElem?_cons_zero]
            rfl
          case q2_3 => exact fun _ _ _ h => h
          case z2_3 => rfl
          case y2_3 =>
            intro w hSw
            try dsimp only at hSw
            go_simp
            try with_reducible rfl
          try simp only [Act.put, List.setIfInBounds_toArray, List.set_cons_zero, List.set_cons_succ]
          refine wpAnyH_ready (rs := [3, 10]) (by kernel_rfl) (by simp) ?_
          refine AllReadyH.cons (o := ?o3_4) ?h3_4 (fun K hK => ?k3_4) (AllReadyH.cons (o := ?o10_4) ?h10_4 (fun K hK => ?k10_4) AllReadyH.nil)
          case h3_4 =>
            simp only [List.getElem?_toArray, List.getElem?_cons_succ, List.getElem?_cons_zero]
            rfl
          case h10_4 =>
            simp only [List.getElem?_toArray, List.getElem?_cons_succ, List.getElem?_cons_zero]
            rfl
          case k3_4 =>
            go_simp
            refine hK.out _ _ (by first | exact ⟨(HM.out.step (((Below.refl w5.heap.size w5).alloc (by simp) (.cells #[.int .i64 1, .int .i64 2, .int .i64 4, .int .i64 8] 2)).drew)).box.cell 0, (HM.out.step (((Below.refl w5.heap.size w5).alloc (by simp) (.cells #[.int .i64 1, .int .i64 2, .int .i64 4, .int .i64 8] 2)).drew)).box.cell 1⟩ | go_keep) (fun hHeld4 => ?_)
            clear hK K
            try simp only [Act.put, List.setIfInBounds_toArray, List.set_cons_zero, List.set_cons_succ]
            refine wpAnyH_ready (rs := [4, 10]) (by kernel_rfl) (by simp) ?_
            refine AllReadyH.cons (o := ?o4_5) ?h4_5 (fun K hK => ?k4_5) (AllReadyH.cons (o := ?o10_5) ?h10_5 (fun K hK => ?k10_5) AllReadyH.nil)
            case h4_5 =>
              simp only [List.getElem?_toArray, List.getElem?_cons_succ, List.getElem?_cons_zero]
              rfl
            case h10_5 =>
              simp only [List.getElem?_toArray, List.getElem?_cons_succ, List.getElem?_cons_zero]
              rfl
            case k4_5 =>
              have hbw0 : MB w (w5.alloc (.cells #[.int .i64 1, .int .i64 2, .int .i64 4, .int .i64 8] 2)).drew q (KK + 4 + (8 - j) * 2000 + 4) w.heap.size w2.heap.size s (.slice fA fN fC) taken (.slice uA uN uC) := HM.out.step (((Below.refl w5.heap.size w5).alloc (by simp) (.cells #[.int .i64 1, .int .i64 2, .int .i64 4, .int .i64 8] 2)).drew)
              have hbo0 : MO (w5.alloc (.cells #[.int .i64 1, .int .i64 2, .int .i64 4, .int .i64 8] 2)).drew w.heap.size w2.heap.size s fs (.slice uA uN uC) (.slice fA fN fC) := HO.out.step (((Below.refl w5.heap.size w5).alloc (by simp) (.cells #[.int .i64 1, .int .i64 2, .int .i64 4, .int .i64 8] 2)).drew)
              have hbx0 : Blk (w5.alloc (.cells #[.int .i64 1, .int .i64 2, .int .i64 4, .int .i64 8] 2)).drew w5.heap.size 2 #[.int .i64 1, .int .i64 2, .int .i64 4, .int .i64 8] := (Blk.new w5 2 #[.int .i64 1, .int .i64 2, .int .i64 4, .int .i64 8]).drew
              go_simp
              go_at_call 60
              refine (amongFour hbw0.src (by omega) (by have := HM.out.box.lt; omega) hbx0).mono ?_
              rintro e wa ⟨al, hal1, hal8, rfl, Sa, ka⟩
              have HMA := Lib.hid (hbw0.drawn ka Sa)
              have HOA := Lib.hid (hbo0.drawn ka (by omega))
              have hsa : w5.heap.size ≤ wa.heap.size := by have := ka.size; simp at this; omega
              clear hbw0 hbo0 hbx0
              try go_wp2_with fail
              refine hK.out _ _ (by first | exact ⟨HMA.out.box.cell 0, HMA.out.box.cell 1⟩ | go_keep) (fun hHeld5 => ?_)
              clear hK K
              try simp only [Act.put, List.setIfInBounds_toArray, List.set_cons_zero, List.set_cons_succ]
              refine wpAnyH_ready (rs := [5, 10]) (by kernel_rfl) (by simp) ?_
              refine AllReadyH.cons (o := ?o5_6) ?h5_6 (fun K hK => ?k5_6) (AllReadyH.cons (o := ?o10_6) ?h10_6 (fun K hK => ?k10_6) AllReadyH.nil)
              case h5_6 =>
                simp only [List.getElem?_toArray, List.getElem?_cons_succ, List.getElem?_cons_zero]
                rfl
              case h10_6 =>
                simp only [List.getElem?_toArray, List.getElem?_cons_succ, List.getElem?_cons_zero]
                rfl
              case k5_6 =>
                go_simp
                go_at_call 47
                have hAC := l10Alloc_all (z := (Z : Int)) (a := al) (HOA.out.step (Below.refl wa.heap.size wa)).rep HOA.out.cap (memF HOA.out.ok) (by omega) (WalkArith.wf_i64 (by omega)) hal1 hal8
                obtain ⟨⟨⟨sR, fR⟩, tR, cR⟩, hr⟩ : ∃ r, allocM s fs (Z : Int) al = r := ⟨_, rfl⟩
                rw [hr] at hAC
                refine hAC.mono ?_
                rintro e wq ⟨us, rfl, hl, hbq⟩
                obtain ⟨A5, n5, c5, hus⟩ := mem_form hl
                simp only at hus
                subst hus
                obtain ⟨_, hL5⟩ := mem_lv hl
                have hB5 : Below wa.heap.size wa wq := (Below.refl wa.heap.size wa).trans (hbq.mono (Below.refl wa.heap.size wa).size)
                have HMQ := Lib.hid (HMA.out.step hB5)
                have HOQ := Lib.hid (HOA.out.step hB5)
                have hla := HMA.out.box.lt
                have HL5 : Hid (LvA wq w2.heap.size fR (.slice A5 n5 c5)) := ⟨_, _, (by first | omega | (simp; omega)), hL5⟩
                clear hl
                clear hL5
                try go_wp2_with fail
                refine hK.out _ _ (by first | exact ⟨HMQ.out.box.cell 0, HMQ.out.box.cell 1⟩ | go_keep) (fun hHeld6 => ?_)
                clear hK K
                try simp only [Act.put, List.setIfInBounds_toArray, List.set_cons_zero, List.set_cons_succ]
                refine wpAnyH_take (i := 6) (oi := ?o6_7) (v := ?v6_7) ?h6_7 (by kernel_rfl) (by kernel_rfl) (by kernel_rfl) ?q6_7 (Or.inl ⟨?z6_7, ?y6_7⟩) (by assumption) ?r6_7
                case h6_7 =>
                  simp only [List.getElem?_toArray, List.getElem?_cons_succ, List.getElem?_cons_zero]
                  rfl
                case q6_7 => exact fun _ _ _ h => h
                case z6_7 => rfl
                case y6_7 =>
                  intro w hSw
                  try dsimp only at hSw
                  go_simp
                  try with_reducible rfl
                try simp only [Act.put, List.setIfInBounds_toArray, List.set_cons_zero, List.set_cons_succ]
                refine wpAnyH_take (i := 7) (oi := ?o7_8) (v := ?v7_8) ?h7_8 (by kernel_rfl) (by kernel_rfl) (by kernel_rfl) ?q7_8 (Or.inl ⟨?z7_8, ?y7_8⟩) (by assumption) ?r7_8
                case h7_8 =>
                  simp only [List.getElem?_toArray, List.getElem?_cons_succ, List.getElem?_cons_zero]
                  rfl
                case q7_8 => exact fun _ _ _ h => h
                case z7_8 => rfl
                case y7_8 =>
                  intro w hSw
                  try dsimp only at hSw
                  go_simp
                  try with_reducible rfl
                try simp only [Act.put, List.setIfInBounds_toArray, List.set_cons_zero, List.set_cons_succ]
                refine wpAnyH_take (i := 8) (oi := ?o8_9) (v := ?v8_9) ?h8_9 (by kernel_rfl) (by kernel_rfl) (by kernel_rfl) ?q8_9 (Or.inl ⟨?z8_9, ?y8_9⟩) (by assumption) ?r8_9
                case h8_9 =>
                  simp only [List.getElem?_toArray, List.getElem?_cons_succ, List.getElem?_cons_zero]
                  rfl
                case q8_9 => exact fun _ _ _ h => h
                case z8_9 => rfl
                case y8_9 =>
                  intro w hSw
                  try dsimp only at hSw
                  go_simp
                  try with_reducible rfl
                try simp only [Act.put, List.setIfInBounds_toArray, List.set_cons_zero, List.set_cons_succ]
                refine wpAnyH_take (i := 9) (oi := ?o9_10) (v := ?v9_10) ?h9_10 (by kernel_rfl) (by kernel_rfl) (by kernel_rfl) ?q9_10 (Or.inl ⟨?z9_10, ?y9_10⟩) (by assumption) ?r9_10
                case h9_10 =>
                  simp only [List.getElem?_toArray, List.getElem?_cons_succ, List.getElem?_cons_zero]
                  rfl
                case q9_10 => exact fun _ _ _ h => h
                case z9_10 => rfl
                case y9_10 =>
                  intro w hSw
                  try dsimp only at hSw
                  go_simp
                  try with_reducible rfl
                try simp only [Act.put, List.setIfInBounds_toArray, List.set_cons_zero, List.set_cons_succ]
                refine wpAnyH_ready (rs := [10]) (by kernel_rfl) (by simp) ?_
                refine AllReadyH.cons (o := ?o10_11) ?h10_11 (fun K hK => ?k10_11) AllReadyH.nil
                case h10_11 =>
                  simp only [List.getElem?_toArray, List.getElem?_cons_succ, List.getElem?_cons_zero]
                  rfl
                go_simp
                refine hK.out _ _ (by first | exact ⟨(HMQ.out.step ((Below.refl _ _).alloc (Nat.le_refl _) (.cells #[.string ⟨#[]⟩, .slice none 0 0] 29))).box.cell 0, (HMQ.out.step ((Below.refl _ _).alloc (Nat.le_refl _) (.cells #[.string ⟨#[]⟩, .slice none 0 0] 29))).box.cell 1⟩ | go_keep) (fun hHeld11 => ?_)
                clear hK K
                try simp only [Act.put, List.setIfInBounds_toArray, List.set_cons_zero, List.set_cons_succ]
                refine wpAnyH_ready (rs := [11]) (by kernel_rfl) (by simp) ?_
                refine AllReadyH.cons (o := ?o11_12) ?h11_12 (fun K hK => ?k11_12) AllReadyH.nil
                case h11_12 =>
                  simp only [List.getElem?_toArray, List.getElem?_cons_succ, List.getElem?_cons_zero]
                  rfl
                go_simp
                refine hK.out _ _ (by first | exact go_no | go_keep) (fun hHeld12 => ?_)
                clear hK K
                try simp only [Act.put, List.setIfInBounds_toArray, List.set_cons_zero, List.set_cons_succ]
                refine wpAnyH_take (i := 12) (oi := ?o12_13) (v := ?v12_13) ?h12_13 (by kernel_rfl) (by kernel_rfl) (by kernel_rfl) ?q12_13 (Or.inl ⟨?z12_13, ?y12_13⟩) (by assumption) ?r12_13
                case h12_13 =>
                  simp only [List.getElem?_toArray, List.getElem?_cons_succ, List.getElem?_cons_zero]
                  rfl
                case q12_13 => exact fun _ _ _ h => h
                case z12_13 => rfl
                case y12_13 =>
                  intro w hSw
                  try dsimp only at hSw
                  go_simp
                  try with_reducible rfl
                try simp only [Act.put, List.setIfInBounds_toArray, List.set_cons_zero, List.set_cons_succ]
                refine wpAnyH_take (i := 13) (oi := ?o13_14) (v := ?v13_14) ?h13_14 (by kernel_rfl) (by kernel_rfl) (by kernel_rfl) ?q13_14 (Or.inl ⟨?z13_14, ?y13_14⟩) (by assumption) ?r13_14
                case h13_14 =>
                  simp only [List.getElem?_toArray, List.getElem?_cons_succ, List.getElem?_cons_zero]
                  rfl
                case q13_14 => exact fun _ _ _ h => h
                case z13_14 => rfl
                case y13_14 =>
                  intro w hSw
                  try dsimp only at hSw
                  go_simp
                  try with_reducible rfl
                try simp only [Act.put, List.setIfInBounds_toArray, List.set_cons_zero, List.set_cons_succ]
                refine wpAnyH_done (by kernel_rfl) ?_ _
                go_wp2_with fail
                go_meet
                exact ⟨wq.heap.size, al, sR, fR, tR, cR, A5, n5, c5, rfl, rfl, rfl, Lib.hid ⟨hal1, hr⟩, Lib.hid (Blk.new wq _ _), Lib.hid (HMQ.out.step ((Below.refl _ _).alloc (Nat.le_refl _) (.cells #[.string sR, .slice A5 n5 c5] 29))), Lib.hid (HOQ.out.step ((Below.refl _ _).alloc (Nat.le_refl _) (.cells #[.string sR, .slice A5 n5 c5] 29))), Lib.hid (HL5.out.step ((Below.refl _ _).alloc (Nat.le_refl _) (.cells #[.string sR, .slice A5 n5 c5] 29)))⟩
              case k10_6 =>
                go_simp
                refine hK.out _ _ (by first | exact ⟨(HMA.out.step ((Below.refl wa.heap.size wa).alloc (by simp) (.cells #[.string ⟨#[]⟩, .slice none 0 0] 29))).box.cell 0, (HMA.out.step ((Below.refl wa.heap.size wa).alloc (by simp) (.cells #[.string ⟨#[]⟩, .slice none 0 0] 29))).box.cell 1⟩ | go_keep) (fun hHeld6 => ?_)
                clear hK K
                try simp only [Act.put, List.setIfInBounds_toArray, List.set_cons_zero, List.set_cons_succ]
                refine wpAnyH_ready (rs := [5]) (by kernel_rfl) (by simp) ?_
                refine AllReadyH.cons (o := ?o5_15) ?h5_15 (fun K hK => ?k5_15) AllReadyH.nil
                case h5_15 =>
                  simp only [List.getElem?_toArray, List.getElem?_cons_succ, List.getElem?_cons_zero]
                  rfl
                go_simp
                go_at_call 47
                have hAC := l10Alloc_all (z := (Z : Int)) (a := al) (HOA.out.step ((Below.refl wa.heap.size wa).alloc (by simp) (.cells #[.string ⟨#[]⟩, .slice none 0 0] 29))).rep HOA.out.cap (memF HOA.out.ok) (by omega) (WalkArith.wf_i64 (by omega)) hal1 hal8
                obtain ⟨⟨⟨sR, fR⟩, tR, cR⟩, hr⟩ : ∃ r, allocM s fs (Z : Int) al = r := ⟨_, rfl⟩
                rw [hr] at hAC
                refine hAC.mono ?_
                rintro e wq ⟨us, rfl, hl, hbq⟩
                obtain ⟨A5, n5, c5, hus⟩ := mem_form hl
                simp only at hus
                subst hus
                obtain ⟨_, hL5⟩ := mem_lv hl
                have hB5 : Below wa.heap.size wa wq := ((Below.refl wa.heap.size wa).alloc (by simp) (.cells #[.string ⟨#[]⟩, .slice none 0 0] 29)).trans (hbq.mono ((Below.refl wa.heap.size wa).alloc (by simp) (.cells #[.string ⟨#[]⟩, .slice none 0 0] 29)).size)
                have HMQ := Lib.hid (HMA.out.step hB5)
                have HOQ := Lib.hid (HOA.out.step hB5)
                have hla := HMA.out.box.lt
                have HL5 : Hid (LvA wq w2.heap.size fR (.slice A5 n5 c5)) := ⟨_, _, (by first | omega | (simp; omega)), hL5⟩
                clear hl
                have bX : Blk wq wa.heap.size 29 #[.string ⟨#[]⟩, .slice none 0 0] := (Blk.step (Blk.new wa 29 #[.string ⟨#[]⟩, .slice none 0 0]) hbq)
                have x0 : wq.cell? ⟨wa.heap.size, 0, none⟩ = some (.string ⟨#[]⟩) := bX.cell 0
                have x1 : wq.cell? ⟨wa.heap.size, 1, none⟩ = some (.slice none 0 0) := bX.cell 1
                have g0 := bX.frozen 0
                have g1 := bX.frozen 1
                have BX := Lib.hid bX
                clear bX
                have HM6 := Lib.hid (HMQ.out.far2 (p := wa.heap.size) (by have := HMA.out.box.lt; omega) (fun e => by have := (HMA.out.row.lt _ e).2; omega) (.string sR) (.slice A5 n5 c5))
                have HO6 := Lib.hid (HOQ.out.far2 (p := wa.heap.size) (fun e => by have := (HOA.out.own.lt _ e).2; omega) (.string sR) (.slice A5 n5 c5))
                have HL6 := Lib.hid ((hL5.setCell (p := ⟨wa.heap.size, 0, none⟩) (.inl (by first | omega | (simp; try omega))) (.string sR)).setCell (p := ⟨wa.heap.size, 1, none⟩) (.inl (by first | omega | (simp; try omega))) (.slice A5 n5 c5))
                clear hL5
                try go_wp2_with fail
                refine hK.out _ _ (by first | exact ⟨HMQ.out.box.cell 0, HMQ.out.box.cell 1⟩ | go_keep) (fun hHeld15 => ?_)
                clear hK K
                try simp only [Act.put, List.setIfInBounds_toArray, List.set_cons_zero, List.set_cons_succ]
                refine wpAnyH_take (i := 6) (oi := ?o6_16) (v := ?v6_16) ?h6_16 (by kernel_rfl) (by kernel_rfl) (by kernel_rfl) ?q6_16 (Or.inl ⟨?z6_16, ?y6_16⟩) (by assumption) ?r6_16
                case h6_16 =>
                  simp only [List.getElem?_toArray, List.getElem?_cons_succ, List.getElem?_cons_zero]
                  rfl
                case q6_16 => exact fun _ _ _ h => h
                case z6_16 => rfl
                case y6_16 =>
                  intro w hSw
                  try dsimp only at hSw
                  go_simp
                  try with_reducible rfl
                try simp only [Act.put, List.setIfInBounds_toArray, List.set_cons_zero, List.set_cons_succ]
                refine wpAnyH_take (i := 7) (oi := ?o7_17) (v := ?v7_17) ?h7_17 (by kernel_rfl) (by kernel_rfl) (by kernel_rfl) ?q7_17 (Or.inl ⟨?z7_17, ?y7_17⟩) (by assumption) ?r7_17
                case h7_17 =>
                  simp only [List.getElem?_toArray, List.getElem?_cons_succ, List.getElem?_cons_zero]
                  rfl
                case q7_17 => exact fun _ _ _ h => h
                case z7_17 => rfl
                case y7_17 =>
                  intro w hSw
                  try dsimp only at hSw
                  go_simp
                  try with_reducible rfl
                try simp only [Act.put, List.setIfInBounds_toArray, List.set_cons_zero, List.set_cons_succ]
                refine wpAnyH_take (i := 8) (oi := ?o8_18) (v := ?v8_18) ?h8_18 (by kernel_rfl) (by kernel_rfl) (by kernel_rfl) ?q8_18 (Or.inl ⟨?z8_18, ?y8_18⟩) (by assumption) ?r8_18
                case h8_18 =>
                  simp only [List.getElem?_toArray, List.getElem?_cons_succ, List.getElem?_cons_zero]
                  rfl
                case q8_18 => exact fun _ _ _ h => h
                case z8_18 => rfl
                case y8_18 =>
                  intro w hSw
                  try dsimp only at hSw
                  go_simp
                  try with_reducible rfl
                try simp only [Act.put, List.setIfInBounds_toArray, List.set_cons_zero, List.set_cons_succ]
                refine wpAnyH_take (i := 9) (oi := ?o9_19) (v := ?v9_19) ?h9_19 (by kernel_rfl) (by kernel_rfl) (by kernel_rfl) ?q9_19 (Or.inl ⟨?z9_19, ?y9_19⟩) (by assumption) ?r9_19
                case h9_19 =>
                  simp only [List.getElem?_toArray, List.getElem?_cons_succ, List.getElem?_cons_zero]
                  rfl
                case q9_19 => exact fun _ _ _ h => h
                case z9_19 => rfl
                case y9_19 =>
                  intro w hSw
                  try dsimp only at hSw
                  go_simp
                  try with_reducible rfl
                try simp only [Act.put, List.setIfInBounds_toArray, List.set_cons_zero, List.set_cons_succ]
                refine wpAnyH_ready (rs := [11]) (by kernel_rfl) (by simp) ?_
                refine AllReadyH.cons (o := ?o11_20) ?h11_20 (fun K hK => ?k11_20) AllReadyH.nil
                case h11_20 =>
                  simp only [List.getElem?_toArray, List.getElem?_cons_succ, List.getElem?_cons_zero]
                  rfl
                go_simp
                refine hK.out _ _ (by first | exact ⟨HM6.out.box.cell 0, HM6.out.box.cell 1⟩ | go_keep) (fun hHeld20 => ?_)
                clear hK K
                try simp only [Act.put, List.setIfInBounds_toArray, List.set_cons_zero, List.set_cons_succ]
                refine wpAnyH_take (i := 12) (oi := ?o12_21) (v := ?v12_21) ?h12_21 (by kernel_rfl) (by kernel_rfl) (by kernel_rfl) ?q12_21 (Or.inl ⟨?z12_21, ?y12_21⟩) (by assumption) ?r12_21
                case h12_21 =>
                  simp only [List.getElem?_toArray, List.getElem?_cons_succ, List.getElem?_cons_zero]
                  rfl
                case q12_21 => exact fun _ _ _ h => h
                case z12_21 => rfl
                case y12_21 =>
                  intro w hSw
                  try dsimp only at hSw
                  go_simp
                  try with_reducible rfl
                try simp only [Act.put, List.setIfInBounds_toArray, List.set_cons_zero, List.set_cons_succ]
                refine wpAnyH_take (i := 13) (oi := ?o13_22) (v := ?v13_22) ?h13_22 (by kernel_rfl) (by kernel_rfl) (by kernel_rfl) ?q13_22 (Or.inl ⟨?z13_22, ?y13_22⟩) (by assumption) ?r13_22
                case h13_22 =>
                  simp only [List.getElem?_toArray, List.getElem?_cons_succ, List.getElem?_cons_zero]
                  rfl
                case q13_22 => exact fun _ _ _ h => h
                case z13_22 => rfl
                case y13_22 =>
                  intro w hSw
                  try dsimp only at hSw
                  go_simp
                  try with_reducible rfl
                try simp only [Act.put, List.setIfInBounds_toArray, List.set_cons_zero, List.set_cons_succ]
                refine wpAnyH_done (by kernel_rfl) ?_ _
                go_wp2_with fail
                go_meet
                exact ⟨wa.heap.size, al, sR, fR, tR, cR, A5, n5, c5, rfl, rfl, rfl, Lib.hid ⟨hal1, hr⟩, Lib.hid (by have := (BX.out.set_ 0 (.string sR)).set_ 1 (.slice A5 n5 c5); simpa using this), HM6, HO6, Lib.hid ⟨_, _, (by have := HMA.out.box.lt; first | omega | (simp; omega)), HL6.out⟩⟩
            case k10_5 =>
              go_simp
              refine hK.out _ _ (by first | exact ⟨(HM.out.step ((((Below.refl w5.heap.size w5).alloc (by simp) (.cells #[.int .i64 1, .int .i64 2, .int .i64 4, .int .i64 8] 2)).alloc (by simp) (.cells #[.string ⟨#[]⟩, .slice none 0 0] 29)).drew)).box.cell 0, (HM.out.step ((((Below.refl w5.heap.size w5).alloc (by simp) (.cells #[.int .i64 1, .int .i64 2, .int .i64 4, .int .i64 8] 2)).alloc (by simp) (.cells #[.string ⟨#[]⟩, .slice none 0 0] 29)).drew)).box.cell 1⟩ | go_keep) (fun hHeld5 => ?_)
              clear hK K
              try simp only [Act.put, List.setIfInBounds_toArray, List.set_cons_zero, List.set_cons_succ]
              refine wpAnyH_ready (rs := [4]) (by kernel_rfl) (by simp) ?_
              refine AllReadyH.cons (o := ?o4_23) ?h4_23 (fun K hK => ?k4_23) AllReadyH.nil
              case h4_23 =>
                simp only [List.getElem?_toArray, List.getElem?_cons_succ, List.getElem?_cons_zero]
                rfl
              have hbw0 : MB w ((w5.alloc (.cells #[.int .i64 1, .int .i64 2, .int .i64 4, .int .i64 8] 2)).alloc (.cells #[.string ⟨#[]⟩, .slice none 0 0] 29)).drew q (KK + 4 + (8 - j) * 2000 + 4) w.heap.size w2.heap.size s (.slice fA fN fC) taken (.slice uA uN uC) := HM.out.step ((((Below.refl w5.heap.size w5).alloc (by simp) (.cells #[.int .i64 1, .int .i64 2, .int .i64 4, .int .i64 8] 2)).alloc (by simp) (.cells #[.string ⟨#[]⟩, .slice none 0 0] 29)).drew)
              have hbo0 : MO ((w5.alloc (.cells #[.int .i64 1, .int .i64 2, .int .i64 4, .int .i64 8] 2)).alloc (.cells #[.string ⟨#[]⟩, .slice none 0 0] 29)).drew w.heap.size w2.heap.size s fs (.slice uA uN uC) (.slice fA fN fC) := HO.out.step ((((Below.refl w5.heap.size w5).alloc (by simp) (.cells #[.int .i64 1, .int .i64 2, .int .i64 4, .int .i64 8] 2)).alloc (by simp) (.cells #[.string ⟨#[]⟩, .slice none 0 0] 29)).drew)
              have hbx0 : Blk ((w5.alloc (.cells #[.int .i64 1, .int .i64 2, .int .i64 4, .int .i64 8] 2)).alloc (.cells #[.string ⟨#[]⟩, .slice none 0 0] 29)).drew w5.heap.size 2 #[.int .i64 1, .int .i64 2, .int .i64 4, .int .i64 8] := ((Blk.new w5 2 #[.int .i64 1, .int .i64 2, .int .i64 4, .int .i64 8]).alloc (.cells #[.string ⟨#[]⟩, .slice none 0 0] 29)).drew
              have hbz0 : Blk ((w5.alloc (.cells #[.int .i64 1, .int .i64 2, .int .i64 4, .int .i64 8] 2)).alloc (.cells #[.string ⟨#[]⟩, .slice none 0 0] 29)).drew (w5.heap.size + 1) 29 #[.string ⟨#[]⟩, .slice none 0 0] := (show Blk (((w5.alloc (.cells #[.int .i64 1, .int .i64 2, .int .i64 4, .int .i64 8] 2)).alloc (.cells #[.string ⟨#[]⟩, .slice none 0 0] 29)).drew) (w5.heap.size + 1) 29 #[.string ⟨#[]⟩, .slice none 0 0] by have := (Blk.new (w5.alloc (.cells #[.int .i64 1, .int .i64 2, .int .i64 4, .int .i64 8] 2)) 29 #[.string ⟨#[]⟩, .slice none 0 0]).drew; simpa using this)
              go_simp
              go_at_call 60
              refine (amongFour hbw0.src (by omega) (by have := HM.out.box.lt; omega) hbx0).mono ?_
              rintro e wa ⟨al, hal1, hal8, rfl, Sa, ka⟩
              have HMA := Lib.hid (hbw0.drawn ka Sa)
              have HOA := Lib.hid (hbo0.drawn ka (by omega))
              have hsa : w5.heap.size ≤ wa.heap.size := by have := ka.size; simp at this; omega
              have HXA : Hid (Blk wa (w5.heap.size + 1) 29 #[.string ⟨#[]⟩, .slice none 0 0]) := (ka.block _ hbz0.lt (.inr (by have := HM.out.box.lt; omega))).trans hbz0
              clear hbw0 hbo0 hbx0 hbz0
              try go_wp2_with fail
              refine hK.out _ _ (by first | exact ⟨HMA.out.box.cell 0, HMA.out.box.cell 1⟩ | go_keep) (fun hHeld23 => ?_)
              clear hK K
              try simp only [Act.put, List.setIfInBounds_toArray, List.set_cons_zero, List.set_cons_succ]
              refine wpAnyH_ready (rs := [5]) (by kernel_rfl) (by simp) ?_
              refine AllReadyH.cons (o := ?o5_24) ?h5_24 (fun K hK => ?k5_24) AllReadyH.nil
              case h5_24 =>
                simp only [List.getElem?_toArray, List.getElem?_cons_succ, List.getElem?_cons_zero]
                rfl
              go_simp
              go_at_call 47
              have hAC := l10Alloc_all (z := (Z : Int)) (a := al) (HOA.out.step (Below.refl wa.heap.size wa)).rep HOA.out.cap (memF HOA.out.ok) (by omega) (WalkArith.wf_i64 (by omega)) hal1 hal8
              obtain ⟨⟨⟨sR, fR⟩, tR, cR⟩, hr⟩ : ∃ r, allocM s fs (Z : Int) al = r := ⟨_, rfl⟩
              rw [hr] at hAC
              refine hAC.mono ?_
              rintro e wq ⟨us, rfl, hl, hbq⟩
              obtain ⟨A5, n5, c5, hus⟩ := mem_form hl
              simp only at hus
              subst hus
              obtain ⟨_, hL5⟩ := mem_lv hl
              have hB5 : Below wa.heap.size wa wq := (Below.refl wa.heap.size wa).trans (hbq.mono (Below.refl wa.heap.size wa).size)
              have HMQ := Lib.hid (HMA.out.step hB5)
              have HOQ := Lib.hid (HOA.out.step hB5)
              have hla := HMA.out.box.lt
              have HL5 : Hid (LvA wq w2.heap.size fR (.slice A5 n5 c5)) := ⟨_, _, (by first | omega | (simp; omega)), hL5⟩
              clear hl
              have bX : Blk wq (w5.heap.size + 1) 29 #[.string ⟨#[]⟩, .slice none 0 0] := (HXA.out.step hB5)
              have x0 : wq.cell? ⟨(w5.heap.size + 1), 0, none⟩ = some (.string ⟨#[]⟩) := bX.cell 0
              have x1 : wq.cell? ⟨(w5.heap.size + 1), 1, none⟩ = some (.slice none 0 0) := bX.cell 1
              have g0 := bX.frozen 0
              have g1 := bX.frozen 1
              have BX := Lib.hid bX
              clear bX
              have HXL := Lib.hid HXA.out.lt
              have HM6 := Lib.hid (HMQ.out.far2 (p := (w5.heap.size + 1)) (by have := HM.out.box.lt; omega) (fun e => by have := (HM.out.row.lt _ e).2; omega) (.string sR) (.slice A5 n5 c5))
              have HO6 := Lib.hid (HOQ.out.far2 (p := (w5.heap.size + 1)) (fun e => by have := (HO.out.own.lt _ e).2; omega) (.string sR) (.slice A5 n5 c5))
              have HL6 := Lib.hid ((hL5.setCell (p := ⟨(w5.heap.size + 1), 0, none⟩) (.inl (by have := HXL.out; first | omega | (simp; try omega))) (.string sR)).setCell (p := ⟨(w5.heap.size + 1), 1, none⟩) (.inl (by have := HXL.out; first | omega | (simp; try omega))) (.slice A5 n5 c5))
              clear hL5
              try go_wp2_with fail
              refine hK.out _ _ (by first | exact ⟨HMQ.out.box.cell 0, HMQ.out.box.cell 1⟩ | go_keep) (fun hHeld24 => ?_)
              clear hK K
              try simp only [Act.put, List.setIfInBounds_toArray, List.set_cons_zero, List.set_cons_succ]
              refine wpAnyH_take (i := 6) (oi := ?o6_25) (v := ?v6_25) ?h6_25 (by kernel_rfl) (by kernel_rfl) (by kernel_rfl) ?q6_25 (Or.inl ⟨?z6_25, ?y6_25⟩) (by assumption) ?r6_25
              case h6_25 =>
                simp only [List.getElem?_toArray, List.getElem?_cons_succ, List.getElem?_cons_zero]
                rfl
              case q6_25 => exact fun _ _ _ h => h
              case z6_25 => rfl
              case y6_25 =>
                intro w hSw
                try dsimp only at hSw
                go_simp
                try with_reducible rfl
              try simp only [Act.put, List.setIfInBounds_toArray, List.set_cons_zero, List.set_cons_succ]
              refine wpAnyH_take (i := 7) (oi := ?o7_26) (v := ?v7_26) ?h7_26 (by kernel_rfl) (by kernel_rfl) (by kernel_rfl) ?q7_26 (Or.inl ⟨?z7_26, ?y7_26⟩) (by assumption) ?r7_26
              case h7_26 =>
                simp only [List.getElem?_toArray, List.getElem?_cons_succ, List.getElem?_cons_zero]
                rfl
              case q7_26 => exact fun _ _ _ h => h
              case z7_26 => rfl
              case y7_26 =>
                intro w hSw
                try dsimp only at hSw
                go_simp
                try with_reducible rfl
              try simp only [Act.put, List.setIfInBounds_toArray, List.set_cons_zero, List.set_cons_succ]
              refine wpAnyH_take (i := 8) (oi := ?o8_27) (v := ?v8_27) ?h8_27 (by kernel_rfl) (by kernel_rfl) (by kernel_rfl) ?q8_27 (Or.inl ⟨?z8_27, ?y8_27⟩) (by assumption) ?r8_27
              case h8_27 =>
                simp only [List.getElem?_toArray, List.getElem?_cons_succ, List.getElem?_cons_zero]
                rfl
              case q8_27 => exact fun _ _ _ h => h
              case z8_27 => rfl
              case y8_27 =>
                intro w hSw
                try dsimp only at hSw
                go_simp
                try with_reducible rfl
              try simp only [Act.put, List.setIfInBounds_toArray, List.set_cons_zero, List.set_cons_succ]
              refine wpAnyH_take (i := 9) (oi := ?o9_28) (v := ?v9_28) ?h9_28 (by kernel_rfl) (by kernel_rfl) (by kernel_rfl) ?q9_28 (Or.inl ⟨?z9_28, ?y9_28⟩) (by assumption) ?r9_28
              case h9_28 =>
                simp only [List.getElem?_toArray, List.getElem?_cons_succ, List.getElem?_cons_zero]
                rfl
              case q9_28 => exact fun _ _ _ h => h
              case z9_28 => rfl
              case y9_28 =>
                intro w hSw
                try dsimp only at hSw
                go_simp
                try with_reducible rfl
              try simp only [Act.put, List.setIfInBounds_toArray, List.set_cons_zero, List.set_cons_succ]
              refine wpAnyH_ready (rs := [11]) (by kernel_rfl) (by simp) ?_
              refine AllReadyH.cons (o := ?o11_29) ?h11_29 (fun K hK => ?k11_29) AllReadyH.nil
              case h11_29 =>
                simp only [List.getElem?_toArray, List.getElem?_cons_succ, List.getElem?_cons_zero]
                rfl
              go_simp
              refine hK.out _ _ (by first | exact ⟨HM6.out.box.cell 0, HM6.out.box.cell 1⟩ | go_keep) (fun hHeld29 => ?_)
              clear hK K
              try simp only [Act.put, List.setIfInBounds_toArray, List.set_cons_zero, List.set_cons_succ]
              refine wpAnyH_take (i := 12) (oi := ?o12_30) (v := ?v12_30) ?h12_30 (by kernel_rfl) (by kernel_rfl) (by kernel_rfl) ?q12_30 (Or.inl ⟨?z12_30, ?y12_30⟩) (by assumption) ?r12_30
              case h12_30 =>
                simp only [List.getElem?_toArray, List.getElem?_cons_succ, List.getElem?_cons_zero]
                rfl
              case q12_30 => exact fun _ _ _ h => h
              case z12_30 => rfl
              case y12_30 =>
                intro w hSw
                try dsimp only at hSw
                go_simp
                try with_reducible rfl
              try simp only [Act.put, List.setIfInBounds_toArray, List.set_cons_zero, List.set_cons_succ]
              refine wpAnyH_take (i := 13) (oi := ?o13_31) (v := ?v13_31) ?h13_31 (by kernel_rfl) (by kernel_rfl) (by kernel_rfl) ?q13_31 (Or.inl ⟨?z13_31, ?y13_31⟩) (by assumption) ?r13_31
              case h13_31 =>
                simp only [List.getElem?_toArray, List.getElem?_cons_succ, List.getElem?_cons_zero]
                rfl
              case q13_31 => exact fun _ _ _ h => h
              case z13_31 => rfl
              case y13_31 =>
                intro w hSw
                try dsimp only at hSw
                go_simp
                try with_reducible rfl
              try simp only [Act.put, List.setIfInBounds_toArray, List.set_cons_zero, List.set_cons_succ]
              refine wpAnyH_done (by kernel_rfl) ?_ _
              go_wp2_with fail
              go_meet
              exact ⟨(w5.heap.size + 1), al, sR, fR, tR, cR, A5, n5, c5, rfl, rfl, rfl, Lib.hid ⟨hal1, hr⟩, Lib.hid (by have := (BX.out.set_ 0 (.string sR)).set_ 1 (.slice A5 n5 c5); simpa using this), HM6, HO6, Lib.hid ⟨_, _, (by have := HMA.out.box.lt; first | omega | (simp; omega)), HL6.out⟩⟩
          case k10_4 =>
            go_simp
            refine hK.out _ _ (by first | exact ⟨(HM.out.step (((Below.refl w5.heap.size w5).alloc (by simp) (.cells #[.string ⟨#[]⟩, .slice none 0 0] 29)).drew)).box.cell 0, (HM.out.step (((Below.refl w5.heap.size w5).alloc (by simp) (.cells #[.string ⟨#[]⟩, .slice none 0 0] 29)).drew)).box.cell 1⟩ | go_keep) (fun hHeld4 => ?_)
            clear hK K
            try simp only [Act.put, List.setIfInBounds_toArray, List.set_cons_zero, List.set_cons_succ]
            refine wpAnyH_ready (rs := [3]) (by kernel_rfl) (by simp) ?_
            refine AllReadyH.cons (o := ?o3_32) ?h3_32 (fun K hK => ?k3_32) AllReadyH.nil
            case h3_32 =>
              simp only [List.getElem?_toArray, List.getElem?_cons_succ, List.getElem?_cons_zero]
              rfl
            go_simp
            refine hK.out _ _ (by first | exact ⟨(HM.out.step ((((Below.refl w5.heap.size w5).alloc (by simp) (.cells #[.string ⟨#[]⟩, .slice none 0 0] 29)).alloc (by simp) (.cells #[.int .i64 1, .int .i64 2, .int .i64 4, .int .i64 8] 2)).drew)).box.cell 0, (HM.out.step ((((Below.refl w5.heap.size w5).alloc (by simp) (.cells #[.string ⟨#[]⟩, .slice none 0 0] 29)).alloc (by simp) (.cells #[.int .i64 1, .int .i64 2, .int .i64 4, .int .i64 8] 2)).drew)).box.cell 1⟩ | go_keep) (fun hHeld32 => ?_)
            clear hK K
            try simp only [Act.put, List.setIfInBounds_toArray, List.set_cons_zero, List.set_cons_succ]
            refine wpAnyH_ready (rs := [4]) (by kernel_rfl) (by simp) ?_
            refine AllReadyH.cons (o := ?o4_33) ?h4_33 (fun K hK => ?k4_33) AllReadyH.nil
            case h4_33 =>
              simp only [List.getElem?_toArray, List.getElem?_cons_succ, List.getElem?_cons_zero]
              rfl
            have hbw0 : MB w ((w5.alloc (.cells #[.string ⟨#[]⟩, .slice none 0 0] 29)).alloc (.cells #[.int .i64 1, .int .i64 2, .int .i64 4, .int .i64 8] 2)).drew q (KK + 4 + (8 - j) * 2000 + 4) w.heap.size w2.heap.size s (.slice fA fN fC) taken (.slice uA uN uC) := HM.out.step ((((Below.refl w5.heap.size w5).alloc (by simp) (.cells #[.string ⟨#[]⟩, .slice none 0 0] 29)).alloc (by simp) (.cells #[.int .i64 1, .int .i64 2, .int .i64 4, .int .i64 8] 2)).drew)
            have hbo0 : MO ((w5.alloc (.cells #[.string ⟨#[]⟩, .slice none 0 0] 29)).alloc (.cells #[.int .i64 1, .int .i64 2, .int .i64 4, .int .i64 8] 2)).drew w.heap.size w2.heap.size s fs (.slice uA uN uC) (.slice fA fN fC) := HO.out.step ((((Below.refl w5.heap.size w5).alloc (by simp) (.cells #[.string ⟨#[]⟩, .slice none 0 0] 29)).alloc (by simp) (.cells #[.int .i64 1, .int .i64 2, .int .i64 4, .int .i64 8] 2)).drew)
            have hbx0 : Blk ((w5.alloc (.cells #[.string ⟨#[]⟩, .slice none 0 0] 29)).alloc (.cells #[.int .i64 1, .int .i64 2, .int .i64 4, .int .i64 8] 2)).drew (w5.heap.size + 1) 2 #[.int .i64 1, .int .i64 2, .int .i64 4, .int .i64 8] := (show Blk (((w5.alloc (.cells #[.string ⟨#[]⟩, .slice none 0 0] 29)).alloc (.cells #[.int .i64 1, .int .i64 2, .int .i64 4, .int .i64 8] 2)).drew) (w5.heap.size + 1) 2 #[.int .i64 1, .int .i64 2, .int .i64 4, .int .i64 8] by have := (Blk.new (w5.alloc (.cells #[.string ⟨#[]⟩, .slice none 0 0] 29)) 2 #[.int .i64 1, .int .i64 2, .int .i64 4, .int .i64 8]).drew; simpa using this)
            have hbz0 : Blk ((w5.alloc (.cells #[.string ⟨#[]⟩, .slice none 0 0] 29)).alloc (.cells #[.int .i64 1, .int .i64 2, .int .i64 4, .int .i64 8] 2)).drew w5.heap.size 29 #[.string ⟨#[]⟩, .slice none 0 0] := ((Blk.new w5 29 #[.string ⟨#[]⟩, .slice none 0 0]).alloc (.cells #[.int .i64 1, .int .i64 2, .int .i64 4, .int .i64 8] 2)).drew
            go_simp
            go_at_call 60
            refine (amongFour hbw0.src (by omega) (by have := HM.out.box.lt; omega) hbx0).mono ?_
            rintro e wa ⟨al, hal1, hal8, rfl, Sa, ka⟩
            have HMA := Lib.hid (hbw0.drawn ka Sa)
            have HOA := Lib.hid (hbo0.drawn ka (by omega))
            have hsa : w5.heap.size ≤ wa.heap.size := by have := ka.size; simp at this; omega
            have HXA : Hid (Blk wa w5.heap.size 29 #[.string ⟨#[]⟩, .slice none 0 0]) := (ka.block _ hbz0.lt (.inr (by have := HM.out.box.lt; omega))).trans hbz0
            clear hbw0 hbo0 hbx0 hbz0
            try go_wp2_with fail
            refine hK.out _ _ (by first | exact ⟨HMA.out.box.cell 0, HMA.out.box.cell 1⟩ | go_keep) (fun hHeld33 => ?_)
            clear hK K
            try simp only [Act.put, List.setIfInBounds_toArray, List.set_cons_zero, List.set_cons_succ]
            refine wpAnyH_ready (rs := [5]) (by kernel_rfl) (by simp) ?_
            refine AllReadyH.cons (o := ?o5_34) ?h5_34 (fun K hK => ?k5_34) AllReadyH.nil
            case h5_34 =>
              simp only [List.getElem?_toArray, List.getElem?_cons_succ, List.getElem?_cons_zero]
              rfl
            go_simp
            go_at_call 47
            have hAC := l10Alloc_all (z := (Z : Int)) (a := al) (HOA.out.step (Below.refl wa.heap.size wa)).rep HOA.out.cap (memF HOA.out.ok) (by omega) (WalkArith.wf_i64 (by omega)) hal1 hal8
            obtain ⟨⟨⟨sR, fR⟩, tR, cR⟩, hr⟩ : ∃ r, allocM s fs (Z : Int) al = r := ⟨_, rfl⟩
            rw [hr] at hAC
            refine hAC.mono ?_
            rintro e wq ⟨us, rfl, hl, hbq⟩
            obtain ⟨A5, n5, c5, hus⟩ := mem_form hl
            simp only at hus
            subst hus
            obtain ⟨_, hL5⟩ := mem_lv hl
            have hB5 : Below wa.heap.size wa wq := (Below.refl wa.heap.size wa).trans (hbq.mono (Below.refl wa.heap.size wa).size)
            have HMQ := Lib.hid (HMA.out.step hB5)
            have HOQ := Lib.hid (HOA.out.step hB5)
            have hla := HMA.out.box.lt
            have HL5 : Hid (LvA wq w2.heap.size fR (.slice A5 n5 c5)) := ⟨_, _, (by first | omega | (simp; omega)), hL5⟩
            clear hl
            have bX : Blk wq w5.heap.size 29 #[.string ⟨#[]⟩, .slice none 0 0] := (HXA.out.step hB5)
            have x0 : wq.cell? ⟨w5.heap.size, 0, none⟩ = some (.string ⟨#[]⟩) := bX.cell 0
            have x1 : wq.cell? ⟨w5.heap.size, 1, none⟩ = some (.slice none 0 0) := bX.cell 1
            have g0 := bX.frozen 0
            have g1 := bX.frozen 1
            have BX := Lib.hid bX
            clear bX
            have HXL := Lib.hid HXA.out.lt
            have HM6 := Lib.hid (HMQ.out.far2 (p := w5.heap.size) (by have := HM.out.box.lt; omega) (fun e => by have := (HM.out.row.lt _ e).2; omega) (.string sR) (.slice A5 n5 c5))
            have HO6 := Lib.hid (HOQ.out.far2 (p := w5.heap.size) (fun e => by have := (HO.out.own.lt _ e).2; omega) (.string sR) (.slice A5 n5 c5))
            have HL6 := Lib.hid ((hL5.setCell (p := ⟨w5.heap.size, 0, none⟩) (.inl (by have := HXL.out; first | omega | (simp; try omega))) (.string sR)).setCell (p := ⟨w5.heap.size, 1, none⟩) (.inl (by have := HXL.out; first | omega | (simp; try omega))) (.slice A5 n5 c5))
            clear hL5
            try go_wp2_with fail
            refine hK.out _ _ (by first | exact ⟨HMQ.out.box.cell 0, HMQ.out.box.cell 1⟩ | go_keep) (fun hHeld34 => ?_)
            clear hK K
            try simp only [Act.put, List.setIfInBounds_toArray, List.set_cons_zero, List.set_cons_succ]
            refine wpAnyH_take (i := 6) (oi := ?o6_35) (v := ?v6_35) ?h6_35 (by kernel_rfl) (by kernel_rfl) (by kernel_rfl) ?q6_35 (Or.inl ⟨?z6_35, ?y6_35⟩) (by assumption) ?r6_35
            case h6_35 =>
              simp only [List.getElem?_toArray, List.getElem?_cons_succ, List.getElem?_cons_zero]
              rfl
            case q6_35 => exact fun _ _ _ h => h
            case z6_35 => rfl
            case y6_35 =>
              intro w hSw
              try dsimp only at hSw
              go_simp
              try with_reducible rfl
            try simp only [Act.put, List.setIfInBounds_toArray, List.set_cons_zero, List.set_cons_succ]
            refine wpAnyH_take (i := 7) (oi := ?o7_36) (v := ?v7_36) ?h7_36 (by kernel_rfl) (by kernel_rfl) (by kernel_rfl) ?q7_36 (Or.inl ⟨?z7_36, ?y7_36⟩) (by assumption) ?r7_36
            case h7_36 =>
              simp only [List.getElem?_toArray, List.getElem?_cons_succ, List.getElem?_cons_zero]
              rfl
            case q7_36 => exact fun _ _ _ h => h
            case z7_36 => rfl
            case y7_36 =>
              intro w hSw
              try dsimp only at hSw
              go_simp
              try with_reducible rfl
            try simp only [Act.put, List.setIfInBounds_toArray, List.set_cons_zero, List.set_cons_succ]
            refine wpAnyH_take (i := 8) (oi := ?o8_37) (v := ?v8_37) ?h8_37 (by kernel_rfl) (by kernel_rfl) (by kernel_rfl) ?q8_37 (Or.inl ⟨?z8_37, ?y8_37⟩) (by assumption) ?r8_37
            case h8_37 =>
              simp only [List.getElem?_toArray, List.getElem?_cons_succ, List.getElem?_cons_zero]
              rfl
            case q8_37 => exact fun _ _ _ h => h
            case z8_37 => rfl
            case y8_37 =>
              intro w hSw
              try dsimp only at hSw
              go_simp
              try with_reducible rfl
            try simp only [Act.put, List.setIfInBounds_toArray, List.set_cons_zero, List.set_cons_succ]
            refine wpAnyH_take (i := 9) (oi := ?o9_38) (v := ?v9_38) ?h9_38 (by kernel_rfl) (by kernel_rfl) (by kernel_rfl) ?q9_38 (Or.inl ⟨?z9_38, ?y9_38⟩) (by assumption) ?r9_38
            case h9_38 =>
              simp only [List.getElem?_toArray, List.getElem?_cons_succ, List.getElem?_cons_zero]
              rfl
            case q9_38 => exact fun _ _ _ h => h
            case z9_38 => rfl
            case y9_38 =>
              intro w hSw
              try dsimp only at hSw
              go_simp
              try with_reducible rfl
            try simp only [Act.put, List.setIfInBounds_toArray, List.set_cons_zero, List.set_cons_succ]
            refine wpAnyH_ready (rs := [11]) (by kernel_rfl) (by simp) ?_
            refine AllReadyH.cons (o := ?o11_39) ?h11_39 (fun K hK => ?k11_39) AllReadyH.nil
            case h11_39 =>
              simp only [List.getElem?_toArray, List.getElem?_cons_succ, List.getElem?_cons_zero]
              rfl
            go_simp
            refine hK.out _ _ (by first | exact ⟨HM6.out.box.cell 0, HM6.out.box.cell 1⟩ | go_keep) (fun hHeld39 => ?_)
            clear hK K
            try simp only [Act.put, List.setIfInBounds_toArray, List.set_cons_zero, List.set_cons_succ]
            refine wpAnyH_take (i := 12) (oi := ?o12_40) (v := ?v12_40) ?h12_40 (by kernel_rfl) (by kernel_rfl) (by kernel_rfl) ?q12_40 (Or.inl ⟨?z12_40, ?y12_40⟩) (by assumption) ?r12_40
            case h12_40 =>
              simp only [List.getElem?_toArray, List.getElem?_cons_succ, List.getElem?_cons_zero]
              rfl
            case q12_40 => exact fun _ _ _ h => h
            case z12_40 => rfl
            case y12_40 =>
              intro w hSw
              try dsimp only at hSw
              go_simp
              try with_reducible rfl
            try simp only [Act.put, List.setIfInBounds_toArray, List.set_cons_zero, List.set_cons_succ]
            refine wpAnyH_take (i := 13) (oi := ?o13_41) (v := ?v13_41) ?h13_41 (by kernel_rfl) (by kernel_rfl) (by kernel_rfl) ?q13_41 (Or.inl ⟨?z13_41, ?y13_41⟩) (by assumption) ?r13_41
            case h13_41 =>
              simp only [List.getElem?_toArray, List.getElem?_cons_succ, List.getElem?_cons_zero]
              rfl
            case q13_41 => exact fun _ _ _ h => h
            case z13_41 => rfl
            case y13_41 =>
              intro w hSw
              try dsimp only at hSw
              go_simp
              try with_reducible rfl
            try simp only [Act.put, List.setIfInBounds_toArray, List.set_cons_zero, List.set_cons_succ]
            refine wpAnyH_done (by kernel_rfl) ?_ _
            go_wp2_with fail
            go_meet
            exact ⟨w5.heap.size, al, sR, fR, tR, cR, A5, n5, c5, rfl, rfl, rfl, Lib.hid ⟨hal1, hr⟩, Lib.hid (by have := (BX.out.set_ 0 (.string sR)).set_ 1 (.slice A5 n5 c5); simpa using this), HM6, HO6, Lib.hid ⟨_, _, (by have := HMA.out.box.lt; first | omega | (simp; omega)), HL6.out⟩⟩
        case rest =>
          obtain ⟨px, al, sR, fR, tR, cR, A5, n5, c5, rfl, rfl, rfl, HR, HBX, HM2, HO2, HL2⟩ := hcut
          clear HM HO m0 m1
          cases hres : allocR fs (Z : Int) al with
          | none =>
            have e := HR.out.2
            rw [allocM_none hres] at e
            simp only [Prod.mk.injEq] at e
            obtain ⟨_, rfl, rfl⟩ := e
            have hjw : IntKind.i64.wrap ((j : Int) - 1) = (j : Int) - 1 := IntWalk.i64_in _ (by omega)
            go_wp2_with fail
            go_roundw
            case rel => exact ⟨j - 1, s, fs, taken, _, _, rfl, by go_num, by omega, by omega, Lib.hid ((HM2.out).more (by omega)), HO2⟩
            case measure => simp [intOf]; omega
          | some x =>
            obtain ⟨l, t⟩ := x
            have e := HR.out.2
            rw [allocM_some hres] at e
            simp only [Prod.mk.injEq, Memory.mk.injEq] at e
            obtain ⟨⟨rfl, rfl⟩, rfl, rfl⟩ := e
            have hma := memOk_alloc HO2.out.ok (by omega) HR.out.1 hres
            have hss := (memF HO2.out.ok).size
            have HOK := Lib.hid hma.1
            obtain ⟨_, ht0, htz⟩ := hma
            clear hres HR
            have x0 : wc.cell? ⟨px, 0, none⟩ = some (.string s) := HBX.out.cell 0
            have x1 : wc.cell? ⟨px, 1, none⟩ = some (.slice A5 n5 c5) := HBX.out.cell 1
            have g0 := HM2.out.box.frozen 0
            have g1 := HM2.out.box.frozen 1
            have y0 : wc.cell? ⟨w2.heap.size, 0, none⟩ = some (.string s) := HM2.out.box.cell 0
            have y1 : wc.cell? ⟨w2.heap.size, 1, none⟩ = some (.slice fA fN fC) := HM2.out.box.cell 1
            have HM3 := Lib.hid (HM2.out.setm s (.slice A5 n5 c5))
            have HL3 := Lib.hid (HL2.out.setm (.string s) (.slice A5 n5 c5))
            go_upto_region 15 with fail
            obtain ⟨w3, hw3⟩ : ∃ V, V = ((wc.setCell ⟨w2.heap.size, 0, none⟩ (.string s)).setCell ⟨w2.heap.size, 1, none⟩ (.slice A5 n5 c5)) := ⟨_, rfl⟩
            rw [← hw3] at HM3 HL3 ⊢
            have HM4 := Lib.hid (HM3.out.step (show Below w3.heap.size w3 w3.drew from (Below.refl _ _).drew))
            have HL4 := Lib.hid (HL3.out.step (show Below w3.heap.size w3 w3.drew from (Below.refl _ _).drew))
            have m0 : w3.cell? ⟨w2.heap.size, 0, none⟩ = some (.string s) := HM3.out.box.cell 0
            have m1 : w3.cell? ⟨w2.heap.size, 1, none⟩ = some (.slice A5 n5 c5) := HM3.out.box.cell 1
            clear hw3 HM2 HO2 HL2 HBX x0 x1 g0 g1 y0 y1
            refine wp_region_held_drew (S := (fun _ => True)) (by kernel_rfl) trivial (fun hHeld => ?_)
            refine wpAnyH_take (i := 1) (oi := ?o1_42) (v := ?v1_42) ?h1_42 (by kernel_rfl) (by kernel_rfl) (by kernel_rfl) ?q1_42 (Or.inl ⟨?z1_42, ?y1_42⟩) (by assumption) ?r1_42
            case h1_42 =>
              simp only [List.getElem?_toArray, List.getElem?_cons_succ, List.getElem?_cons_zero]
              rfl
            case q1_42 => exact fun _ _ _ h => h
            case z1_42 => rfl
            case y1_42 =>
              intro w hSw
              try dsimp only at hSw
              go_simp
              try with_reducible rfl
            try simp only [Act.put, List.setIfInBounds_toArray, List.set_cons_zero, List.set_cons_succ]
            refine wpAnyH_take (i := 2) (oi := ?o2_43) (v := ?v2_43) ?h2_43 (by kernel_rfl) (by kernel_rfl) (by kernel_rfl) ?q2_43 (Or.inl ⟨?z2_43, ?y2_43⟩) (by assumption) ?r2_43
            case h2_43 =>
              simp only [List.getElem?_toArray, List.getElem?_cons_succ, List.getElem?_cons_zero]
              rfl
            case q2_43 => exact fun _ _ _ h => h
            case z2_43 => rfl
            case y2_43 =>
              intro w hSw
              try dsimp only at hSw
              go_simp
              try with_reducible rfl
            try simp only [Act.put, List.setIfInBounds_toArray, List.set_cons_zero, List.set_cons_succ]
            refine wpAnyH_take (i := 3) (oi := ?o3_44) (v := ?v3_44) ?h3_44 (by kernel_rfl) (by kernel_rfl) (by kernel_rfl) ?q3_44 (Or.inl ⟨?z3_44, ?y3_44⟩) (by assumption) ?r3_44
            case h3_44 =>
              simp only [List.getElem?_toArray, List.getElem?_cons_succ, List.getElem?_cons_zero]
              rfl
            case q3_44 => exact fun _ _ _ h => h
            case z3_44 => rfl
            case y3_44 =>
              intro w hSw
              try dsimp only at hSw
              go_simp
              try with_reducible rfl
            try simp only [Act.put, List.setIfInBounds_toArray, List.set_cons_zero, List.set_cons_succ]
            refine wpAnyH_ready (rs := [0, 4]) (by kernel_rfl) (by simp) ?_
            refine AllReadyH.cons (o := ?o0_45) ?h0_45 (fun K hK => ?k0_45) (AllReadyH.cons (o := ?o4_45) ?h4_45 (fun K hK => ?k4_45) AllReadyH.nil)
            case h0_45 =>
              simp only [List.getElem?_toArray, List.getElem?_cons_succ, List.getElem?_cons_zero]
              rfl
            case h4_45 =>
              simp only [List.getElem?_toArray, List.getElem?_cons_succ, List.getElem?_cons_zero]
              rfl
            case k0_45 =>
              go_simp
              refine hK.out _ _ (by first | exact trivial | go_keep) (fun hHeld45 => ?_)
              clear hK K
              try simp only [Act.put, List.setIfInBounds_toArray, List.set_cons_zero, List.set_cons_succ]
              refine wpAnyH_ready (rs := [4]) (by kernel_rfl) (by simp) ?_
              refine AllReadyH.cons (o := ?o4_46) ?h4_46 (fun K hK => ?k4_46) AllReadyH.nil
              case h4_46 =>
                simp only [List.getElem?_toArray, List.getElem?_cons_succ, List.getElem?_cons_zero]
                rfl
              go_simp
              go_at_call 78
              refine (word_any HM4.out.src (by omega) (by omega)).mono ?_
              rintro e ww ⟨xs, hxs, rfl, Sw, kw⟩
              have HMW := Lib.hid (HM4.out.drawn kw Sw)
              have HLW := Lib.hid (HL4.out.drawn kw (by omega))
              have y0 : ww.cell? ⟨w2.heap.size, 0, none⟩ = some (.string s) := HMW.out.box.cell 0
              have y1 : ww.cell? ⟨w2.heap.size, 1, none⟩ = some (.slice A5 n5 c5) := HMW.out.box.cell 1
              clear Sw kw
              try go_wp2_with fail
              refine hK.out _ _ (by first | exact trivial | go_keep) (fun hHeld46 => ?_)
              clear hK K
              try simp only [Act.put, List.setIfInBounds_toArray, List.set_cons_zero, List.set_cons_succ]
              refine wpAnyH_ready (rs := [5]) (by kernel_rfl) (by simp) ?_
              refine AllReadyH.cons (o := ?o5_47) ?h5_47 (fun K hK => ?k5_47) AllReadyH.nil
              case h5_47 =>
                simp only [List.getElem?_toArray, List.getElem?_cons_succ, List.getElem?_cons_zero]
                rfl
              go_simp
              go_at_call 77
              refine (l10Write_any HOK.out HLW.out.rep ht0 (by omega)).mono ?_
              rintro e wx ⟨s9, u9, rfl, hs9, hown9, hbx⟩
              obtain ⟨A9, n9, c9, rfl⟩ := owns_form hown9
              have HMX := Lib.hid (HMW.out.step hbx)
              have HOW : Hid (wx.ownsRow ww.heap.size 49 2 (.slice A9 n9 c9) l.length (bvals l)) := owns_mono2 hown9 (by omega)
              have g0 := HMX.out.box.frozen 0
              have g1 := HMX.out.box.frozen 1
              have z0 : wx.cell? ⟨w2.heap.size, 0, none⟩ = some (.string s) := HMX.out.box.cell 0
              have z1 : wx.cell? ⟨w2.heap.size, 1, none⟩ = some (.slice A5 n5 c5) := HMX.out.box.cell 1
              try go_wp2_with fail
              refine hK.out _ _ (by first | exact trivial | go_keep) (fun hHeld47 => ?_)
              clear hK K
              try simp only [Act.put, List.setIfInBounds_toArray, List.set_cons_zero, List.set_cons_succ]
              refine wpAnyH_take (i := 6) (oi := ?o6_48) (v := ?v6_48) ?h6_48 (by kernel_rfl) (by kernel_rfl) (by kernel_rfl) ?q6_48 (Or.inl ⟨?z6_48, ?y6_48⟩) (by assumption) ?r6_48
              case h6_48 =>
                simp only [List.getElem?_toArray, List.getElem?_cons_succ, List.getElem?_cons_zero]
                rfl
              case q6_48 => exact fun _ _ _ h => h
              case z6_48 => rfl
              case y6_48 =>
                intro w hSw
                try dsimp only at hSw
                go_simp
                try with_reducible rfl
              try simp only [Act.put, List.setIfInBounds_toArray, List.set_cons_zero, List.set_cons_succ]
              refine wpAnyH_take (i := 7) (oi := ?o7_49) (v := ?v7_49) ?h7_49 (by kernel_rfl) (by kernel_rfl) (by kernel_rfl) ?q7_49 (Or.inl ⟨?z7_49, ?y7_49⟩) (by assumption) ?r7_49
              case h7_49 =>
                simp only [List.getElem?_toArray, List.getElem?_cons_succ, List.getElem?_cons_zero]
                rfl
              case q7_49 => exact fun _ _ _ h => h
              case z7_49 => rfl
              case y7_49 =>
                intro w hSw
                try dsimp only at hSw
                go_simp
                try with_reducible rfl
              try simp only [Act.put, List.setIfInBounds_toArray, List.set_cons_zero, List.set_cons_succ]
              refine wpAnyH_take (i := 8) (oi := ?o8_50) (v := ?v8_50) ?h8_50 (by kernel_rfl) (by kernel_rfl) (by kernel_rfl) ?q8_50 (Or.inl ⟨?z8_50, ?y8_50⟩) (by assumption) ?r8_50
              case h8_50 =>
                simp only [List.getElem?_toArray, List.getElem?_cons_succ, List.getElem?_cons_zero]
                rfl
              case q8_50 => exact fun _ _ _ h => h
              case z8_50 => rfl
              case y8_50 =>
                intro w hSw
                try dsimp only at hSw
                go_simp
                try with_reducible rfl
              try simp only [Act.put, List.setIfInBounds_toArray, List.set_cons_zero, List.set_cons_succ]
              refine wpAnyH_ready (rs := [9]) (by kernel_rfl) (by simp) ?_
              refine AllReadyH.cons (o := ?o9_51) ?h9_51 (fun K hK => ?k9_51) AllReadyH.nil
              case h9_51 =>
                simp only [List.getElem?_toArray, List.getElem?_cons_succ, List.getElem?_cons_zero]
                rfl
              go_simp
              refine hK.out _ _ (by first | exact trivial | go_keep) (fun hHeld51 => ?_)
              clear hK K
              try simp only [Act.put, List.setIfInBounds_toArray, List.set_cons_zero, List.set_cons_succ]
              refine wpAnyH_done (by kernel_rfl) ?_ _
              have HM9 := HMX.out.setm s9 (.slice A9 n9 c9)
              have HO9 : MO ((wx.setCell ⟨w2.heap.size, 0, none⟩ (.string s9)).setCell ⟨w2.heap.size, 1, none⟩ (.slice A9 n9 c9)) w.heap.size w2.heap.size s9 l (.slice uA uN uC) (.slice A9 n9 c9) := MO.fresh HMW.out HOW.out (memOk_size hs9 HOK.out)
              clear HMX HOW hown9 hbx HMW HLW HM4 HL4 hs9 hxs
              obtain ⟨wf, hwf⟩ : ∃ V, V = ((wx.setCell ⟨w2.heap.size, 0, none⟩ (.string s9)).setCell ⟨w2.heap.size, 1, none⟩ (.slice A9 n9 c9)) := ⟨_, rfl⟩
              rw [← hwf] at HM9 HO9
              replace HM9 := Lib.hid HM9
              replace HO9 := Lib.hid HO9
              have HWF := Lib.hid hwf
              clear hwf
              have HRW : Hid ((wf.alloc (.cells #[Value.int .i64 t, Value.int .i64 (Z : Int)] 49)).ownsRow (w2.heap.size + 1) 49 2 (.slice uA uN uC) taken.length (bvals taken)) := HM9.out.row.alloc _
              have HSC : Hid (SrcOk (wf.alloc (.cells #[Value.int .i64 t, Value.int .i64 (Z : Int)] 49)) (.slice (some ⟨wf.heap.size, 0, none⟩) 1 1) 2 1 (bvals [⟨t, (Z : Int)⟩])) := .inr ⟨⟨wf.heap.size, 0, none⟩, 1, rfl, rfl, by have := news_blk wf ⟨t, (Z : Int)⟩; simpa using this⟩
              have HLT : Hid (taken.length ≤ 8) := by show _ ≤ _; omega
              have hbs : w2.heap.size + 1 ≤ (wf.alloc (.cells #[Value.int .i64 t, Value.int .i64 (Z : Int)] 49)).heap.size := by have := HM9.out.box.lt; simp; omega
              have hsf : wf.heap.size = wx.heap.size := by rw [HWF.out]; simp
              have HSF := Lib.hid hsf
              clear hsf
              rw [HWF.out] at HRW HSC hbs
              have HSX : Hid ((((wx.setCell ⟨w2.heap.size, 0, none⟩ (.string s9)).setCell ⟨w2.heap.size, 1, none⟩ (.slice A9 n9 c9))).heap.size = wx.heap.size) := by show _ = _; simp
              have hjw : IntKind.i64.wrap ((j : Int) - 1) = (j : Int) - 1 := IntWalk.i64_in _ (by omega)
              go_wp2_with (at_builtin; (rw [← HWF.out]; rw [← HWF.out] at HRW HSC hbs; refine wpList_append_src rfl _ _ 27 rfl (w2.heap.size + 1) 49 i0 (.agg #[.int .i64 0, .int .i64 0]) 2 16 Try.underlying27 hi hy0 hy1 hy2 rfl (by decide) (.slice uA uN uC) _ _ rfl HRW.out (.slice (some ⟨wx.heap.size, 0, none⟩) 1 1) _ _ (by rfl) (by rw [← HSF.out]; exact HSC.out) (one_blk _) (by have := HLT.out; simp only [maxLen]; omega) (by have := HLT.out; omega) hbs ?_); intro v' w7 hown' hgrow hor)
              have hwfb : Lit.wf (.int .i64 t) = true := WalkArith.wf_i64 (by omega)
              have hwfz : Lit.wf (.int .i64 (Z : Int)) = true := WalkArith.wf_i64 (by omega)
              have S6 := HM9.out.push ((Below.refl _ _).alloc (Nat.le_refl _) _) hgrow (t2 := taken ++ [⟨t, (Z : Int)⟩]) (by rw [bvals_append, List.length_append]; exact hown') (fun b hb => by rcases List.mem_append.1 hb with hb | hb; exact HM9.out.wf b hb; rw [List.mem_singleton.1 hb]; exact ⟨hwfb, hwfz⟩)
              have T6 := Lib.hid (HO9.out.push ((Below.refl _ _).alloc (Nat.le_refl _) _) hgrow hor)
              go_roundw
              case rel => exact ⟨j - 1, s9, l, taken ++ [⟨t, (Z : Int)⟩], _, _, rfl, by go_num, by omega, by rw [List.length_append, List.length_singleton]; omega, Lib.hid ((S6).more (by omega)), T6⟩
              case measure => simp [intOf]; omega
            case k4_45 =>
              go_simp
              go_at_call 78
              refine (word_any HM4.out.src (by omega) (by omega)).mono ?_
              rintro e ww ⟨xs, hxs, rfl, Sw, kw⟩
              have HMW := Lib.hid (HM4.out.drawn kw Sw)
              have HLW := Lib.hid (HL4.out.drawn kw (by omega))
              have y0 : ww.cell? ⟨w2.heap.size, 0, none⟩ = some (.string s) := HMW.out.box.cell 0
              have y1 : ww.cell? ⟨w2.heap.size, 1, none⟩ = some (.slice A5 n5 c5) := HMW.out.box.cell 1
              clear Sw kw
              try go_wp2_with fail
              refine hK.out _ _ (by first | exact trivial | go_keep) (fun hHeld45 => ?_)
              clear hK K
              try simp only [Act.put, List.setIfInBounds_toArray, List.set_cons_zero, List.set_cons_succ]
              refine wpAnyH_ready (rs := [0]) (by kernel_rfl) (by simp) ?_
              refine AllReadyH.cons (o := ?o0_52) ?h0_52 (fun K hK => ?k0_52) AllReadyH.nil
              case h0_52 =>
                simp only [List.getElem?_toArray, List.getElem?_cons_succ, List.getElem?_cons_zero]
                rfl
              go_simp
              refine hK.out _ _ (by first | exact trivial | go_keep) (fun hHeld52 => ?_)
              clear hK K
              try simp only [Act.put, List.setIfInBounds_toArray, List.set_cons_zero, List.set_cons_succ]
              refine wpAnyH_ready (rs := [5]) (by kernel_rfl) (by simp) ?_
              refine AllReadyH.cons (o := ?o5_53) ?h5_53 (fun K hK => ?k5_53) AllReadyH.nil
              case h5_53 =>
                simp only [List.getElem?_toArray, List.getElem?_cons_succ, List.getElem?_cons_zero]
                rfl
              go_simp
              go_at_call 77
              refine (l10Write_any HOK.out HLW.out.rep ht0 (by omega)).mono ?_
              rintro e wx ⟨s9, u9, rfl, hs9, hown9, hbx⟩
              obtain ⟨A9, n9, c9, rfl⟩ := owns_form hown9
              have HMX := Lib.hid (HMW.out.step hbx)
              have HOW : Hid (wx.ownsRow ww.heap.size 49 2 (.slice A9 n9 c9) l.length (bvals l)) := owns_mono2 hown9 (by omega)
              have g0 := HMX.out.box.frozen 0
              have g1 := HMX.out.box.frozen 1
              have z0 : wx.cell? ⟨w2.heap.size, 0, none⟩ = some (.string s) := HMX.out.box.cell 0
              have z1 : wx.cell? ⟨w2.heap.size, 1, none⟩ = some (.slice A5 n5 c5) := HMX.out.box.cell 1
              try go_wp2_with fail
              refine hK.out _ _ (by first | exact trivial | go_keep) (fun hHeld53 => ?_)
              clear hK K
              try simp only [Act.put, List.setIfInBounds_toArray, List.set_cons_zero, List.set_cons_succ]
              refine wpAnyH_take (i := 6) (oi := ?o6_54) (v := ?v6_54) ?h6_54 (by kernel_rfl) (by kernel_rfl) (by kernel_rfl) ?q6_54 (Or.inl ⟨?z6_54, ?y6_54⟩) (by assumption) ?r6_54
              case h6_54 =>
                simp only [List.getElem?_toArray, List.getElem?_cons_succ, List.getElem?_cons_zero]
                rfl
              case q6_54 => exact fun _ _ _ h => h
              case z6_54 => rfl
              case y6_54 =>
                intro w hSw
                try dsimp only at hSw
                go_simp
                try with_reducible rfl
              try simp only [Act.put, List.setIfInBounds_toArray, List.set_cons_zero, List.set_cons_succ]
              refine wpAnyH_take (i := 7) (oi := ?o7_55) (v := ?v7_55) ?h7_55 (by kernel_rfl) (by kernel_rfl) (by kernel_rfl) ?q7_55 (Or.inl ⟨?z7_55, ?y7_55⟩) (by assumption) ?r7_55
              case h7_55 =>
                simp only [List.getElem?_toArray, List.getElem?_cons_succ, List.getElem?_cons_zero]
                rfl
              case q7_55 => exact fun _ _ _ h => h
              case z7_55 => rfl
              case y7_55 =>
                intro w hSw
                try dsimp only at hSw
                go_simp
                try with_reducible rfl
              try simp only [Act.put, List.setIfInBounds_toArray, List.set_cons_zero, List.set_cons_succ]
              refine wpAnyH_take (i := 8) (oi := ?o8_56) (v := ?v8_56) ?h8_56 (by kernel_rfl) (by kernel_rfl) (by kernel_rfl) ?q8_56 (Or.inl ⟨?z8_56, ?y8_56⟩) (by assumption) ?r8_56
              case h8_56 =>
                simp only [List.getElem?_toArray, List.getElem?_cons_succ, List.getElem?_cons_zero]
                rfl
              case q8_56 => exact fun _ _ _ h => h
              case z8_56 => rfl
              case y8_56 =>
                intro w hSw
                try dsimp only at hSw
                go_simp
                try with_reducible rfl
              try simp only [Act.put, List.setIfInBounds_toArray, List.set_cons_zero, List.set_cons_succ]
              refine wpAnyH_ready (rs := [9]) (by kernel_rfl) (by simp) ?_
              refine AllReadyH.cons (o := ?o9_57) ?h9_57 (fun K hK => ?k9_57) AllReadyH.nil
              case h9_57 =>
                simp only [List.getElem?_toArray, List.getElem?_cons_succ, List.getElem?_cons_zero]
                rfl
              go_simp
              refine hK.out _ _ (by first | exact trivial | go_keep) (fun hHeld57 => ?_)
              clear hK K
              try simp only [Act.put, List.setIfInBounds_toArray, List.set_cons_zero, List.set_cons_succ]
              refine wpAnyH_done (by kernel_rfl) ?_ _
              have HM9 := HMX.out.setm s9 (.slice A9 n9 c9)
              have HO9 : MO ((wx.setCell ⟨w2.heap.size, 0, none⟩ (.string s9)).setCell ⟨w2.heap.size, 1, none⟩ (.slice A9 n9 c9)) w.heap.size w2.heap.size s9 l (.slice uA uN uC) (.slice A9 n9 c9) := MO.fresh HMW.out HOW.out (memOk_size hs9 HOK.out)
              clear HMX HOW hown9 hbx HMW HLW HM4 HL4 hs9 hxs
              obtain ⟨wf, hwf⟩ : ∃ V, V = ((wx.setCell ⟨w2.heap.size, 0, none⟩ (.string s9)).setCell ⟨w2.heap.size, 1, none⟩ (.slice A9 n9 c9)) := ⟨_, rfl⟩
              rw [← hwf] at HM9 HO9
              replace HM9 := Lib.hid HM9
              replace HO9 := Lib.hid HO9
              have HWF := Lib.hid hwf
              clear hwf
              have HRW : Hid ((wf.alloc (.cells #[Value.int .i64 t, Value.int .i64 (Z : Int)] 49)).ownsRow (w2.heap.size + 1) 49 2 (.slice uA uN uC) taken.length (bvals taken)) := HM9.out.row.alloc _
              have HSC : Hid (SrcOk (wf.alloc (.cells #[Value.int .i64 t, Value.int .i64 (Z : Int)] 49)) (.slice (some ⟨wf.heap.size, 0, none⟩) 1 1) 2 1 (bvals [⟨t, (Z : Int)⟩])) := .inr ⟨⟨wf.heap.size, 0, none⟩, 1, rfl, rfl, by have := news_blk wf ⟨t, (Z : Int)⟩; simpa using this⟩
              have HLT : Hid (taken.length ≤ 8) := by show _ ≤ _; omega
              have hbs : w2.heap.size + 1 ≤ (wf.alloc (.cells #[Value.int .i64 t, Value.int .i64 (Z : Int)] 49)).heap.size := by have := HM9.out.box.lt; simp; omega
              have hsf : wf.heap.size = wx.heap.size := by rw [HWF.out]; simp
              have HSF := Lib.hid hsf
              clear hsf
              rw [HWF.out] at HRW HSC hbs
              have HSX : Hid ((((wx.setCell ⟨w2.heap.size, 0, none⟩ (.string s9)).setCell ⟨w2.heap.size, 1, none⟩ (.slice A9 n9 c9))).heap.size = wx.heap.size) := by show _ = _; simp
              have hjw : IntKind.i64.wrap ((j : Int) - 1) = (j : Int) - 1 := IntWalk.i64_in _ (by omega)
              go_wp2_with (at_builtin; (rw [← HWF.out]; rw [← HWF.out] at HRW HSC hbs; refine wpList_append_src rfl _ _ 27 rfl (w2.heap.size + 1) 49 i0 (.agg #[.int .i64 0, .int .i64 0]) 2 16 Try.underlying27 hi hy0 hy1 hy2 rfl (by decide) (.slice uA uN uC) _ _ rfl HRW.out (.slice (some ⟨wx.heap.size, 0, none⟩) 1 1) _ _ (by rfl) (by rw [← HSF.out]; exact HSC.out) (one_blk _) (by have := HLT.out; simp only [maxLen]; omega) (by have := HLT.out; omega) hbs ?_); intro v' w7 hown' hgrow hor)
              have hwfb : Lit.wf (.int .i64 t) = true := WalkArith.wf_i64 (by omega)
              have hwfz : Lit.wf (.int .i64 (Z : Int)) = true := WalkArith.wf_i64 (by omega)
              have S6 := HM9.out.push ((Below.refl _ _).alloc (Nat.le_refl _) _) hgrow (t2 := taken ++ [⟨t, (Z : Int)⟩]) (by rw [bvals_append, List.length_append]; exact hown') (fun b hb => by rcases List.mem_append.1 hb with hb | hb; exact HM9.out.wf b hb; rw [List.mem_singleton.1 hb]; exact ⟨hwfb, hwfz⟩)
              have T6 := Lib.hid (HO9.out.push ((Below.refl _ _).alloc (Nat.le_refl _) _) hgrow hor)
              go_roundw
              case rel => exact ⟨j - 1, s9, l, taken ++ [⟨t, (Z : Int)⟩], _, _, rfl, by go_num, by omega, by rw [List.length_append, List.length_singleton]; omega, Lib.hid ((S6).more (by omega)), T6⟩
              case measure => simp [intOf]; omega
      | true =>
        have hn0 : 0 < uN := hbv rfl
        clear hbv
        obtain ⟨gg, cc, hrow, _, _⟩ := HM.out.row.form (by have := HUN.out; omega)
        injection hrow with e1 e2 e3
        clear e2
        subst e1 e3
        go_wp2_with fail
        refine (pick_any HM.out.src (by omega) (by omega)).mono ?_
        rintro e w5 ⟨x2, hx2, rfl, S5, k5⟩
        have hxl : x2 < uN := by omega
        replace HM := Lib.hid (HM.out.drawn k5 S5)
        replace HO := Lib.hid (HO.out.drawn k5 (by omega))
        clear S5 k5 hx2
        obtain ⟨b, hb, hbm⟩ := at_lt HUN.out hxl
        have hbw := HM.out.wf b hbm
        obtain ⟨ba, bz⟩ := b
        obtain ⟨hw1, hw2⟩ := hbw
        simp only at hw1 hw2
        have m0 : w5.cell? ⟨w2.heap.size, 0, none⟩ = some (.string s) := HM.out.box.cell 0
        have m1 : w5.cell? ⟨w2.heap.size, 1, none⟩ = some (.slice fA fN fC) := HM.out.box.cell 1
        obtain ⟨⟨⟨s2, fs2⟩, cd⟩, hr⟩ : ∃ r, memRel ⟨s, fs⟩ ba bz = r := ⟨_, rfl⟩
        have hok2 : memOk s2 fs2 = true := by have := memOk_rel ba bz HO.out.ok; rw [hr] at this; exact this
        have HREL : Hid (∀ W', Below w5.heap.size w5 W' → Calls Try.prog 29 #[.agg #[.string s, (.slice fA fN fC)], .int .i64 ba, .int .i64 bz] W' fun e w' => MemO W' (⟨s2, fs2⟩, cd) e w') := fun W' hW => by
          have h := specRelO (s := s) (a := ba) (z := bz) (by have := (memF HO.out.ok).size; omega) (HO.out.step hW).rep (blk_wf (memF HO.out.ok)) hw1 hw2 HO.out.cap
          rw [hr] at h
          exact h
        have Q : Hid ((∀ W' : World, W'.ownsRow (w2.heap.size + 1) 49 2 (.slice (some ⟨gg, 0, none⟩) uN uC) taken.length (bvals taken) → W'.cell? ⟨gg, x2 * 2, none⟩ = some (.int .i64 ba)) ∧ (∀ W' : World, W'.ownsRow (w2.heap.size + 1) 49 2 (.slice (some ⟨gg, 0, none⟩) uN uC) taken.length (bvals taken) → W'.cell? ⟨gg, x2 * 2 + 1, none⟩ = some (.int .i64 bz))) := by
          refine ⟨fun W' h => ?_, fun W' h => ?_⟩
          · have := ((owns_at h (by have := HUN.out; omega)).2.1 x2 _ hb).1
            simpa using this
          · have := ((owns_at h (by have := HUN.out; omega)).2.1 x2 _ hb).2
            simpa using this
        have q0 := Q.out.1 _ HM.out.row
        have q1 := Q.out.2 _ HM.out.row
        go_upto_region 9 with fail
        refine wp_region_held_drew (S := (fun w' => w'.cell? ⟨gg, x2 * 2, none⟩ = some (.int .i64 ba) ∧ w'.cell? ⟨gg, x2 * 2 + 1, none⟩ = some (.int .i64 bz))) (by kernel_rfl) ⟨Q.out.1 _ HM.out.row, Q.out.2 _ HM.out.row⟩ (fun hHeld => ?_)
        refine wpAnyH_take (i := 1) (oi := ?o1_80) (v := ?v1_80) ?h1_80 (by kernel_rfl) (by kernel_rfl) (by kernel_rfl) ?q1_80 (Or.inl ⟨?z1_80, ?y1_80⟩) (by assumption) ?r1_80
        case h1_80 =>
          simp only [List.getElem?_toArray, List.getElem?_cons_succ, List.getElem?_cons_zero]
          rfl
        case q1_80 => exact fun _ _ _ h => h
        case z1_80 => rfl
        case y1_80 =>
          intro w hSw
          try dsimp only at hSw
          go_simp
          try with_reducible rfl
        try simp only [Act.put, List.setIfInBounds_toArray, List.set_cons_zero, List.set_cons_succ]
        refine wpAnyH_take (i := 2) (oi := ?o2_81) (v := ?v2_81) ?h2_81 (by kernel_rfl) (by kernel_rfl) (by kernel_rfl) ?q2_81 (Or.inl ⟨?z2_81, ?y2_81⟩) (by assumption) ?r2_81
        case h2_81 =>
          simp only [List.getElem?_toArray, List.getElem?_cons_succ, List.getElem?_cons_zero]
          rfl
        case q2_81 => exact fun _ _ _ h => h
        case z2_81 => rfl
        case y2_81 =>
          intro w hSw
          try dsimp only at hSw
          go_simp
          try with_reducible rfl
        try simp only [Act.put, List.setIfInBounds_toArray, List.set_cons_zero, List.set_cons_succ]
        refine wpAnyH_take (i := 3) (oi := ?o3_82) (v := ?v3_82) ?h3_82 (by kernel_rfl) (by kernel_rfl) (by kernel_rfl) ?q3_82 (Or.inl ⟨?z3_82, ?y3_82⟩) (by assumption) ?r3_82
        case h3_82 =>
          simp only [List.getElem?_toArray, List.getElem?_cons_succ, List.getElem?_cons_zero]
          rfl
        case q3_82 => exact fun _ _ _ h => h
        case z3_82 => rfl
        case y3_82 =>
          intro w hSw
          try dsimp only at hSw
          go_simp
          try with_reducible rfl
        try simp only [Act.put, List.setIfInBounds_toArray, List.set_cons_zero, List.set_cons_succ]
        refine wpAnyH_take (i := 4) (oi := ?o4_83) (v := ?v4_83) ?h4_83 (by kernel_rfl) (by kernel_rfl) (by kernel_rfl) ?q4_83 (Or.inl ⟨?z4_83, ?y4_83⟩) (by assumption) ?r4_83
        case h4_83 =>
          simp only [List.getElem?_toArray, List.getElem?_cons_succ, List.getElem?_cons_zero]
          rfl
        case q4_83 => exact fun _ _ _ h => h
        case z4_83 => rfl
        case y4_83 =>
          intro w hSw
          try dsimp only at hSw
          go_simp
          try with_reducible rfl
        try simp only [Act.put, List.setIfInBounds_toArray, List.set_cons_zero, List.set_cons_succ]
        refine wpAnyH_take (i := 5) (oi := ?o5_84) (v := ?v5_84) ?h5_84 (by kernel_rfl) (by kernel_rfl) (by kernel_rfl) ?q5_84 (Or.inl ⟨?z5_84, ?y5_84⟩) (by assumption) ?r5_84
        case h5_84 =>
          simp only [List.getElem?_toArray, List.getElem?_cons_succ, List.getElem?_cons_zero]
          rfl
        case q5_84 => exact fun _ _ _ h => h
        case z5_84 => rfl
        case y5_84 =>
          intro w hSw
          try dsimp only at hSw
          go_simp
          try with_reducible rfl
        try simp only [Act.put, List.setIfInBounds_toArray, List.set_cons_zero, List.set_cons_succ]
        refine wpAnyH_take (i := 6) (oi := ?o6_85) (v := ?v6_85) ?h6_85 (by kernel_rfl) (by kernel_rfl) (by kernel_rfl) ?q6_85 (Or.inl ⟨?z6_85, ?y6_85⟩) (by assumption) ?r6_85
        case h6_85 =>
          simp only [List.getElem?_toArray, List.getElem?_cons_succ, List.getElem?_cons_zero]
          rfl
        case q6_85 => exact fun _ _ _ h => h
        case z6_85 => rfl
        case y6_85 =>
          intro w hSw
          try dsimp only at hSw
          go_simp
          try with_reducible rfl
        try simp only [Act.put, List.setIfInBounds_toArray, List.set_cons_zero, List.set_cons_succ]
        refine wpAnyH_take (i := 7) (oi := ?o7_86) (v := ?v7_86) ?h7_86 (by kernel_rfl) (by kernel_rfl) (by kernel_rfl) ?q7_86 (Or.inl ⟨?z7_86, ?y7_86⟩) (by assumption) ?r7_86
        case h7_86 =>
          simp only [List.getElem?_toArray, List.getElem?_cons_succ, List.getElem?_cons_zero]
          rfl
        case q7_86 => exact fun _ _ _ h => h
        case z7_86 => rfl
        case y7_86 =>
          intro w hSw
          try dsimp only at hSw
          go_simp
          try with_reducible rfl
        try simp only [Act.put, List.setIfInBounds_toArray, List.set_cons_zero, List.set_cons_succ]
        refine wpAnyH_take (i := 8) (oi := ?o8_87) (v := ?v8_87) ?h8_87 (by kernel_rfl) (by kernel_rfl) (by kernel_rfl) ?q8_87 (Or.inl ⟨?z8_87, ?y8_87⟩) (by assumption) ?r8_87
        case h8_87 =>
          simp only [List.getElem?_toArray, List.getElem?_cons_succ, List.getElem?_cons_zero]
          rfl
        case q8_87 => exact fun _ _ _ h => h
        case z8_87 => rfl
        case y8_87 =>
          intro w hSw
          try dsimp only at hSw
          go_simp
          try with_reducible rfl
        try simp only [Act.put, List.setIfInBounds_toArray, List.set_cons_zero, List.set_cons_succ]
        refine wpAnyH_take (i := 9) (oi := ?o9_88) (v := ?v9_88) ?h9_88 (by kernel_rfl) (by kernel_rfl) (by kernel_rfl) ?q9_88 (Or.inl ⟨?z9_88, ?y9_88⟩) (by assumption) ?r9_88
        case h9_88 =>
          simp only [List.getElem?_toArray, List.getElem?_cons_succ, List.getElem?_cons_zero]
          rfl
        case q9_88 => exact fun _ _ _ h => h
        case z9_88 => rfl
        case y9_88 =>
          intro w hSw
          try dsimp only at hSw
          go_simp
          try with_reducible rfl
        try simp only [Act.put, List.setIfInBounds_toArray, List.set_cons_zero, List.set_cons_succ]
        refine wpAnyH_take (i := 10) (oi := ?o10_89) (v := ?v10_89) ?h10_89 (by kernel_rfl) (by kernel_rfl) (by kernel_rfl) ?q10_89 (Or.inl ⟨?z10_89, ?y10_89⟩) (by assumption) ?r10_89
        case h10_89 =>
          simp only [List.getElem?_toArray, List.getElem?_cons_succ, List.getElem?_cons_zero]
          rfl
        case q10_89 => exact fun _ _ _ h => h
        case z10_89 => rfl
        case y10_89 =>
          intro w hSw
          try dsimp only at hSw
          go_simp
          try with_reducible rfl
        try simp only [Act.put, List.setIfInBounds_toArray, List.set_cons_zero, List.set_cons_succ]
        refine wpAnyH_ready (rs := [0]) (by kernel_rfl) (by simp) ?_
        refine AllReadyH.cons (o := ?o0_90) ?h0_90 (fun K hK => ?k0_90) AllReadyH.nil
        case h0_90 =>
          simp only [List.getElem?_toArray, List.getElem?_cons_succ, List.getElem?_cons_zero]
          rfl
        go_simp
        refine hK.out _ _ (by first | exact ⟨Q.out.1 _ HM.out.row, Q.out.2 _ HM.out.row⟩ | go_keep) (fun hHeld90 => ?_)
        clear hK K
        try simp only [Act.put, List.setIfInBounds_toArray, List.set_cons_zero, List.set_cons_succ]
        refine wpAnyH_ready (rs := [11]) (by kernel_rfl) (by simp) ?_
        refine AllReadyH.cons (o := ?o11_91) ?h11_91 (fun K hK => ?k11_91) AllReadyH.nil
        case h11_91 =>
          simp only [List.getElem?_toArray, List.getElem?_cons_succ, List.getElem?_cons_zero]
          rfl
        go_simp
        go_at_call 29
        refine (HREL.out _ ((Below.refl w5.heap.size w5).drew)).mono ?_
        rintro e wq ⟨u5, rfl, hown5, hbq⟩
        obtain ⟨A5, n5, c5, rfl⟩ := owns_form hown5
        simp only at hown5
        have hB5 : Below w5.heap.size w5 wq := ((Below.refl w5.heap.size w5).drew).trans (hbq.mono ((Below.refl w5.heap.size w5).drew).size)
        have HMQ := Lib.hid (HM.out.step hB5)
        have HOW : Hid (wq.ownsRow w5.heap.size 49 2 (.slice A5 n5 c5) fs2.length (bvals fs2)) := owns_mono2 hown5 (by show w5.heap.size ≤ w5.heap.size + 2; omega)
        have g0 := HMQ.out.box.frozen 0
        have g1 := HMQ.out.box.frozen 1
        have y0 : wq.cell? ⟨w2.heap.size, 0, none⟩ = some (.string s) := HMQ.out.box.cell 0
        have y1 : wq.cell? ⟨w2.heap.size, 1, none⟩ = some (.slice fA fN fC) := HMQ.out.box.cell 1
        have HM3 := HMQ.out.setm s2 (.slice A5 n5 c5)
        try go_wp2_with fail
        refine hK.out _ _ (by first | exact ⟨Q.out.1 _ HMQ.out.row, Q.out.2 _ HMQ.out.row⟩ | go_keep) (fun hHeld91 => ?_)
        clear hK K
        try simp only [Act.put, List.setIfInBounds_toArray, List.set_cons_zero, List.set_cons_succ]
        refine wpAnyH_take (i := 12) (oi := ?o12_92) (v := ?v12_92) ?h12_92 (by kernel_rfl) (by kernel_rfl) (by kernel_rfl) ?q12_92 (Or.inl ⟨?z12_92, ?y12_92⟩) (by assumption) ?r12_92
        case h12_92 =>
          simp only [List.getElem?_toArray, List.getElem?_cons_succ, List.getElem?_cons_zero]
          rfl
        case q12_92 => exact fun _ _ _ h => h
        case z12_92 => rfl
        case y12_92 =>
          intro w hSw
          try dsimp only at hSw
          go_simp
          try with_reducible rfl
        try simp only [Act.put, List.setIfInBounds_toArray, List.set_cons_zero, List.set_cons_succ]
        refine wpAnyH_take (i := 13) (oi := ?o13_93) (v := ?v13_93) ?h13_93 (by kernel_rfl) (by kernel_rfl) (by kernel_rfl) ?q13_93 (Or.inl ⟨?z13_93, ?y13_93⟩) (by assumption) ?r13_93
        case h13_93 =>
          simp only [List.getElem?_toArray, List.getElem?_cons_succ, List.getElem?_cons_zero]
          rfl
        case q13_93 => exact fun _ _ _ h => h
        case z13_93 => rfl
        case y13_93 =>
          intro w hSw
          try dsimp only at hSw
          go_simp
          try with_reducible rfl
        try simp only [Act.put, List.setIfInBounds_toArray, List.set_cons_zero, List.set_cons_succ]
        refine wpAnyH_take (i := 14) (oi := ?o14_94) (v := ?v14_94) ?h14_94 (by kernel_rfl) (by kernel_rfl) (by kernel_rfl) ?q14_94 (Or.inl ⟨?z14_94, ?y14_94⟩) (by assumption) ?r14_94
        case h14_94 =>
          simp only [List.getElem?_toArray, List.getElem?_cons_succ, List.getElem?_cons_zero]
          rfl
        case q14_94 => exact fun _ _ _ h => h
        case z14_94 => rfl
        case y14_94 =>
          intro w hSw
          try dsimp only at hSw
          go_simp
          try with_reducible rfl
        try simp only [Act.put, List.setIfInBounds_toArray, List.set_cons_zero, List.set_cons_succ]
        refine wpAnyH_ready (rs := [15]) (by kernel_rfl) (by simp) ?_
        refine AllReadyH.cons (o := ?o15_95) ?h15_95 (fun K hK => ?k15_95) AllReadyH.nil
        case h15_95 =>
          simp only [List.getElem?_toArray, List.getElem?_cons_succ, List.getElem?_cons_zero]
          rfl
        go_simp
        refine hK.out _ _ (by first | exact ⟨Q.out.1 _ HM3.row, Q.out.2 _ HM3.row⟩ | go_keep) (fun hHeld95 => ?_)
        clear hK K
        try simp only [Act.put, List.setIfInBounds_toArray, List.set_cons_zero, List.set_cons_succ]
        refine wpAnyH_done (by kernel_rfl) ?_ _
        have HO3 : MO ((wq.setCell ⟨w2.heap.size, 0, none⟩ (.string s2)).setCell ⟨w2.heap.size, 1, none⟩ (.slice A5 n5 c5)) w.heap.size w2.heap.size s2 fs2 (.slice (some ⟨gg, 0, none⟩) uN uC) (.slice A5 n5 c5) := MO.fresh HM.out HOW.out hok2
        clear HREL hbq hB5 HMQ HOW hown5 m0 m1 y0 y1 q0 q1 g0 g1 Q
        obtain ⟨wf, hwf⟩ : ∃ V, V = ((wq.setCell ⟨w2.heap.size, 0, none⟩ (.string s2)).setCell ⟨w2.heap.size, 1, none⟩ (.slice A5 n5 c5)) := ⟨_, rfl⟩
        rw [← hwf] at HM3 HO3
        replace HM3 := Lib.hid HM3
        replace HO3 := Lib.hid HO3
        have HWF := Lib.hid hwf
        clear hwf
        have HATW := Lib.hid (owns_at HM3.out.row (by have := HUN.out; omega)).2.1
        have HGG := Lib.hid (owns_at HM3.out.row (by have := HUN.out; omega)).2.2
        have HB1 : Hid (Below wf.heap.size wf ((wf.alloc (.cells #[] 49)).drew)) := ((Below.refl _ _).alloc (Nat.le_refl _) _).drew
        have HO1 : Hid (((wf.alloc (.cells #[] 49)).drew).ownsRow wf.heap.size 49 2 (.slice (some ⟨wf.heap.size, 0, none⟩) 0 0) 0 []) := World.ownsRow_made (base := wf.heap.size) (e := 49) (size := 2) wf.drew #[] 0 (Nat.le_refl _) (by simp) (by simp)
        have HSP : Hid (SrcOk ((wf.alloc (.cells #[] 49)).drew) (.slice (some ⟨gg, 0, none⟩) x2 uC) 2 (taken.take x2).length (bvals (taken.take x2))) := src_blk (rep_pre (HATW.out.below HB1.out HGG.out) (Nat.lt_of_lt_of_le HGG.out HB1.out.size) HUN.out (by omega) (by omega))
        have HTK : Hid ((taken.take x2).length ≤ x2) := by show _ ≤ _; rw [List.length_take]; omega
        have HTD : Hid ((taken.drop (x2 + 1)).length ≤ 8) := by show _ ≤ _; rw [List.length_drop]; have := HUN.out; omega
        have hxc : x2 ≤ uC := by omega
        have hc0 : ¬ uC = 0 := by omega
        have hk1 : (x2 : Int) + 1 ≤ uN := by omega
        have hk0 : (0 : Int) ≤ (x2 : Int) + 1 := by omega
        have hkx : (x2 : Int) ≤ (x2 : Int) + 1 := by omega
        have hkw : IntKind.i64.wrap ((x2 : Int) + 1) = (x2 : Int) + 1 := IntWalk.i64_in _ (by omega)
        by_cases hcc : uC = x2 + 1
        case pos =>
          obtain rfl : uN = x2 + 1 := by omega
          subst hcc
          go_wp2_with fail
          rw [← HWF.out]
          refine wp_region_held_drew (S := (fun _ => True)) (by kernel_rfl) trivial (fun hHeld => ?_)
          refine wpAnyH_take (i := 1) (oi := ?o1_58) (v := ?v1_58) ?h1_58 (by kernel_rfl) (by kernel_rfl) (by kernel_rfl) ?q1_58 (Or.inl ⟨?z1_58, ?y1_58⟩) (by assumption) ?r1_58
          case h1_58 =>
            simp only [List.getElem?_toArray, List.getElem?_cons_succ, List.getElem?_cons_zero]
            rfl
          case q1_58 => exact fun _ _ _ h => h
          case z1_58 => rfl
          case y1_58 =>
            intro w hSw
            try dsimp only at hSw
            go_simp
            try with_reducible rfl
          try simp only [Act.put, List.setIfInBounds_toArray, List.set_cons_zero, List.set_cons_succ]
          refine wpAnyH_take (i := 2) (oi := ?o2_59) (v := ?v2_59) ?h2_59 (by kernel_rfl) (by kernel_rfl) (by kernel_rfl) ?q2_59 (Or.inl ⟨?z2_59, ?y2_59⟩) (by assumption) ?r2_59
          case h2_59 =>
            simp only [List.getElem?_toArray, List.getElem?_cons_succ, List.getElem?_cons_zero]
            rfl
          case q2_59 => exact fun _ _ _ h => h
          case z2_59 => rfl
          case y2_59 =>
            intro w hSw
            try dsimp only at hSw
            go_simp
            try with_reducible rfl
          try simp only [Act.put, List.setIfInBounds_toArray, List.set_cons_zero, List.set_cons_succ]
          refine wpAnyH_take (i := 3) (oi := ?o3_60) (v := ?v3_60) ?h3_60 (by kernel_rfl) (by kernel_rfl) (by kernel_rfl) ?q3_60 (Or.inl ⟨?z3_60, ?y3_60⟩) (by assumption) ?r3_60
          case h3_60 =>
            simp only [List.getElem?_toArray, List.getElem?_cons_succ, List.getElem?_cons_zero]
            rfl
          case q3_60 => exact fun _ _ _ h => h
          case z3_60 => rfl
          case y3_60 =>
            intro w hSw
            try dsimp only at hSw
            go_simp
            try with_reducible rfl
          try simp only [Act.put, List.setIfInBounds_toArray, List.set_cons_zero, List.set_cons_succ]
          refine wpAnyH_take (i := 5) (oi := ?o5_61) (v := ?v5_61) ?h5_61 (by kernel_rfl) (by kernel_rfl) (by kernel_rfl) ?q5_61 (Or.inl ⟨?z5_61, ?y5_61⟩) (by assumption) ?r5_61
          case h5_61 =>
            simp only [List.getElem?_toArray, List.getElem?_cons_succ, List.getElem?_cons_zero]
            rfl
          case q5_61 => exact fun _ _ _ h => h
          case z5_61 => rfl
          case y5_61 =>
            intro w hSw
            try dsimp only at hSw
            go_simp
            try with_reducible rfl
          try simp only [Act.put, List.setIfInBounds_toArray, List.set_cons_zero, List.set_cons_succ]
          refine wpAnyH_take (i := 6) (oi := ?o6_62) (v := ?v6_62) ?h6_62 (by kernel_rfl) (by kernel_rfl) (by kernel_rfl) ?q6_62 (Or.inl ⟨?z6_62, ?y6_62⟩) (by assumption) ?r6_62
          case h6_62 =>
            simp only [List.getElem?_toArray, List.getElem?_cons_succ, List.getElem?_cons_zero]
            rfl
          case q6_62 => exact fun _ _ _ h => h
          case z6_62 => rfl
          case y6_62 =>
            intro w hSw
            try dsimp only at hSw
            go_simp
            try with_reducible rfl
          try simp only [Act.put, List.setIfInBounds_toArray, List.set_cons_zero, List.set_cons_succ]
          refine wpAnyH_take (i := 7) (oi := ?o7_63) (v := ?v7_63) ?h7_63 (by kernel_rfl) (by kernel_rfl) (by kernel_rfl) ?q7_63 (Or.inl ⟨?z7_63, ?y7_63⟩) (by assumption) ?r7_63
          case h7_63 =>
            simp only [List.getElem?_toArray, List.getElem?_cons_succ, List.getElem?_cons_zero]
            rfl
          case q7_63 => exact fun _ _ _ h => h
          case z7_63 => rfl
          case y7_63 =>
            intro w hSw
            try dsimp only at hSw
            go_simp
            try with_reducible rfl
          try simp only [Act.put, List.setIfInBounds_toArray, List.set_cons_zero, List.set_cons_succ]
          refine wpAnyH_take (i := 8) (oi := ?o8_64) (v := ?v8_64) ?h8_64 (by kernel_rfl) (by kernel_rfl) (by kernel_rfl) ?q8_64 (Or.inl ⟨?z8_64, ?y8_64⟩) (by assumption) ?r8_64
          case h8_64 =>
            simp only [List.getElem?_toArray, List.getElem?_cons_succ, List.getElem?_cons_zero]
            rfl
          case q8_64 => exact fun _ _ _ h => h
          case z8_64 => rfl
          case y8_64 =>
            intro w hSw
            try dsimp only at hSw
            go_simp
            try with_reducible rfl
          try simp only [Act.put, List.setIfInBounds_toArray, List.set_cons_zero, List.set_cons_succ]
          refine wpAnyH_ready (rs := [0]) (by kernel_rfl) (by simp) ?_
          refine AllReadyH.cons (o := ?o0_65) ?h0_65 (fun K hK => ?k0_65) AllReadyH.nil
          case h0_65 =>
            simp only [List.getElem?_toArray, List.getElem?_cons_succ, List.getElem?_cons_zero]
            rfl
          go_simp
          refine hK.out _ _ (by first | exact trivial | go_keep) (fun hHeld65 => ?_)
          clear hK K
          try simp only [Act.put, List.setIfInBounds_toArray, List.set_cons_zero, List.set_cons_succ]
          refine wpAnyH_ready (rs := [4]) (by kernel_rfl) (by simp) ?_
          refine AllReadyH.cons (o := ?o4_66) ?h4_66 (fun K hK => ?k4_66) AllReadyH.nil
          case h4_66 =>
            simp only [List.getElem?_toArray, List.getElem?_cons_succ, List.getElem?_cons_zero]
            rfl
          clear hkw
          refine step_append_src (by rfl) _ _ 27 (by rfl) wf.heap.size 49 i0 (.agg #[.int .i64 0, .int .i64 0]) 2 16 Try.underlying27 hi hy0 hy1 hy2 rfl (by decide) (.slice (some ⟨wf.heap.size, 0, none⟩) 0 0) 0 [] (by rfl) HO1.out (.slice (some ⟨gg, 0, none⟩) x2 (x2 + 1)) (taken.take x2).length (bvals (taken.take x2)) (by rfl) HSP.out (one_blk _) (by have := HTK.out; simp only [maxLen]; omega) (by have := HTK.out; omega) HB1.out.size ?_
          intro v' w6 hown' hgrow _
          have hB5 := HB1.out.grown hgrow HB1.out.size (fun g hg => (HO1.out.lt g hg).1)
          obtain ⟨rA, rN, rC, rfl, -⟩ := (Own.of_own hown').form
          have hz5 := hB5.size
          have HSU : Hid (SrcOk w6 (.slice (some ⟨gg, 0, none⟩) 0 0) 2 (taken.drop (x2 + 1)).length (bvals (taken.drop (x2 + 1)))) := src_suffix (j := x2 + 1) (g := gg) (off := 0) (HATW.out.below hB5 HGG.out) (Nat.lt_of_lt_of_le HGG.out hB5.size) HUN.out (by omega) (by omega) (by first | omega | rfl) (by intro hj; first | exact absurd hj (by omega) | simp)
          refine hK.out _ _ (by first | exact trivial | go_keep) (fun hHeld66 => ?_)
          clear hK K
          try simp only [Act.put, List.setIfInBounds_toArray, List.set_cons_zero, List.set_cons_succ]
          refine wpAnyH_ready (rs := [9]) (by kernel_rfl) (by simp) ?_
          refine AllReadyH.cons (o := ?o9_67) ?h9_67 (fun K hK => ?k9_67) AllReadyH.nil
          case h9_67 =>
            simp only [List.getElem?_toArray, List.getElem?_cons_succ, List.getElem?_cons_zero]
            rfl
          refine step_append_src (by rfl) _ _ 27 (by rfl) wf.heap.size 49 i0 (.agg #[.int .i64 0, .int .i64 0]) 2 16 Try.underlying27 hi hy0 hy1 hy2 rfl (by decide) (.slice rA rN rC) (0 + (taken.take x2).length) ([] ++ bvals (taken.take x2)) (by rfl) hown' (.slice (some ⟨gg, 0, none⟩) 0 0) (taken.drop (x2 + 1)).length (bvals (taken.drop (x2 + 1))) (by rfl) HSU.out (one_blk _) (by have := HTK.out; have := HTD.out; simp only [maxLen]; omega) (by have := HTK.out; have := HTD.out; omega) hz5 ?_
          intro v2 w7 hown2 hgrow2 _
          have hB6 := hB5.grown hgrow2 hz5 (fun g hg => (hown'.lt g hg).1)
          refine hK.out _ _ (by first | exact trivial | go_keep) (fun hHeld67 => ?_)
          clear hK K
          try simp only [Act.put, List.setIfInBounds_toArray, List.set_cons_zero, List.set_cons_succ]
          refine wpAnyH_take (i := 10) (oi := ?o10_68) (v := ?v10_68) ?h10_68 (by kernel_rfl) (by kernel_rfl) (by kernel_rfl) ?q10_68 (Or.inl ⟨?z10_68, ?y10_68⟩) (by assumption) ?r10_68
          case h10_68 =>
            simp only [List.getElem?_toArray, List.getElem?_cons_succ, List.getElem?_cons_zero]
            rfl
          case q10_68 => exact fun _ _ _ h => h
          case z10_68 => rfl
          case y10_68 =>
            intro w hSw
            try dsimp only at hSw
            go_simp
            try with_reducible rfl
          try simp only [Act.put, List.setIfInBounds_toArray, List.set_cons_zero, List.set_cons_succ]
          refine wpAnyH_done (by kernel_rfl) ?_ _
          have hrw : w7.ownsRow wf.heap.size 49 2 v2 (taken.take x2 ++ taken.drop (x2 + 1)).length (bvals (taken.take x2 ++ taken.drop (x2 + 1))) := by rw [bvals_append, List.length_append]; simpa using hown2
          have S6 := HM3.out.anew hB6 hrw (fun b hb => HM3.out.wf b ((List.mem_append.1 hb).elim List.mem_of_mem_take List.mem_of_mem_drop))
          have T6 := Lib.hid (HO3.out.anew hB6 hrw)
          have hjw : IntKind.i64.wrap ((j : Int) - 1) = (j : Int) - 1 := IntWalk.i64_in _ (by omega)
          go_wp2_with fail
          go_roundw
          case rel => exact ⟨j - 1, s2, fs2, taken.take x2 ++ taken.drop (x2 + 1), _, _, rfl, by go_num, by omega, by have := HTK.out; have := HTD.out; have := HUN.out; rw [List.length_append, List.length_take, List.length_drop]; omega, Lib.hid ((S6).more (by omega)), T6⟩
          case measure => simp [intOf]; omega
        have hcd : ¬ uC - (x2 + 1) = 0 := by omega
        go_wp2_with fail
        rw [← HWF.out]
        refine wp_region_held_drew (S := (fun _ => True)) (by kernel_rfl) trivial (fun hHeld => ?_)
        refine wpAnyH_take (i := 1) (oi := ?o1_69) (v := ?v1_69) ?h1_69 (by kernel_rfl) (by kernel_rfl) (by kernel_rfl) ?q1_69 (Or.inl ⟨?z1_69, ?y1_69⟩) (by assumption) ?r1_69
        case h1_69 =>
          simp only [List.getElem?_toArray, List.getElem?_cons_succ, List.getElem?_cons_zero]
          rfl
        case q1_69 => exact fun _ _ _ h => h
        case z1_69 => rfl
        case y1_69 =>
          intro w hSw
          try dsimp only at hSw
          go_simp
          try with_reducible rfl
        try simp only [Act.put, List.setIfInBounds_toArray, List.set_cons_zero, List.set_cons_succ]
        refine wpAnyH_take (i := 2) (oi := ?o2_70) (v := ?v2_70) ?h2_70 (by kernel_rfl) (by kernel_rfl) (by kernel_rfl) ?q2_70 (Or.inl ⟨?z2_70, ?y2_70⟩) (by assumption) ?r2_70
        case h2_70 =>
          simp only [List.getElem?_toArray, List.getElem?_cons_succ, List.getElem?_cons_zero]
          rfl
        case q2_70 => exact fun _ _ _ h => h
        case z2_70 => rfl
        case y2_70 =>
          intro w hSw
          try dsimp only at hSw
          go_simp
          try with_reducible rfl
        try simp only [Act.put, List.setIfInBounds_toArray, List.set_cons_zero, List.set_cons_succ]
        refine wpAnyH_take (i := 3) (oi := ?o3_71) (v := ?v3_71) ?h3_71 (by kernel_rfl) (by kernel_rfl) (by kernel_rfl) ?q3_71 (Or.inl ⟨?z3_71, ?y3_71⟩) (by assumption) ?r3_71
        case h3_71 =>
          simp only [List.getElem?_toArray, List.getElem?_cons_succ, List.getElem?_cons_zero]
          rfl
        case q3_71 => exact fun _ _ _ h => h
        case z3_71 => rfl
        case y3_71 =>
          intro w hSw
          try dsimp only at hSw
          go_simp
          try with_reducible rfl
        try simp only [Act.put, List.setIfInBounds_toArray, List.set_cons_zero, List.set_cons_succ]
        refine wpAnyH_take (i := 5) (oi := ?o5_72) (v := ?v5_72) ?h5_72 (by kernel_rfl) (by kernel_rfl) (by kernel_rfl) ?q5_72 (Or.inl ⟨?z5_72, ?y5_72⟩) (by assumption) ?r5_72
        case h5_72 =>
          simp only [List.getElem?_toArray, List.getElem?_cons_succ, List.getElem?_cons_zero]
          rfl
        case q5_72 => exact fun _ _ _ h => h
        case z5_72 => rfl
        case y5_72 =>
          intro w hSw
          try dsimp only at hSw
          go_simp
          try with_reducible rfl
        try simp only [Act.put, List.setIfInBounds_toArray, List.set_cons_zero, List.set_cons_succ]
        refine wpAnyH_take (i := 6) (oi := ?o6_73) (v := ?v6_73) ?h6_73 (by kernel_rfl) (by kernel_rfl) (by kernel_rfl) ?q6_73 (Or.inl ⟨?z6_73, ?y6_73⟩) (by assumption) ?r6_73
        case h6_73 =>
          simp only [List.getElem?_toArray, List.getElem?_cons_succ, List.getElem?_cons_zero]
          rfl
        case q6_73 => exact fun _ _ _ h => h
        case z6_73 => rfl
        case y6_73 =>
          intro w hSw
          try dsimp only at hSw
          go_simp
          try with_reducible rfl
        try simp only [Act.put, List.setIfInBounds_toArray, List.set_cons_zero, List.set_cons_succ]
        refine wpAnyH_take (i := 7) (oi := ?o7_74) (v := ?v7_74) ?h7_74 (by kernel_rfl) (by kernel_rfl) (by kernel_rfl) ?q7_74 (Or.inl ⟨?z7_74, ?y7_74⟩) (by assumption) ?r7_74
        case h7_74 =>
          simp only [List.getElem?_toArray, List.getElem?_cons_succ, List.getElem?_cons_zero]
          rfl
        case q7_74 => exact fun _ _ _ h => h
        case z7_74 => rfl
        case y7_74 =>
          intro w hSw
          try dsimp only at hSw
          go_simp
          try with_reducible rfl
        try simp only [Act.put, List.setIfInBounds_toArray, List.set_cons_zero, List.set_cons_succ]
        refine wpAnyH_take (i := 8) (oi := ?o8_75) (v := ?v8_75) ?h8_75 (by kernel_rfl) (by kernel_rfl) (by kernel_rfl) ?q8_75 (Or.inl ⟨?z8_75, ?y8_75⟩) (by assumption) ?r8_75
        case h8_75 =>
          simp only [List.getElem?_toArray, List.getElem?_cons_succ, List.getElem?_cons_zero]
          rfl
        case q8_75 => exact fun _ _ _ h => h
        case z8_75 => rfl
        case y8_75 =>
          intro w hSw
          try dsimp only at hSw
          go_simp
          try with_reducible rfl
        try simp only [Act.put, List.setIfInBounds_toArray, List.set_cons_zero, List.set_cons_succ]
        refine wpAnyH_ready (rs := [0]) (by kernel_rfl) (by simp) ?_
        refine AllReadyH.cons (o := ?o0_76) ?h0_76 (fun K hK => ?k0_76) AllReadyH.nil
        case h0_76 =>
          simp only [List.getElem?_toArray, List.getElem?_cons_succ, List.getElem?_cons_zero]
          rfl
        go_simp
        refine hK.out _ _ (by first | exact trivial | go_keep) (fun hHeld76 => ?_)
        clear hK K
        try simp only [Act.put, List.setIfInBounds_toArray, List.set_cons_zero, List.set_cons_succ]
        refine wpAnyH_ready (rs := [4]) (by kernel_rfl) (by simp) ?_
        refine AllReadyH.cons (o := ?o4_77) ?h4_77 (fun K hK => ?k4_77) AllReadyH.nil
        case h4_77 =>
          simp only [List.getElem?_toArray, List.getElem?_cons_succ, List.getElem?_cons_zero]
          rfl
        clear hkw
        refine step_append_src (by rfl) _ _ 27 (by rfl) wf.heap.size 49 i0 (.agg #[.int .i64 0, .int .i64 0]) 2 16 Try.underlying27 hi hy0 hy1 hy2 rfl (by decide) (.slice (some ⟨wf.heap.size, 0, none⟩) 0 0) 0 [] (by rfl) HO1.out (.slice (some ⟨gg, 0, none⟩) x2 uC) (taken.take x2).length (bvals (taken.take x2)) (by rfl) HSP.out (one_blk _) (by have := HTK.out; simp only [maxLen]; omega) (by have := HTK.out; omega) HB1.out.size ?_
        intro v' w6 hown' hgrow _
        have hB5 := HB1.out.grown hgrow HB1.out.size (fun g hg => (HO1.out.lt g hg).1)
        obtain ⟨rA, rN, rC, rfl, -⟩ := (Own.of_own hown').form
        have hz5 := hB5.size
        have HSU : Hid (SrcOk w6 (.slice (some ⟨gg, (x2 + 1) * 2, none⟩) (uN - (x2 + 1)) (uC - (x2 + 1))) 2 (taken.drop (x2 + 1)).length (bvals (taken.drop (x2 + 1)))) := src_suffix (j := x2 + 1) (g := gg) (off := 0) (HATW.out.below hB5 HGG.out) (Nat.lt_of_lt_of_le HGG.out hB5.size) HUN.out (by omega) (by omega) (by first | omega | rfl) (by intro hj; first | exact absurd hj (by omega) | simp)
        refine hK.out _ _ (by first | exact trivial | go_keep) (fun hHeld77 => ?_)
        clear hK K
        try simp only [Act.put, List.setIfInBounds_toArray, List.set_cons_zero, List.set_cons_succ]
        refine wpAnyH_ready (rs := [9]) (by kernel_rfl) (by simp) ?_
        refine AllReadyH.cons (o := ?o9_78) ?h9_78 (fun K hK => ?k9_78) AllReadyH.nil
        case h9_78 =>
          simp only [List.getElem?_toArray, List.getElem?_cons_succ, List.getElem?_cons_zero]
          rfl
        refine step_append_src (by rfl) _ _ 27 (by rfl) wf.heap.size 49 i0 (.agg #[.int .i64 0, .int .i64 0]) 2 16 Try.underlying27 hi hy0 hy1 hy2 rfl (by decide) (.slice rA rN rC) (0 + (taken.take x2).length) ([] ++ bvals (taken.take x2)) (by rfl) hown' (.slice (some ⟨gg, (x2 + 1) * 2, none⟩) (uN - (x2 + 1)) (uC - (x2 + 1))) (taken.drop (x2 + 1)).length (bvals (taken.drop (x2 + 1))) (by rfl) HSU.out (one_blk _) (by have := HTK.out; have := HTD.out; simp only [maxLen]; omega) (by have := HTK.out; have := HTD.out; omega) hz5 ?_
        intro v2 w7 hown2 hgrow2 _
        have hB6 := hB5.grown hgrow2 hz5 (fun g hg => (hown'.lt g hg).1)
        refine hK.out _ _ (by first | exact trivial | go_keep) (fun hHeld78 => ?_)
        clear hK K
        try simp only [Act.put, List.setIfInBounds_toArray, List.set_cons_zero, List.set_cons_succ]
        refine wpAnyH_take (i := 10) (oi := ?o10_79) (v := ?v10_79) ?h10_79 (by kernel_rfl) (by kernel_rfl) (by kernel_rfl) ?q10_79 (Or.inl ⟨?z10_79, ?y10_79⟩) (by assumption) ?r10_79
        case h10_79 =>
          simp only [List.getElem?_toArray, List.getElem?_cons_succ, List.getElem?_cons_zero]
          rfl
        case q10_79 => exact fun _ _ _ h => h
        case z10_79 => rfl
        case y10_79 =>
          intro w hSw
          try dsimp only at hSw
          go_simp
          try with_reducible rfl
        try simp only [Act.put, List.setIfInBounds_toArray, List.set_cons_zero, List.set_cons_succ]
        refine wpAnyH_done (by kernel_rfl) ?_ _
        have hrw : w7.ownsRow wf.heap.size 49 2 v2 (taken.take x2 ++ taken.drop (x2 + 1)).length (bvals (taken.take x2 ++ taken.drop (x2 + 1))) := by rw [bvals_append, List.length_append]; simpa using hown2
        have S6 := HM3.out.anew hB6 hrw (fun b hb => HM3.out.wf b ((List.mem_append.1 hb).elim List.mem_of_mem_take List.mem_of_mem_drop))
        have T6 := Lib.hid (HO3.out.anew hB6 hrw)
        have hjw : IntKind.i64.wrap ((j : Int) - 1) = (j : Int) - 1 := IntWalk.i64_in _ (by omega)
        go_wp2_with fail
        go_roundw
        case rel => exact ⟨j - 1, s2, fs2, taken.take x2 ++ taken.drop (x2 + 1), _, _, rfl, by go_num, by omega, by have := HTK.out; have := HTD.out; have := HUN.out; rw [List.length_append, List.length_take, List.length_drop]; omega, Lib.hid ((S6).more (by omega)), T6⟩
        case measure => simp [intOf]; omega
end Go.Proofs.Ytlppngpafjfjeaa

