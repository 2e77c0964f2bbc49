/-
  FnFree: the law's walk (by program: gen_wfree.py).
-/
import Derived.Test.YtlppngpafjfjeaaFreeW
import Derived.Test.YtlppngpafjfjeaaAllW
import Derived.Deep.RegionHeld3
import Derived.Deep.Cut
import Derived.Deep.CutRange
namespace Go.Proofs.Ytlppngpafjfjeaa
open Go.RowKit
set_option linter.unusedVariables false
set_option linter.unusedSimpArgs false
set_option linter.unnecessarySimpa false
set_option maxRecDepth 16000

theorem offs {a b t z : Int} (h : a + b ≤ t ∨ t + z ≤ a) : (decide (t < a + b) && decide (a < t + z)) = false := by
  rcases h with h | h
  · rw [decide_eq_false (by omega : ¬ t < a + b), Bool.false_and]
  · rw [decide_eq_false (by omega : ¬ a < t + z), Bool.and_false]
set_option maxHeartbeats 51200000 in
theorem walk_FnFree (w : World) (v0 : Value) (h0 : ArgB w v0) (v1 : Value) (h1 : ArgB w v1) :
    Calls Try.prog 10 #[v0, v1] w fun e w' => e = .returned (.bool true) ∧ Below w.heap.size w w' := by
  obtain ⟨A, n, c, rfl, hn, hA⟩ := h0
  obtain ⟨A', n', c', rfl, hn', hA'⟩ := h1
  obtain ⟨i0, hi, hy0, hy1, hy2⟩ := info_parts block_info
  have HA := Lib.hid hA
  have HA' := Lib.hid hA'
  clear hA hA'
  go_enter Try.func10, Try.ntmps10
  go_wp2_with fail
  refine b10Long_any.mono ?_
  rintro e w' ⟨rfl, rfl⟩
  by_cases hlong : 1048576 < n ∨ 1048576 < n'
  case pos =>
    have hd : (decide (1048576 < n) || decide (1048576 < n')) = true := by rw [Bool.or_eq_true, decide_eq_true_eq, decide_eq_true_eq]; exact hlong
    rw [hd]
    go_wp2_with fail
    go_ret
    exact ⟨rfl, Below.refl _ _⟩
  have hd : (decide (1048576 < n) || decide (1048576 < n')) = false := by rw [Bool.or_eq_false_iff, decide_eq_false_iff_not, decide_eq_false_iff_not]; omega
  rw [hd]
  clear hd
  have hn1 : n ≤ 1048576 := by omega
  have hn2 : n' ≤ 1048576 := by omega
  clear hlong hn hn'
  go_wp2_with fail
  refine (b10At_i HA.out hn1 (by omega) (by omega) (by omega)).mono ?_
  rintro e w' ⟨x, rfl, hx, rfl⟩
  have x1 : IntKind.i64.wrap (8 * (x : Int)) = 8 * x := IntWalk.i64_in _ (by omega)
  have x2 : IntKind.i64.wrap (8 + 8 * (x : Int)) = ((8 + 8 * x : Nat) : Int) := (IntWalk.i64_in _ (by omega)).trans (by omega)
  have hN : 8 + 8 * x ≤ 4096 := by omega
  obtain ⟨N, hNx⟩ : ∃ N, N = 8 + 8 * x := ⟨_, rfl⟩
  rw [← hNx] at x2 hN
  clear hNx
  go_wp2_with fail
  refine (implNew_yes hN w).mono ?_
  rw [memNew_yes hN]
  rintro e w1 ⟨us, rfl, hl, hb1⟩
  obtain ⟨A3, n3, c3, hus⟩ := mem_form hl
  subst hus
  obtain ⟨_, hL⟩ := mem_lv hl
  obtain ⟨s, hs⟩ : ∃ s, s = zerosB N := ⟨_, rfl⟩
  have HIN : Hid (FInv N s (freeN N) []) := by show FInv _ _ _ _; rw [hs]; exact FInv.start hN
  have HFS : Hid (FreS w (((w1.alloc (.cells #[.string s, .slice A3 n3 c3] 29)).alloc (.cells #[.string s, .slice A3 n3 c3] 29)).alloc (.cells #[] 49)) w1.heap.size (w1.heap.size + 1) N s (freeN N) [] (.slice (some ⟨w1.heap.size + 2, 0, none⟩) 0 0) (.slice A3 n3 c3)) := by
    have b1 := Blk.new w1 29 #[.string s, .slice A3 n3 c3]
    have b2 := Blk.new (w1.alloc (.cells #[.string s, .slice A3 n3 c3] 29)) 29 #[.string s, .slice A3 n3 c3]
    obtain ⟨F, f1, f2, f3⟩ := hL
    have hb : Below w1.heap.size w1 (((w1.alloc (.cells #[.string s, .slice A3 n3 c3] 29)).alloc (.cells #[.string s, .slice A3 n3 c3] 29)).alloc (.cells #[] 49)) := (((Below.refl _ _).alloc (Nat.le_refl _) _).alloc (by simp) _).alloc (by simp; omega) _
    have hh : HeldM (((w1.alloc (.cells #[.string s, .slice A3 n3 c3] 29)).alloc (.cells #[.string s, .slice A3 n3 c3] 29)).alloc (.cells #[] 49)) w1.heap.size (.slice (some ⟨w1.heap.size + 2, 0, none⟩) 0 0) (freeN N) (.slice A3 n3 c3) :=
      ⟨F, Hold.keep _ _ F f1 fun g hg => hb.block g (f2.2 g hg).2, fun g hg => ⟨by have := f2.2 g hg; simp; omega, by have := f2.2 g hg; omega, fun e => by have := f2.2 g hg; simp [Value.ownBlock] at e; omega⟩⟩
    refine ⟨(b1.alloc _).alloc _, hh, ⟨_, by have := b2.alloc (.cells #[] 49); simpa using this, hh⟩, ?_, hb1.trans (hb.mono hb1.size), hb1.size, Nat.lt_succ_self _⟩
    have := World.ownsRow_made (base := w1.heap.size + 2) (e := 49) (size := 2) ((w1.alloc (.cells #[.string s, .slice A3 n3 c3] 29)).alloc (.cells #[.string s, .slice A3 n3 c3] 29)) #[] 0 (by simp) (by simp) (by simp)
    simpa [bvals] using this
  rw [← hs]
  clear hs hl hL x1 x2 hx
  go_wp2_with fail
  go_loopw [8, 9] (fun tv i wr => ∃ (k : Nat) (fs taken : List Block) (fv tv' : Value), tv' = tv ∧ i = .int .i64 k ∧ k ≤ 24 ∧ taken.length ≤ k ∧ Hid (FInv N s fs taken) ∧ Hid (FreS w wr w1.heap.size (w1.heap.size + 1) N s fs taken tv' fv)) (fun _ i _ => 24 - (intOf i).toNat)
  case atStart => exact ⟨0, _, [], _, _, rfl, rfl, by omega, by simp, HIN, HFS⟩
  case round =>
    clear HIN HFS
    obtain ⟨k, fs, taken, fv, tv', rfl, rfl, hk, htk, HI, HS⟩ := hrel
    obtain ⟨uA, uN, uC, rfl, _, hcap, _⟩ := (Own.of_own HS.out.row).form
    have huN := owns_len HS.out.row
    have huk : uN ≤ 24 := by omega
    have HUN := Lib.hid huN
    clear huN
    obtain ⟨fA, fN, fC, rfl⟩ := HS.out.hold.rep.form
    have hbr := HS.out.below
    have HA1 := Lib.hid ((HA.out.below hbr (Nat.le_refl _)).more hbr.size)
    have HA2 := Lib.hid ((HA'.out.below hbr (Nat.le_refl _)).more hbr.size)
    have m0 : wr.cell? ⟨w1.heap.size, 0, none⟩ = some (.string s) := HS.out.box.cell 0
    have m1 : wr.cell? ⟨w1.heap.size, 1, none⟩ = some (.slice fA fN fC) := HS.out.box.cell 1
    by_cases hlt : k < 24
    case neg =>
      have hk24 : k = 24 := by omega
      subst hk24
      clear m0 m1 HA1 HA2 hbr
      go_wp2_with fail
      go_loopw [19] (fun i wx => ∃ (j : Nat) (fs2 : List Block) (fv2 : Value), i = .int .i64 j ∧ j ≤ uN ∧ Hid (FInv N s fs2 (taken.drop j)) ∧ Hid (FreS w wx w1.heap.size (w1.heap.size + 1) N s fs2 taken (.slice uA uN uC) fv2)) (fun i _ => uN - (intOf i).toNat)
      case atStart => exact ⟨0, fs, _, rfl, Nat.zero_le _, Lib.hid (by rw [List.drop_zero]; exact HI.out), HS⟩
      case round =>
        clear HI HS
        obtain ⟨j, fs, fv, rfl, hj, HI, HS⟩ := hrel
        obtain ⟨fA, fN, fC, rfl⟩ := HS.out.hold.rep.form
        have m0 : wr.cell? ⟨w1.heap.size, 0, none⟩ = some (.string s) := HS.out.box.cell 0
        have m1 : wr.cell? ⟨w1.heap.size, 1, none⟩ = some (.slice fA fN fC) := HS.out.box.cell 1
        by_cases hjl : j < uN
        case pos =>
          obtain ⟨gg, cc, hrow, _, _⟩ := HS.out.row.form (by have := HUN.out; omega)
          injection hrow with e1 e2 e3
          clear e2
          subst e1 e3
          obtain ⟨b, hb, _⟩ := at_lt HUN.out hjl
          have hb0 : (taken.drop j)[0]? = some b := by rw [List.getElem?_drop]; simpa using hb
          have hbm : b ∈ taken.drop j := List.mem_of_getElem? hb0
          have hbb := HI.out.mem hbm
          have hbp := HI.out.pos _ hbm
          obtain ⟨ba, bz⟩ := b
          simp only at hbb hbp
          have HREL : Hid (∀ W', Below wr.heap.size wr W' → Calls Try.prog 30 #[.agg #[.string s, .slice fA fN fC], .int .i64 ba, .int .i64 bz] W' fun e w' => MemR W' (⟨s, giveL fs ⟨ba, bz⟩⟩, 0) e w') := fun W' hW => by
            have h := implRel_all (a := ba) (z := bz) HI.out.memOk (HS.out.step hW).hold.rep (blk_wf (memF HI.out.memOk)) (WalkArith.wf_i64 (by omega)) (WalkArith.wf_i64 (by omega)) (by omega)
            have e := (HI.out.rel hb0).1
            simp only at e
            rw [e] at h
            exact h
          have Q : Hid ((∀ W' : World, W'.ownsRow ((w1.heap.size + 1) + 1) 49 2 (.slice (some ⟨gg, 0, none⟩) uN uC) taken.length (bvals taken) → W'.cell? ⟨gg, j * 2, none⟩ = some (.int .i64 ba)) ∧ (∀ W' : World, W'.ownsRow ((w1.heap.size + 1) + 1) 49 2 (.slice (some ⟨gg, 0, none⟩) uN uC) taken.length (bvals taken) → W'.cell? ⟨gg, j * 2 + 1, none⟩ = some (.int .i64 bz))) := by
            refine ⟨fun W' h => ?_, fun W' h => ?_⟩
            · have := ((owns_at h (by have := HUN.out; omega)).2.1 j _ hb).1
              simpa using this
            · have := ((owns_at h (by have := HUN.out; omega)).2.1 j _ hb).2
              simpa using this
          have q0 := Q.out.1 _ HS.out.row
          have q1 := Q.out.2 _ HS.out.row
          go_upto_region 30 with fail
          go_cut [20, 21] from 140 to 163 (fun v12 v13 wx => ∃ (px : Nat) (A5 : Option Addr) (n5 c5 : Nat), v12 = .pointer (some ⟨px, 0, none⟩) ∧ v13 = .int .i64 0 ∧ Hid (Blk wx px 29 #[.string s, .slice A5 n5 c5]) ∧ Hid (FreS w wx w1.heap.size (w1.heap.size + 1) N s fs taken (.slice (some ⟨gg, 0, none⟩) uN uC) (.slice fA fN fC)) ∧ Hid (HeldM wx w1.heap.size (.slice (some ⟨gg, 0, none⟩) uN uC) (giveL fs ⟨ba, bz⟩) (.slice A5 n5 c5)) ∧ w1.heap.size < px)
          case first =>
            refine wp_region_held_drew (S := (fun w' => w'.cell? ⟨w1.heap.size, 0, none⟩ = some (.string s) ∧ w'.cell? ⟨w1.heap.size, 1, none⟩ = some (.slice fA fN fC) ∧ w'.cell? ⟨gg, j * 2, none⟩ = some (.int .i64 ba) ∧ w'.cell? ⟨gg, j * 2 + 1, none⟩ = some (.int .i64 bz))) (by kernel_rfl) ⟨HS.out.box.cell 0, HS.out.box.cell 1, Q.out.1 _ HS.out.row, Q.out.2 _ HS.out.row⟩ (fun hHeld => ?_)
            refine wpAnyH_take (i := 0) (oi := ?o0_1) (v := ?v0_1) ?h0_1 (by kernel_rfl) (by kernel_rfl) (by kernel_rfl) ?q0_1 (Or.inl ⟨?z0_1, ?y0_1⟩) (by assumption) ?r0_1
            case h0_1 =>
              simp only [List.getElem?_toArray, List.getElem?_cons_succ, List.getElem?_cons_zero]
              rfl
            case q0_1 => exact fun _ _ _ h => h
            case z0_1 => rfl
            case y0_1 =>
              intro w hSw
              try dsimp only at hSw
              go_simp
              try with_reducible rfl
            try simp only [Act.put, List.setIfInBounds_toArray, List.set_cons_zero, List.set_cons_succ]
            refine wpAnyH_take (i := 1) (oi := ?o1_2) (v := ?v1_2) ?h1_2 (by kernel_rfl) (by kernel_rfl) (by kernel_rfl) ?q1_2 (Or.inl ⟨?z1_2, ?y1_2⟩) (by assumption) ?r1_2
            case h1_2 =>
              simp only [List.getElem?_toArray, List.getElem?_cons_succ, List.getElem?_cons_zero]
              rfl
            case q1_2 => exact fun _ _ _ h => h
            case z1_2 => rfl
            case y1_2 =>
              intro w hSw
              try dsimp only at hSw
              go_simp
              try with_reducible rfl
            try simp only [Act.put, List.setIfInBounds_toArray, List.set_cons_zero, List.set_cons_succ]
            refine wpAnyH_take (i := 2) (oi := ?o2_3) (v := ?v2_3) ?h2_3 (by kernel_rfl) (by kernel_rfl) (by kernel_rfl) ?q2_3 (Or.inl ⟨?z2_3, ?y2_3⟩) (by assumption) ?r2_3
            case h2_3 =>
              simp only [List.getElem?_toArray, List.getElem?_cons_succ, List.getElem?_cons_zero]
              rfl
            case q2_3 => exact fun _ _ _ h => h
            case z2_3 => rfl
            case y2_3 =>
              intro w hSw
              try dsimp only at hSw
              go_simp
              try with_reducible rfl
            try simp only [Act.put, List.setIfInBounds_toArray, List.set_cons_zero, List.set_cons_succ]
            refine wpAnyH_take (i := 3) (oi := ?o3_4) (v := ?v3_4) ?h3_4 (by kernel_rfl) (by kernel_rfl) (by kernel_rfl) ?q3_4 (Or.inl ⟨?z3_4, ?y3_4⟩) (by assumption) ?r3_4
            case h3_4 =>
              simp only [List.getElem?_toArray, List.getElem?_cons_succ, List.getElem?_cons_zero]
              rfl
            case q3_4 => exact fun _ _ _ h => h
            case z3_4 => rfl
            case y3_4 =>
              intro w hSw
              try dsimp only at hSw
              go_simp
              try with_reducible rfl
            try simp only [Act.put, List.setIfInBounds_toArray, List.set_cons_zero, List.set_cons_succ]
            refine wpAnyH_take (i := 4) (oi := ?o4_5) (v := ?v4_5) ?h4_5 (by kernel_rfl) (by kernel_rfl) (by kernel_rfl) ?q4_5 (Or.inl ⟨?z4_5, ?y4_5⟩) (by assumption) ?r4_5
            case h4_5 =>
              simp only [List.getElem?_toArray, List.getElem?_cons_succ, List.getElem?_cons_zero]
              rfl
            case q4_5 => exact fun _ _ _ h => h
            case z4_5 => rfl
            case y4_5 =>
              intro w hSw
              try dsimp only at hSw
              go_simp
              try with_reducible rfl
            try simp only [Act.put, List.setIfInBounds_toArray, List.set_cons_zero, List.set_cons_succ]
            refine wpAnyH_take (i := 5) (oi := ?o5_6) (v := ?v5_6) ?h5_6 (by kernel_rfl) (by kernel_rfl) (by kernel_rfl) ?q5_6 (Or.inl ⟨?z5_6, ?y5_6⟩) (by assumption) ?r5_6
            case h5_6 =>
              simp only [List.getElem?_toArray, List.getElem?_cons_succ, List.getElem?_cons_zero]
              rfl
            case q5_6 => exact fun _ _ _ h => h
            case z5_6 => rfl
            case y5_6 =>
              intro w hSw
              try dsimp only at hSw
              go_simp
              try with_reducible rfl
            try simp only [Act.put, List.setIfInBounds_toArray, List.set_cons_zero, List.set_cons_succ]
            refine wpAnyH_take (i := 6) (oi := ?o6_7) (v := ?v6_7) ?h6_7 (by kernel_rfl) (by kernel_rfl) (by kernel_rfl) ?q6_7 (Or.inl ⟨?z6_7, ?y6_7⟩) (by assumption) ?r6_7
            case h6_7 =>
              simp only [List.getElem?_toArray, List.getElem?_cons_succ, List.getElem?_cons_zero]
              rfl
            case q6_7 => exact fun _ _ _ h => h
            case z6_7 => rfl
            case y6_7 =>
              intro w hSw
              try dsimp only at hSw
              go_simp
              try with_reducible rfl
            try simp only [Act.put, List.setIfInBounds_toArray, List.set_cons_zero, List.set_cons_succ]
            refine wpAnyH_take (i := 7) (oi := ?o7_8) (v := ?v7_8) ?h7_8 (by kernel_rfl) (by kernel_rfl) (by kernel_rfl) ?q7_8 (Or.inl ⟨?z7_8, ?y7_8⟩) (by assumption) ?r7_8
            case h7_8 =>
              simp only [List.getElem?_toArray, List.getElem?_cons_succ, List.getElem?_cons_zero]
              rfl
            case q7_8 => exact fun _ _ _ h => h
            case z7_8 => rfl
            case y7_8 =>
              intro w hSw
              try dsimp only at hSw
              go_simp
              try with_reducible rfl
            try simp only [Act.put, List.setIfInBounds_toArray, List.set_cons_zero, List.set_cons_succ]
            refine wpAnyH_take (i := 8) (oi := ?o8_9) (v := ?v8_9) ?h8_9 (by kernel_rfl) (by kernel_rfl) (by kernel_rfl) ?q8_9 (Or.inl ⟨?z8_9, ?y8_9⟩) (by assumption) ?r8_9
            case h8_9 =>
              simp only [List.getElem?_toArray, List.getElem?_cons_succ, List.getElem?_cons_zero]
              rfl
            case q8_9 => exact fun _ _ _ h => h
            case z8_9 => rfl
            case y8_9 =>
              intro w hSw
              try dsimp only at hSw
              go_simp
              try with_reducible rfl
            try simp only [Act.put, List.setIfInBounds_toArray, List.set_cons_zero, List.set_cons_succ]
            refine wpAnyH_take (i := 9) (oi := ?o9_10) (v := ?v9_10) ?h9_10 (by kernel_rfl) (by kernel_rfl) (by kernel_rfl) ?q9_10 (Or.inl ⟨?z9_10, ?y9_10⟩) (by assumption) ?r9_10
            case h9_10 =>
              simp only [List.getElem?_toArray, List.getElem?_cons_succ, List.getElem?_cons_zero]
              rfl
            case q9_10 => exact fun _ _ _ h => h
            case z9_10 => rfl
            case y9_10 =>
              intro w hSw
              try dsimp only at hSw
              go_simp
              try with_reducible rfl
            try simp only [Act.put, List.setIfInBounds_toArray, List.set_cons_zero, List.set_cons_succ]
            refine wpAnyH_take (i := 10) (oi := ?o10_11) (v := ?v10_11) ?h10_11 (by kernel_rfl) (by kernel_rfl) (by kernel_rfl) ?q10_11 (Or.inl ⟨?z10_11, ?y10_11⟩) (by assumption) ?r10_11
            case h10_11 =>
              simp only [List.getElem?_toArray, List.getElem?_cons_succ, List.getElem?_cons_zero]
              rfl
            case q10_11 => exact fun _ _ _ h => h
            case z10_11 => rfl
            case y10_11 =>
              intro w hSw
              try dsimp only at hSw
              go_simp
              try with_reducible rfl
            try simp only [Act.put, List.setIfInBounds_toArray, List.set_cons_zero, List.set_cons_succ]
            refine wpAnyH_ready (rs := [11, 15]) (by kernel_rfl) (by simp) ?_
            refine AllReadyH.cons (o := ?o11_12) ?h11_12 (fun K hK => ?k11_12) (AllReadyH.cons (o := ?o15_12) ?h15_12 (fun K hK => ?k15_12) AllReadyH.nil)
            case h11_12 =>
              simp only [List.getElem?_toArray, List.getElem?_cons_succ, List.getElem?_cons_zero]
              rfl
            case h15_12 =>
              simp only [List.getElem?_toArray, List.getElem?_cons_succ, List.getElem?_cons_zero]
              rfl
            case k11_12 =>
              go_simp
              go_at_call 30
              refine (HREL.out _ ((Below.refl wr.heap.size wr).drew)).mono ?_
              rintro e wq ⟨us, rfl, hl, hbq⟩
              obtain ⟨A5, n5, c5, hus⟩ := mem_form hl
              subst hus
              obtain ⟨_, hL5⟩ := mem_lv hl
              have hB5 : Below wr.heap.size wr wq := ((Below.refl wr.heap.size wr).drew).trans (hbq.mono ((Below.refl wr.heap.size wr).drew).size)
              have SQ := HS.out.step hB5
              try go_wp2_with fail
              refine hK.out _ _ (by first | exact ⟨SQ.box.cell 0, SQ.box.cell 1, Q.out.1 _ SQ.row, Q.out.2 _ SQ.row⟩ | go_keep) (fun hHeld12 => ?_)
              clear hK K
              try simp only [Act.put, List.setIfInBounds_toArray, List.set_cons_zero, List.set_cons_succ]
              refine wpAnyH_take (i := 12) (oi := ?o12_13) (v := ?v12_13) ?h12_13 (by kernel_rfl) (by kernel_rfl) (by kernel_rfl) ?q12_13 (Or.inl ⟨?z12_13, ?y12_13⟩) (by assumption) ?r12_13
              case h12_13 =>
                simp only [List.getElem?_toArray, List.getElem?_cons_succ, List.getElem?_cons_zero]
                rfl
              case q12_13 => exact fun _ _ _ h => h
              case z12_13 => rfl
              case y12_13 =>
                intro w hSw
                try dsimp only at hSw
                go_simp
                try with_reducible rfl
              try simp only [Act.put, List.setIfInBounds_toArray, List.set_cons_zero, List.set_cons_succ]
              refine wpAnyH_take (i := 13) (oi := ?o13_14) (v := ?v13_14) ?h13_14 (by kernel_rfl) (by kernel_rfl) (by kernel_rfl) ?q13_14 (Or.inl ⟨?z13_14, ?y13_14⟩) (by assumption) ?r13_14
              case h13_14 =>
                simp only [List.getElem?_toArray, List.getElem?_cons_succ, List.getElem?_cons_zero]
                rfl
              case q13_14 => exact fun _ _ _ h => h
              case z13_14 => rfl
              case y13_14 =>
                intro w hSw
                try dsimp only at hSw
                go_simp
                try with_reducible rfl
              try simp only [Act.put, List.setIfInBounds_toArray, List.set_cons_zero, List.set_cons_succ]
              refine wpAnyH_take (i := 14) (oi := ?o14_15) (v := ?v14_15) ?h14_15 (by kernel_rfl) (by kernel_rfl) (by kernel_rfl) ?q14_15 (Or.inl ⟨?z14_15, ?y14_15⟩) (by assumption) ?r14_15
              case h14_15 =>
                simp only [List.getElem?_toArray, List.getElem?_cons_succ, List.getElem?_cons_zero]
                rfl
              case q14_15 => exact fun _ _ _ h => h
              case z14_15 => rfl
              case y14_15 =>
                intro w hSw
                try dsimp only at hSw
                go_simp
                try with_reducible rfl
              try simp only [Act.put, List.setIfInBounds_toArray, List.set_cons_zero, List.set_cons_succ]
              refine wpAnyH_ready (rs := [15]) (by kernel_rfl) (by simp) ?_
              refine AllReadyH.cons (o := ?o15_16) ?h15_16 (fun K hK => ?k15_16) AllReadyH.nil
              case h15_16 =>
                simp only [List.getElem?_toArray, List.getElem?_cons_succ, List.getElem?_cons_zero]
                rfl
              go_simp
              refine hK.out _ _ (by first | exact ⟨(SQ.step ((Below.refl _ _).alloc (Nat.le_refl _) (.cells #[.string ⟨#[]⟩, .slice none 0 0] 29))).box.cell 0, (SQ.step ((Below.refl _ _).alloc (Nat.le_refl _) (.cells #[.string ⟨#[]⟩, .slice none 0 0] 29))).box.cell 1, Q.out.1 _ (SQ.step ((Below.refl _ _).alloc (Nat.le_refl _) (.cells #[.string ⟨#[]⟩, .slice none 0 0] 29))).row, Q.out.2 _ (SQ.step ((Below.refl _ _).alloc (Nat.le_refl _) (.cells #[.string ⟨#[]⟩, .slice none 0 0] 29))).row⟩ | go_keep) (fun hHeld16 => ?_)
              clear hK K
              try simp only [Act.put, List.setIfInBounds_toArray, List.set_cons_zero, List.set_cons_succ]
              refine wpAnyH_ready (rs := [16]) (by kernel_rfl) (by simp) ?_
              refine AllReadyH.cons (o := ?o16_17) ?h16_17 (fun K hK => ?k16_17) AllReadyH.nil
              case h16_17 =>
                simp only [List.getElem?_toArray, List.getElem?_cons_succ, List.getElem?_cons_zero]
                rfl
              go_simp
              refine hK.out _ _ (by first | exact go_no | go_keep) (fun hHeld17 => ?_)
              clear hK K
              try simp only [Act.put, List.setIfInBounds_toArray, List.set_cons_zero, List.set_cons_succ]
              refine wpAnyH_take (i := 17) (oi := ?o17_18) (v := ?v17_18) ?h17_18 (by kernel_rfl) (by kernel_rfl) (by kernel_rfl) ?q17_18 (Or.inl ⟨?z17_18, ?y17_18⟩) (by assumption) ?r17_18
              case h17_18 =>
                simp only [List.getElem?_toArray, List.getElem?_cons_succ, List.getElem?_cons_zero]
                rfl
              case q17_18 => exact fun _ _ _ h => h
              case z17_18 => rfl
              case y17_18 =>
                intro w hSw
                try dsimp only at hSw
                go_simp
                try with_reducible rfl
              try simp only [Act.put, List.setIfInBounds_toArray, List.set_cons_zero, List.set_cons_succ]
              refine wpAnyH_done (by kernel_rfl) ?_ _
              go_wp2_with fail
              go_meet
              have hF := HS.out.step (hB5.alloc hB5.size (.cells #[.string s, .slice A5 n5 c5] 29))
              have hH : HeldM (wq.alloc (.cells #[.string s, .slice A5 n5 c5] 29)) w1.heap.size (.slice (some ⟨gg, 0, none⟩) uN uC) (giveL fs ⟨ba, bz⟩) (.slice A5 n5 c5) := (held_new hL5 HS.out.box.lt (fun g e => (HS.out.row.lt _ e).2)).step ((Below.refl _ _).alloc (Nat.le_refl _) _)
              exact ⟨wq.heap.size, A5, n5, c5, rfl, rfl, Lib.hid (Blk.new wq _ _), Lib.hid hF, Lib.hid hH, by have := SQ.box.lt; omega⟩
            case k15_12 =>
              go_simp
              refine hK.out _ _ (by first | exact ⟨(HS.out.step (((Below.refl wr.heap.size wr).alloc (Nat.le_refl _) (.cells #[.string ⟨#[]⟩, .slice none 0 0] 29)).drew)).box.cell 0, (HS.out.step (((Below.refl wr.heap.size wr).alloc (Nat.le_refl _) (.cells #[.string ⟨#[]⟩, .slice none 0 0] 29)).drew)).box.cell 1, Q.out.1 _ (HS.out.step (((Below.refl wr.heap.size wr).alloc (Nat.le_refl _) (.cells #[.string ⟨#[]⟩, .slice none 0 0] 29)).drew)).row, Q.out.2 _ (HS.out.step (((Below.refl wr.heap.size wr).alloc (Nat.le_refl _) (.cells #[.string ⟨#[]⟩, .slice none 0 0] 29)).drew)).row⟩ | go_keep) (fun hHeld12 => ?_)
              clear hK K
              try simp only [Act.put, List.setIfInBounds_toArray, List.set_cons_zero, List.set_cons_succ]
              refine wpAnyH_ready (rs := [11]) (by kernel_rfl) (by simp) ?_
              refine AllReadyH.cons (o := ?o11_19) ?h11_19 (fun K hK => ?k11_19) AllReadyH.nil
              case h11_19 =>
                simp only [List.getElem?_toArray, List.getElem?_cons_succ, List.getElem?_cons_zero]
                rfl
              go_simp
              go_at_call 30
              refine (HREL.out _ (((Below.refl wr.heap.size wr).alloc (Nat.le_refl _) (.cells #[.string ⟨#[]⟩, .slice none 0 0] 29)).drew)).mono ?_
              rintro e wq ⟨us, rfl, hl, hbq⟩
              obtain ⟨A5, n5, c5, hus⟩ := mem_form hl
              subst hus
              obtain ⟨_, hL5⟩ := mem_lv hl
              have hB5 : Below wr.heap.size wr wq := (((Below.refl wr.heap.size wr).alloc (Nat.le_refl _) (.cells #[.string ⟨#[]⟩, .slice none 0 0] 29)).drew).trans (hbq.mono (((Below.refl wr.heap.size wr).alloc (Nat.le_refl _) (.cells #[.string ⟨#[]⟩, .slice none 0 0] 29)).drew).size)
              have SQ := HS.out.step hB5
              have bX : Blk wq wr.heap.size 29 #[.string ⟨#[]⟩, .slice none 0 0] := (Blk.new wr 29 #[.string ⟨#[]⟩, .slice none 0 0]).drew.step hbq
              have x0 : wq.cell? ⟨wr.heap.size, 0, none⟩ = some (.string ⟨#[]⟩) := bX.cell 0
              have x1 : wq.cell? ⟨wr.heap.size, 1, none⟩ = some (.slice none 0 0) := bX.cell 1
              have g0 := bX.frozen 0
              have g1 := bX.frozen 1
              have hB6 : Below wr.heap.size wr ((wq.setCell ⟨wr.heap.size, 0, none⟩ (.string s)).setCell ⟨wr.heap.size, 1, none⟩ (.slice A5 n5 c5)) := (hB5.setCell (p := ⟨wr.heap.size, 0, none⟩) (Nat.le_refl _) _).setCell (p := ⟨wr.heap.size, 1, none⟩) (Nat.le_refl _) _
              have S6 := HS.out.step hB6
              try go_wp2_with fail
              refine hK.out _ _ (by first | exact ⟨SQ.box.cell 0, SQ.box.cell 1, Q.out.1 _ SQ.row, Q.out.2 _ SQ.row⟩ | go_keep) (fun hHeld19 => ?_)
              clear hK K
              try simp only [Act.put, List.setIfInBounds_toArray, List.set_cons_zero, List.set_cons_succ]
              refine wpAnyH_take (i := 12) (oi := ?o12_20) (v := ?v12_20) ?h12_20 (by kernel_rfl) (by kernel_rfl) (by kernel_rfl) ?q12_20 (Or.inl ⟨?z12_20, ?y12_20⟩) (by assumption) ?r12_20
              case h12_20 =>
                simp only [List.getElem?_toArray, List.getElem?_cons_succ, List.getElem?_cons_zero]
                rfl
              case q12_20 => exact fun _ _ _ h => h
              case z12_20 => rfl
              case y12_20 =>
                intro w hSw
                try dsimp only at hSw
                go_simp
                try with_reducible rfl
              try simp only [Act.put, List.setIfInBounds_toArray, List.set_cons_zero, List.set_cons_succ]
              refine wpAnyH_take (i := 13) (oi := ?o13_21) (v := ?v13_21) ?h13_21 (by kernel_rfl) (by kernel_rfl) (by kernel_rfl) ?q13_21 (Or.inl ⟨?z13_21, ?y13_21⟩) (by assumption) ?r13_21
              case h13_21 =>
                simp only [List.getElem?_toArray, List.getElem?_cons_succ, List.getElem?_cons_zero]
                rfl
              case q13_21 => exact fun _ _ _ h => h
              case z13_21 => rfl
              case y13_21 =>
                intro w hSw
                try dsimp only at hSw
                go_simp
                try with_reducible rfl
              try simp only [Act.put, List.setIfInBounds_toArray, List.set_cons_zero, List.set_cons_succ]
              refine wpAnyH_take (i := 14) (oi := ?o14_22) (v := ?v14_22) ?h14_22 (by kernel_rfl) (by kernel_rfl) (by kernel_rfl) ?q14_22 (Or.inl ⟨?z14_22, ?y14_22⟩) (by assumption) ?r14_22
              case h14_22 =>
                simp only [List.getElem?_toArray, List.getElem?_cons_succ, List.getElem?_cons_zero]
                rfl
              case q14_22 => exact fun _ _ _ h => h
              case z14_22 => rfl
              case y14_22 =>
                intro w hSw
                try dsimp only at hSw
                go_simp
                try with_reducible rfl
              try simp only [Act.put, List.setIfInBounds_toArray, List.set_cons_zero, List.set_cons_succ]
              refine wpAnyH_ready (rs := [16]) (by kernel_rfl) (by simp) ?_
              refine AllReadyH.cons (o := ?o16_23) ?h16_23 (fun K hK => ?k16_23) AllReadyH.nil
              case h16_23 =>
                simp only [List.getElem?_toArray, List.getElem?_cons_succ, List.getElem?_cons_zero]
                rfl
              go_simp
              refine hK.out _ _ (by first | exact ⟨S6.box.cell 0, S6.box.cell 1, Q.out.1 _ S6.row, Q.out.2 _ S6.row⟩ | go_keep) (fun hHeld23 => ?_)
              clear hK K
              try simp only [Act.put, List.setIfInBounds_toArray, List.set_cons_zero, List.set_cons_succ]
              refine wpAnyH_take (i := 17) (oi := ?o17_24) (v := ?v17_24) ?h17_24 (by kernel_rfl) (by kernel_rfl) (by kernel_rfl) ?q17_24 (Or.inl ⟨?z17_24, ?y17_24⟩) (by assumption) ?r17_24
              case h17_24 =>
                simp only [List.getElem?_toArray, List.getElem?_cons_succ, List.getElem?_cons_zero]
                rfl
              case q17_24 => exact fun _ _ _ h => h
              case z17_24 => rfl
              case y17_24 =>
                intro w hSw
                try dsimp only at hSw
                go_simp
                try with_reducible rfl
              try simp only [Act.put, List.setIfInBounds_toArray, List.set_cons_zero, List.set_cons_succ]
              refine wpAnyH_done (by kernel_rfl) ?_ _
              go_wp2_with fail
              go_meet
              have hL6 := hL5.kept (Keep.setCell (Keep.setCell (Keep.refl wr.heap.size (wr.heap.size + 1) wq) (p := ⟨wr.heap.size, 0, none⟩) (Nat.le_refl _) (Nat.lt_succ_self _) (.string s)) (p := ⟨wr.heap.size, 1, none⟩) (Nat.le_refl _) (Nat.lt_succ_self _) (.slice A5 n5 c5)) (.inr (by simp))
              have hH : HeldM ((wq.setCell ⟨wr.heap.size, 0, none⟩ (.string s)).setCell ⟨wr.heap.size, 1, none⟩ (.slice A5 n5 c5)) w1.heap.size (.slice (some ⟨gg, 0, none⟩) uN uC) (giveL fs ⟨ba, bz⟩) (.slice A5 n5 c5) := held_new hL6 (by have := HS.out.box.lt; simp; omega) (fun g e => by have := (HS.out.row.lt _ e).2; simp; omega)
              exact ⟨wr.heap.size, A5, n5, c5, rfl, rfl, Lib.hid (by have := (bX.set_ 0 (.string s)).set_ 1 (.slice A5 n5 c5); simpa using this), Lib.hid S6, Lib.hid hH, by have := HS.out.box.lt; omega⟩
          case rest =>
            obtain ⟨px, A5, n5, c5, rfl, rfl, HBX, HS2, HH2, hpx⟩ := hcut
            have x0 : wc.cell? ⟨px, 0, none⟩ = some (.string s) := HBX.out.cell 0
            have x1 : wc.cell? ⟨px, 1, none⟩ = some (.slice A5 n5 c5) := HBX.out.cell 1
            have g0 := HS2.out.box.frozen 0
            have g1 := HS2.out.box.frozen 1
            have y0 : wc.cell? ⟨w1.heap.size, 0, none⟩ = some (.string s) := HS2.out.box.cell 0
            have y1 : wc.cell? ⟨w1.heap.size, 1, none⟩ = some (.slice fA fN fC) := HS2.out.box.cell 1
            have S3 := HS2.out.setm HH2.out
            have HS3 := Lib.hid S3
            clear S3
            go_wp2_with fail
            go_roundw
            case rel => exact ⟨j + 1, giveL fs ⟨ba, bz⟩, _, by go_num, by omega, Lib.hid (by have := (HI.out.rel hb0).2; simpa [List.drop_drop] using this), HS3⟩
            case measure => simp [intOf]; omega
        case neg =>
          have hju : j = uN := by omega
          subst hju
          have hfs : fs = freeN N := by have h := HI.out; rw [List.drop_of_length_le (by have := HUN.out; omega)] at h; exact h.done
          obtain ⟨fw, HW1, HW2⟩ := HS.out.whole
          obtain ⟨gA, gN, gC, rfl⟩ := HW2.rep.form
          have HR1 := Lib.hid HS.out.hold.rep
          have HR2 := Lib.hid HW2.rep
          have HT : Hid (sameMem s fs s (freeN N) = true) := by show _ = _; rw [hfs]; simp [sameMem]
          have z0 : wr.cell? ⟨(w1.heap.size + 1), 0, none⟩ = some (.string s) := HW1.cell 0
          have z1 : wr.cell? ⟨(w1.heap.size + 1), 1, none⟩ = some (.slice gA gN gC) := HW1.cell 1
          have HWX := Lib.hid HW1
          clear hfs HW1 HW2
          go_wp2_with fail
          refine (implSame_any (Nat.le_refl _) HR1.out HR2.out).mono ?_
          rintro e w3 ⟨rfl, hb3⟩
          rw [HT.out]
          have HS3 := Lib.hid (HS.out.step hb3)
          have bw3 := HWX.out.step hb3
          have m0' : w3.cell? ⟨w1.heap.size, 0, none⟩ = some (.string s) := HS3.out.box.cell 0
          have m1' : w3.cell? ⟨w1.heap.size, 1, none⟩ = some (.slice fA fN fC) := HS3.out.box.cell 1
          have z0' : w3.cell? ⟨(w1.heap.size + 1), 0, none⟩ = some (.string s) := bw3.cell 0
          have z1' : w3.cell? ⟨(w1.heap.size + 1), 1, none⟩ = some (.slice gA gN gC) := bw3.cell 1
          go_wp2_with fail
          refine (specSame_any (Nat.le_refl _) HS3.out.hold.rep (Rep.more hb3.size _ _ (HR2.out.below hb3))).mono ?_
          rintro e w4 ⟨rfl, hb4⟩
          rw [HT.out]
          go_wp2_with fail
          go_ret
          exact ⟨rfl, HS3.out.below.trans (hb4.mono HS3.out.below.size)⟩
    go_upto_region 10 with fail
    go_cut [48] from 35 to 139 (fun v48 wx => ∃ bv : Bool, v48 = .bool bv ∧ (bv = true → 0 < uN) ∧ wx = wr)
    case first =>
      by_cases hn0 : 0 < uN
      case neg =>
        have hz : uN = 0 := by omega
        have hzd : decide ((0 : Int) < (uN : Int)) = false := decide_eq_false (by omega)
        go_wp2_with fail
        go_meet
        exact ⟨false, rfl, (fun h => by cases h), rfl⟩
      case pos =>
        have hzd : decide ((0 : Int) < (uN : Int)) = true := decide_eq_true (by omega)
        go_wp2_with fail
        refine (b10At_i HA2.out hn2 (by omega) (by omega) (by omega)).mono ?_
        rintro e w' ⟨y, rfl, hy, rfl⟩
        go_wp2_with fail
        go_meet
        exact ⟨_, rfl, fun _ => hn0, rfl⟩
    case rest =>
      obtain ⟨bv, rfl, hbv, hwc⟩ := hcut
      have hwd := hwc.symm
      clear hwc
      subst hwd
      cases bv with
      | false =>
        go_wp2_with fail
        refine (b10At_i HA1.out hn1 (by omega) (by omega) (by omega)).mono ?_
        rintro e w' ⟨z1, rfl, hz1, rfl⟩
        obtain ⟨Z, hZ⟩ : ∃ Z : Nat, Z = 1 + z1 := ⟨_, rfl⟩
        have x3 : IntKind.i64.wrap (1 + (z1 : Int)) = (Z : Int) := (IntWalk.i64_in _ (by omega)).trans (by omega)
        have hZ0 : 0 < Z ∧ Z ≤ 24 := by omega
        clear hZ
        have hw30 : IntKind.i64.wrap ((k : Int) + 30) = (k : Int) + 30 := IntWalk.i64_in _ (by omega)
        have HALC : Hid (∀ (al : Nat), alOk (al : Int) = true → ∀ W', Below wr.heap.size wr W' → Calls Try.prog 26 #[.agg #[.string s, .slice fA fN fC], .int .i64 Z, .int .i64 al] W' fun e w' => Mem3 W' (allocM s fs (Z : Int) al) e w') := fun al hal W' hW => by
          have h := implAlloc_all (z := (Z : Int)) HI.out.memOk (HS.out.step hW).hold.rep (blk_wf (memF HI.out.memOk)) hal (WalkArith.wf_i64 (by omega)) (by omega) (HS.out.step hW).hold.cap
          rw [mAlloc_all HI.out.memOk hal (by omega)] at h
          exact h
        go_upto_region 18 with fail
        go_cut [15, 16, 17] from 35 to 139 (fun v15 v16 v17 wx => ∃ (px al : Nat) (sR : ByteArray) (fR : List Block) (tR cR : Int) (A5 : Option Addr) (n5 c5 : Nat), v15 = .pointer (some ⟨px, 0, none⟩) ∧ v16 = .int .i64 tR ∧ v17 = .int .i64 cR ∧ Hid (1 ≤ al ∧ allocM s fs (Z : Int) al = (⟨sR, fR⟩, tR, cR)) ∧ Hid (Blk wx px 29 #[.string sR, .slice A5 n5 c5]) ∧ Hid (FreS w wx w1.heap.size (w1.heap.size + 1) N s fs taken (.slice uA uN uC) (.slice fA fN fC)) ∧ Hid (HeldM wx w1.heap.size (.slice uA uN uC) fR (.slice A5 n5 c5)) ∧ w1.heap.size < px)
        case first =>
          refine wp_region_held_drew (S := (fun w' => w'.cell? ⟨w1.heap.size, 0, none⟩ = some (.string s) ∧ w'.cell? ⟨w1.heap.size, 1, none⟩ = some (.slice fA fN fC))) (by kernel_rfl) ⟨HS.out.box.cell 0, HS.out.box.cell 1⟩ (fun hHeld => ?_)
          refine wpAnyH_take (i := 0) (oi := ?o0_25) (v := ?v0_25) ?h0_25 (by kernel_rfl) (by kernel_rfl) (by kernel_rfl) ?q0_25 (Or.inl ⟨?z0_25, ?y0_25⟩) (by assumption) ?r0_25
          case h0_25 =>
            simp only [List.getElem?_toArray, List.getElem?_cons_succ, List.getElem?_cons_zero]
            rfl
          case q0_25 => exact fun _ _ _ h => h
          case z0_25 => rfl
          case y0_25 =>
            intro w hSw
            try dsimp only at hSw
            go_simp
            try with_reducible rfl
          try simp only [Act.put, List.setIfInBounds_toArray, List.set_cons_zero, List.set_cons_succ]
          refine wpAnyH_take (i := 1) (oi := ?o1_26) (v := ?v1_26) ?h1_26 (by kernel_rfl) (by kernel_rfl) (by kernel_rfl) ?q1_26 (Or.inl ⟨?z1_26, ?y1_26⟩) (by assumption) ?r1_26
          case h1_26 =>
            simp only [List.getElem?_toArray, List.getElem?_cons_succ, List.getElem?_cons_zero]
            rfl
          case q1_26 => exact fun _ _ _ h => h
          case z1_26 => rfl
          case y1_26 =>
            intro w hSw
            try dsimp only at hSw
            go_simp
            try with_reducible rfl
          try simp only [Act.put, List.setIfInBounds_toArray, List.set_cons_zero, List.set_cons_succ]
          refine wpAnyH_take (i := 3) (oi := ?o3_27) (v := ?v3_27) ?h3_27 (by kernel_rfl) (by kernel_rfl) (by kernel_rfl) ?q3_27 (Or.inl ⟨?z3_27, ?y3_27⟩) (by assumption) ?r3_27
          case h3_27 =>
            simp only [List.getElem?_toArray, List.getElem?_cons_succ, List.getElem?_cons_zero]
            rfl
          case q3_27 => exact fun _ _ _ h => h
          case z3_27 => rfl
          case y3_27 =>
            intro w hSw
            try dsimp only at hSw
            go_simp
            try with_reducible rfl
          try simp only [Act.put, List.setIfInBounds_toArray, List.set_cons_zero, List.set_cons_succ]
          refine wpAnyH_take (i := 4) (oi := ?o4_28) (v := ?v4_28) ?h4_28 (by kernel_rfl) (by kernel_rfl) (by kernel_rfl) ?q4_28 (Or.inl ⟨?z4_28, ?y4_28⟩) (by assumption) ?r4_28
          case h4_28 =>
            simp only [List.getElem?_toArray, List.getElem?_cons_succ, List.getElem?_cons_zero]
            rfl
          case q4_28 => exact fun _ _ _ h => h
          case z4_28 => rfl
          case y4_28 =>
            intro w hSw
            try dsimp only at hSw
            go_simp
            try with_reducible rfl
          try simp only [Act.put, List.setIfInBounds_toArray, List.set_cons_zero, List.set_cons_succ]
          refine wpAnyH_take (i := 5) (oi := ?o5_29) (v := ?v5_29) ?h5_29 (by kernel_rfl) (by kernel_rfl) (by kernel_rfl) ?q5_29 (Or.inl ⟨?z5_29, ?y5_29⟩) (by assumption) ?r5_29
          case h5_29 =>
            simp only [List.getElem?_toArray, List.getElem?_cons_succ, List.getElem?_cons_zero]
            rfl
          case q5_29 => exact fun _ _ _ h => h
          case z5_29 => rfl
          case y5_29 =>
            intro w hSw
            try dsimp only at hSw
            go_simp
            try with_reducible rfl
          try simp only [Act.put, List.setIfInBounds_toArray, List.set_cons_zero, List.set_cons_succ]
          refine wpAnyH_ready (rs := [2, 6, 14]) (by kernel_rfl) (by simp) ?_
          refine AllReadyH.cons (o := ?o2_30) ?h2_30 (fun K hK => ?k2_30) (AllReadyH.cons (o := ?o6_30) ?h6_30 (fun K hK => ?k6_30) (AllReadyH.cons (o := ?o14_30) ?h14_30 (fun K hK => ?k14_30) AllReadyH.nil))
          case h2_30 =>
            simp only [List.getElem?_toArray, List.getElem?_cons_succ, List.getElem?_cons_zero]
            rfl
          case h6_30 =>
            simp only [List.getElem?_toArray, List.getElem?_cons_succ, List.getElem?_cons_zero]
            rfl
          case h14_30 =>
            simp only [List.getElem?_toArray, List.getElem?_cons_succ, List.getElem?_cons_zero]
            rfl
          case k2_30 =>
            go_simp
            refine hK.out _ _ (by first | exact ⟨(HS.out.step (((Below.refl wr.heap.size wr).alloc (by simp) (.cells #[.int .i64 1, .int .i64 2, .int .i64 4, .int .i64 8] 2)).drew)).box.cell 0, (HS.out.step (((Below.refl wr.heap.size wr).alloc (by simp) (.cells #[.int .i64 1, .int .i64 2, .int .i64 4, .int .i64 8] 2)).drew)).box.cell 1⟩ | go_keep) (fun hHeld30 => ?_)
            clear hK K
            try simp only [Act.put, List.setIfInBounds_toArray, List.set_cons_zero, List.set_cons_succ]
            refine wpAnyH_ready (rs := [6, 14]) (by kernel_rfl) (by simp) ?_
            refine AllReadyH.cons (o := ?o6_31) ?h6_31 (fun K hK => ?k6_31) (AllReadyH.cons (o := ?o14_31) ?h14_31 (fun K hK => ?k14_31) AllReadyH.nil)
            case h6_31 =>
              simp only [List.getElem?_toArray, List.getElem?_cons_succ, List.getElem?_cons_zero]
              rfl
            case h14_31 =>
              simp only [List.getElem?_toArray, List.getElem?_cons_succ, List.getElem?_cons_zero]
              rfl
            case k6_31 =>
              go_simp
              go_at_call 32
              refine (b10At_i (i := (k : Int) + 30) (n := 4) ((HA2.out.below (((Below.refl wr.heap.size wr).alloc (by simp) (.cells #[.int .i64 1, .int .i64 2, .int .i64 4, .int .i64 8] 2)).drew) (Nat.le_refl _)).more (((Below.refl wr.heap.size wr).alloc (by simp) (.cells #[.int .i64 1, .int .i64 2, .int .i64 4, .int .i64 8] 2)).drew).size) hn2 (by omega) (by omega) (by omega)).mono ?_
              rintro e w' ⟨z2, rfl, hz2, rfl⟩
              obtain ⟨al, hal, hal4⟩ := four_at z2 hz2
              have HAL4 := Lib.hid hal4
              clear hal4
              have hz4 : z2 < 4 := by omega
              have hz5 : (z2 : Int) < 4 := by omega
              try go_wp2_with fail
              refine hK.out _ _ (by first | exact ⟨(HS.out.step (((Below.refl wr.heap.size wr).alloc (by simp) (.cells #[.int .i64 1, .int .i64 2, .int .i64 4, .int .i64 8] 2)).drew)).box.cell 0, (HS.out.step (((Below.refl wr.heap.size wr).alloc (by simp) (.cells #[.int .i64 1, .int .i64 2, .int .i64 4, .int .i64 8] 2)).drew)).box.cell 1⟩ | go_keep) (fun hHeld31 => ?_)
              clear hK K
              try simp only [Act.put, List.setIfInBounds_toArray, List.set_cons_zero, List.set_cons_succ]
              refine wpAnyH_take (i := 7) (oi := ?o7_32) (v := ?v7_32) ?h7_32 (by kernel_rfl) (by kernel_rfl) (by kernel_rfl) ?q7_32 (Or.inl ⟨?z7_32, ?y7_32⟩) (by assumption) ?r7_32
              case h7_32 =>
                simp only [List.getElem?_toArray, List.getElem?_cons_succ, List.getElem?_cons_zero]
                rfl
              case q7_32 => exact fun _ _ _ h => h
              case z7_32 => rfl
              case y7_32 =>
                intro w hSw
                try dsimp only at hSw
                go_simp
                try with_reducible rfl
              try simp only [Act.put, List.setIfInBounds_toArray, List.set_cons_zero, List.set_cons_succ]
              refine wpAnyH_ready (rs := [8, 14]) (by kernel_rfl) (by simp) ?_
              refine AllReadyH.cons (o := ?o8_33) ?h8_33 (fun K hK => ?k8_33) (AllReadyH.cons (o := ?o14_33) ?h14_33 (fun K hK => ?k14_33) AllReadyH.nil)
              case h8_33 =>
                simp only [List.getElem?_toArray, List.getElem?_cons_succ, List.getElem?_cons_zero]
                rfl
              case h14_33 =>
                simp only [List.getElem?_toArray, List.getElem?_cons_succ, List.getElem?_cons_zero]
                rfl
              case k8_33 =>
                have hcal := HAL4.out _ _ _ (Blk.new wr 2 #[.int .i64 1, .int .i64 2, .int .i64 4, .int .i64 8]).drew
                go_simp
                refine hK.out _ _ (by first | exact ⟨(HS.out.step (((Below.refl wr.heap.size wr).alloc (by simp) (.cells #[.int .i64 1, .int .i64 2, .int .i64 4, .int .i64 8] 2)).drew)).box.cell 0, (HS.out.step (((Below.refl wr.heap.size wr).alloc (by simp) (.cells #[.int .i64 1, .int .i64 2, .int .i64 4, .int .i64 8] 2)).drew)).box.cell 1⟩ | go_keep) (fun hHeld33 => ?_)
                clear hK K
                try simp only [Act.put, List.setIfInBounds_toArray, List.set_cons_zero, List.set_cons_succ]
                refine wpAnyH_ready (rs := [9, 14]) (by kernel_rfl) (by simp) ?_
                refine AllReadyH.cons (o := ?o9_34) ?h9_34 (fun K hK => ?k9_34) (AllReadyH.cons (o := ?o14_34) ?h14_34 (fun K hK => ?k14_34) AllReadyH.nil)
                case h9_34 =>
                  simp only [List.getElem?_toArray, List.getElem?_cons_succ, List.getElem?_cons_zero]
                  rfl
                case h14_34 =>
                  simp only [List.getElem?_toArray, List.getElem?_cons_succ, List.getElem?_cons_zero]
                  rfl
                case k9_34 =>
                  go_simp
                  go_at_call 26
                  have hAC := HALC.out al hal _ (((Below.refl wr.heap.size wr).alloc (by simp) (.cells #[.int .i64 1, .int .i64 2, .int .i64 4, .int .i64 8] 2)).drew)
                  obtain ⟨⟨⟨sR, fR⟩, tR, cR⟩, hr⟩ : ∃ r, allocM s fs (Z : Int) al = r := ⟨_, rfl⟩
                  rw [hr] at hAC
                  refine hAC.mono ?_
                  rintro e wq ⟨us, rfl, hl, hbq⟩
                  obtain ⟨A5, n5, c5, hus⟩ := mem_form hl
                  simp only at hus
                  subst hus
                  obtain ⟨_, hL5⟩ := mem_lv hl
                  have hB5 : Below wr.heap.size wr wq := (((Below.refl wr.heap.size wr).alloc (by simp) (.cells #[.int .i64 1, .int .i64 2, .int .i64 4, .int .i64 8] 2)).drew).trans (hbq.mono (((Below.refl wr.heap.size wr).alloc (by simp) (.cells #[.int .i64 1, .int .i64 2, .int .i64 4, .int .i64 8] 2)).drew).size)
                  have SQ := HS.out.step hB5
                  try go_wp2_with fail
                  refine hK.out _ _ (by first | exact ⟨SQ.box.cell 0, SQ.box.cell 1⟩ | go_keep) (fun hHeld34 => ?_)
                  clear hK K
                  try simp only [Act.put, List.setIfInBounds_toArray, List.set_cons_zero, List.set_cons_succ]
                  refine wpAnyH_take (i := 10) (oi := ?o10_35) (v := ?v10_35) ?h10_35 (by kernel_rfl) (by kernel_rfl) (by kernel_rfl) ?q10_35 (Or.inl ⟨?z10_35, ?y10_35⟩) (by assumption) ?r10_35
                  case h10_35 =>
                    simp only [List.getElem?_toArray, List.getElem?_cons_succ, List.getElem?_cons_zero]
                    rfl
                  case q10_35 => exact fun _ _ _ h => h
                  case z10_35 => rfl
                  case y10_35 =>
                    intro w hSw
                    try dsimp only at hSw
                    go_simp
                    try with_reducible rfl
                  try simp only [Act.put, List.setIfInBounds_toArray, List.set_cons_zero, List.set_cons_succ]
                  refine wpAnyH_take (i := 11) (oi := ?o11_36) (v := ?v11_36) ?h11_36 (by kernel_rfl) (by kernel_rfl) (by kernel_rfl) ?q11_36 (Or.inl ⟨?z11_36, ?y11_36⟩) (by assumption) ?r11_36
                  case h11_36 =>
                    simp only [List.getElem?_toArray, List.getElem?_cons_succ, List.getElem?_cons_zero]
                    rfl
                  case q11_36 => exact fun _ _ _ h => h
                  case z11_36 => rfl
                  case y11_36 =>
                    intro w hSw
                    try dsimp only at hSw
                    go_simp
                    try with_reducible rfl
                  try simp only [Act.put, List.setIfInBounds_toArray, List.set_cons_zero, List.set_cons_succ]
                  refine wpAnyH_take (i := 12) (oi := ?o12_37) (v := ?v12_37) ?h12_37 (by kernel_rfl) (by kernel_rfl) (by kernel_rfl) ?q12_37 (Or.inl ⟨?z12_37, ?y12_37⟩) (by assumption) ?r12_37
                  case h12_37 =>
                    simp only [List.getElem?_toArray, List.getElem?_cons_succ, List.getElem?_cons_zero]
                    rfl
                  case q12_37 => exact fun _ _ _ h => h
                  case z12_37 => rfl
                  case y12_37 =>
                    intro w hSw
                    try dsimp only at hSw
                    go_simp
                    try with_reducible rfl
                  try simp only [Act.put, List.setIfInBounds_toArray, List.set_cons_zero, List.set_cons_succ]
                  refine wpAnyH_take (i := 13) (oi := ?o13_38) (v := ?v13_38) ?h13_38 (by kernel_rfl) (by kernel_rfl) (by kernel_rfl) ?q13_38 (Or.inl ⟨?z13_38, ?y13_38⟩) (by assumption) ?r13_38
                  case h13_38 =>
                    simp only [List.getElem?_toArray, List.getElem?_cons_succ, List.getElem?_cons_zero]
                    rfl
                  case q13_38 => exact fun _ _ _ h => h
                  case z13_38 => rfl
                  case y13_38 =>
                    intro w hSw
                    try dsimp only at hSw
                    go_simp
                    try with_reducible rfl
                  try simp only [Act.put, List.setIfInBounds_toArray, List.set_cons_zero, List.set_cons_succ]
                  refine wpAnyH_ready (rs := [14]) (by kernel_rfl) (by simp) ?_
                  refine AllReadyH.cons (o := ?o14_39) ?h14_39 (fun K hK => ?k14_39) AllReadyH.nil
                  case h14_39 =>
                    simp only [List.getElem?_toArray, List.getElem?_cons_succ, List.getElem?_cons_zero]
                    rfl
                  go_simp
                  refine hK.out _ _ (by first | exact ⟨(SQ.step ((Below.refl _ _).alloc (Nat.le_refl _) (.cells #[.string ⟨#[]⟩, .slice none 0 0] 29))).box.cell 0, (SQ.step ((Below.refl _ _).alloc (Nat.le_refl _) (.cells #[.string ⟨#[]⟩, .slice none 0 0] 29))).box.cell 1⟩ | go_keep) (fun hHeld39 => ?_)
                  clear hK K
                  try simp only [Act.put, List.setIfInBounds_toArray, List.set_cons_zero, List.set_cons_succ]
                  refine wpAnyH_ready (rs := [15]) (by kernel_rfl) (by simp) ?_
                  refine AllReadyH.cons (o := ?o15_40) ?h15_40 (fun K hK => ?k15_40) AllReadyH.nil
                  case h15_40 =>
                    simp only [List.getElem?_toArray, List.getElem?_cons_succ, List.getElem?_cons_zero]
                    rfl
                  go_simp
                  refine hK.out _ _ (by first | exact go_no | go_keep) (fun hHeld40 => ?_)
                  clear hK K
                  try simp only [Act.put, List.setIfInBounds_toArray, List.set_cons_zero, List.set_cons_succ]
                  refine wpAnyH_take (i := 16) (oi := ?o16_41) (v := ?v16_41) ?h16_41 (by kernel_rfl) (by kernel_rfl) (by kernel_rfl) ?q16_41 (Or.inl ⟨?z16_41, ?y16_41⟩) (by assumption) ?r16_41
                  case h16_41 =>
                    simp only [List.getElem?_toArray, List.getElem?_cons_succ, List.getElem?_cons_zero]
                    rfl
                  case q16_41 => exact fun _ _ _ h => h
                  case z16_41 => rfl
                  case y16_41 =>
                    intro w hSw
                    try dsimp only at hSw
                    go_simp
                    try with_reducible rfl
                  try simp only [Act.put, List.setIfInBounds_toArray, List.set_cons_zero, List.set_cons_succ]
                  refine wpAnyH_take (i := 17) (oi := ?o17_42) (v := ?v17_42) ?h17_42 (by kernel_rfl) (by kernel_rfl) (by kernel_rfl) ?q17_42 (Or.inl ⟨?z17_42, ?y17_42⟩) (by assumption) ?r17_42
                  case h17_42 =>
                    simp only [List.getElem?_toArray, List.getElem?_cons_succ, List.getElem?_cons_zero]
                    rfl
                  case q17_42 => exact fun _ _ _ h => h
                  case z17_42 => rfl
                  case y17_42 =>
                    intro w hSw
                    try dsimp only at hSw
                    go_simp
                    try with_reducible rfl
                  try simp only [Act.put, List.setIfInBounds_toArray, List.set_cons_zero, List.set_cons_succ]
                  refine wpAnyH_done (by kernel_rfl) ?_ _
                  go_wp2_with fail
                  go_meet
                  have hF := HS.out.step (hB5.alloc hB5.size (.cells #[.string sR, .slice A5 n5 c5] 29))
                  have hH : HeldM (wq.alloc (.cells #[.string sR, .slice A5 n5 c5] 29)) w1.heap.size (.slice uA uN uC) fR (.slice A5 n5 c5) := (held_new hL5 (by have := HS.out.box.lt; simp; omega) (fun g e => by have := (HS.out.row.lt _ e).2; simp; omega)).step ((Below.refl _ _).alloc (Nat.le_refl _) _)
                  exact ⟨wq.heap.size, al, sR, fR, tR, cR, A5, n5, c5, rfl, rfl, rfl, Lib.hid ⟨by have := alOk_cases hal; omega, hr⟩, Lib.hid (Blk.new wq _ _), Lib.hid hF, Lib.hid hH, by have := SQ.box.lt; omega⟩
                case k14_34 =>
                  go_simp
                  refine hK.out _ _ (by first | exact ⟨(HS.out.step ((((Below.refl wr.heap.size wr).alloc (by simp) (.cells #[.int .i64 1, .int .i64 2, .int .i64 4, .int .i64 8] 2)).alloc (by simp) (.cells #[.string ⟨#[]⟩, .slice none 0 0] 29)).drew)).box.cell 0, (HS.out.step ((((Below.refl wr.heap.size wr).alloc (by simp) (.cells #[.int .i64 1, .int .i64 2, .int .i64 4, .int .i64 8] 2)).alloc (by simp) (.cells #[.string ⟨#[]⟩, .slice none 0 0] 29)).drew)).box.cell 1⟩ | go_keep) (fun hHeld34 => ?_)
                  clear hK K
                  try simp only [Act.put, List.setIfInBounds_toArray, List.set_cons_zero, List.set_cons_succ]
                  refine wpAnyH_ready (rs := [9]) (by kernel_rfl) (by simp) ?_
                  refine AllReadyH.cons (o := ?o9_43) ?h9_43 (fun K hK => ?k9_43) AllReadyH.nil
                  case h9_43 =>
                    simp only [List.getElem?_toArray, List.getElem?_cons_succ, List.getElem?_cons_zero]
                    rfl
                  go_simp
                  go_at_call 26
                  have hAC := HALC.out al hal _ ((((Below.refl wr.heap.size wr).alloc (by simp) (.cells #[.int .i64 1, .int .i64 2, .int .i64 4, .int .i64 8] 2)).alloc (by simp) (.cells #[.string ⟨#[]⟩, .slice none 0 0] 29)).drew)
                  obtain ⟨⟨⟨sR, fR⟩, tR, cR⟩, hr⟩ : ∃ r, allocM s fs (Z : Int) al = r := ⟨_, rfl⟩
                  rw [hr] at hAC
                  refine hAC.mono ?_
                  rintro e wq ⟨us, rfl, hl, hbq⟩
                  obtain ⟨A5, n5, c5, hus⟩ := mem_form hl
                  simp only at hus
                  subst hus
                  obtain ⟨_, hL5⟩ := mem_lv hl
                  have hB5 : Below wr.heap.size wr wq := ((((Below.refl wr.heap.size wr).alloc (by simp) (.cells #[.int .i64 1, .int .i64 2, .int .i64 4, .int .i64 8] 2)).alloc (by simp) (.cells #[.string ⟨#[]⟩, .slice none 0 0] 29)).drew).trans (hbq.mono ((((Below.refl wr.heap.size wr).alloc (by simp) (.cells #[.int .i64 1, .int .i64 2, .int .i64 4, .int .i64 8] 2)).alloc (by simp) (.cells #[.string ⟨#[]⟩, .slice none 0 0] 29)).drew).size)
                  have SQ := HS.out.step hB5
                  have bX : Blk wq (wr.heap.size + 1) 29 #[.string ⟨#[]⟩, .slice none 0 0] := Blk.step (show Blk (((wr.alloc (.cells #[.int .i64 1, .int .i64 2, .int .i64 4, .int .i64 8] 2)).alloc (.cells #[.string ⟨#[]⟩, .slice none 0 0] 29)).drew) (wr.heap.size + 1) 29 #[.string ⟨#[]⟩, .slice none 0 0] by have := (Blk.new (wr.alloc (.cells #[.int .i64 1, .int .i64 2, .int .i64 4, .int .i64 8] 2)) 29 #[.string ⟨#[]⟩, .slice none 0 0]).drew; simpa using this) hbq
                  have x0 : wq.cell? ⟨(wr.heap.size + 1), 0, none⟩ = some (.string ⟨#[]⟩) := bX.cell 0
                  have x1 : wq.cell? ⟨(wr.heap.size + 1), 1, none⟩ = some (.slice none 0 0) := bX.cell 1
                  have g0 := bX.frozen 0
                  have g1 := bX.frozen 1
                  have hB6 : Below wr.heap.size wr ((wq.setCell ⟨(wr.heap.size + 1), 0, none⟩ (.string sR)).setCell ⟨(wr.heap.size + 1), 1, none⟩ (.slice A5 n5 c5)) := (hB5.setCell (p := ⟨(wr.heap.size + 1), 0, none⟩) (by show wr.heap.size ≤ (wr.heap.size + 1); omega) _).setCell (p := ⟨(wr.heap.size + 1), 1, none⟩) (by show wr.heap.size ≤ (wr.heap.size + 1); omega) _
                  have S6 := HS.out.step hB6
                  try go_wp2_with fail
                  refine hK.out _ _ (by first | exact ⟨SQ.box.cell 0, SQ.box.cell 1⟩ | go_keep) (fun hHeld43 => ?_)
                  clear hK K
                  try simp only [Act.put, List.setIfInBounds_toArray, List.set_cons_zero, List.set_cons_succ]
                  refine wpAnyH_take (i := 10) (oi := ?o10_44) (v := ?v10_44) ?h10_44 (by kernel_rfl) (by kernel_rfl) (by kernel_rfl) ?q10_44 (Or.inl ⟨?z10_44, ?y10_44⟩) (by assumption) ?r10_44
                  case h10_44 =>
                    simp only [List.getElem?_toArray, List.getElem?_cons_succ, List.getElem?_cons_zero]
                    rfl
                  case q10_44 => exact fun _ _ _ h => h
                  case z10_44 => rfl
                  case y10_44 =>
                    intro w hSw
                    try dsimp only at hSw
                    go_simp
                    try with_reducible rfl
                  try simp only [Act.put, List.setIfInBounds_toArray, List.set_cons_zero, List.set_cons_succ]
                  refine wpAnyH_take (i := 11) (oi := ?o11_45) (v := ?v11_45) ?h11_45 (by kernel_rfl) (by kernel_rfl) (by kernel_rfl) ?q11_45 (Or.inl ⟨?z11_45, ?y11_45⟩) (by assumption) ?r11_45
                  case h11_45 =>
                    simp only [List.getElem?_toArray, List.getElem?_cons_succ, List.getElem?_cons_zero]
                    rfl
                  case q11_45 => exact fun _ _ _ h => h
                  case z11_45 => rfl
                  case y11_45 =>
                    intro w hSw
                    try dsimp only at hSw
                    go_simp
                    try with_reducible rfl
                  try simp only [Act.put, List.setIfInBounds_toArray, List.set_cons_zero, List.set_cons_succ]
                  refine wpAnyH_take (i := 12) (oi := ?o12_46) (v := ?v12_46) ?h12_46 (by kernel_rfl) (by kernel_rfl) (by kernel_rfl) ?q12_46 (Or.inl ⟨?z12_46, ?y12_46⟩) (by assumption) ?r12_46
                  case h12_46 =>
                    simp only [List.getElem?_toArray, List.getElem?_cons_succ, List.getElem?_cons_zero]
                    rfl
                  case q12_46 => exact fun _ _ _ h => h
                  case z12_46 => rfl
                  case y12_46 =>
                    intro w hSw
                    try dsimp only at hSw
                    go_simp
                    try with_reducible rfl
                  try simp only [Act.put, List.setIfInBounds_toArray, List.set_cons_zero, List.set_cons_succ]
                  refine wpAnyH_take (i := 13) (oi := ?o13_47) (v := ?v13_47) ?h13_47 (by kernel_rfl) (by kernel_rfl) (by kernel_rfl) ?q13_47 (Or.inl ⟨?z13_47, ?y13_47⟩) (by assumption) ?r13_47
                  case h13_47 =>
                    simp only [List.getElem?_toArray, List.getElem?_cons_succ, List.getElem?_cons_zero]
                    rfl
                  case q13_47 => exact fun _ _ _ h => h
                  case z13_47 => rfl
                  case y13_47 =>
                    intro w hSw
                    try dsimp only at hSw
                    go_simp
                    try with_reducible rfl
                  try simp only [Act.put, List.setIfInBounds_toArray, List.set_cons_zero, List.set_cons_succ]
                  refine wpAnyH_ready (rs := [15]) (by kernel_rfl) (by simp) ?_
                  refine AllReadyH.cons (o := ?o15_48) ?h15_48 (fun K hK => ?k15_48) AllReadyH.nil
                  case h15_48 =>
                    simp only [List.getElem?_toArray, List.getElem?_cons_succ, List.getElem?_cons_zero]
                    rfl
                  go_simp
                  refine hK.out _ _ (by first | exact ⟨S6.box.cell 0, S6.box.cell 1⟩ | go_keep) (fun hHeld48 => ?_)
                  clear hK K
                  try simp only [Act.put, List.setIfInBounds_toArray, List.set_cons_zero, List.set_cons_succ]
                  refine wpAnyH_take (i := 16) (oi := ?o16_49) (v := ?v16_49) ?h16_49 (by kernel_rfl) (by kernel_rfl) (by kernel_rfl) ?q16_49 (Or.inl ⟨?z16_49, ?y16_49⟩) (by assumption) ?r16_49
                  case h16_49 =>
                    simp only [List.getElem?_toArray, List.getElem?_cons_succ, List.getElem?_cons_zero]
                    rfl
                  case q16_49 => exact fun _ _ _ h => h
                  case z16_49 => rfl
                  case y16_49 =>
                    intro w hSw
                    try dsimp only at hSw
                    go_simp
                    try with_reducible rfl
                  try simp only [Act.put, List.setIfInBounds_toArray, List.set_cons_zero, List.set_cons_succ]
                  refine wpAnyH_take (i := 17) (oi := ?o17_50) (v := ?v17_50) ?h17_50 (by kernel_rfl) (by kernel_rfl) (by kernel_rfl) ?q17_50 (Or.inl ⟨?z17_50, ?y17_50⟩) (by assumption) ?r17_50
                  case h17_50 =>
                    simp only [List.getElem?_toArray, List.getElem?_cons_succ, List.getElem?_cons_zero]
                    rfl
                  case q17_50 => exact fun _ _ _ h => h
                  case z17_50 => rfl
                  case y17_50 =>
                    intro w hSw
                    try dsimp only at hSw
                    go_simp
                    try with_reducible rfl
                  try simp only [Act.put, List.setIfInBounds_toArray, List.set_cons_zero, List.set_cons_succ]
                  refine wpAnyH_done (by kernel_rfl) ?_ _
                  go_wp2_with fail
                  go_meet
                  have hL6 := hL5.kept (Keep.setCell (Keep.setCell (Keep.refl (wr.heap.size + 1) ((wr.heap.size + 1) + 1) wq) (p := ⟨(wr.heap.size + 1), 0, none⟩) (Nat.le_refl _) (Nat.lt_succ_self _) (.string sR)) (p := ⟨(wr.heap.size + 1), 1, none⟩) (Nat.le_refl _) (Nat.lt_succ_self _) (.slice A5 n5 c5)) (.inr (by simp))
                  have hH : HeldM ((wq.setCell ⟨(wr.heap.size + 1), 0, none⟩ (.string sR)).setCell ⟨(wr.heap.size + 1), 1, none⟩ (.slice A5 n5 c5)) w1.heap.size (.slice uA uN uC) fR (.slice A5 n5 c5) := held_new hL6 (by have := HS.out.box.lt; simp; omega) (fun g e => by have := (HS.out.row.lt _ e).2; simp; omega)
                  exact ⟨(wr.heap.size + 1), al, sR, fR, tR, cR, A5, n5, c5, rfl, rfl, rfl, Lib.hid ⟨by have := alOk_cases hal; omega, hr⟩, Lib.hid (by have := (bX.set_ 0 (.string sR)).set_ 1 (.slice A5 n5 c5); simpa using this), Lib.hid S6, Lib.hid hH, by have := HS.out.box.lt; omega⟩
              case k14_33 =>
                go_simp
                refine hK.out _ _ (by first | exact ⟨(HS.out.step ((((Below.refl wr.heap.size wr).alloc (by simp) (.cells #[.int .i64 1, .int .i64 2, .int .i64 4, .int .i64 8] 2)).alloc (by simp) (.cells #[.string ⟨#[]⟩, .slice none 0 0] 29)).drew)).box.cell 0, (HS.out.step ((((Below.refl wr.heap.size wr).alloc (by simp) (.cells #[.int .i64 1, .int .i64 2, .int .i64 4, .int .i64 8] 2)).alloc (by simp) (.cells #[.string ⟨#[]⟩, .slice none 0 0] 29)).drew)).box.cell 1⟩ | go_keep) (fun hHeld33 => ?_)
                clear hK K
                try simp only [Act.put, List.setIfInBounds_toArray, List.set_cons_zero, List.set_cons_succ]
                refine wpAnyH_ready (rs := [8]) (by kernel_rfl) (by simp) ?_
                refine AllReadyH.cons (o := ?o8_51) ?h8_51 (fun K hK => ?k8_51) AllReadyH.nil
                case h8_51 =>
                  simp only [List.getElem?_toArray, List.getElem?_cons_succ, List.getElem?_cons_zero]
                  rfl
                have hcal := HAL4.out _ _ _ ((Blk.new wr 2 #[.int .i64 1, .int .i64 2, .int .i64 4, .int .i64 8]).alloc (.cells #[.string ⟨#[]⟩, .slice none 0 0] 29)).drew
                go_simp
                refine hK.out _ _ (by first | exact ⟨(HS.out.step ((((Below.refl wr.heap.size wr).alloc (by simp) (.cells #[.int .i64 1, .int .i64 2, .int .i64 4, .int .i64 8] 2)).alloc (by simp) (.cells #[.string ⟨#[]⟩, .slice none 0 0] 29)).drew)).box.cell 0, (HS.out.step ((((Below.refl wr.heap.size wr).alloc (by simp) (.cells #[.int .i64 1, .int .i64 2, .int .i64 4, .int .i64 8] 2)).alloc (by simp) (.cells #[.string ⟨#[]⟩, .slice none 0 0] 29)).drew)).box.cell 1⟩ | go_keep) (fun hHeld51 => ?_)
                clear hK K
                try simp only [Act.put, List.setIfInBounds_toArray, List.set_cons_zero, List.set_cons_succ]
                refine wpAnyH_ready (rs := [9]) (by kernel_rfl) (by simp) ?_
                refine AllReadyH.cons (o := ?o9_52) ?h9_52 (fun K hK => ?k9_52) AllReadyH.nil
                case h9_52 =>
                  simp only [List.getElem?_toArray, List.getElem?_cons_succ, List.getElem?_cons_zero]
                  rfl
                go_simp
                go_at_call 26
                have hAC := HALC.out al hal _ ((((Below.refl wr.heap.size wr).alloc (by simp) (.cells #[.int .i64 1, .int .i64 2, .int .i64 4, .int .i64 8] 2)).alloc (by simp) (.cells #[.string ⟨#[]⟩, .slice none 0 0] 29)).drew)
                obtain ⟨⟨⟨sR, fR⟩, tR, cR⟩, hr⟩ : ∃ r, allocM s fs (Z : Int) al = r := ⟨_, rfl⟩
                rw [hr] at hAC
                refine hAC.mono ?_
                rintro e wq ⟨us, rfl, hl, hbq⟩
                obtain ⟨A5, n5, c5, hus⟩ := mem_form hl
                simp only at hus
                subst hus
                obtain ⟨_, hL5⟩ := mem_lv hl
                have hB5 : Below wr.heap.size wr wq := ((((Below.refl wr.heap.size wr).alloc (by simp) (.cells #[.int .i64 1, .int .i64 2, .int .i64 4, .int .i64 8] 2)).alloc (by simp) (.cells #[.string ⟨#[]⟩, .slice none 0 0] 29)).drew).trans (hbq.mono ((((Below.refl wr.heap.size wr).alloc (by simp) (.cells #[.int .i64 1, .int .i64 2, .int .i64 4, .int .i64 8] 2)).alloc (by simp) (.cells #[.string ⟨#[]⟩, .slice none 0 0] 29)).drew).size)
                have SQ := HS.out.step hB5
                have bX : Blk wq (wr.heap.size + 1) 29 #[.string ⟨#[]⟩, .slice none 0 0] := Blk.step (show Blk (((wr.alloc (.cells #[.int .i64 1, .int .i64 2, .int .i64 4, .int .i64 8] 2)).alloc (.cells #[.string ⟨#[]⟩, .slice none 0 0] 29)).drew) (wr.heap.size + 1) 29 #[.string ⟨#[]⟩, .slice none 0 0] by have := (Blk.new (wr.alloc (.cells #[.int .i64 1, .int .i64 2, .int .i64 4, .int .i64 8] 2)) 29 #[.string ⟨#[]⟩, .slice none 0 0]).drew; simpa using this) hbq
                have x0 : wq.cell? ⟨(wr.heap.size + 1), 0, none⟩ = some (.string ⟨#[]⟩) := bX.cell 0
                have x1 : wq.cell? ⟨(wr.heap.size + 1), 1, none⟩ = some (.slice none 0 0) := bX.cell 1
                have g0 := bX.frozen 0
                have g1 := bX.frozen 1
                have hB6 : Below wr.heap.size wr ((wq.setCell ⟨(wr.heap.size + 1), 0, none⟩ (.string sR)).setCell ⟨(wr.heap.size + 1), 1, none⟩ (.slice A5 n5 c5)) := (hB5.setCell (p := ⟨(wr.heap.size + 1), 0, none⟩) (by show wr.heap.size ≤ (wr.heap.size + 1); omega) _).setCell (p := ⟨(wr.heap.size + 1), 1, none⟩) (by show wr.heap.size ≤ (wr.heap.size + 1); omega) _
                have S6 := HS.out.step hB6
                try go_wp2_with fail
                refine hK.out _ _ (by first | exact ⟨SQ.box.cell 0, SQ.box.cell 1⟩ | go_keep) (fun hHeld52 => ?_)
                clear hK K
                try simp only [Act.put, List.setIfInBounds_toArray, List.set_cons_zero, List.set_cons_succ]
                refine wpAnyH_take (i := 10) (oi := ?o10_53) (v := ?v10_53) ?h10_53 (by kernel_rfl) (by kernel_rfl) (by kernel_rfl) ?q10_53 (Or.inl ⟨?z10_53, ?y10_53⟩) (by assumption) ?r10_53
                case h10_53 =>
                  simp only [List.getElem?_toArray, List.getElem?_cons_succ, List.getElem?_cons_zero]
                  rfl
                case q10_53 => exact fun _ _ _ h => h
                case z10_53 => rfl
                case y10_53 =>
                  intro w hSw
                  try dsimp only at hSw
                  go_simp
                  try with_reducible rfl
                try simp only [Act.put, List.setIfInBounds_toArray, List.set_cons_zero, List.set_cons_succ]
                refine wpAnyH_take (i := 11) (oi := ?o11_54) (v := ?v11_54) ?h11_54 (by kernel_rfl) (by kernel_rfl) (by kernel_rfl) ?q11_54 (Or.inl ⟨?z11_54, ?y11_54⟩) (by assumption) ?r11_54
                case h11_54 =>
                  simp only [List.getElem?_toArray, List.getElem?_cons_succ, List.getElem?_cons_zero]
                  rfl
                case q11_54 => exact fun _ _ _ h => h
                case z11_54 => rfl
                case y11_54 =>
                  intro w hSw
                  try dsimp only at hSw
                  go_simp
                  try with_reducible rfl
                try simp only [Act.put, List.setIfInBounds_toArray, List.set_cons_zero, List.set_cons_succ]
                refine wpAnyH_take (i := 12) (oi := ?o12_55) (v := ?v12_55) ?h12_55 (by kernel_rfl) (by kernel_rfl) (by kernel_rfl) ?q12_55 (Or.inl ⟨?z12_55, ?y12_55⟩) (by assumption) ?r12_55
                case h12_55 =>
                  simp only [List.getElem?_toArray, List.getElem?_cons_succ, List.getElem?_cons_zero]
                  rfl
                case q12_55 => exact fun _ _ _ h => h
                case z12_55 => rfl
                case y12_55 =>
                  intro w hSw
                  try dsimp only at hSw
                  go_simp
                  try with_reducible rfl
                try simp only [Act.put, List.setIfInBounds_toArray, List.set_cons_zero, List.set_cons_succ]
                refine wpAnyH_take (i := 13) (oi := ?o13_56) (v := ?v13_56) ?h13_56 (by kernel_rfl) (by kernel_rfl) (by kernel_rfl) ?q13_56 (Or.inl ⟨?z13_56, ?y13_56⟩) (by assumption) ?r13_56
                case h13_56 =>
                  simp only [List.getElem?_toArray, List.getElem?_cons_succ, List.getElem?_cons_zero]
                  rfl
                case q13_56 => exact fun _ _ _ h => h
                case z13_56 => rfl
                case y13_56 =>
                  intro w hSw
                  try dsimp only at hSw
                  go_simp
                  try with_reducible rfl
                try simp only [Act.put, List.setIfInBounds_toArray, List.set_cons_zero, List.set_cons_succ]
                refine wpAnyH_ready (rs := [15]) (by kernel_rfl) (by simp) ?_
                refine AllReadyH.cons (o := ?o15_57) ?h15_57 (fun K hK => ?k15_57) AllReadyH.nil
                case h15_57 =>
                  simp only [List.getElem?_toArray, List.getElem?_cons_succ, List.getElem?_cons_zero]
                  rfl
                go_simp
                refine hK.out _ _ (by first | exact ⟨S6.box.cell 0, S6.box.cell 1⟩ | go_keep) (fun hHeld57 => ?_)
                clear hK K
                try simp only [Act.put, List.setIfInBounds_toArray, List.set_cons_zero, List.set_cons_succ]
                refine wpAnyH_take (i := 16) (oi := ?o16_58) (v := ?v16_58) ?h16_58 (by kernel_rfl) (by kernel_rfl) (by kernel_rfl) ?q16_58 (Or.inl ⟨?z16_58, ?y16_58⟩) (by assumption) ?r16_58
                case h16_58 =>
                  simp only [List.getElem?_toArray, List.getElem?_cons_succ, List.getElem?_cons_zero]
                  rfl
                case q16_58 => exact fun _ _ _ h => h
                case z16_58 => rfl
                case y16_58 =>
                  intro w hSw
                  try dsimp only at hSw
                  go_simp
                  try with_reducible rfl
                try simp only [Act.put, List.setIfInBounds_toArray, List.set_cons_zero, List.set_cons_succ]
                refine wpAnyH_take (i := 17) (oi := ?o17_59) (v := ?v17_59) ?h17_59 (by kernel_rfl) (by kernel_rfl) (by kernel_rfl) ?q17_59 (Or.inl ⟨?z17_59, ?y17_59⟩) (by assumption) ?r17_59
                case h17_59 =>
                  simp only [List.getElem?_toArray, List.getElem?_cons_succ, List.getElem?_cons_zero]
                  rfl
                case q17_59 => exact fun _ _ _ h => h
                case z17_59 => rfl
                case y17_59 =>
                  intro w hSw
                  try dsimp only at hSw
                  go_simp
                  try with_reducible rfl
                try simp only [Act.put, List.setIfInBounds_toArray, List.set_cons_zero, List.set_cons_succ]
                refine wpAnyH_done (by kernel_rfl) ?_ _
                go_wp2_with fail
                go_meet
                have hL6 := hL5.kept (Keep.setCell (Keep.setCell (Keep.refl (wr.heap.size + 1) ((wr.heap.size + 1) + 1) wq) (p := ⟨(wr.heap.size + 1), 0, none⟩) (Nat.le_refl _) (Nat.lt_succ_self _) (.string sR)) (p := ⟨(wr.heap.size + 1), 1, none⟩) (Nat.le_refl _) (Nat.lt_succ_self _) (.slice A5 n5 c5)) (.inr (by simp))
                have hH : HeldM ((wq.setCell ⟨(wr.heap.size + 1), 0, none⟩ (.string sR)).setCell ⟨(wr.heap.size + 1), 1, none⟩ (.slice A5 n5 c5)) w1.heap.size (.slice uA uN uC) fR (.slice A5 n5 c5) := held_new hL6 (by have := HS.out.box.lt; simp; omega) (fun g e => by have := (HS.out.row.lt _ e).2; simp; omega)
                exact ⟨(wr.heap.size + 1), al, sR, fR, tR, cR, A5, n5, c5, rfl, rfl, rfl, Lib.hid ⟨by have := alOk_cases hal; omega, hr⟩, Lib.hid (by have := (bX.set_ 0 (.string sR)).set_ 1 (.slice A5 n5 c5); simpa using this), Lib.hid S6, Lib.hid hH, by have := HS.out.box.lt; omega⟩
            case k14_31 =>
              go_simp
              refine hK.out _ _ (by first | exact ⟨(HS.out.step ((((Below.refl wr.heap.size wr).alloc (by simp) (.cells #[.int .i64 1, .int .i64 2, .int .i64 4, .int .i64 8] 2)).alloc (by simp) (.cells #[.string ⟨#[]⟩, .slice none 0 0] 29)).drew)).box.cell 0, (HS.out.step ((((Below.refl wr.heap.size wr).alloc (by simp) (.cells #[.int .i64 1, .int .i64 2, .int .i64 4, .int .i64 8] 2)).alloc (by simp) (.cells #[.string ⟨#[]⟩, .slice none 0 0] 29)).drew)).box.cell 1⟩ | go_keep) (fun hHeld31 => ?_)
              clear hK K
              try simp only [Act.put, List.setIfInBounds_toArray, List.set_cons_zero, List.set_cons_succ]
              refine wpAnyH_ready (rs := [6]) (by kernel_rfl) (by simp) ?_
              refine AllReadyH.cons (o := ?o6_60) ?h6_60 (fun K hK => ?k6_60) AllReadyH.nil
              case h6_60 =>
                simp only [List.getElem?_toArray, List.getElem?_cons_succ, List.getElem?_cons_zero]
                rfl
              go_simp
              go_at_call 32
              refine (b10At_i (i := (k : Int) + 30) (n := 4) ((HA2.out.below ((((Below.refl wr.heap.size wr).alloc (by simp) (.cells #[.int .i64 1, .int .i64 2, .int .i64 4, .int .i64 8] 2)).alloc (by simp) (.cells #[.string ⟨#[]⟩, .slice none 0 0] 29)).drew) (Nat.le_refl _)).more ((((Below.refl wr.heap.size wr).alloc (by simp) (.cells #[.int .i64 1, .int .i64 2, .int .i64 4, .int .i64 8] 2)).alloc (by simp) (.cells #[.string ⟨#[]⟩, .slice none 0 0] 29)).drew).size) hn2 (by omega) (by omega) (by omega)).mono ?_
              rintro e w' ⟨z2, rfl, hz2, rfl⟩
              obtain ⟨al, hal, hal4⟩ := four_at z2 hz2
              have HAL4 := Lib.hid hal4
              clear hal4
              have hz4 : z2 < 4 := by omega
              have hz5 : (z2 : Int) < 4 := by omega
              try go_wp2_with fail
              refine hK.out _ _ (by first | exact ⟨(HS.out.step ((((Below.refl wr.heap.size wr).alloc (by simp) (.cells #[.int .i64 1, .int .i64 2, .int .i64 4, .int .i64 8] 2)).alloc (by simp) (.cells #[.string ⟨#[]⟩, .slice none 0 0] 29)).drew)).box.cell 0, (HS.out.step ((((Below.refl wr.heap.size wr).alloc (by simp) (.cells #[.int .i64 1, .int .i64 2, .int .i64 4, .int .i64 8] 2)).alloc (by simp) (.cells #[.string ⟨#[]⟩, .slice none 0 0] 29)).drew)).box.cell 1⟩ | go_keep) (fun hHeld60 => ?_)
              clear hK K
              try simp only [Act.put, List.setIfInBounds_toArray, List.set_cons_zero, List.set_cons_succ]
              refine wpAnyH_take (i := 7) (oi := ?o7_61) (v := ?v7_61) ?h7_61 (by kernel_rfl) (by kernel_rfl) (by kernel_rfl) ?q7_61 (Or.inl ⟨?z7_61, ?y7_61⟩) (by assumption) ?r7_61
              case h7_61 =>
                simp only [List.getElem?_toArray, List.getElem?_cons_succ, List.getElem?_cons_zero]
                rfl
              case q7_61 => exact fun _ _ _ h => h
              case z7_61 => rfl
              case y7_61 =>
                intro w hSw
                try dsimp only at hSw
                go_simp
                try with_reducible rfl
              try simp only [Act.put, List.setIfInBounds_toArray, List.set_cons_zero, List.set_cons_succ]
              refine wpAnyH_ready (rs := [8]) (by kernel_rfl) (by simp) ?_
              refine AllReadyH.cons (o := ?o8_62) ?h8_62 (fun K hK => ?k8_62) AllReadyH.nil
              case h8_62 =>
                simp only [List.getElem?_toArray, List.getElem?_cons_succ, List.getElem?_cons_zero]
                rfl
              have hcal := HAL4.out _ _ _ ((Blk.new wr 2 #[.int .i64 1, .int .i64 2, .int .i64 4, .int .i64 8]).alloc (.cells #[.string ⟨#[]⟩, .slice none 0 0] 29)).drew
              go_simp
              refine hK.out _ _ (by first | exact ⟨(HS.out.step ((((Below.refl wr.heap.size wr).alloc (by simp) (.cells #[.int .i64 1, .int .i64 2, .int .i64 4, .int .i64 8] 2)).alloc (by simp) (.cells #[.string ⟨#[]⟩, .slice none 0 0] 29)).drew)).box.cell 0, (HS.out.step ((((Below.refl wr.heap.size wr).alloc (by simp) (.cells #[.int .i64 1, .int .i64 2, .int .i64 4, .int .i64 8] 2)).alloc (by simp) (.cells #[.string ⟨#[]⟩, .slice none 0 0] 29)).drew)).box.cell 1⟩ | go_keep) (fun hHeld62 => ?_)
              clear hK K
              try simp only [Act.put, List.setIfInBounds_toArray, List.set_cons_zero, List.set_cons_succ]
              refine wpAnyH_ready (rs := [9]) (by kernel_rfl) (by simp) ?_
              refine AllReadyH.cons (o := ?o9_63) ?h9_63 (fun K hK => ?k9_63) AllReadyH.nil
              case h9_63 =>
                simp only [List.getElem?_toArray, List.getElem?_cons_succ, List.getElem?_cons_zero]
                rfl
              go_simp
              go_at_call 26
              have hAC := HALC.out al hal _ ((((Below.refl wr.heap.size wr).alloc (by simp) (.cells #[.int .i64 1, .int .i64 2, .int .i64 4, .int .i64 8] 2)).alloc (by simp) (.cells #[.string ⟨#[]⟩, .slice none 0 0] 29)).drew)
              obtain ⟨⟨⟨sR, fR⟩, tR, cR⟩, hr⟩ : ∃ r, allocM s fs (Z : Int) al = r := ⟨_, rfl⟩
              rw [hr] at hAC
              refine hAC.mono ?_
              rintro e wq ⟨us, rfl, hl, hbq⟩
              obtain ⟨A5, n5, c5, hus⟩ := mem_form hl
              simp only at hus
              subst hus
              obtain ⟨_, hL5⟩ := mem_lv hl
              have hB5 : Below wr.heap.size wr wq := ((((Below.refl wr.heap.size wr).alloc (by simp) (.cells #[.int .i64 1, .int .i64 2, .int .i64 4, .int .i64 8] 2)).alloc (by simp) (.cells #[.string ⟨#[]⟩, .slice none 0 0] 29)).drew).trans (hbq.mono ((((Below.refl wr.heap.size wr).alloc (by simp) (.cells #[.int .i64 1, .int .i64 2, .int .i64 4, .int .i64 8] 2)).alloc (by simp) (.cells #[.string ⟨#[]⟩, .slice none 0 0] 29)).drew).size)
              have SQ := HS.out.step hB5
              have bX : Blk wq (wr.heap.size + 1) 29 #[.string ⟨#[]⟩, .slice none 0 0] := Blk.step (show Blk (((wr.alloc (.cells #[.int .i64 1, .int .i64 2, .int .i64 4, .int .i64 8] 2)).alloc (.cells #[.string ⟨#[]⟩, .slice none 0 0] 29)).drew) (wr.heap.size + 1) 29 #[.string ⟨#[]⟩, .slice none 0 0] by have := (Blk.new (wr.alloc (.cells #[.int .i64 1, .int .i64 2, .int .i64 4, .int .i64 8] 2)) 29 #[.string ⟨#[]⟩, .slice none 0 0]).drew; simpa using this) hbq
              have x0 : wq.cell? ⟨(wr.heap.size + 1), 0, none⟩ = some (.string ⟨#[]⟩) := bX.cell 0
              have x1 : wq.cell? ⟨(wr.heap.size + 1), 1, none⟩ = some (.slice none 0 0) := bX.cell 1
              have g0 := bX.frozen 0
              have g1 := bX.frozen 1
              have hB6 : Below wr.heap.size wr ((wq.setCell ⟨(wr.heap.size + 1), 0, none⟩ (.string sR)).setCell ⟨(wr.heap.size + 1), 1, none⟩ (.slice A5 n5 c5)) := (hB5.setCell (p := ⟨(wr.heap.size + 1), 0, none⟩) (by show wr.heap.size ≤ (wr.heap.size + 1); omega) _).setCell (p := ⟨(wr.heap.size + 1), 1, none⟩) (by show wr.heap.size ≤ (wr.heap.size + 1); omega) _
              have S6 := HS.out.step hB6
              try go_wp2_with fail
              refine hK.out _ _ (by first | exact ⟨SQ.box.cell 0, SQ.box.cell 1⟩ | go_keep) (fun hHeld63 => ?_)
              clear hK K
              try simp only [Act.put, List.setIfInBounds_toArray, List.set_cons_zero, List.set_cons_succ]
              refine wpAnyH_take (i := 10) (oi := ?o10_64) (v := ?v10_64) ?h10_64 (by kernel_rfl) (by kernel_rfl) (by kernel_rfl) ?q10_64 (Or.inl ⟨?z10_64, ?y10_64⟩) (by assumption) ?r10_64
              case h10_64 =>
                simp only [List.getElem?_toArray, List.getElem?_cons_succ, List.getElem?_cons_zero]
                rfl
              case q10_64 => exact fun _ _ _ h => h
              case z10_64 => rfl
              case y10_64 =>
                intro w hSw
                try dsimp only at hSw
                go_simp
                try with_reducible rfl
              try simp only [Act.put, List.setIfInBounds_toArray, List.set_cons_zero, List.set_cons_succ]
              refine wpAnyH_take (i := 11) (oi := ?o11_65) (v := ?v11_65) ?h11_65 (by kernel_rfl) (by kernel_rfl) (by kernel_rfl) ?q11_65 (Or.inl ⟨?z11_65, ?y11_65⟩) (by assumption) ?r11_65
              case h11_65 =>
                simp only [List.getElem?_toArray, List.getElem?_cons_succ, List.getElem?_cons_zero]
                rfl
              case q11_65 => exact fun _ _ _ h => h
              case z11_65 => rfl
              case y11_65 =>
                intro w hSw
                try dsimp only at hSw
                go_simp
                try with_reducible rfl
              try simp only [Act.put, List.setIfInBounds_toArray, List.set_cons_zero, List.set_cons_succ]
              refine wpAnyH_take (i := 12) (oi := ?o12_66) (v := ?v12_66) ?h12_66 (by kernel_rfl) (by kernel_rfl) (by kernel_rfl) ?q12_66 (Or.inl ⟨?z12_66, ?y12_66⟩) (by assumption) ?r12_66
              case h12_66 =>
                simp only [List.getElem?_toArray, List.getElem?_cons_succ, List.getElem?_cons_zero]
                rfl
              case q12_66 => exact fun _ _ _ h => h
              case z12_66 => rfl
              case y12_66 =>
                intro w hSw
                try dsimp only at hSw
                go_simp
                try with_reducible rfl
              try simp only [Act.put, List.setIfInBounds_toArray, List.set_cons_zero, List.set_cons_succ]
              refine wpAnyH_take (i := 13) (oi := ?o13_67) (v := ?v13_67) ?h13_67 (by kernel_rfl) (by kernel_rfl) (by kernel_rfl) ?q13_67 (Or.inl ⟨?z13_67, ?y13_67⟩) (by assumption) ?r13_67
              case h13_67 =>
                simp only [List.getElem?_toArray, List.getElem?_cons_succ, List.getElem?_cons_zero]
                rfl
              case q13_67 => exact fun _ _ _ h => h
              case z13_67 => rfl
              case y13_67 =>
                intro w hSw
                try dsimp only at hSw
                go_simp
                try with_reducible rfl
              try simp only [Act.put, List.setIfInBounds_toArray, List.set_cons_zero, List.set_cons_succ]
              refine wpAnyH_ready (rs := [15]) (by kernel_rfl) (by simp) ?_
              refine AllReadyH.cons (o := ?o15_68) ?h15_68 (fun K hK => ?k15_68) AllReadyH.nil
              case h15_68 =>
                simp only [List.getElem?_toArray, List.getElem?_cons_succ, List.getElem?_cons_zero]
                rfl
              go_simp
              refine hK.out _ _ (by first | exact ⟨S6.box.cell 0, S6.box.cell 1⟩ | go_keep) (fun hHeld68 => ?_)
              clear hK K
              try simp only [Act.put, List.setIfInBounds_toArray, List.set_cons_zero, List.set_cons_succ]
              refine wpAnyH_take (i := 16) (oi := ?o16_69) (v := ?v16_69) ?h16_69 (by kernel_rfl) (by kernel_rfl) (by kernel_rfl) ?q16_69 (Or.inl ⟨?z16_69, ?y16_69⟩) (by assumption) ?r16_69
              case h16_69 =>
                simp only [List.getElem?_toArray, List.getElem?_cons_succ, List.getElem?_cons_zero]
                rfl
              case q16_69 => exact fun _ _ _ h => h
              case z16_69 => rfl
              case y16_69 =>
                intro w hSw
                try dsimp only at hSw
                go_simp
                try with_reducible rfl
              try simp only [Act.put, List.setIfInBounds_toArray, List.set_cons_zero, List.set_cons_succ]
              refine wpAnyH_take (i := 17) (oi := ?o17_70) (v := ?v17_70) ?h17_70 (by kernel_rfl) (by kernel_rfl) (by kernel_rfl) ?q17_70 (Or.inl ⟨?z17_70, ?y17_70⟩) (by assumption) ?r17_70
              case h17_70 =>
                simp only [List.getElem?_toArray, List.getElem?_cons_succ, List.getElem?_cons_zero]
                rfl
              case q17_70 => exact fun _ _ _ h => h
              case z17_70 => rfl
              case y17_70 =>
                intro w hSw
                try dsimp only at hSw
                go_simp
                try with_reducible rfl
              try simp only [Act.put, List.setIfInBounds_toArray, List.set_cons_zero, List.set_cons_succ]
              refine wpAnyH_done (by kernel_rfl) ?_ _
              go_wp2_with fail
              go_meet
              have hL6 := hL5.kept (Keep.setCell (Keep.setCell (Keep.refl (wr.heap.size + 1) ((wr.heap.size + 1) + 1) wq) (p := ⟨(wr.heap.size + 1), 0, none⟩) (Nat.le_refl _) (Nat.lt_succ_self _) (.string sR)) (p := ⟨(wr.heap.size + 1), 1, none⟩) (Nat.le_refl _) (Nat.lt_succ_self _) (.slice A5 n5 c5)) (.inr (by simp))
              have hH : HeldM ((wq.setCell ⟨(wr.heap.size + 1), 0, none⟩ (.string sR)).setCell ⟨(wr.heap.size + 1), 1, none⟩ (.slice A5 n5 c5)) w1.heap.size (.slice uA uN uC) fR (.slice A5 n5 c5) := held_new hL6 (by have := HS.out.box.lt; simp; omega) (fun g e => by have := (HS.out.row.lt _ e).2; simp; omega)
              exact ⟨(wr.heap.size + 1), al, sR, fR, tR, cR, A5, n5, c5, rfl, rfl, rfl, Lib.hid ⟨by have := alOk_cases hal; omega, hr⟩, Lib.hid (by have := (bX.set_ 0 (.string sR)).set_ 1 (.slice A5 n5 c5); simpa using this), Lib.hid S6, Lib.hid hH, by have := HS.out.box.lt; omega⟩
          case k6_30 =>
            go_simp
            go_at_call 32
            refine (b10At_i (i := (k : Int) + 30) (n := 4) ((HA2.out.below ((Below.refl wr.heap.size wr).drew) (Nat.le_refl _)).more ((Below.refl wr.heap.size wr).drew).size) hn2 (by omega) (by omega) (by omega)).mono ?_
            rintro e w' ⟨z2, rfl, hz2, rfl⟩
            obtain ⟨al, hal, hal4⟩ := four_at z2 hz2
            have HAL4 := Lib.hid hal4
            clear hal4
            have hz4 : z2 < 4 := by omega
            have hz5 : (z2 : Int) < 4 := by omega
            try go_wp2_with fail
            refine hK.out _ _ (by first | exact ⟨(HS.out.step ((Below.refl wr.heap.size wr).drew)).box.cell 0, (HS.out.step ((Below.refl wr.heap.size wr).drew)).box.cell 1⟩ | go_keep) (fun hHeld30 => ?_)
            clear hK K
            try simp only [Act.put, List.setIfInBounds_toArray, List.set_cons_zero, List.set_cons_succ]
            refine wpAnyH_ready (rs := [2, 14]) (by kernel_rfl) (by simp) ?_
            refine AllReadyH.cons (o := ?o2_71) ?h2_71 (fun K hK => ?k2_71) (AllReadyH.cons (o := ?o14_71) ?h14_71 (fun K hK => ?k14_71) AllReadyH.nil)
            case h2_71 =>
              simp only [List.getElem?_toArray, List.getElem?_cons_succ, List.getElem?_cons_zero]
              rfl
            case h14_71 =>
              simp only [List.getElem?_toArray, List.getElem?_cons_succ, List.getElem?_cons_zero]
              rfl
            case k2_71 =>
              go_simp
              refine hK.out _ _ (by first | exact ⟨(HS.out.step (((Below.refl wr.heap.size wr).alloc (by simp) (.cells #[.int .i64 1, .int .i64 2, .int .i64 4, .int .i64 8] 2)).drew)).box.cell 0, (HS.out.step (((Below.refl wr.heap.size wr).alloc (by simp) (.cells #[.int .i64 1, .int .i64 2, .int .i64 4, .int .i64 8] 2)).drew)).box.cell 1⟩ | go_keep) (fun hHeld71 => ?_)
              clear hK K
              try simp only [Act.put, List.setIfInBounds_toArray, List.set_cons_zero, List.set_cons_succ]
              refine wpAnyH_take (i := 7) (oi := ?o7_72) (v := ?v7_72) ?h7_72 (by kernel_rfl) (by kernel_rfl) (by kernel_rfl) ?q7_72 (Or.inl ⟨?z7_72, ?y7_72⟩) (by assumption) ?r7_72
              case h7_72 =>
                simp only [List.getElem?_toArray, List.getElem?_cons_succ, List.getElem?_cons_zero]
                rfl
              case q7_72 => exact fun _ _ _ h => h
              case z7_72 => rfl
              case y7_72 =>
                intro w hSw
                try dsimp only at hSw
                go_simp
                try with_reducible rfl
              try simp only [Act.put, List.setIfInBounds_toArray, List.set_cons_zero, List.set_cons_succ]
              refine wpAnyH_ready (rs := [8, 14]) (by kernel_rfl) (by simp) ?_
              refine AllReadyH.cons (o := ?o8_73) ?h8_73 (fun K hK => ?k8_73) (AllReadyH.cons (o := ?o14_73) ?h14_73 (fun K hK => ?k14_73) AllReadyH.nil)
              case h8_73 =>
                simp only [List.getElem?_toArray, List.getElem?_cons_succ, List.getElem?_cons_zero]
                rfl
              case h14_73 =>
                simp only [List.getElem?_toArray, List.getElem?_cons_succ, List.getElem?_cons_zero]
                rfl
              case k8_73 =>
                have hcal := HAL4.out _ _ _ (Blk.new wr 2 #[.int .i64 1, .int .i64 2, .int .i64 4, .int .i64 8]).drew
                go_simp
                refine hK.out _ _ (by first | exact ⟨(HS.out.step (((Below.refl wr.heap.size wr).alloc (by simp) (.cells #[.int .i64 1, .int .i64 2, .int .i64 4, .int .i64 8] 2)).drew)).box.cell 0, (HS.out.step (((Below.refl wr.heap.size wr).alloc (by simp) (.cells #[.int .i64 1, .int .i64 2, .int .i64 4, .int .i64 8] 2)).drew)).box.cell 1⟩ | go_keep) (fun hHeld73 => ?_)
                clear hK K
                try simp only [Act.put, List.setIfInBounds_toArray, List.set_cons_zero, List.set_cons_succ]
                refine wpAnyH_ready (rs := [9, 14]) (by kernel_rfl) (by simp) ?_
                refine AllReadyH.cons (o := ?o9_74) ?h9_74 (fun K hK => ?k9_74) (AllReadyH.cons (o := ?o14_74) ?h14_74 (fun K hK => ?k14_74) AllReadyH.nil)
                case h9_74 =>
                  simp only [List.getElem?_toArray, List.getElem?_cons_succ, List.getElem?_cons_zero]
                  rfl
                case h14_74 =>
                  simp only [List.getElem?_toArray, List.getElem?_cons_succ, List.getElem?_cons_zero]
                  rfl
                case k9_74 =>
                  go_simp
                  go_at_call 26
                  have hAC := HALC.out al hal _ (((Below.refl wr.heap.size wr).alloc (by simp) (.cells #[.int .i64 1, .int .i64 2, .int .i64 4, .int .i64 8] 2)).drew)
                  obtain ⟨⟨⟨sR, fR⟩, tR, cR⟩, hr⟩ : ∃ r, allocM s fs (Z : Int) al = r := ⟨_, rfl⟩
                  rw [hr] at hAC
                  refine hAC.mono ?_
                  rintro e wq ⟨us, rfl, hl, hbq⟩
                  obtain ⟨A5, n5, c5, hus⟩ := mem_form hl
                  simp only at hus
                  subst hus
                  obtain ⟨_, hL5⟩ := mem_lv hl
                  have hB5 : Below wr.heap.size wr wq := (((Below.refl wr.heap.size wr).alloc (by simp) (.cells #[.int .i64 1, .int .i64 2, .int .i64 4, .int .i64 8] 2)).drew).trans (hbq.mono (((Below.refl wr.heap.size wr).alloc (by simp) (.cells #[.int .i64 1, .int .i64 2, .int .i64 4, .int .i64 8] 2)).drew).size)
                  have SQ := HS.out.step hB5
                  try go_wp2_with fail
                  refine hK.out _ _ (by first | exact ⟨SQ.box.cell 0, SQ.box.cell 1⟩ | go_keep) (fun hHeld74 => ?_)
                  clear hK K
                  try simp only [Act.put, List.setIfInBounds_toArray, List.set_cons_zero, List.set_cons_succ]
                  refine wpAnyH_take (i := 10) (oi := ?o10_75) (v := ?v10_75) ?h10_75 (by kernel_rfl) (by kernel_rfl) (by kernel_rfl) ?q10_75 (Or.inl ⟨?z10_75, ?y10_75⟩) (by assumption) ?r10_75
                  case h10_75 =>
                    simp only [List.getElem?_toArray, List.getElem?_cons_succ, List.getElem?_cons_zero]
                    rfl
                  case q10_75 => exact fun _ _ _ h => h
                  case z10_75 => rfl
                  case y10_75 =>
                    intro w hSw
                    try dsimp only at hSw
                    go_simp
                    try with_reducible rfl
                  try simp only [Act.put, List.setIfInBounds_toArray, List.set_cons_zero, List.set_cons_succ]
                  refine wpAnyH_take (i := 11) (oi := ?o11_76) (v := ?v11_76) ?h11_76 (by kernel_rfl) (by kernel_rfl) (by kernel_rfl) ?q11_76 (Or.inl ⟨?z11_76, ?y11_76⟩) (by assumption) ?r11_76
                  case h11_76 =>
                    simp only [List.getElem?_toArray, List.getElem?_cons_succ, List.getElem?_cons_zero]
                    rfl
                  case q11_76 => exact fun _ _ _ h => h
                  case z11_76 => rfl
                  case y11_76 =>
                    intro w hSw
                    try dsimp only at hSw
                    go_simp
                    try with_reducible rfl
                  try simp only [Act.put, List.setIfInBounds_toArray, List.set_cons_zero, List.set_cons_succ]
                  refine wpAnyH_take (i := 12) (oi := ?o12_77) (v := ?v12_77) ?h12_77 (by kernel_rfl) (by kernel_rfl) (by kernel_rfl) ?q12_77 (Or.inl ⟨?z12_77, ?y12_77⟩) (by assumption) ?r12_77
                  case h12_77 =>
                    simp only [List.getElem?_toArray, List.getElem?_cons_succ, List.getElem?_cons_zero]
                    rfl
                  case q12_77 => exact fun _ _ _ h => h
                  case z12_77 => rfl
                  case y12_77 =>
                    intro w hSw
                    try dsimp only at hSw
                    go_simp
                    try with_reducible rfl
                  try simp only [Act.put, List.setIfInBounds_toArray, List.set_cons_zero, List.set_cons_succ]
                  refine wpAnyH_take (i := 13) (oi := ?o13_78) (v := ?v13_78) ?h13_78 (by kernel_rfl) (by kernel_rfl) (by kernel_rfl) ?q13_78 (Or.inl ⟨?z13_78, ?y13_78⟩) (by assumption) ?r13_78
                  case h13_78 =>
                    simp only [List.getElem?_toArray, List.getElem?_cons_succ, List.getElem?_cons_zero]
                    rfl
                  case q13_78 => exact fun _ _ _ h => h
                  case z13_78 => rfl
                  case y13_78 =>
                    intro w hSw
                    try dsimp only at hSw
                    go_simp
                    try with_reducible rfl
                  try simp only [Act.put, List.setIfInBounds_toArray, List.set_cons_zero, List.set_cons_succ]
                  refine wpAnyH_ready (rs := [14]) (by kernel_rfl) (by simp) ?_
                  refine AllReadyH.cons (o := ?o14_79) ?h14_79 (fun K hK => ?k14_79) AllReadyH.nil
                  case h14_79 =>
                    simp only [List.getElem?_toArray, List.getElem?_cons_succ, List.getElem?_cons_zero]
                    rfl
                  go_simp
                  refine hK.out _ _ (by first | exact ⟨(SQ.step ((Below.refl _ _).alloc (Nat.le_refl _) (.cells #[.string ⟨#[]⟩, .slice none 0 0] 29))).box.cell 0, (SQ.step ((Below.refl _ _).alloc (Nat.le_refl _) (.cells #[.string ⟨#[]⟩, .slice none 0 0] 29))).box.cell 1⟩ | go_keep) (fun hHeld79 => ?_)
                  clear hK K
                  try simp only [Act.put, List.setIfInBounds_toArray, List.set_cons_zero, List.set_cons_succ]
                  refine wpAnyH_ready (rs := [15]) (by kernel_rfl) (by simp) ?_
                  refine AllReadyH.cons (o := ?o15_80) ?h15_80 (fun K hK => ?k15_80) AllReadyH.nil
                  case h15_80 =>
                    simp only [List.getElem?_toArray, List.getElem?_cons_succ, List.getElem?_cons_zero]
                    rfl
                  go_simp
                  refine hK.out _ _ (by first | exact go_no | go_keep) (fun hHeld80 => ?_)
                  clear hK K
                  try simp only [Act.put, List.setIfInBounds_toArray, List.set_cons_zero, List.set_cons_succ]
                  refine wpAnyH_take (i := 16) (oi := ?o16_81) (v := ?v16_81) ?h16_81 (by kernel_rfl) (by kernel_rfl) (by kernel_rfl) ?q16_81 (Or.inl ⟨?z16_81, ?y16_81⟩) (by assumption) ?r16_81
                  case h16_81 =>
                    simp only [List.getElem?_toArray, List.getElem?_cons_succ, List.getElem?_cons_zero]
                    rfl
                  case q16_81 => exact fun _ _ _ h => h
                  case z16_81 => rfl
                  case y16_81 =>
                    intro w hSw
                    try dsimp only at hSw
                    go_simp
                    try with_reducible rfl
                  try simp only [Act.put, List.setIfInBounds_toArray, List.set_cons_zero, List.set_cons_succ]
                  refine wpAnyH_take (i := 17) (oi := ?o17_82) (v := ?v17_82) ?h17_82 (by kernel_rfl) (by kernel_rfl) (by kernel_rfl) ?q17_82 (Or.inl ⟨?z17_82, ?y17_82⟩) (by assumption) ?r17_82
                  case h17_82 =>
                    simp only [List.getElem?_toArray, List.getElem?_cons_succ, List.getElem?_cons_zero]
                    rfl
                  case q17_82 => exact fun _ _ _ h => h
                  case z17_82 => rfl
                  case y17_82 =>
                    intro w hSw
                    try dsimp only at hSw
                    go_simp
                    try with_reducible rfl
                  try simp only [Act.put, List.setIfInBounds_toArray, List.set_cons_zero, List.set_cons_succ]
                  refine wpAnyH_done (by kernel_rfl) ?_ _
                  go_wp2_with fail
                  go_meet
                  have hF := HS.out.step (hB5.alloc hB5.size (.cells #[.string sR, .slice A5 n5 c5] 29))
                  have hH : HeldM (wq.alloc (.cells #[.string sR, .slice A5 n5 c5] 29)) w1.heap.size (.slice uA uN uC) fR (.slice A5 n5 c5) := (held_new hL5 (by have := HS.out.box.lt; simp; omega) (fun g e => by have := (HS.out.row.lt _ e).2; simp; omega)).step ((Below.refl _ _).alloc (Nat.le_refl _) _)
                  exact ⟨wq.heap.size, al, sR, fR, tR, cR, A5, n5, c5, rfl, rfl, rfl, Lib.hid ⟨by have := alOk_cases hal; omega, hr⟩, Lib.hid (Blk.new wq _ _), Lib.hid hF, Lib.hid hH, by have := SQ.box.lt; omega⟩
                case k14_74 =>
                  go_simp
                  refine hK.out _ _ (by first | exact ⟨(HS.out.step ((((Below.refl wr.heap.size wr).alloc (by simp) (.cells #[.int .i64 1, .int .i64 2, .int .i64 4, .int .i64 8] 2)).alloc (by simp) (.cells #[.string ⟨#[]⟩, .slice none 0 0] 29)).drew)).box.cell 0, (HS.out.step ((((Below.refl wr.heap.size wr).alloc (by simp) (.cells #[.int .i64 1, .int .i64 2, .int .i64 4, .int .i64 8] 2)).alloc (by simp) (.cells #[.string ⟨#[]⟩, .slice none 0 0] 29)).drew)).box.cell 1⟩ | go_keep) (fun hHeld74 => ?_)
                  clear hK K
                  try simp only [Act.put, List.setIfInBounds_toArray, List.set_cons_zero, List.set_cons_succ]
                  refine wpAnyH_ready (rs := [9]) (by kernel_rfl) (by simp) ?_
                  refine AllReadyH.cons (o := ?o9_83) ?h9_83 (fun K hK => ?k9_83) AllReadyH.nil
                  case h9_83 =>
                    simp only [List.getElem?_toArray, List.getElem?_cons_succ, List.getElem?_cons_zero]
                    rfl
                  go_simp
                  go_at_call 26
                  have hAC := HALC.out al hal _ ((((Below.refl wr.heap.size wr).alloc (by simp) (.cells #[.int .i64 1, .int .i64 2, .int .i64 4, .int .i64 8] 2)).alloc (by simp) (.cells #[.string ⟨#[]⟩, .slice none 0 0] 29)).drew)
                  obtain ⟨⟨⟨sR, fR⟩, tR, cR⟩, hr⟩ : ∃ r, allocM s fs (Z : Int) al = r := ⟨_, rfl⟩
                  rw [hr] at hAC
                  refine hAC.mono ?_
                  rintro e wq ⟨us, rfl, hl, hbq⟩
                  obtain ⟨A5, n5, c5, hus⟩ := mem_form hl
                  simp only at hus
                  subst hus
                  obtain ⟨_, hL5⟩ := mem_lv hl
                  have hB5 : Below wr.heap.size wr wq := ((((Below.refl wr.heap.size wr).alloc (by simp) (.cells #[.int .i64 1, .int .i64 2, .int .i64 4, .int .i64 8] 2)).alloc (by simp) (.cells #[.string ⟨#[]⟩, .slice none 0 0] 29)).drew).trans (hbq.mono ((((Below.refl wr.heap.size wr).alloc (by simp) (.cells #[.int .i64 1, .int .i64 2, .int .i64 4, .int .i64 8] 2)).alloc (by simp) (.cells #[.string ⟨#[]⟩, .slice none 0 0] 29)).drew).size)
                  have SQ := HS.out.step hB5
                  have bX : Blk wq (wr.heap.size + 1) 29 #[.string ⟨#[]⟩, .slice none 0 0] := Blk.step (show Blk (((wr.alloc (.cells #[.int .i64 1, .int .i64 2, .int .i64 4, .int .i64 8] 2)).alloc (.cells #[.string ⟨#[]⟩, .slice none 0 0] 29)).drew) (wr.heap.size + 1) 29 #[.string ⟨#[]⟩, .slice none 0 0] by have := (Blk.new (wr.alloc (.cells #[.int .i64 1, .int .i64 2, .int .i64 4, .int .i64 8] 2)) 29 #[.string ⟨#[]⟩, .slice none 0 0]).drew; simpa using this) hbq
                  have x0 : wq.cell? ⟨(wr.heap.size + 1), 0, none⟩ = some (.string ⟨#[]⟩) := bX.cell 0
                  have x1 : wq.cell? ⟨(wr.heap.size + 1), 1, none⟩ = some (.slice none 0 0) := bX.cell 1
                  have g0 := bX.frozen 0
                  have g1 := bX.frozen 1
                  have hB6 : Below wr.heap.size wr ((wq.setCell ⟨(wr.heap.size + 1), 0, none⟩ (.string sR)).setCell ⟨(wr.heap.size + 1), 1, none⟩ (.slice A5 n5 c5)) := (hB5.setCell (p := ⟨(wr.heap.size + 1), 0, none⟩) (by show wr.heap.size ≤ (wr.heap.size + 1); omega) _).setCell (p := ⟨(wr.heap.size + 1), 1, none⟩) (by show wr.heap.size ≤ (wr.heap.size + 1); omega) _
                  have S6 := HS.out.step hB6
                  try go_wp2_with fail
                  refine hK.out _ _ (by first | exact ⟨SQ.box.cell 0, SQ.box.cell 1⟩ | go_keep) (fun hHeld83 => ?_)
                  clear hK K
                  try simp only [Act.put, List.setIfInBounds_toArray, List.set_cons_zero, List.set_cons_succ]
                  refine wpAnyH_take (i := 10) (oi := ?o10_84) (v := ?v10_84) ?h10_84 (by kernel_rfl) (by kernel_rfl) (by kernel_rfl) ?q10_84 (Or.inl ⟨?z10_84, ?y10_84⟩) (by assumption) ?r10_84
                  case h10_84 =>
                    simp only [List.getElem?_toArray, List.getElem?_cons_succ, List.getElem?_cons_zero]
                    rfl
                  case q10_84 => exact fun _ _ _ h => h
                  case z10_84 => rfl
                  case y10_84 =>
                    intro w hSw
                    try dsimp only at hSw
                    go_simp
                    try with_reducible rfl
                  try simp only [Act.put, List.setIfInBounds_toArray, List.set_cons_zero, List.set_cons_succ]
                  refine wpAnyH_take (i := 11) (oi := ?o11_85) (v := ?v11_85) ?h11_85 (by kernel_rfl) (by kernel_rfl) (by kernel_rfl) ?q11_85 (Or.inl ⟨?z11_85, ?y11_85⟩) (by assumption) ?r11_85
                  case h11_85 =>
                    simp only [List.getElem?_toArray, List.getElem?_cons_succ, List.getElem?_cons_zero]
                    rfl
                  case q11_85 => exact fun _ _ _ h => h
                  case z11_85 => rfl
                  case y11_85 =>
                    intro w hSw
                    try dsimp only at hSw
                    go_simp
                    try with_reducible rfl
                  try simp only [Act.put, List.setIfInBounds_toArray, List.set_cons_zero, List.set_cons_succ]
                  refine wpAnyH_take (i := 12) (oi := ?o12_86) (v := ?v12_86) ?h12_86 (by kernel_rfl) (by kernel_rfl) (by kernel_rfl) ?q12_86 (Or.inl ⟨?z12_86, ?y12_86⟩) (by assumption) ?r12_86
                  case h12_86 =>
                    simp only [List.getElem?_toArray, List.getElem?_cons_succ, List.getElem?_cons_zero]
                    rfl
                  case q12_86 => exact fun _ _ _ h => h
                  case z12_86 => rfl
                  case y12_86 =>
                    intro w hSw
                    try dsimp only at hSw
                    go_simp
                    try with_reducible rfl
                  try simp only [Act.put, List.setIfInBounds_toArray, List.set_cons_zero, List.set_cons_succ]
                  refine wpAnyH_take (i := 13) (oi := ?o13_87) (v := ?v13_87) ?h13_87 (by kernel_rfl) (by kernel_rfl) (by kernel_rfl) ?q13_87 (Or.inl ⟨?z13_87, ?y13_87⟩) (by assumption) ?r13_87
                  case h13_87 =>
                    simp only [List.getElem?_toArray, List.getElem?_cons_succ, List.getElem?_cons_zero]
                    rfl
                  case q13_87 => exact fun _ _ _ h => h
                  case z13_87 => rfl
                  case y13_87 =>
                    intro w hSw
                    try dsimp only at hSw
                    go_simp
                    try with_reducible rfl
                  try simp only [Act.put, List.setIfInBounds_toArray, List.set_cons_zero, List.set_cons_succ]
                  refine wpAnyH_ready (rs := [15]) (by kernel_rfl) (by simp) ?_
                  refine AllReadyH.cons (o := ?o15_88) ?h15_88 (fun K hK => ?k15_88) AllReadyH.nil
                  case h15_88 =>
                    simp only [List.getElem?_toArray, List.getElem?_cons_succ, List.getElem?_cons_zero]
                    rfl
                  go_simp
                  refine hK.out _ _ (by first | exact ⟨S6.box.cell 0, S6.box.cell 1⟩ | go_keep) (fun hHeld88 => ?_)
                  clear hK K
                  try simp only [Act.put, List.setIfInBounds_toArray, List.set_cons_zero, List.set_cons_succ]
                  refine wpAnyH_take (i := 16) (oi := ?o16_89) (v := ?v16_89) ?h16_89 (by kernel_rfl) (by kernel_rfl) (by kernel_rfl) ?q16_89 (Or.inl ⟨?z16_89, ?y16_89⟩) (by assumption) ?r16_89
                  case h16_89 =>
                    simp only [List.getElem?_toArray, List.getElem?_cons_succ, List.getElem?_cons_zero]
                    rfl
                  case q16_89 => exact fun _ _ _ h => h
                  case z16_89 => rfl
                  case y16_89 =>
                    intro w hSw
                    try dsimp only at hSw
                    go_simp
                    try with_reducible rfl
                  try simp only [Act.put, List.setIfInBounds_toArray, List.set_cons_zero, List.set_cons_succ]
                  refine wpAnyH_take (i := 17) (oi := ?o17_90) (v := ?v17_90) ?h17_90 (by kernel_rfl) (by kernel_rfl) (by kernel_rfl) ?q17_90 (Or.inl ⟨?z17_90, ?y17_90⟩) (by assumption) ?r17_90
                  case h17_90 =>
                    simp only [List.getElem?_toArray, List.getElem?_cons_succ, List.getElem?_cons_zero]
                    rfl
                  case q17_90 => exact fun _ _ _ h => h
                  case z17_90 => rfl
                  case y17_90 =>
                    intro w hSw
                    try dsimp only at hSw
                    go_simp
                    try with_reducible rfl
                  try simp only [Act.put, List.setIfInBounds_toArray, List.set_cons_zero, List.set_cons_succ]
                  refine wpAnyH_done (by kernel_rfl) ?_ _
                  go_wp2_with fail
                  go_meet
                  have hL6 := hL5.kept (Keep.setCell (Keep.setCell (Keep.refl (wr.heap.size + 1) ((wr.heap.size + 1) + 1) wq) (p := ⟨(wr.heap.size + 1), 0, none⟩) (Nat.le_refl _) (Nat.lt_succ_self _) (.string sR)) (p := ⟨(wr.heap.size + 1), 1, none⟩) (Nat.le_refl _) (Nat.lt_succ_self _) (.slice A5 n5 c5)) (.inr (by simp))
                  have hH : HeldM ((wq.setCell ⟨(wr.heap.size + 1), 0, none⟩ (.string sR)).setCell ⟨(wr.heap.size + 1), 1, none⟩ (.slice A5 n5 c5)) w1.heap.size (.slice uA uN uC) fR (.slice A5 n5 c5) := held_new hL6 (by have := HS.out.box.lt; simp; omega) (fun g e => by have := (HS.out.row.lt _ e).2; simp; omega)
                  exact ⟨(wr.heap.size + 1), al, sR, fR, tR, cR, A5, n5, c5, rfl, rfl, rfl, Lib.hid ⟨by have := alOk_cases hal; omega, hr⟩, Lib.hid (by have := (bX.set_ 0 (.string sR)).set_ 1 (.slice A5 n5 c5); simpa using this), Lib.hid S6, Lib.hid hH, by have := HS.out.box.lt; omega⟩
              case k14_73 =>
                go_simp
                refine hK.out _ _ (by first | exact ⟨(HS.out.step ((((Below.refl wr.heap.size wr).alloc (by simp) (.cells #[.int .i64 1, .int .i64 2, .int .i64 4, .int .i64 8] 2)).alloc (by simp) (.cells #[.string ⟨#[]⟩, .slice none 0 0] 29)).drew)).box.cell 0, (HS.out.step ((((Below.refl wr.heap.size wr).alloc (by simp) (.cells #[.int .i64 1, .int .i64 2, .int .i64 4, .int .i64 8] 2)).alloc (by simp) (.cells #[.string ⟨#[]⟩, .slice none 0 0] 29)).drew)).box.cell 1⟩ | go_keep) (fun hHeld73 => ?_)
                clear hK K
                try simp only [Act.put, List.setIfInBounds_toArray, List.set_cons_zero, List.set_cons_succ]
                refine wpAnyH_ready (rs := [8]) (by kernel_rfl) (by simp) ?_
                refine AllReadyH.cons (o := ?o8_91) ?h8_91 (fun K hK => ?k8_91) AllReadyH.nil
                case h8_91 =>
                  simp only [List.getElem?_toArray, List.getElem?_cons_succ, List.getElem?_cons_zero]
                  rfl
                have hcal := HAL4.out _ _ _ ((Blk.new wr 2 #[.int .i64 1, .int .i64 2, .int .i64 4, .int .i64 8]).alloc (.cells #[.string ⟨#[]⟩, .slice none 0 0] 29)).drew
                go_simp
                refine hK.out _ _ (by first | exact ⟨(HS.out.step ((((Below.refl wr.heap.size wr).alloc (by simp) (.cells #[.int .i64 1, .int .i64 2, .int .i64 4, .int .i64 8] 2)).alloc (by simp) (.cells #[.string ⟨#[]⟩, .slice none 0 0] 29)).drew)).box.cell 0, (HS.out.step ((((Below.refl wr.heap.size wr).alloc (by simp) (.cells #[.int .i64 1, .int .i64 2, .int .i64 4, .int .i64 8] 2)).alloc (by simp) (.cells #[.string ⟨#[]⟩, .slice none 0 0] 29)).drew)).box.cell 1⟩ | go_keep) (fun hHeld91 => ?_)
                clear hK K
                try simp only [Act.put, List.setIfInBounds_toArray, List.set_cons_zero, List.set_cons_succ]
                refine wpAnyH_ready (rs := [9]) (by kernel_rfl) (by simp) ?_
                refine AllReadyH.cons (o := ?o9_92) ?h9_92 (fun K hK => ?k9_92) AllReadyH.nil
                case h9_92 =>
                  simp only [List.getElem?_toArray, List.getElem?_cons_succ, List.getElem?_cons_zero]
                  rfl
                go_simp
                go_at_call 26
                have hAC := HALC.out al hal _ ((((Below.refl wr.heap.size wr).alloc (by simp) (.cells #[.int .i64 1, .int .i64 2, .int .i64 4, .int .i64 8] 2)).alloc (by simp) (.cells #[.string ⟨#[]⟩, .slice none 0 0] 29)).drew)
                obtain ⟨⟨⟨sR, fR⟩, tR, cR⟩, hr⟩ : ∃ r, allocM s fs (Z : Int) al = r := ⟨_, rfl⟩
                rw [hr] at hAC
                refine hAC.mono ?_
                rintro e wq ⟨us, rfl, hl, hbq⟩
                obtain ⟨A5, n5, c5, hus⟩ := mem_form hl
                simp only at hus
                subst hus
                obtain ⟨_, hL5⟩ := mem_lv hl
                have hB5 : Below wr.heap.size wr wq := ((((Below.refl wr.heap.size wr).alloc (by simp) (.cells #[.int .i64 1, .int .i64 2, .int .i64 4, .int .i64 8] 2)).alloc (by simp) (.cells #[.string ⟨#[]⟩, .slice none 0 0] 29)).drew).trans (hbq.mono ((((Below.refl wr.heap.size wr).alloc (by simp) (.cells #[.int .i64 1, .int .i64 2, .int .i64 4, .int .i64 8] 2)).alloc (by simp) (.cells #[.string ⟨#[]⟩, .slice none 0 0] 29)).drew).size)
                have SQ := HS.out.step hB5
                have bX : Blk wq (wr.heap.size + 1) 29 #[.string ⟨#[]⟩, .slice none 0 0] := Blk.step (show Blk (((wr.alloc (.cells #[.int .i64 1, .int .i64 2, .int .i64 4, .int .i64 8] 2)).alloc (.cells #[.string ⟨#[]⟩, .slice none 0 0] 29)).drew) (wr.heap.size + 1) 29 #[.string ⟨#[]⟩, .slice none 0 0] by have := (Blk.new (wr.alloc (.cells #[.int .i64 1, .int .i64 2, .int .i64 4, .int .i64 8] 2)) 29 #[.string ⟨#[]⟩, .slice none 0 0]).drew; simpa using this) hbq
                have x0 : wq.cell? ⟨(wr.heap.size + 1), 0, none⟩ = some (.string ⟨#[]⟩) := bX.cell 0
                have x1 : wq.cell? ⟨(wr.heap.size + 1), 1, none⟩ = some (.slice none 0 0) := bX.cell 1
                have g0 := bX.frozen 0
                have g1 := bX.frozen 1
                have hB6 : Below wr.heap.size wr ((wq.setCell ⟨(wr.heap.size + 1), 0, none⟩ (.string sR)).setCell ⟨(wr.heap.size + 1), 1, none⟩ (.slice A5 n5 c5)) := (hB5.setCell (p := ⟨(wr.heap.size + 1), 0, none⟩) (by show wr.heap.size ≤ (wr.heap.size + 1); omega) _).setCell (p := ⟨(wr.heap.size + 1), 1, none⟩) (by show wr.heap.size ≤ (wr.heap.size + 1); omega) _
                have S6 := HS.out.step hB6
                try go_wp2_with fail
                refine hK.out _ _ (by first | exact ⟨SQ.box.cell 0, SQ.box.cell 1⟩ | go_keep) (fun hHeld92 => ?_)
                clear hK K
                try simp only [Act.put, List.setIfInBounds_toArray, List.set_cons_zero, List.set_cons_succ]
                refine wpAnyH_take (i := 10) (oi := ?o10_93) (v := ?v10_93) ?h10_93 (by kernel_rfl) (by kernel_rfl) (by kernel_rfl) ?q10_93 (Or.inl ⟨?z10_93, ?y10_93⟩) (by assumption) ?r10_93
                case h10_93 =>
                  simp only [List.getElem?_toArray, List.getElem?_cons_succ, List.getElem?_cons_zero]
                  rfl
                case q10_93 => exact fun _ _ _ h => h
                case z10_93 => rfl
                case y10_93 =>
                  intro w hSw
                  try dsimp only at hSw
                  go_simp
                  try with_reducible rfl
                try simp only [Act.put, List.setIfInBounds_toArray, List.set_cons_zero, List.set_cons_succ]
                refine wpAnyH_take (i := 11) (oi := ?o11_94) (v := ?v11_94) ?h11_94 (by kernel_rfl) (by kernel_rfl) (by kernel_rfl) ?q11_94 (Or.inl ⟨?z11_94, ?y11_94⟩) (by assumption) ?r11_94
                case h11_94 =>
                  simp only [List.getElem?_toArray, List.getElem?_cons_succ, List.getElem?_cons_zero]
                  rfl
                case q11_94 => exact fun _ _ _ h => h
                case z11_94 => rfl
                case y11_94 =>
                  intro w hSw
                  try dsimp only at hSw
                  go_simp
                  try with_reducible rfl
                try simp only [Act.put, List.setIfInBounds_toArray, List.set_cons_zero, List.set_cons_succ]
                refine wpAnyH_take (i := 12) (oi := ?o12_95) (v := ?v12_95) ?h12_95 (by kernel_rfl) (by kernel_rfl) (by kernel_rfl) ?q12_95 (Or.inl ⟨?z12_95, ?y12_95⟩) (by assumption) ?r12_95
                case h12_95 =>
                  simp only [List.getElem?_toArray, List.getElem?_cons_succ, List.getElem?_cons_zero]
                  rfl
                case q12_95 => exact fun _ _ _ h => h
                case z12_95 => rfl
                case y12_95 =>
                  intro w hSw
                  try dsimp only at hSw
                  go_simp
                  try with_reducible rfl
                try simp only [Act.put, List.setIfInBounds_toArray, List.set_cons_zero, List.set_cons_succ]
                refine wpAnyH_take (i := 13) (oi := ?o13_96) (v := ?v13_96) ?h13_96 (by kernel_rfl) (by kernel_rfl) (by kernel_rfl) ?q13_96 (Or.inl ⟨?z13_96, ?y13_96⟩) (by assumption) ?r13_96
                case h13_96 =>
                  simp only [List.getElem?_toArray, List.getElem?_cons_succ, List.getElem?_cons_zero]
                  rfl
                case q13_96 => exact fun _ _ _ h => h
                case z13_96 => rfl
                case y13_96 =>
                  intro w hSw
                  try dsimp only at hSw
                  go_simp
                  try with_reducible rfl
                try simp only [Act.put, List.setIfInBounds_toArray, List.set_cons_zero, List.set_cons_succ]
                refine wpAnyH_ready (rs := [15]) (by kernel_rfl) (by simp) ?_
                refine AllReadyH.cons (o := ?o15_97) ?h15_97 (fun K hK => ?k15_97) AllReadyH.nil
                case h15_97 =>
                  simp only [List.getElem?_toArray, List.getElem?_cons_succ, List.getElem?_cons_zero]
                  rfl
                go_simp
                refine hK.out _ _ (by first | exact ⟨S6.box.cell 0, S6.box.cell 1⟩ | go_keep) (fun hHeld97 => ?_)
                clear hK K
                try simp only [Act.put, List.setIfInBounds_toArray, List.set_cons_zero, List.set_cons_succ]
                refine wpAnyH_take (i := 16) (oi := ?o16_98) (v := ?v16_98) ?h16_98 (by kernel_rfl) (by kernel_rfl) (by kernel_rfl) ?q16_98 (Or.inl ⟨?z16_98, ?y16_98⟩) (by assumption) ?r16_98
                case h16_98 =>
                  simp only [List.getElem?_toArray, List.getElem?_cons_succ, List.getElem?_cons_zero]
                  rfl
                case q16_98 => exact fun _ _ _ h => h
                case z16_98 => rfl
                case y16_98 =>
                  intro w hSw
                  try dsimp only at hSw
                  go_simp
                  try with_reducible rfl
                try simp only [Act.put, List.setIfInBounds_toArray, List.set_cons_zero, List.set_cons_succ]
                refine wpAnyH_take (i := 17) (oi := ?o17_99) (v := ?v17_99) ?h17_99 (by kernel_rfl) (by kernel_rfl) (by kernel_rfl) ?q17_99 (Or.inl ⟨?z17_99, ?y17_99⟩) (by assumption) ?r17_99
                case h17_99 =>
                  simp only [List.getElem?_toArray, List.getElem?_cons_succ, List.getElem?_cons_zero]
                  rfl
                case q17_99 => exact fun _ _ _ h => h
                case z17_99 => rfl
                case y17_99 =>
                  intro w hSw
                  try dsimp only at hSw
                  go_simp
                  try with_reducible rfl
                try simp only [Act.put, List.setIfInBounds_toArray, List.set_cons_zero, List.set_cons_succ]
                refine wpAnyH_done (by kernel_rfl) ?_ _
                go_wp2_with fail
                go_meet
                have hL6 := hL5.kept (Keep.setCell (Keep.setCell (Keep.refl (wr.heap.size + 1) ((wr.heap.size + 1) + 1) wq) (p := ⟨(wr.heap.size + 1), 0, none⟩) (Nat.le_refl _) (Nat.lt_succ_self _) (.string sR)) (p := ⟨(wr.heap.size + 1), 1, none⟩) (Nat.le_refl _) (Nat.lt_succ_self _) (.slice A5 n5 c5)) (.inr (by simp))
                have hH : HeldM ((wq.setCell ⟨(wr.heap.size + 1), 0, none⟩ (.string sR)).setCell ⟨(wr.heap.size + 1), 1, none⟩ (.slice A5 n5 c5)) w1.heap.size (.slice uA uN uC) fR (.slice A5 n5 c5) := held_new hL6 (by have := HS.out.box.lt; simp; omega) (fun g e => by have := (HS.out.row.lt _ e).2; simp; omega)
                exact ⟨(wr.heap.size + 1), al, sR, fR, tR, cR, A5, n5, c5, rfl, rfl, rfl, Lib.hid ⟨by have := alOk_cases hal; omega, hr⟩, Lib.hid (by have := (bX.set_ 0 (.string sR)).set_ 1 (.slice A5 n5 c5); simpa using this), Lib.hid S6, Lib.hid hH, by have := HS.out.box.lt; omega⟩
            case k14_71 =>
              go_simp
              refine hK.out _ _ (by first | exact ⟨(HS.out.step (((Below.refl wr.heap.size wr).alloc (by simp) (.cells #[.string ⟨#[]⟩, .slice none 0 0] 29)).drew)).box.cell 0, (HS.out.step (((Below.refl wr.heap.size wr).alloc (by simp) (.cells #[.string ⟨#[]⟩, .slice none 0 0] 29)).drew)).box.cell 1⟩ | go_keep) (fun hHeld71 => ?_)
              clear hK K
              try simp only [Act.put, List.setIfInBounds_toArray, List.set_cons_zero, List.set_cons_succ]
              refine wpAnyH_ready (rs := [2]) (by kernel_rfl) (by simp) ?_
              refine AllReadyH.cons (o := ?o2_100) ?h2_100 (fun K hK => ?k2_100) AllReadyH.nil
              case h2_100 =>
                simp only [List.getElem?_toArray, List.getElem?_cons_succ, List.getElem?_cons_zero]
                rfl
              go_simp
              refine hK.out _ _ (by first | exact ⟨(HS.out.step ((((Below.refl wr.heap.size wr).alloc (by simp) (.cells #[.string ⟨#[]⟩, .slice none 0 0] 29)).alloc (by simp) (.cells #[.int .i64 1, .int .i64 2, .int .i64 4, .int .i64 8] 2)).drew)).box.cell 0, (HS.out.step ((((Below.refl wr.heap.size wr).alloc (by simp) (.cells #[.string ⟨#[]⟩, .slice none 0 0] 29)).alloc (by simp) (.cells #[.int .i64 1, .int .i64 2, .int .i64 4, .int .i64 8] 2)).drew)).box.cell 1⟩ | go_keep) (fun hHeld100 => ?_)
              clear hK K
              try simp only [Act.put, List.setIfInBounds_toArray, List.set_cons_zero, List.set_cons_succ]
              refine wpAnyH_take (i := 7) (oi := ?o7_101) (v := ?v7_101) ?h7_101 (by kernel_rfl) (by kernel_rfl) (by kernel_rfl) ?q7_101 (Or.inl ⟨?z7_101, ?y7_101⟩) (by assumption) ?r7_101
              case h7_101 =>
                simp only [List.getElem?_toArray, List.getElem?_cons_succ, List.getElem?_cons_zero]
                rfl
              case q7_101 => exact fun _ _ _ h => h
              case z7_101 => rfl
              case y7_101 =>
                intro w hSw
                try dsimp only at hSw
                go_simp
                try with_reducible rfl
              try simp only [Act.put, List.setIfInBounds_toArray, List.set_cons_zero, List.set_cons_succ]
              refine wpAnyH_ready (rs := [8]) (by kernel_rfl) (by simp) ?_
              refine AllReadyH.cons (o := ?o8_102) ?h8_102 (fun K hK => ?k8_102) AllReadyH.nil
              case h8_102 =>
                simp only [List.getElem?_toArray, List.getElem?_cons_succ, List.getElem?_cons_zero]
                rfl
              have hcal := HAL4.out _ _ _ (show Blk (((wr.alloc (.cells #[.string ⟨#[]⟩, .slice none 0 0] 29)).alloc (.cells #[.int .i64 1, .int .i64 2, .int .i64 4, .int .i64 8] 2)).drew) (wr.heap.size + 1) 2 #[.int .i64 1, .int .i64 2, .int .i64 4, .int .i64 8] by have := (Blk.new (wr.alloc (.cells #[.string ⟨#[]⟩, .slice none 0 0] 29)) 2 #[.int .i64 1, .int .i64 2, .int .i64 4, .int .i64 8]).drew; simpa using this)
              go_simp
              refine hK.out _ _ (by first | exact ⟨(HS.out.step ((((Below.refl wr.heap.size wr).alloc (by simp) (.cells #[.string ⟨#[]⟩, .slice none 0 0] 29)).alloc (by simp) (.cells #[.int .i64 1, .int .i64 2, .int .i64 4, .int .i64 8] 2)).drew)).box.cell 0, (HS.out.step ((((Below.refl wr.heap.size wr).alloc (by simp) (.cells #[.string ⟨#[]⟩, .slice none 0 0] 29)).alloc (by simp) (.cells #[.int .i64 1, .int .i64 2, .int .i64 4, .int .i64 8] 2)).drew)).box.cell 1⟩ | go_keep) (fun hHeld102 => ?_)
              clear hK K
              try simp only [Act.put, List.setIfInBounds_toArray, List.set_cons_zero, List.set_cons_succ]
              refine wpAnyH_ready (rs := [9]) (by kernel_rfl) (by simp) ?_
              refine AllReadyH.cons (o := ?o9_103) ?h9_103 (fun K hK => ?k9_103) AllReadyH.nil
              case h9_103 =>
                simp only [List.getElem?_toArray, List.getElem?_cons_succ, List.getElem?_cons_zero]
                rfl
              go_simp
              go_at_call 26
              have hAC := HALC.out al hal _ ((((Below.refl wr.heap.size wr).alloc (by simp) (.cells #[.string ⟨#[]⟩, .slice none 0 0] 29)).alloc (by simp) (.cells #[.int .i64 1, .int .i64 2, .int .i64 4, .int .i64 8] 2)).drew)
              obtain ⟨⟨⟨sR, fR⟩, tR, cR⟩, hr⟩ : ∃ r, allocM s fs (Z : Int) al = r := ⟨_, rfl⟩
              rw [hr] at hAC
              refine hAC.mono ?_
              rintro e wq ⟨us, rfl, hl, hbq⟩
              obtain ⟨A5, n5, c5, hus⟩ := mem_form hl
              simp only at hus
              subst hus
              obtain ⟨_, hL5⟩ := mem_lv hl
              have hB5 : Below wr.heap.size wr wq := ((((Below.refl wr.heap.size wr).alloc (by simp) (.cells #[.string ⟨#[]⟩, .slice none 0 0] 29)).alloc (by simp) (.cells #[.int .i64 1, .int .i64 2, .int .i64 4, .int .i64 8] 2)).drew).trans (hbq.mono ((((Below.refl wr.heap.size wr).alloc (by simp) (.cells #[.string ⟨#[]⟩, .slice none 0 0] 29)).alloc (by simp) (.cells #[.int .i64 1, .int .i64 2, .int .i64 4, .int .i64 8] 2)).drew).size)
              have SQ := HS.out.step hB5
              have bX : Blk wq wr.heap.size 29 #[.string ⟨#[]⟩, .slice none 0 0] := Blk.step ((Blk.new wr 29 #[.string ⟨#[]⟩, .slice none 0 0]).alloc (.cells #[.int .i64 1, .int .i64 2, .int .i64 4, .int .i64 8] 2)).drew hbq
              have x0 : wq.cell? ⟨wr.heap.size, 0, none⟩ = some (.string ⟨#[]⟩) := bX.cell 0
              have x1 : wq.cell? ⟨wr.heap.size, 1, none⟩ = some (.slice none 0 0) := bX.cell 1
              have g0 := bX.frozen 0
              have g1 := bX.frozen 1
              have hB6 : Below wr.heap.size wr ((wq.setCell ⟨wr.heap.size, 0, none⟩ (.string sR)).setCell ⟨wr.heap.size, 1, none⟩ (.slice A5 n5 c5)) := (hB5.setCell (p := ⟨wr.heap.size, 0, none⟩) (by show wr.heap.size ≤ wr.heap.size; omega) _).setCell (p := ⟨wr.heap.size, 1, none⟩) (by show wr.heap.size ≤ wr.heap.size; omega) _
              have S6 := HS.out.step hB6
              try go_wp2_with fail
              refine hK.out _ _ (by first | exact ⟨SQ.box.cell 0, SQ.box.cell 1⟩ | go_keep) (fun hHeld103 => ?_)
              clear hK K
              try simp only [Act.put, List.setIfInBounds_toArray, List.set_cons_zero, List.set_cons_succ]
              refine wpAnyH_take (i := 10) (oi := ?o10_104) (v := ?v10_104) ?h10_104 (by kernel_rfl) (by kernel_rfl) (by kernel_rfl) ?q10_104 (Or.inl ⟨?z10_104, ?y10_104⟩) (by assumption) ?r10_104
              case h10_104 =>
                simp only [List.getElem?_toArray, List.getElem?_cons_succ, List.getElem?_cons_zero]
                rfl
              case q10_104 => exact fun _ _ _ h => h
              case z10_104 => rfl
              case y10_104 =>
                intro w hSw
                try dsimp only at hSw
                go_simp
                try with_reducible rfl
              try simp only [Act.put, List.setIfInBounds_toArray, List.set_cons_zero, List.set_cons_succ]
              refine wpAnyH_take (i := 11) (oi := ?o11_105) (v := ?v11_105) ?h11_105 (by kernel_rfl) (by kernel_rfl) (by kernel_rfl) ?q11_105 (Or.inl ⟨?z11_105, ?y11_105⟩) (by assumption) ?r11_105
              case h11_105 =>
                simp only [List.getElem?_toArray, List.getElem?_cons_succ, List.getElem?_cons_zero]
                rfl
              case q11_105 => exact fun _ _ _ h => h
              case z11_105 => rfl
              case y11_105 =>
                intro w hSw
                try dsimp only at hSw
                go_simp
                try with_reducible rfl
              try simp only [Act.put, List.setIfInBounds_toArray, List.set_cons_zero, List.set_cons_succ]
              refine wpAnyH_take (i := 12) (oi := ?o12_106) (v := ?v12_106) ?h12_106 (by kernel_rfl) (by kernel_rfl) (by kernel_rfl) ?q12_106 (Or.inl ⟨?z12_106, ?y12_106⟩) (by assumption) ?r12_106
              case h12_106 =>
                simp only [List.getElem?_toArray, List.getElem?_cons_succ, List.getElem?_cons_zero]
                rfl
              case q12_106 => exact fun _ _ _ h => h
              case z12_106 => rfl
              case y12_106 =>
                intro w hSw
                try dsimp only at hSw
                go_simp
                try with_reducible rfl
              try simp only [Act.put, List.setIfInBounds_toArray, List.set_cons_zero, List.set_cons_succ]
              refine wpAnyH_take (i := 13) (oi := ?o13_107) (v := ?v13_107) ?h13_107 (by kernel_rfl) (by kernel_rfl) (by kernel_rfl) ?q13_107 (Or.inl ⟨?z13_107, ?y13_107⟩) (by assumption) ?r13_107
              case h13_107 =>
                simp only [List.getElem?_toArray, List.getElem?_cons_succ, List.getElem?_cons_zero]
                rfl
              case q13_107 => exact fun _ _ _ h => h
              case z13_107 => rfl
              case y13_107 =>
                intro w hSw
                try dsimp only at hSw
                go_simp
                try with_reducible rfl
              try simp only [Act.put, List.setIfInBounds_toArray, List.set_cons_zero, List.set_cons_succ]
              refine wpAnyH_ready (rs := [15]) (by kernel_rfl) (by simp) ?_
              refine AllReadyH.cons (o := ?o15_108) ?h15_108 (fun K hK => ?k15_108) AllReadyH.nil
              case h15_108 =>
                simp only [List.getElem?_toArray, List.getElem?_cons_succ, List.getElem?_cons_zero]
                rfl
              go_simp
              refine hK.out _ _ (by first | exact ⟨S6.box.cell 0, S6.box.cell 1⟩ | go_keep) (fun hHeld108 => ?_)
              clear hK K
              try simp only [Act.put, List.setIfInBounds_toArray, List.set_cons_zero, List.set_cons_succ]
              refine wpAnyH_take (i := 16) (oi := ?o16_109) (v := ?v16_109) ?h16_109 (by kernel_rfl) (by kernel_rfl) (by kernel_rfl) ?q16_109 (Or.inl ⟨?z16_109, ?y16_109⟩) (by assumption) ?r16_109
              case h16_109 =>
                simp only [List.getElem?_toArray, List.getElem?_cons_succ, List.getElem?_cons_zero]
                rfl
              case q16_109 => exact fun _ _ _ h => h
              case z16_109 => rfl
              case y16_109 =>
                intro w hSw
                try dsimp only at hSw
                go_simp
                try with_reducible rfl
              try simp only [Act.put, List.setIfInBounds_toArray, List.set_cons_zero, List.set_cons_succ]
              refine wpAnyH_take (i := 17) (oi := ?o17_110) (v := ?v17_110) ?h17_110 (by kernel_rfl) (by kernel_rfl) (by kernel_rfl) ?q17_110 (Or.inl ⟨?z17_110, ?y17_110⟩) (by assumption) ?r17_110
              case h17_110 =>
                simp only [List.getElem?_toArray, List.getElem?_cons_succ, List.getElem?_cons_zero]
                rfl
              case q17_110 => exact fun _ _ _ h => h
              case z17_110 => rfl
              case y17_110 =>
                intro w hSw
                try dsimp only at hSw
                go_simp
                try with_reducible rfl
              try simp only [Act.put, List.setIfInBounds_toArray, List.set_cons_zero, List.set_cons_succ]
              refine wpAnyH_done (by kernel_rfl) ?_ _
              go_wp2_with fail
              go_meet
              have hL6 := hL5.kept (Keep.setCell (Keep.setCell (Keep.refl wr.heap.size (wr.heap.size + 1) wq) (p := ⟨wr.heap.size, 0, none⟩) (Nat.le_refl _) (Nat.lt_succ_self _) (.string sR)) (p := ⟨wr.heap.size, 1, none⟩) (Nat.le_refl _) (Nat.lt_succ_self _) (.slice A5 n5 c5)) (.inr (by simp))
              have hH : HeldM ((wq.setCell ⟨wr.heap.size, 0, none⟩ (.string sR)).setCell ⟨wr.heap.size, 1, none⟩ (.slice A5 n5 c5)) w1.heap.size (.slice uA uN uC) fR (.slice A5 n5 c5) := held_new hL6 (by have := HS.out.box.lt; simp; omega) (fun g e => by have := (HS.out.row.lt _ e).2; simp; omega)
              exact ⟨wr.heap.size, al, sR, fR, tR, cR, A5, n5, c5, rfl, rfl, rfl, Lib.hid ⟨by have := alOk_cases hal; omega, hr⟩, Lib.hid (by have := (bX.set_ 0 (.string sR)).set_ 1 (.slice A5 n5 c5); simpa using this), Lib.hid S6, Lib.hid hH, by have := HS.out.box.lt; omega⟩
          case k14_30 =>
            go_simp
            refine hK.out _ _ (by first | exact ⟨(HS.out.step (((Below.refl wr.heap.size wr).alloc (by simp) (.cells #[.string ⟨#[]⟩, .slice none 0 0] 29)).drew)).box.cell 0, (HS.out.step (((Below.refl wr.heap.size wr).alloc (by simp) (.cells #[.string ⟨#[]⟩, .slice none 0 0] 29)).drew)).box.cell 1⟩ | go_keep) (fun hHeld30 => ?_)
            clear hK K
            try simp only [Act.put, List.setIfInBounds_toArray, List.set_cons_zero, List.set_cons_succ]
            refine wpAnyH_ready (rs := [2, 6]) (by kernel_rfl) (by simp) ?_
            refine AllReadyH.cons (o := ?o2_111) ?h2_111 (fun K hK => ?k2_111) (AllReadyH.cons (o := ?o6_111) ?h6_111 (fun K hK => ?k6_111) AllReadyH.nil)
            case h2_111 =>
              simp only [List.getElem?_toArray, List.getElem?_cons_succ, List.getElem?_cons_zero]
              rfl
            case h6_111 =>
              simp only [List.getElem?_toArray, List.getElem?_cons_succ, List.getElem?_cons_zero]
              rfl
            case k2_111 =>
              go_simp
              refine hK.out _ _ (by first | exact ⟨(HS.out.step ((((Below.refl wr.heap.size wr).alloc (by simp) (.cells #[.string ⟨#[]⟩, .slice none 0 0] 29)).alloc (by simp) (.cells #[.int .i64 1, .int .i64 2, .int .i64 4, .int .i64 8] 2)).drew)).box.cell 0, (HS.out.step ((((Below.refl wr.heap.size wr).alloc (by simp) (.cells #[.string ⟨#[]⟩, .slice none 0 0] 29)).alloc (by simp) (.cells #[.int .i64 1, .int .i64 2, .int .i64 4, .int .i64 8] 2)).drew)).box.cell 1⟩ | go_keep) (fun hHeld111 => ?_)
              clear hK K
              try simp only [Act.put, List.setIfInBounds_toArray, List.set_cons_zero, List.set_cons_succ]
              refine wpAnyH_ready (rs := [6]) (by kernel_rfl) (by simp) ?_
              refine AllReadyH.cons (o := ?o6_112) ?h6_112 (fun K hK => ?k6_112) AllReadyH.nil
              case h6_112 =>
                simp only [List.getElem?_toArray, List.getElem?_cons_succ, List.getElem?_cons_zero]
                rfl
              go_simp
              go_at_call 32
              refine (b10At_i (i := (k : Int) + 30) (n := 4) ((HA2.out.below ((((Below.refl wr.heap.size wr).alloc (by simp) (.cells #[.string ⟨#[]⟩, .slice none 0 0] 29)).alloc (by simp) (.cells #[.int .i64 1, .int .i64 2, .int .i64 4, .int .i64 8] 2)).drew) (Nat.le_refl _)).more ((((Below.refl wr.heap.size wr).alloc (by simp) (.cells #[.string ⟨#[]⟩, .slice none 0 0] 29)).alloc (by simp) (.cells #[.int .i64 1, .int .i64 2, .int .i64 4, .int .i64 8] 2)).drew).size) hn2 (by omega) (by omega) (by omega)).mono ?_
              rintro e w' ⟨z2, rfl, hz2, rfl⟩
              obtain ⟨al, hal, hal4⟩ := four_at z2 hz2
              have HAL4 := Lib.hid hal4
              clear hal4
              have hz4 : z2 < 4 := by omega
              have hz5 : (z2 : Int) < 4 := by omega
              try go_wp2_with fail
              refine hK.out _ _ (by first | exact ⟨(HS.out.step ((((Below.refl wr.heap.size wr).alloc (by simp) (.cells #[.string ⟨#[]⟩, .slice none 0 0] 29)).alloc (by simp) (.cells #[.int .i64 1, .int .i64 2, .int .i64 4, .int .i64 8] 2)).drew)).box.cell 0, (HS.out.step ((((Below.refl wr.heap.size wr).alloc (by simp) (.cells #[.string ⟨#[]⟩, .slice none 0 0] 29)).alloc (by simp) (.cells #[.int .i64 1, .int .i64 2, .int .i64 4, .int .i64 8] 2)).drew)).box.cell 1⟩ | go_keep) (fun hHeld112 => ?_)
              clear hK K
              try simp only [Act.put, List.setIfInBounds_toArray, List.set_cons_zero, List.set_cons_succ]
              refine wpAnyH_take (i := 7) (oi := ?o7_113) (v := ?v7_113) ?h7_113 (by kernel_rfl) (by kernel_rfl) (by kernel_rfl) ?q7_113 (Or.inl ⟨?z7_113, ?y7_113⟩) (by assumption) ?r7_113
              case h7_113 =>
                simp only [List.getElem?_toArray, List.getElem?_cons_succ, List.getElem?_cons_zero]
                rfl
              case q7_113 => exact fun _ _ _ h => h
              case z7_113 => rfl
              case y7_113 =>
                intro w hSw
                try dsimp only at hSw
                go_simp
                try with_reducible rfl
              try simp only [Act.put, List.setIfInBounds_toArray, List.set_cons_zero, List.set_cons_succ]
              refine wpAnyH_ready (rs := [8]) (by kernel_rfl) (by simp) ?_
              refine AllReadyH.cons (o := ?o8_114) ?h8_114 (fun K hK => ?k8_114) AllReadyH.nil
              case h8_114 =>
                simp only [List.getElem?_toArray, List.getElem?_cons_succ, List.getElem?_cons_zero]
                rfl
              have hcal := HAL4.out _ _ _ (show Blk (((wr.alloc (.cells #[.string ⟨#[]⟩, .slice none 0 0] 29)).alloc (.cells #[.int .i64 1, .int .i64 2, .int .i64 4, .int .i64 8] 2)).drew) (wr.heap.size + 1) 2 #[.int .i64 1, .int .i64 2, .int .i64 4, .int .i64 8] by have := (Blk.new (wr.alloc (.cells #[.string ⟨#[]⟩, .slice none 0 0] 29)) 2 #[.int .i64 1, .int .i64 2, .int .i64 4, .int .i64 8]).drew; simpa using this)
              go_simp
              refine hK.out _ _ (by first | exact ⟨(HS.out.step ((((Below.refl wr.heap.size wr).alloc (by simp) (.cells #[.string ⟨#[]⟩, .slice none 0 0] 29)).alloc (by simp) (.cells #[.int .i64 1, .int .i64 2, .int .i64 4, .int .i64 8] 2)).drew)).box.cell 0, (HS.out.step ((((Below.refl wr.heap.size wr).alloc (by simp) (.cells #[.string ⟨#[]⟩, .slice none 0 0] 29)).alloc (by simp) (.cells #[.int .i64 1, .int .i64 2, .int .i64 4, .int .i64 8] 2)).drew)).box.cell 1⟩ | go_keep) (fun hHeld114 => ?_)
              clear hK K
              try simp only [Act.put, List.setIfInBounds_toArray, List.set_cons_zero, List.set_cons_succ]
              refine wpAnyH_ready (rs := [9]) (by kernel_rfl) (by simp) ?_
              refine AllReadyH.cons (o := ?o9_115) ?h9_115 (fun K hK => ?k9_115) AllReadyH.nil
              case h9_115 =>
                simp only [List.getElem?_toArray, List.getElem?_cons_succ, List.getElem?_cons_zero]
                rfl
              go_simp
              go_at_call 26
              have hAC := HALC.out al hal _ ((((Below.refl wr.heap.size wr).alloc (by simp) (.cells #[.string ⟨#[]⟩, .slice none 0 0] 29)).alloc (by simp) (.cells #[.int .i64 1, .int .i64 2, .int .i64 4, .int .i64 8] 2)).drew)
              obtain ⟨⟨⟨sR, fR⟩, tR, cR⟩, hr⟩ : ∃ r, allocM s fs (Z : Int) al = r := ⟨_, rfl⟩
              rw [hr] at hAC
              refine hAC.mono ?_
              rintro e wq ⟨us, rfl, hl, hbq⟩
              obtain ⟨A5, n5, c5, hus⟩ := mem_form hl
              simp only at hus
              subst hus
              obtain ⟨_, hL5⟩ := mem_lv hl
              have hB5 : Below wr.heap.size wr wq := ((((Below.refl wr.heap.size wr).alloc (by simp) (.cells #[.string ⟨#[]⟩, .slice none 0 0] 29)).alloc (by simp) (.cells #[.int .i64 1, .int .i64 2, .int .i64 4, .int .i64 8] 2)).drew).trans (hbq.mono ((((Below.refl wr.heap.size wr).alloc (by simp) (.cells #[.string ⟨#[]⟩, .slice none 0 0] 29)).alloc (by simp) (.cells #[.int .i64 1, .int .i64 2, .int .i64 4, .int .i64 8] 2)).drew).size)
              have SQ := HS.out.step hB5
              have bX : Blk wq wr.heap.size 29 #[.string ⟨#[]⟩, .slice none 0 0] := Blk.step ((Blk.new wr 29 #[.string ⟨#[]⟩, .slice none 0 0]).alloc (.cells #[.int .i64 1, .int .i64 2, .int .i64 4, .int .i64 8] 2)).drew hbq
              have x0 : wq.cell? ⟨wr.heap.size, 0, none⟩ = some (.string ⟨#[]⟩) := bX.cell 0
              have x1 : wq.cell? ⟨wr.heap.size, 1, none⟩ = some (.slice none 0 0) := bX.cell 1
              have g0 := bX.frozen 0
              have g1 := bX.frozen 1
              have hB6 : Below wr.heap.size wr ((wq.setCell ⟨wr.heap.size, 0, none⟩ (.string sR)).setCell ⟨wr.heap.size, 1, none⟩ (.slice A5 n5 c5)) := (hB5.setCell (p := ⟨wr.heap.size, 0, none⟩) (by show wr.heap.size ≤ wr.heap.size; omega) _).setCell (p := ⟨wr.heap.size, 1, none⟩) (by show wr.heap.size ≤ wr.heap.size; omega) _
              have S6 := HS.out.step hB6
              try go_wp2_with fail
              refine hK.out _ _ (by first | exact ⟨SQ.box.cell 0, SQ.box.cell 1⟩ | go_keep) (fun hHeld115 => ?_)
              clear hK K
              try simp only [Act.put, List.setIfInBounds_toArray, List.set_cons_zero, List.set_cons_succ]
              refine wpAnyH_take (i := 10) (oi := ?o10_116) (v := ?v10_116) ?h10_116 (by kernel_rfl) (by kernel_rfl) (by kernel_rfl) ?q10_116 (Or.inl ⟨?z10_116, ?y10_116⟩) (by assumption) ?r10_116
              case h10_116 =>
                simp only [List.getElem?_toArray, List.getElem?_cons_succ, List.getElem?_cons_zero]
                rfl
              case q10_116 => exact fun _ _ _ h => h
              case z10_116 => rfl
              case y10_116 =>
                intro w hSw
                try dsimp only at hSw
                go_simp
                try with_reducible rfl
              try simp only [Act.put, List.setIfInBounds_toArray, List.set_cons_zero, List.set_cons_succ]
              refine wpAnyH_take (i := 11) (oi := ?o11_117) (v := ?v11_117) ?h11_117 (by kernel_rfl) (by kernel_rfl) (by kernel_rfl) ?q11_117 (Or.inl ⟨?z11_117, ?y11_117⟩) (by assumption) ?r11_117
              case h11_117 =>
                simp only [List.getElem?_toArray, List.getElem?_cons_succ, List.getElem?_cons_zero]
                rfl
              case q11_117 => exact fun _ _ _ h => h
              case z11_117 => rfl
              case y11_117 =>
                intro w hSw
                try dsimp only at hSw
                go_simp
                try with_reducible rfl
              try simp only [Act.put, List.setIfInBounds_toArray, List.set_cons_zero, List.set_cons_succ]
              refine wpAnyH_take (i := 12) (oi := ?o12_118) (v := ?v12_118) ?h12_118 (by kernel_rfl) (by kernel_rfl) (by kernel_rfl) ?q12_118 (Or.inl ⟨?z12_118, ?y12_118⟩) (by assumption) ?r12_118
              case h12_118 =>
                simp only [List.getElem?_toArray, List.getElem?_cons_succ, List.getElem?_cons_zero]
                rfl
              case q12_118 => exact fun _ _ _ h => h
              case z12_118 => rfl
              case y12_118 =>
                intro w hSw
                try dsimp only at hSw
                go_simp
                try with_reducible rfl
              try simp only [Act.put, List.setIfInBounds_toArray, List.set_cons_zero, List.set_cons_succ]
              refine wpAnyH_take (i := 13) (oi := ?o13_119) (v := ?v13_119) ?h13_119 (by kernel_rfl) (by kernel_rfl) (by kernel_rfl) ?q13_119 (Or.inl ⟨?z13_119, ?y13_119⟩) (by assumption) ?r13_119
              case h13_119 =>
                simp only [List.getElem?_toArray, List.getElem?_cons_succ, List.getElem?_cons_zero]
                rfl
              case q13_119 => exact fun _ _ _ h => h
              case z13_119 => rfl
              case y13_119 =>
                intro w hSw
                try dsimp only at hSw
                go_simp
                try with_reducible rfl
              try simp only [Act.put, List.setIfInBounds_toArray, List.set_cons_zero, List.set_cons_succ]
              refine wpAnyH_ready (rs := [15]) (by kernel_rfl) (by simp) ?_
              refine AllReadyH.cons (o := ?o15_120) ?h15_120 (fun K hK => ?k15_120) AllReadyH.nil
              case h15_120 =>
                simp only [List.getElem?_toArray, List.getElem?_cons_succ, List.getElem?_cons_zero]
                rfl
              go_simp
              refine hK.out _ _ (by first | exact ⟨S6.box.cell 0, S6.box.cell 1⟩ | go_keep) (fun hHeld120 => ?_)
              clear hK K
              try simp only [Act.put, List.setIfInBounds_toArray, List.set_cons_zero, List.set_cons_succ]
              refine wpAnyH_take (i := 16) (oi := ?o16_121) (v := ?v16_121) ?h16_121 (by kernel_rfl) (by kernel_rfl) (by kernel_rfl) ?q16_121 (Or.inl ⟨?z16_121, ?y16_121⟩) (by assumption) ?r16_121
              case h16_121 =>
                simp only [List.getElem?_toArray, List.getElem?_cons_succ, List.getElem?_cons_zero]
                rfl
              case q16_121 => exact fun _ _ _ h => h
              case z16_121 => rfl
              case y16_121 =>
                intro w hSw
                try dsimp only at hSw
                go_simp
                try with_reducible rfl
              try simp only [Act.put, List.setIfInBounds_toArray, List.set_cons_zero, List.set_cons_succ]
              refine wpAnyH_take (i := 17) (oi := ?o17_122) (v := ?v17_122) ?h17_122 (by kernel_rfl) (by kernel_rfl) (by kernel_rfl) ?q17_122 (Or.inl ⟨?z17_122, ?y17_122⟩) (by assumption) ?r17_122
              case h17_122 =>
                simp only [List.getElem?_toArray, List.getElem?_cons_succ, List.getElem?_cons_zero]
                rfl
              case q17_122 => exact fun _ _ _ h => h
              case z17_122 => rfl
              case y17_122 =>
                intro w hSw
                try dsimp only at hSw
                go_simp
                try with_reducible rfl
              try simp only [Act.put, List.setIfInBounds_toArray, List.set_cons_zero, List.set_cons_succ]
              refine wpAnyH_done (by kernel_rfl) ?_ _
              go_wp2_with fail
              go_meet
              have hL6 := hL5.kept (Keep.setCell (Keep.setCell (Keep.refl wr.heap.size (wr.heap.size + 1) wq) (p := ⟨wr.heap.size, 0, none⟩) (Nat.le_refl _) (Nat.lt_succ_self _) (.string sR)) (p := ⟨wr.heap.size, 1, none⟩) (Nat.le_refl _) (Nat.lt_succ_self _) (.slice A5 n5 c5)) (.inr (by simp))
              have hH : HeldM ((wq.setCell ⟨wr.heap.size, 0, none⟩ (.string sR)).setCell ⟨wr.heap.size, 1, none⟩ (.slice A5 n5 c5)) w1.heap.size (.slice uA uN uC) fR (.slice A5 n5 c5) := held_new hL6 (by have := HS.out.box.lt; simp; omega) (fun g e => by have := (HS.out.row.lt _ e).2; simp; omega)
              exact ⟨wr.heap.size, al, sR, fR, tR, cR, A5, n5, c5, rfl, rfl, rfl, Lib.hid ⟨by have := alOk_cases hal; omega, hr⟩, Lib.hid (by have := (bX.set_ 0 (.string sR)).set_ 1 (.slice A5 n5 c5); simpa using this), Lib.hid S6, Lib.hid hH, by have := HS.out.box.lt; omega⟩
            case k6_111 =>
              go_simp
              go_at_call 32
              refine (b10At_i (i := (k : Int) + 30) (n := 4) ((HA2.out.below (((Below.refl wr.heap.size wr).alloc (by simp) (.cells #[.string ⟨#[]⟩, .slice none 0 0] 29)).drew) (Nat.le_refl _)).more (((Below.refl wr.heap.size wr).alloc (by simp) (.cells #[.string ⟨#[]⟩, .slice none 0 0] 29)).drew).size) hn2 (by omega) (by omega) (by omega)).mono ?_
              rintro e w' ⟨z2, rfl, hz2, rfl⟩
              obtain ⟨al, hal, hal4⟩ := four_at z2 hz2
              have HAL4 := Lib.hid hal4
              clear hal4
              have hz4 : z2 < 4 := by omega
              have hz5 : (z2 : Int) < 4 := by omega
              try go_wp2_with fail
              refine hK.out _ _ (by first | exact ⟨(HS.out.step (((Below.refl wr.heap.size wr).alloc (by simp) (.cells #[.string ⟨#[]⟩, .slice none 0 0] 29)).drew)).box.cell 0, (HS.out.step (((Below.refl wr.heap.size wr).alloc (by simp) (.cells #[.string ⟨#[]⟩, .slice none 0 0] 29)).drew)).box.cell 1⟩ | go_keep) (fun hHeld111 => ?_)
              clear hK K
              try simp only [Act.put, List.setIfInBounds_toArray, List.set_cons_zero, List.set_cons_succ]
              refine wpAnyH_ready (rs := [2]) (by kernel_rfl) (by simp) ?_
              refine AllReadyH.cons (o := ?o2_123) ?h2_123 (fun K hK => ?k2_123) AllReadyH.nil
              case h2_123 =>
                simp only [List.getElem?_toArray, List.getElem?_cons_succ, List.getElem?_cons_zero]
                rfl
              go_simp
              refine hK.out _ _ (by first | exact ⟨(HS.out.step ((((Below.refl wr.heap.size wr).alloc (by simp) (.cells #[.string ⟨#[]⟩, .slice none 0 0] 29)).alloc (by simp) (.cells #[.int .i64 1, .int .i64 2, .int .i64 4, .int .i64 8] 2)).drew)).box.cell 0, (HS.out.step ((((Below.refl wr.heap.size wr).alloc (by simp) (.cells #[.string ⟨#[]⟩, .slice none 0 0] 29)).alloc (by simp) (.cells #[.int .i64 1, .int .i64 2, .int .i64 4, .int .i64 8] 2)).drew)).box.cell 1⟩ | go_keep) (fun hHeld123 => ?_)
              clear hK K
              try simp only [Act.put, List.setIfInBounds_toArray, List.set_cons_zero, List.set_cons_succ]
              refine wpAnyH_take (i := 7) (oi := ?o7_124) (v := ?v7_124) ?h7_124 (by kernel_rfl) (by kernel_rfl) (by kernel_rfl) ?q7_124 (Or.inl ⟨?z7_124, ?y7_124⟩) (by assumption) ?r7_124
              case h7_124 =>
                simp only [List.getElem?_toArray, List.getElem?_cons_succ, List.getElem?_cons_zero]
                rfl
              case q7_124 => exact fun _ _ _ h => h
              case z7_124 => rfl
              case y7_124 =>
                intro w hSw
                try dsimp only at hSw
                go_simp
                try with_reducible rfl
              try simp only [Act.put, List.setIfInBounds_toArray, List.set_cons_zero, List.set_cons_succ]
              refine wpAnyH_ready (rs := [8]) (by kernel_rfl) (by simp) ?_
              refine AllReadyH.cons (o := ?o8_125) ?h8_125 (fun K hK => ?k8_125) AllReadyH.nil
              case h8_125 =>
                simp only [List.getElem?_toArray, List.getElem?_cons_succ, List.getElem?_cons_zero]
                rfl
              have hcal := HAL4.out _ _ _ (show Blk (((wr.alloc (.cells #[.string ⟨#[]⟩, .slice none 0 0] 29)).alloc (.cells #[.int .i64 1, .int .i64 2, .int .i64 4, .int .i64 8] 2)).drew) (wr.heap.size + 1) 2 #[.int .i64 1, .int .i64 2, .int .i64 4, .int .i64 8] by have := (Blk.new (wr.alloc (.cells #[.string ⟨#[]⟩, .slice none 0 0] 29)) 2 #[.int .i64 1, .int .i64 2, .int .i64 4, .int .i64 8]).drew; simpa using this)
              go_simp
              refine hK.out _ _ (by first | exact ⟨(HS.out.step ((((Below.refl wr.heap.size wr).alloc (by simp) (.cells #[.string ⟨#[]⟩, .slice none 0 0] 29)).alloc (by simp) (.cells #[.int .i64 1, .int .i64 2, .int .i64 4, .int .i64 8] 2)).drew)).box.cell 0, (HS.out.step ((((Below.refl wr.heap.size wr).alloc (by simp) (.cells #[.string ⟨#[]⟩, .slice none 0 0] 29)).alloc (by simp) (.cells #[.int .i64 1, .int .i64 2, .int .i64 4, .int .i64 8] 2)).drew)).box.cell 1⟩ | go_keep) (fun hHeld125 => ?_)
              clear hK K
              try simp only [Act.put, List.setIfInBounds_toArray, List.set_cons_zero, List.set_cons_succ]
              refine wpAnyH_ready (rs := [9]) (by kernel_rfl) (by simp) ?_
              refine AllReadyH.cons (o := ?o9_126) ?h9_126 (fun K hK => ?k9_126) AllReadyH.nil
              case h9_126 =>
                simp only [List.getElem?_toArray, List.getElem?_cons_succ, List.getElem?_cons_zero]
                rfl
              go_simp
              go_at_call 26
              have hAC := HALC.out al hal _ ((((Below.refl wr.heap.size wr).alloc (by simp) (.cells #[.string ⟨#[]⟩, .slice none 0 0] 29)).alloc (by simp) (.cells #[.int .i64 1, .int .i64 2, .int .i64 4, .int .i64 8] 2)).drew)
              obtain ⟨⟨⟨sR, fR⟩, tR, cR⟩, hr⟩ : ∃ r, allocM s fs (Z : Int) al = r := ⟨_, rfl⟩
              rw [hr] at hAC
              refine hAC.mono ?_
              rintro e wq ⟨us, rfl, hl, hbq⟩
              obtain ⟨A5, n5, c5, hus⟩ := mem_form hl
              simp only at hus
              subst hus
              obtain ⟨_, hL5⟩ := mem_lv hl
              have hB5 : Below wr.heap.size wr wq := ((((Below.refl wr.heap.size wr).alloc (by simp) (.cells #[.string ⟨#[]⟩, .slice none 0 0] 29)).alloc (by simp) (.cells #[.int .i64 1, .int .i64 2, .int .i64 4, .int .i64 8] 2)).drew).trans (hbq.mono ((((Below.refl wr.heap.size wr).alloc (by simp) (.cells #[.string ⟨#[]⟩, .slice none 0 0] 29)).alloc (by simp) (.cells #[.int .i64 1, .int .i64 2, .int .i64 4, .int .i64 8] 2)).drew).size)
              have SQ := HS.out.step hB5
              have bX : Blk wq wr.heap.size 29 #[.string ⟨#[]⟩, .slice none 0 0] := Blk.step ((Blk.new wr 29 #[.string ⟨#[]⟩, .slice none 0 0]).alloc (.cells #[.int .i64 1, .int .i64 2, .int .i64 4, .int .i64 8] 2)).drew hbq
              have x0 : wq.cell? ⟨wr.heap.size, 0, none⟩ = some (.string ⟨#[]⟩) := bX.cell 0
              have x1 : wq.cell? ⟨wr.heap.size, 1, none⟩ = some (.slice none 0 0) := bX.cell 1
              have g0 := bX.frozen 0
              have g1 := bX.frozen 1
              have hB6 : Below wr.heap.size wr ((wq.setCell ⟨wr.heap.size, 0, none⟩ (.string sR)).setCell ⟨wr.heap.size, 1, none⟩ (.slice A5 n5 c5)) := (hB5.setCell (p := ⟨wr.heap.size, 0, none⟩) (by show wr.heap.size ≤ wr.heap.size; omega) _).setCell (p := ⟨wr.heap.size, 1, none⟩) (by show wr.heap.size ≤ wr.heap.size; omega) _
              have S6 := HS.out.step hB6
              try go_wp2_with fail
              refine hK.out _ _ (by first | exact ⟨SQ.box.cell 0, SQ.box.cell 1⟩ | go_keep) (fun hHeld126 => ?_)
              clear hK K
              try simp only [Act.put, List.setIfInBounds_toArray, List.set_cons_zero, List.set_cons_succ]
              refine wpAnyH_take (i := 10) (oi := ?o10_127) (v := ?v10_127) ?h10_127 (by kernel_rfl) (by kernel_rfl) (by kernel_rfl) ?q10_127 (Or.inl ⟨?z10_127, ?y10_127⟩) (by assumption) ?r10_127
              case h10_127 =>
                simp only [List.getElem?_toArray, List.getElem?_cons_succ, List.getElem?_cons_zero]
                rfl
              case q10_127 => exact fun _ _ _ h => h
              case z10_127 => rfl
              case y10_127 =>
                intro w hSw
                try dsimp only at hSw
                go_simp
                try with_reducible rfl
              try simp only [Act.put, List.setIfInBounds_toArray, List.set_cons_zero, List.set_cons_succ]
              refine wpAnyH_take (i := 11) (oi := ?o11_128) (v := ?v11_128) ?h11_128 (by kernel_rfl) (by kernel_rfl) (by kernel_rfl) ?q11_128 (Or.inl ⟨?z11_128, ?y11_128⟩) (by assumption) ?r11_128
              case h11_128 =>
                simp only [List.getElem?_toArray, List.getElem?_cons_succ, List.getElem?_cons_zero]
                rfl
              case q11_128 => exact fun _ _ _ h => h
              case z11_128 => rfl
              case y11_128 =>
                intro w hSw
                try dsimp only at hSw
                go_simp
                try with_reducible rfl
              try simp only [Act.put, List.setIfInBounds_toArray, List.set_cons_zero, List.set_cons_succ]
              refine wpAnyH_take (i := 12) (oi := ?o12_129) (v := ?v12_129) ?h12_129 (by kernel_rfl) (by kernel_rfl) (by kernel_rfl) ?q12_129 (Or.inl ⟨?z12_129, ?y12_129⟩) (by assumption) ?r12_129
              case h12_129 =>
                simp only [List.getElem?_toArray, List.getElem?_cons_succ, List.getElem?_cons_zero]
                rfl
              case q12_129 => exact fun _ _ _ h => h
              case z12_129 => rfl
              case y12_129 =>
                intro w hSw
                try dsimp only at hSw
                go_simp
                try with_reducible rfl
              try simp only [Act.put, List.setIfInBounds_toArray, List.set_cons_zero, List.set_cons_succ]
              refine wpAnyH_take (i := 13) (oi := ?o13_130) (v := ?v13_130) ?h13_130 (by kernel_rfl) (by kernel_rfl) (by kernel_rfl) ?q13_130 (Or.inl ⟨?z13_130, ?y13_130⟩) (by assumption) ?r13_130
              case h13_130 =>
                simp only [List.getElem?_toArray, List.getElem?_cons_succ, List.getElem?_cons_zero]
                rfl
              case q13_130 => exact fun _ _ _ h => h
              case z13_130 => rfl
              case y13_130 =>
                intro w hSw
                try dsimp only at hSw
                go_simp
                try with_reducible rfl
              try simp only [Act.put, List.setIfInBounds_toArray, List.set_cons_zero, List.set_cons_succ]
              refine wpAnyH_ready (rs := [15]) (by kernel_rfl) (by simp) ?_
              refine AllReadyH.cons (o := ?o15_131) ?h15_131 (fun K hK => ?k15_131) AllReadyH.nil
              case h15_131 =>
                simp only [List.getElem?_toArray, List.getElem?_cons_succ, List.getElem?_cons_zero]
                rfl
              go_simp
              refine hK.out _ _ (by first | exact ⟨S6.box.cell 0, S6.box.cell 1⟩ | go_keep) (fun hHeld131 => ?_)
              clear hK K
              try simp only [Act.put, List.setIfInBounds_toArray, List.set_cons_zero, List.set_cons_succ]
              refine wpAnyH_take (i := 16) (oi := ?o16_132) (v := ?v16_132) ?h16_132 (by kernel_rfl) (by kernel_rfl) (by kernel_rfl) ?q16_132 (Or.inl ⟨?z16_132, ?y16_132⟩) (by assumption) ?r16_132
              case h16_132 =>
                simp only [List.getElem?_toArray, List.getElem?_cons_succ, List.getElem?_cons_zero]
                rfl
              case q16_132 => exact fun _ _ _ h => h
              case z16_132 => rfl
              case y16_132 =>
                intro w hSw
                try dsimp only at hSw
                go_simp
                try with_reducible rfl
              try simp only [Act.put, List.setIfInBounds_toArray, List.set_cons_zero, List.set_cons_succ]
              refine wpAnyH_take (i := 17) (oi := ?o17_133) (v := ?v17_133) ?h17_133 (by kernel_rfl) (by kernel_rfl) (by kernel_rfl) ?q17_133 (Or.inl ⟨?z17_133, ?y17_133⟩) (by assumption) ?r17_133
              case h17_133 =>
                simp only [List.getElem?_toArray, List.getElem?_cons_succ, List.getElem?_cons_zero]
                rfl
              case q17_133 => exact fun _ _ _ h => h
              case z17_133 => rfl
              case y17_133 =>
                intro w hSw
                try dsimp only at hSw
                go_simp
                try with_reducible rfl
              try simp only [Act.put, List.setIfInBounds_toArray, List.set_cons_zero, List.set_cons_succ]
              refine wpAnyH_done (by kernel_rfl) ?_ _
              go_wp2_with fail
              go_meet
              have hL6 := hL5.kept (Keep.setCell (Keep.setCell (Keep.refl wr.heap.size (wr.heap.size + 1) wq) (p := ⟨wr.heap.size, 0, none⟩) (Nat.le_refl _) (Nat.lt_succ_self _) (.string sR)) (p := ⟨wr.heap.size, 1, none⟩) (Nat.le_refl _) (Nat.lt_succ_self _) (.slice A5 n5 c5)) (.inr (by simp))
              have hH : HeldM ((wq.setCell ⟨wr.heap.size, 0, none⟩ (.string sR)).setCell ⟨wr.heap.size, 1, none⟩ (.slice A5 n5 c5)) w1.heap.size (.slice uA uN uC) fR (.slice A5 n5 c5) := held_new hL6 (by have := HS.out.box.lt; simp; omega) (fun g e => by have := (HS.out.row.lt _ e).2; simp; omega)
              exact ⟨wr.heap.size, al, sR, fR, tR, cR, A5, n5, c5, rfl, rfl, rfl, Lib.hid ⟨by have := alOk_cases hal; omega, hr⟩, Lib.hid (by have := (bX.set_ 0 (.string sR)).set_ 1 (.slice A5 n5 c5); simpa using this), Lib.hid S6, Lib.hid hH, by have := HS.out.box.lt; omega⟩
        case rest =>
          obtain ⟨px, al, sR, fR, tR, cR, A5, n5, c5, rfl, rfl, rfl, HR, HBX, HS2, HH2, hpx⟩ := hcut
          cases hres : allocR fs (Z : Int) al with
          | none =>
            have e := HR.out.2
            rw [allocM_none hres] at e
            simp only [Prod.mk.injEq] at e
            obtain ⟨_, rfl, rfl⟩ := e
            go_wp2_with fail
            go_roundw
            case rel => exact ⟨k + 1, fs, taken, _, _, rfl, by go_num, by omega, by omega, HI, HS2⟩
            case measure => simp [intOf]; omega
          | some x =>
            obtain ⟨l, t⟩ := x
            have e := HR.out.2
            rw [allocM_some hres] at e
            simp only [Prod.mk.injEq, Memory.mk.injEq] at e
            obtain ⟨⟨rfl, rfl⟩, rfl, rfl⟩ := e
            have hAL := HI.out.alloc (by omega) HR.out.1 hres
            have htb := hAL.1.mem (b := ⟨t, (Z : Int)⟩) (by simp)
            simp only at htb
            have HAL := Lib.hid hAL
            clear hAL hres
            have hNN : N ≤ 4096 := hN
            have u0 : IntKind.i64.wrap (t + (Z : Int)) = t + Z := IntWalk.i64_in _ (by omega)
            go_wp2_with fail
            go_loopw [18] (fun i wx => ∃ j q : Nat, i = .int .i64 j ∧ j ≤ uN ∧ wx = wc.drewN q) (fun i _ => uN - (intOf i).toNat)
            case atStart => exact ⟨0, 0, rfl, Nat.zero_le _, rfl⟩
            case round =>
              obtain ⟨j, q, rfl, hj, rfl⟩ := hrel
              have HSq := Lib.hid (HS2.out.step (below_drewN (Below.refl _ _) q))
              by_cases hjl : j < uN
              case pos =>
                obtain ⟨gg, cc, hrow, _, _⟩ := HS2.out.row.form (by have := HUN.out; omega)
                injection hrow with e1 e2 e3
                clear e2
                subst e1 e3
                obtain ⟨b, hb, hbm⟩ := at_lt HUN.out hjl
                have hbb := HI.out.mem hbm
                have hbp := HI.out.pos _ hbm
                have hof := HAL.out.2 b hbm
                obtain ⟨q0, q1⟩ := (owns_at HS2.out.row (by have := HUN.out; omega)).2.1 j _ hb
                obtain ⟨ba, bz⟩ := b
                simp only [Nat.zero_add] at hbb hbp hof q0 q1
                have u1 : IntKind.i64.wrap (ba + bz) = ba + bz := IntWalk.i64_in _ (by omega)
                by_cases g1 : t < ba + bz
                case pos =>
                  have g2 : decide (t < ba + bz) = true := decide_eq_true g1
                  have g3 : decide (ba < t + (Z : Int)) = false := decide_eq_false (by omega)
                  clear hof
                  go_wp2_with fail
                  go_quiet (fail)
                  go_wp2_with fail
                  go_roundw
                  case rel => exact ⟨j + 1, _, by go_num, by omega, rfl⟩
                  case measure => simp [intOf]; omega
                case neg =>
                  have g2 : decide (t < ba + bz) = false := decide_eq_false g1
                  clear hof
                  go_wp2_with fail
                  go_quiet (fail)
                  go_wp2_with fail
                  go_roundw
                  case rel => exact ⟨j + 1, _, by go_num, by omega, rfl⟩
                  case measure => simp [intOf]; omega
              case neg =>
                have hju : uN = j := by omega
                subst hju
                have bxq := HBX.out.step (below_drewN (Below.refl _ _) q)
                have HHq := HH2.out.step (below_drewN (Below.refl _ _) q)
                have x0 : wc.cell? ⟨px, 0, none⟩ = some (.string s) := HBX.out.cell 0
                have x1 : wc.cell? ⟨px, 1, none⟩ = some (.slice A5 n5 c5) := HBX.out.cell 1
                have g0 := HS2.out.box.frozen 0
                have g1 := HS2.out.box.frozen 1
                have y0 : wc.cell? ⟨w1.heap.size, 0, none⟩ = some (.string s) := HS2.out.box.cell 0
                have y1 : wc.cell? ⟨w1.heap.size, 1, none⟩ = some (.slice fA fN fC) := HS2.out.box.cell 1
                have HS5 := Lib.hid (HSq.out.setm HHq)
                have HRW : Hid (((((wc.drewN q).setCell ⟨w1.heap.size, 0, none⟩ (.string s)).setCell ⟨w1.heap.size, 1, none⟩ (.slice A5 n5 c5)).alloc (.cells #[Value.int .i64 t, Value.int .i64 (Z : Int)] 49)).ownsRow ((w1.heap.size + 1) + 1) 49 2 (.slice uA uN uC) taken.length (bvals taken)) := HS5.out.row.alloc _
                have HSC : Hid (SrcOk ((((wc.drewN q).setCell ⟨w1.heap.size, 0, none⟩ (.string s)).setCell ⟨w1.heap.size, 1, none⟩ (.slice A5 n5 c5)).alloc (.cells #[Value.int .i64 t, Value.int .i64 (Z : Int)] 49)) (.slice (some ⟨wc.heap.size, 0, none⟩) 1 1) 2 1 (bvals [⟨t, (Z : Int)⟩])) := .inr ⟨⟨wc.heap.size, 0, none⟩, 1, rfl, rfl, by have := news_blk (((wc.drewN q).setCell ⟨w1.heap.size, 0, none⟩ (.string s)).setCell ⟨w1.heap.size, 1, none⟩ (.slice A5 n5 c5)) ⟨t, (Z : Int)⟩; simpa using this⟩
                have HLT : Hid (taken.length ≤ 24) := by show _ ≤ _; have := HUN.out; omega
                have hbs : (w1.heap.size + 1) + 1 ≤ ((((wc.drewN q).setCell ⟨w1.heap.size, 0, none⟩ (.string s)).setCell ⟨w1.heap.size, 1, none⟩ (.slice A5 n5 c5)).alloc (.cells #[Value.int .i64 t, Value.int .i64 (Z : Int)] 49)).heap.size := by obtain ⟨fw, q1, q2⟩ := HS5.out.whole; have := q1.lt; simp at this; simp; omega
                go_wp2_with (at_builtin; (refine wpList_append_src rfl _ _ 27 rfl ((w1.heap.size + 1) + 1) 49 i0 (.agg #[.int .i64 0, .int .i64 0]) 2 16 Try.underlying27 hi hy0 hy1 hy2 rfl (by decide) (.slice uA uN uC) _ _ rfl HRW.out _ _ _ rfl HSC.out (one_blk _) (by have := HLT.out; simp only [maxLen]; omega) (by have := HLT.out; omega) hbs ?_); intro v' w7 hown' hgrow hor)
                have S6 := HS5.out.push ((Below.refl _ _).alloc (Nat.le_refl _) _) hgrow (t2 := taken ++ [⟨t, (Z : Int)⟩]) (by rw [bvals_append, List.length_append]; exact hown') hor
                go_roundw
                case rel => exact ⟨k + 1, l, taken ++ [⟨t, (Z : Int)⟩], _, _, rfl, by go_num, by omega, by have := HUN.out; rw [List.length_append, List.length_singleton]; omega, Lib.hid HAL.out.1, Lib.hid S6⟩
                case measure => simp [intOf]; omega
      | true =>
        have hn0 : 0 < uN := hbv rfl
        clear hbv
        obtain ⟨gg, cc, hrow, _, _⟩ := HS.out.row.form (by have := HUN.out; omega)
        injection hrow with e1 e2 e3
        clear e2
        subst e1 e3
        go_wp2_with fail
        refine (b10At_i HA1.out hn1 (by omega) (by omega) (by omega)).mono ?_
        rintro e w' ⟨x2, rfl, hx2, rfl⟩
        have hxl : x2 < uN := by omega
        obtain ⟨b, hb, hbm⟩ := at_lt HUN.out hxl
        have hbb := HI.out.mem hbm
        have hbp := HI.out.pos _ hbm
        obtain ⟨ba, bz⟩ := b
        simp only at hbb hbp
        have HREL : Hid (∀ W', Below wr.heap.size wr W' → Calls Try.prog 30 #[.agg #[.string s, .slice fA fN fC], .int .i64 ba, .int .i64 bz] W' fun e w' => MemR W' (⟨s, giveL fs ⟨ba, bz⟩⟩, 0) e w') := fun W' hW => by
          have h := implRel_all (a := ba) (z := bz) HI.out.memOk (HS.out.step hW).hold.rep (blk_wf (memF HI.out.memOk)) (WalkArith.wf_i64 (by omega)) (WalkArith.wf_i64 (by omega)) (by omega)
          have e := (HI.out.rel hb).1
          simp only at e
          rw [e] at h
          exact h
        have Q : Hid ((∀ W' : World, W'.ownsRow ((w1.heap.size + 1) + 1) 49 2 (.slice (some ⟨gg, 0, none⟩) uN uC) taken.length (bvals taken) → W'.cell? ⟨gg, x2 * 2, none⟩ = some (.int .i64 ba)) ∧ (∀ W' : World, W'.ownsRow ((w1.heap.size + 1) + 1) 49 2 (.slice (some ⟨gg, 0, none⟩) uN uC) taken.length (bvals taken) → W'.cell? ⟨gg, x2 * 2 + 1, none⟩ = some (.int .i64 bz))) := by
          refine ⟨fun W' h => ?_, fun W' h => ?_⟩
          · have := ((owns_at h (by have := HUN.out; omega)).2.1 x2 _ hb).1
            simpa using this
          · have := ((owns_at h (by have := HUN.out; omega)).2.1 x2 _ hb).2
            simpa using this
        have q0 := Q.out.1 _ HS.out.row
        have q1 := Q.out.2 _ HS.out.row
        go_upto_region 12 with fail
        go_cut [12, 13] from 35 to 139 (fun v12 v13 wx => ∃ (px : Nat) (A5 : Option Addr) (n5 c5 : Nat), v12 = .pointer (some ⟨px, 0, none⟩) ∧ v13 = .int .i64 0 ∧ Hid (Blk wx px 29 #[.string s, .slice A5 n5 c5]) ∧ Hid (FreS w wx w1.heap.size (w1.heap.size + 1) N s fs taken (.slice (some ⟨gg, 0, none⟩) uN uC) (.slice fA fN fC)) ∧ Hid (HeldM wx w1.heap.size (.slice (some ⟨gg, 0, none⟩) uN uC) (giveL fs ⟨ba, bz⟩) (.slice A5 n5 c5)) ∧ w1.heap.size < px)
        case first =>
          refine wp_region_held_drew (S := (fun w' => w'.cell? ⟨w1.heap.size, 0, none⟩ = some (.string s) ∧ w'.cell? ⟨w1.heap.size, 1, none⟩ = some (.slice fA fN fC) ∧ w'.cell? ⟨gg, x2 * 2, none⟩ = some (.int .i64 ba) ∧ w'.cell? ⟨gg, x2 * 2 + 1, none⟩ = some (.int .i64 bz))) (by kernel_rfl) ⟨HS.out.box.cell 0, HS.out.box.cell 1, Q.out.1 _ HS.out.row, Q.out.2 _ HS.out.row⟩ (fun hHeld => ?_)
          refine wpAnyH_take (i := 0) (oi := ?o0_134) (v := ?v0_134) ?h0_134 (by kernel_rfl) (by kernel_rfl) (by kernel_rfl) ?q0_134 (Or.inl ⟨?z0_134, ?y0_134⟩) (by assumption) ?r0_134
          case h0_134 =>
            simp only [List.getElem?_toArray, List.getElem?_cons_succ, List.getElem?_cons_zero]
            rfl
          case q0_134 => exact fun _ _ _ h => h
          case z0_134 => rfl
          case y0_134 =>
            intro w hSw
            try dsimp only at hSw
            go_simp
            try with_reducible rfl
          try simp only [Act.put, List.setIfInBounds_toArray, List.set_cons_zero, List.set_cons_succ]
          refine wpAnyH_take (i := 1) (oi := ?o1_135) (v := ?v1_135) ?h1_135 (by kernel_rfl) (by kernel_rfl) (by kernel_rfl) ?q1_135 (Or.inl ⟨?z1_135, ?y1_135⟩) (by assumption) ?r1_135
          case h1_135 =>
            simp only [List.getElem?_toArray, List.getElem?_cons_succ, List.getElem?_cons_zero]
            rfl
          case q1_135 => exact fun _ _ _ h => h
          case z1_135 => rfl
          case y1_135 =>
            intro w hSw
            try dsimp only at hSw
            go_simp
            try with_reducible rfl
          try simp only [Act.put, List.setIfInBounds_toArray, List.set_cons_zero, List.set_cons_succ]
          refine wpAnyH_take (i := 2) (oi := ?o2_136) (v := ?v2_136) ?h2_136 (by kernel_rfl) (by kernel_rfl) (by kernel_rfl) ?q2_136 (Or.inl ⟨?z2_136, ?y2_136⟩) (by assumption) ?r2_136
          case h2_136 =>
            simp only [List.getElem?_toArray, List.getElem?_cons_succ, List.getElem?_cons_zero]
            rfl
          case q2_136 => exact fun _ _ _ h => h
          case z2_136 => rfl
          case y2_136 =>
            intro w hSw
            try dsimp only at hSw
            go_simp
            try with_reducible rfl
          try simp only [Act.put, List.setIfInBounds_toArray, List.set_cons_zero, List.set_cons_succ]
          refine wpAnyH_take (i := 3) (oi := ?o3_137) (v := ?v3_137) ?h3_137 (by kernel_rfl) (by kernel_rfl) (by kernel_rfl) ?q3_137 (Or.inl ⟨?z3_137, ?y3_137⟩) (by assumption) ?r3_137
          case h3_137 =>
            simp only [List.getElem?_toArray, List.getElem?_cons_succ, List.getElem?_cons_zero]
            rfl
          case q3_137 => exact fun _ _ _ h => h
          case z3_137 => rfl
          case y3_137 =>
            intro w hSw
            try dsimp only at hSw
            go_simp
            try with_reducible rfl
          try simp only [Act.put, List.setIfInBounds_toArray, List.set_cons_zero, List.set_cons_succ]
          refine wpAnyH_take (i := 4) (oi := ?o4_138) (v := ?v4_138) ?h4_138 (by kernel_rfl) (by kernel_rfl) (by kernel_rfl) ?q4_138 (Or.inl ⟨?z4_138, ?y4_138⟩) (by assumption) ?r4_138
          case h4_138 =>
            simp only [List.getElem?_toArray, List.getElem?_cons_succ, List.getElem?_cons_zero]
            rfl
          case q4_138 => exact fun _ _ _ h => h
          case z4_138 => rfl
          case y4_138 =>
            intro w hSw
            try dsimp only at hSw
            go_simp
            try with_reducible rfl
          try simp only [Act.put, List.setIfInBounds_toArray, List.set_cons_zero, List.set_cons_succ]
          refine wpAnyH_take (i := 5) (oi := ?o5_139) (v := ?v5_139) ?h5_139 (by kernel_rfl) (by kernel_rfl) (by kernel_rfl) ?q5_139 (Or.inl ⟨?z5_139, ?y5_139⟩) (by assumption) ?r5_139
          case h5_139 =>
            simp only [List.getElem?_toArray, List.getElem?_cons_succ, List.getElem?_cons_zero]
            rfl
          case q5_139 => exact fun _ _ _ h => h
          case z5_139 => rfl
          case y5_139 =>
            intro w hSw
            try dsimp only at hSw
            go_simp
            try with_reducible rfl
          try simp only [Act.put, List.setIfInBounds_toArray, List.set_cons_zero, List.set_cons_succ]
          refine wpAnyH_take (i := 6) (oi := ?o6_140) (v := ?v6_140) ?h6_140 (by kernel_rfl) (by kernel_rfl) (by kernel_rfl) ?q6_140 (Or.inl ⟨?z6_140, ?y6_140⟩) (by assumption) ?r6_140
          case h6_140 =>
            simp only [List.getElem?_toArray, List.getElem?_cons_succ, List.getElem?_cons_zero]
            rfl
          case q6_140 => exact fun _ _ _ h => h
          case z6_140 => rfl
          case y6_140 =>
            intro w hSw
            try dsimp only at hSw
            go_simp
            try with_reducible rfl
          try simp only [Act.put, List.setIfInBounds_toArray, List.set_cons_zero, List.set_cons_succ]
          refine wpAnyH_take (i := 7) (oi := ?o7_141) (v := ?v7_141) ?h7_141 (by kernel_rfl) (by kernel_rfl) (by kernel_rfl) ?q7_141 (Or.inl ⟨?z7_141, ?y7_141⟩) (by assumption) ?r7_141
          case h7_141 =>
            simp only [List.getElem?_toArray, List.getElem?_cons_succ, List.getElem?_cons_zero]
            rfl
          case q7_141 => exact fun _ _ _ h => h
          case z7_141 => rfl
          case y7_141 =>
            intro w hSw
            try dsimp only at hSw
            go_simp
            try with_reducible rfl
          try simp only [Act.put, List.setIfInBounds_toArray, List.set_cons_zero, List.set_cons_succ]
          refine wpAnyH_take (i := 8) (oi := ?o8_142) (v := ?v8_142) ?h8_142 (by kernel_rfl) (by kernel_rfl) (by kernel_rfl) ?q8_142 (Or.inl ⟨?z8_142, ?y8_142⟩) (by assumption) ?r8_142
          case h8_142 =>
            simp only [List.getElem?_toArray, List.getElem?_cons_succ, List.getElem?_cons_zero]
            rfl
          case q8_142 => exact fun _ _ _ h => h
          case z8_142 => rfl
          case y8_142 =>
            intro w hSw
            try dsimp only at hSw
            go_simp
            try with_reducible rfl
          try simp only [Act.put, List.setIfInBounds_toArray, List.set_cons_zero, List.set_cons_succ]
          refine wpAnyH_take (i := 9) (oi := ?o9_143) (v := ?v9_143) ?h9_143 (by kernel_rfl) (by kernel_rfl) (by kernel_rfl) ?q9_143 (Or.inl ⟨?z9_143, ?y9_143⟩) (by assumption) ?r9_143
          case h9_143 =>
            simp only [List.getElem?_toArray, List.getElem?_cons_succ, List.getElem?_cons_zero]
            rfl
          case q9_143 => exact fun _ _ _ h => h
          case z9_143 => rfl
          case y9_143 =>
            intro w hSw
            try dsimp only at hSw
            go_simp
            try with_reducible rfl
          try simp only [Act.put, List.setIfInBounds_toArray, List.set_cons_zero, List.set_cons_succ]
          refine wpAnyH_take (i := 10) (oi := ?o10_144) (v := ?v10_144) ?h10_144 (by kernel_rfl) (by kernel_rfl) (by kernel_rfl) ?q10_144 (Or.inl ⟨?z10_144, ?y10_144⟩) (by assumption) ?r10_144
          case h10_144 =>
            simp only [List.getElem?_toArray, List.getElem?_cons_succ, List.getElem?_cons_zero]
            rfl
          case q10_144 => exact fun _ _ _ h => h
          case z10_144 => rfl
          case y10_144 =>
            intro w hSw
            try dsimp only at hSw
            go_simp
            try with_reducible rfl
          try simp only [Act.put, List.setIfInBounds_toArray, List.set_cons_zero, List.set_cons_succ]
          refine wpAnyH_ready (rs := [11, 15]) (by kernel_rfl) (by simp) ?_
          refine AllReadyH.cons (o := ?o11_145) ?h11_145 (fun K hK => ?k11_145) (AllReadyH.cons (o := ?o15_145) ?h15_145 (fun K hK => ?k15_145) AllReadyH.nil)
          case h11_145 =>
            simp only [List.getElem?_toArray, List.getElem?_cons_succ, List.getElem?_cons_zero]
            rfl
          case h15_145 =>
            simp only [List.getElem?_toArray, List.getElem?_cons_succ, List.getElem?_cons_zero]
            rfl
          case k11_145 =>
            go_simp
            go_at_call 30
            refine (HREL.out _ ((Below.refl wr.heap.size wr).drew)).mono ?_
            rintro e wq ⟨us, rfl, hl, hbq⟩
            obtain ⟨A5, n5, c5, hus⟩ := mem_form hl
            subst hus
            obtain ⟨_, hL5⟩ := mem_lv hl
            have hB5 : Below wr.heap.size wr wq := ((Below.refl wr.heap.size wr).drew).trans (hbq.mono ((Below.refl wr.heap.size wr).drew).size)
            have SQ := HS.out.step hB5
            try go_wp2_with fail
            refine hK.out _ _ (by first | exact ⟨SQ.box.cell 0, SQ.box.cell 1, Q.out.1 _ SQ.row, Q.out.2 _ SQ.row⟩ | go_keep) (fun hHeld145 => ?_)
            clear hK K
            try simp only [Act.put, List.setIfInBounds_toArray, List.set_cons_zero, List.set_cons_succ]
            refine wpAnyH_take (i := 12) (oi := ?o12_146) (v := ?v12_146) ?h12_146 (by kernel_rfl) (by kernel_rfl) (by kernel_rfl) ?q12_146 (Or.inl ⟨?z12_146, ?y12_146⟩) (by assumption) ?r12_146
            case h12_146 =>
              simp only [List.getElem?_toArray, List.getElem?_cons_succ, List.getElem?_cons_zero]
              rfl
            case q12_146 => exact fun _ _ _ h => h
            case z12_146 => rfl
            case y12_146 =>
              intro w hSw
              try dsimp only at hSw
              go_simp
              try with_reducible rfl
            try simp only [Act.put, List.setIfInBounds_toArray, List.set_cons_zero, List.set_cons_succ]
            refine wpAnyH_take (i := 13) (oi := ?o13_147) (v := ?v13_147) ?h13_147 (by kernel_rfl) (by kernel_rfl) (by kernel_rfl) ?q13_147 (Or.inl ⟨?z13_147, ?y13_147⟩) (by assumption) ?r13_147
            case h13_147 =>
              simp only [List.getElem?_toArray, List.getElem?_cons_succ, List.getElem?_cons_zero]
              rfl
            case q13_147 => exact fun _ _ _ h => h
            case z13_147 => rfl
            case y13_147 =>
              intro w hSw
              try dsimp only at hSw
              go_simp
              try with_reducible rfl
            try simp only [Act.put, List.setIfInBounds_toArray, List.set_cons_zero, List.set_cons_succ]
            refine wpAnyH_take (i := 14) (oi := ?o14_148) (v := ?v14_148) ?h14_148 (by kernel_rfl) (by kernel_rfl) (by kernel_rfl) ?q14_148 (Or.inl ⟨?z14_148, ?y14_148⟩) (by assumption) ?r14_148
            case h14_148 =>
              simp only [List.getElem?_toArray, List.getElem?_cons_succ, List.getElem?_cons_zero]
              rfl
            case q14_148 => exact fun _ _ _ h => h
            case z14_148 => rfl
            case y14_148 =>
              intro w hSw
              try dsimp only at hSw
              go_simp
              try with_reducible rfl
            try simp only [Act.put, List.setIfInBounds_toArray, List.set_cons_zero, List.set_cons_succ]
            refine wpAnyH_ready (rs := [15]) (by kernel_rfl) (by simp) ?_
            refine AllReadyH.cons (o := ?o15_149) ?h15_149 (fun K hK => ?k15_149) AllReadyH.nil
            case h15_149 =>
              simp only [List.getElem?_toArray, List.getElem?_cons_succ, List.getElem?_cons_zero]
              rfl
            go_simp
            refine hK.out _ _ (by first | exact ⟨(SQ.step ((Below.refl _ _).alloc (Nat.le_refl _) (.cells #[.string ⟨#[]⟩, .slice none 0 0] 29))).box.cell 0, (SQ.step ((Below.refl _ _).alloc (Nat.le_refl _) (.cells #[.string ⟨#[]⟩, .slice none 0 0] 29))).box.cell 1, Q.out.1 _ (SQ.step ((Below.refl _ _).alloc (Nat.le_refl _) (.cells #[.string ⟨#[]⟩, .slice none 0 0] 29))).row, Q.out.2 _ (SQ.step ((Below.refl _ _).alloc (Nat.le_refl _) (.cells #[.string ⟨#[]⟩, .slice none 0 0] 29))).row⟩ | go_keep) (fun hHeld149 => ?_)
            clear hK K
            try simp only [Act.put, List.setIfInBounds_toArray, List.set_cons_zero, List.set_cons_succ]
            refine wpAnyH_ready (rs := [16]) (by kernel_rfl) (by simp) ?_
            refine AllReadyH.cons (o := ?o16_150) ?h16_150 (fun K hK => ?k16_150) AllReadyH.nil
            case h16_150 =>
              simp only [List.getElem?_toArray, List.getElem?_cons_succ, List.getElem?_cons_zero]
              rfl
            go_simp
            refine hK.out _ _ (by first | exact go_no | go_keep) (fun hHeld150 => ?_)
            clear hK K
            try simp only [Act.put, List.setIfInBounds_toArray, List.set_cons_zero, List.set_cons_succ]
            refine wpAnyH_take (i := 17) (oi := ?o17_151) (v := ?v17_151) ?h17_151 (by kernel_rfl) (by kernel_rfl) (by kernel_rfl) ?q17_151 (Or.inl ⟨?z17_151, ?y17_151⟩) (by assumption) ?r17_151
            case h17_151 =>
              simp only [List.getElem?_toArray, List.getElem?_cons_succ, List.getElem?_cons_zero]
              rfl
            case q17_151 => exact fun _ _ _ h => h
            case z17_151 => rfl
            case y17_151 =>
              intro w hSw
              try dsimp only at hSw
              go_simp
              try with_reducible rfl
            try simp only [Act.put, List.setIfInBounds_toArray, List.set_cons_zero, List.set_cons_succ]
            refine wpAnyH_done (by kernel_rfl) ?_ _
            go_wp2_with fail
            go_meet
            have hF := HS.out.step (hB5.alloc hB5.size (.cells #[.string s, .slice A5 n5 c5] 29))
            have hH : HeldM (wq.alloc (.cells #[.string s, .slice A5 n5 c5] 29)) w1.heap.size (.slice (some ⟨gg, 0, none⟩) uN uC) (giveL fs ⟨ba, bz⟩) (.slice A5 n5 c5) := (held_new hL5 HS.out.box.lt (fun g e => (HS.out.row.lt _ e).2)).step ((Below.refl _ _).alloc (Nat.le_refl _) _)
            exact ⟨wq.heap.size, A5, n5, c5, rfl, rfl, Lib.hid (Blk.new wq _ _), Lib.hid hF, Lib.hid hH, by have := SQ.box.lt; omega⟩
          case k15_145 =>
            go_simp
            refine hK.out _ _ (by first | exact ⟨(HS.out.step (((Below.refl wr.heap.size wr).alloc (Nat.le_refl _) (.cells #[.string ⟨#[]⟩, .slice none 0 0] 29)).drew)).box.cell 0, (HS.out.step (((Below.refl wr.heap.size wr).alloc (Nat.le_refl _) (.cells #[.string ⟨#[]⟩, .slice none 0 0] 29)).drew)).box.cell 1, Q.out.1 _ (HS.out.step (((Below.refl wr.heap.size wr).alloc (Nat.le_refl _) (.cells #[.string ⟨#[]⟩, .slice none 0 0] 29)).drew)).row, Q.out.2 _ (HS.out.step (((Below.refl wr.heap.size wr).alloc (Nat.le_refl _) (.cells #[.string ⟨#[]⟩, .slice none 0 0] 29)).drew)).row⟩ | go_keep) (fun hHeld145 => ?_)
            clear hK K
            try simp only [Act.put, List.setIfInBounds_toArray, List.set_cons_zero, List.set_cons_succ]
            refine wpAnyH_ready (rs := [11]) (by kernel_rfl) (by simp) ?_
            refine AllReadyH.cons (o := ?o11_152) ?h11_152 (fun K hK => ?k11_152) AllReadyH.nil
            case h11_152 =>
              simp only [List.getElem?_toArray, List.getElem?_cons_succ, List.getElem?_cons_zero]
              rfl
            go_simp
            go_at_call 30
            refine (HREL.out _ (((Below.refl wr.heap.size wr).alloc (Nat.le_refl _) (.cells #[.string ⟨#[]⟩, .slice none 0 0] 29)).drew)).mono ?_
            rintro e wq ⟨us, rfl, hl, hbq⟩
            obtain ⟨A5, n5, c5, hus⟩ := mem_form hl
            subst hus
            obtain ⟨_, hL5⟩ := mem_lv hl
            have hB5 : Below wr.heap.size wr wq := (((Below.refl wr.heap.size wr).alloc (Nat.le_refl _) (.cells #[.string ⟨#[]⟩, .slice none 0 0] 29)).drew).trans (hbq.mono (((Below.refl wr.heap.size wr).alloc (Nat.le_refl _) (.cells #[.string ⟨#[]⟩, .slice none 0 0] 29)).drew).size)
            have SQ := HS.out.step hB5
            have bX : Blk wq wr.heap.size 29 #[.string ⟨#[]⟩, .slice none 0 0] := (Blk.new wr 29 #[.string ⟨#[]⟩, .slice none 0 0]).drew.step hbq
            have x0 : wq.cell? ⟨wr.heap.size, 0, none⟩ = some (.string ⟨#[]⟩) := bX.cell 0
            have x1 : wq.cell? ⟨wr.heap.size, 1, none⟩ = some (.slice none 0 0) := bX.cell 1
            have g0 := bX.frozen 0
            have g1 := bX.frozen 1
            have hB6 : Below wr.heap.size wr ((wq.setCell ⟨wr.heap.size, 0, none⟩ (.string s)).setCell ⟨wr.heap.size, 1, none⟩ (.slice A5 n5 c5)) := (hB5.setCell (p := ⟨wr.heap.size, 0, none⟩) (Nat.le_refl _) _).setCell (p := ⟨wr.heap.size, 1, none⟩) (Nat.le_refl _) _
            have S6 := HS.out.step hB6
            try go_wp2_with fail
            refine hK.out _ _ (by first | exact ⟨SQ.box.cell 0, SQ.box.cell 1, Q.out.1 _ SQ.row, Q.out.2 _ SQ.row⟩ | go_keep) (fun hHeld152 => ?_)
            clear hK K
            try simp only [Act.put, List.setIfInBounds_toArray, List.set_cons_zero, List.set_cons_succ]
            refine wpAnyH_take (i := 12) (oi := ?o12_153) (v := ?v12_153) ?h12_153 (by kernel_rfl) (by kernel_rfl) (by kernel_rfl) ?q12_153 (Or.inl ⟨?z12_153, ?y12_153⟩) (by assumption) ?r12_153
            case h12_153 =>
              simp only [List.getElem?_toArray, List.getElem?_cons_succ, List.getElem?_cons_zero]
              rfl
            case q12_153 => exact fun _ _ _ h => h
            case z12_153 => rfl
            case y12_153 =>
              intro w hSw
              try dsimp only at hSw
              go_simp
              try with_reducible rfl
            try simp only [Act.put, List.setIfInBounds_toArray, List.set_cons_zero, List.set_cons_succ]
            refine wpAnyH_take (i := 13) (oi := ?o13_154) (v := ?v13_154) ?h13_154 (by kernel_rfl) (by kernel_rfl) (by kernel_rfl) ?q13_154 (Or.inl ⟨?z13_154, ?y13_154⟩) (by assumption) ?r13_154
            case h13_154 =>
              simp only [List.getElem?_toArray, List.getElem?_cons_succ, List.getElem?_cons_zero]
              rfl
            case q13_154 => exact fun _ _ _ h => h
            case z13_154 => rfl
            case y13_154 =>
              intro w hSw
              try dsimp only at hSw
              go_simp
              try with_reducible rfl
            try simp only [Act.put, List.setIfInBounds_toArray, List.set_cons_zero, List.set_cons_succ]
            refine wpAnyH_take (i := 14) (oi := ?o14_155) (v := ?v14_155) ?h14_155 (by kernel_rfl) (by kernel_rfl) (by kernel_rfl) ?q14_155 (Or.inl ⟨?z14_155, ?y14_155⟩) (by assumption) ?r14_155
            case h14_155 =>
              simp only [List.getElem?_toArray, List.getElem?_cons_succ, List.getElem?_cons_zero]
              rfl
            case q14_155 => exact fun _ _ _ h => h
            case z14_155 => rfl
            case y14_155 =>
              intro w hSw
              try dsimp only at hSw
              go_simp
              try with_reducible rfl
            try simp only [Act.put, List.setIfInBounds_toArray, List.set_cons_zero, List.set_cons_succ]
            refine wpAnyH_ready (rs := [16]) (by kernel_rfl) (by simp) ?_
            refine AllReadyH.cons (o := ?o16_156) ?h16_156 (fun K hK => ?k16_156) AllReadyH.nil
            case h16_156 =>
              simp only [List.getElem?_toArray, List.getElem?_cons_succ, List.getElem?_cons_zero]
              rfl
            go_simp
            refine hK.out _ _ (by first | exact ⟨S6.box.cell 0, S6.box.cell 1, Q.out.1 _ S6.row, Q.out.2 _ S6.row⟩ | go_keep) (fun hHeld156 => ?_)
            clear hK K
            try simp only [Act.put, List.setIfInBounds_toArray, List.set_cons_zero, List.set_cons_succ]
            refine wpAnyH_take (i := 17) (oi := ?o17_157) (v := ?v17_157) ?h17_157 (by kernel_rfl) (by kernel_rfl) (by kernel_rfl) ?q17_157 (Or.inl ⟨?z17_157, ?y17_157⟩) (by assumption) ?r17_157
            case h17_157 =>
              simp only [List.getElem?_toArray, List.getElem?_cons_succ, List.getElem?_cons_zero]
              rfl
            case q17_157 => exact fun _ _ _ h => h
            case z17_157 => rfl
            case y17_157 =>
              intro w hSw
              try dsimp only at hSw
              go_simp
              try with_reducible rfl
            try simp only [Act.put, List.setIfInBounds_toArray, List.set_cons_zero, List.set_cons_succ]
            refine wpAnyH_done (by kernel_rfl) ?_ _
            go_wp2_with fail
            go_meet
            have hL6 := hL5.kept (Keep.setCell (Keep.setCell (Keep.refl wr.heap.size (wr.heap.size + 1) wq) (p := ⟨wr.heap.size, 0, none⟩) (Nat.le_refl _) (Nat.lt_succ_self _) (.string s)) (p := ⟨wr.heap.size, 1, none⟩) (Nat.le_refl _) (Nat.lt_succ_self _) (.slice A5 n5 c5)) (.inr (by simp))
            have hH : HeldM ((wq.setCell ⟨wr.heap.size, 0, none⟩ (.string s)).setCell ⟨wr.heap.size, 1, none⟩ (.slice A5 n5 c5)) w1.heap.size (.slice (some ⟨gg, 0, none⟩) uN uC) (giveL fs ⟨ba, bz⟩) (.slice A5 n5 c5) := held_new hL6 (by have := HS.out.box.lt; simp; omega) (fun g e => by have := (HS.out.row.lt _ e).2; simp; omega)
            exact ⟨wr.heap.size, A5, n5, c5, rfl, rfl, Lib.hid (by have := (bX.set_ 0 (.string s)).set_ 1 (.slice A5 n5 c5); simpa using this), Lib.hid S6, Lib.hid hH, by have := HS.out.box.lt; omega⟩
        case rest =>
          obtain ⟨px, A5, n5, c5, rfl, rfl, HBX, HS2, HH2, hpx⟩ := hcut
          have x0 : wc.cell? ⟨px, 0, none⟩ = some (.string s) := HBX.out.cell 0
          have x1 : wc.cell? ⟨px, 1, none⟩ = some (.slice A5 n5 c5) := HBX.out.cell 1
          have g0 := HS2.out.box.frozen 0
          have g1 := HS2.out.box.frozen 1
          have y0 : wc.cell? ⟨w1.heap.size, 0, none⟩ = some (.string s) := HS2.out.box.cell 0
          have y1 : wc.cell? ⟨w1.heap.size, 1, none⟩ = some (.slice fA fN fC) := HS2.out.box.cell 1
          have S3 := HS2.out.setm HH2.out
          have HS3 := Lib.hid S3
          clear S3
          obtain ⟨wf, hwf⟩ : ∃ V, V = ((wc.setCell ⟨w1.heap.size, 0, none⟩ (.string s)).setCell ⟨w1.heap.size, 1, none⟩ (.slice A5 n5 c5)) := ⟨_, rfl⟩
          rw [← hwf] at HS3
          have HWF := Lib.hid hwf
          clear hwf
          have HATW := Lib.hid (owns_at HS3.out.row (by have := HUN.out; omega)).2.1
          have HGG := Lib.hid (owns_at HS3.out.row (by have := HUN.out; omega)).2.2
          have HB1 : Hid (Below wf.heap.size wf ((wf.alloc (.cells #[] 49)).drew)) := ((Below.refl _ _).alloc (Nat.le_refl _) _).drew
          have HO1 : Hid (((wf.alloc (.cells #[] 49)).drew).ownsRow wf.heap.size 49 2 (.slice (some ⟨wf.heap.size, 0, none⟩) 0 0) 0 []) := World.ownsRow_made (base := wf.heap.size) (e := 49) (size := 2) wf.drew #[] 0 (Nat.le_refl _) (by simp) (by simp)
          have HSP : Hid (SrcOk ((wf.alloc (.cells #[] 49)).drew) (.slice (some ⟨gg, 0, none⟩) x2 uC) 2 (taken.take x2).length (bvals (taken.take x2))) := src_blk (rep_pre (HATW.out.below HB1.out HGG.out) (Nat.lt_of_lt_of_le HGG.out HB1.out.size) HUN.out (by omega) (by omega))
          have HTK : Hid ((taken.take x2).length ≤ x2) := by show _ ≤ _; rw [List.length_take]; omega
          have HTD : Hid ((taken.drop (x2 + 1)).length ≤ 24) := by show _ ≤ _; rw [List.length_drop]; have := HUN.out; omega
          have hxc : x2 ≤ uC := by omega
          have hc0 : ¬ uC = 0 := by omega
          have hk1 : (x2 : Int) + 1 ≤ uN := by omega
          have hk0 : (0 : Int) ≤ (x2 : Int) + 1 := by omega
          have hkx : (x2 : Int) ≤ (x2 : Int) + 1 := by omega
          have hkw : IntKind.i64.wrap ((x2 : Int) + 1) = (x2 : Int) + 1 := IntWalk.i64_in _ (by omega)
          by_cases hcc : uC = x2 + 1
          case pos =>
            obtain rfl : uN = x2 + 1 := by omega
            subst hcc
            go_wp2_with fail
            rw [← HWF.out]
            refine wp_region_held_drew (S := (fun _ => True)) (by kernel_rfl) trivial (fun hHeld => ?_)
            refine wpAnyH_take (i := 1) (oi := ?o1_158) (v := ?v1_158) ?h1_158 (by kernel_rfl) (by kernel_rfl) (by kernel_rfl) ?q1_158 (Or.inl ⟨?z1_158, ?y1_158⟩) (by assumption) ?r1_158
            case h1_158 =>
              simp only [List.getElem?_toArray, List.getElem?_cons_succ, List.getElem?_cons_zero]
              rfl
            case q1_158 => exact fun _ _ _ h => h
            case z1_158 => rfl
            case y1_158 =>
              intro w hSw
              try dsimp only at hSw
              go_simp
              try with_reducible rfl
            try simp only [Act.put, List.setIfInBounds_toArray, List.set_cons_zero, List.set_cons_succ]
            refine wpAnyH_take (i := 2) (oi := ?o2_159) (v := ?v2_159) ?h2_159 (by kernel_rfl) (by kernel_rfl) (by kernel_rfl) ?q2_159 (Or.inl ⟨?z2_159, ?y2_159⟩) (by assumption) ?r2_159
            case h2_159 =>
              simp only [List.getElem?_toArray, List.getElem?_cons_succ, List.getElem?_cons_zero]
              rfl
            case q2_159 => exact fun _ _ _ h => h
            case z2_159 => rfl
            case y2_159 =>
              intro w hSw
              try dsimp only at hSw
              go_simp
              try with_reducible rfl
            try simp only [Act.put, List.setIfInBounds_toArray, List.set_cons_zero, List.set_cons_succ]
            refine wpAnyH_take (i := 3) (oi := ?o3_160) (v := ?v3_160) ?h3_160 (by kernel_rfl) (by kernel_rfl) (by kernel_rfl) ?q3_160 (Or.inl ⟨?z3_160, ?y3_160⟩) (by assumption) ?r3_160
            case h3_160 =>
              simp only [List.getElem?_toArray, List.getElem?_cons_succ, List.getElem?_cons_zero]
              rfl
            case q3_160 => exact fun _ _ _ h => h
            case z3_160 => rfl
            case y3_160 =>
              intro w hSw
              try dsimp only at hSw
              go_simp
              try with_reducible rfl
            try simp only [Act.put, List.setIfInBounds_toArray, List.set_cons_zero, List.set_cons_succ]
            refine wpAnyH_take (i := 5) (oi := ?o5_161) (v := ?v5_161) ?h5_161 (by kernel_rfl) (by kernel_rfl) (by kernel_rfl) ?q5_161 (Or.inl ⟨?z5_161, ?y5_161⟩) (by assumption) ?r5_161
            case h5_161 =>
              simp only [List.getElem?_toArray, List.getElem?_cons_succ, List.getElem?_cons_zero]
              rfl
            case q5_161 => exact fun _ _ _ h => h
            case z5_161 => rfl
            case y5_161 =>
              intro w hSw
              try dsimp only at hSw
              go_simp
              try with_reducible rfl
            try simp only [Act.put, List.setIfInBounds_toArray, List.set_cons_zero, List.set_cons_succ]
            refine wpAnyH_take (i := 6) (oi := ?o6_162) (v := ?v6_162) ?h6_162 (by kernel_rfl) (by kernel_rfl) (by kernel_rfl) ?q6_162 (Or.inl ⟨?z6_162, ?y6_162⟩) (by assumption) ?r6_162
            case h6_162 =>
              simp only [List.getElem?_toArray, List.getElem?_cons_succ, List.getElem?_cons_zero]
              rfl
            case q6_162 => exact fun _ _ _ h => h
            case z6_162 => rfl
            case y6_162 =>
              intro w hSw
              try dsimp only at hSw
              go_simp
              try with_reducible rfl
            try simp only [Act.put, List.setIfInBounds_toArray, List.set_cons_zero, List.set_cons_succ]
            refine wpAnyH_take (i := 7) (oi := ?o7_163) (v := ?v7_163) ?h7_163 (by kernel_rfl) (by kernel_rfl) (by kernel_rfl) ?q7_163 (Or.inl ⟨?z7_163, ?y7_163⟩) (by assumption) ?r7_163
            case h7_163 =>
              simp only [List.getElem?_toArray, List.getElem?_cons_succ, List.getElem?_cons_zero]
              rfl
            case q7_163 => exact fun _ _ _ h => h
            case z7_163 => rfl
            case y7_163 =>
              intro w hSw
              try dsimp only at hSw
              go_simp
              try with_reducible rfl
            try simp only [Act.put, List.setIfInBounds_toArray, List.set_cons_zero, List.set_cons_succ]
            refine wpAnyH_take (i := 8) (oi := ?o8_164) (v := ?v8_164) ?h8_164 (by kernel_rfl) (by kernel_rfl) (by kernel_rfl) ?q8_164 (Or.inl ⟨?z8_164, ?y8_164⟩) (by assumption) ?r8_164
            case h8_164 =>
              simp only [List.getElem?_toArray, List.getElem?_cons_succ, List.getElem?_cons_zero]
              rfl
            case q8_164 => exact fun _ _ _ h => h
            case z8_164 => rfl
            case y8_164 =>
              intro w hSw
              try dsimp only at hSw
              go_simp
              try with_reducible rfl
            try simp only [Act.put, List.setIfInBounds_toArray, List.set_cons_zero, List.set_cons_succ]
            refine wpAnyH_ready (rs := [0]) (by kernel_rfl) (by simp) ?_
            refine AllReadyH.cons (o := ?o0_165) ?h0_165 (fun K hK => ?k0_165) AllReadyH.nil
            case h0_165 =>
              simp only [List.getElem?_toArray, List.getElem?_cons_succ, List.getElem?_cons_zero]
              rfl
            go_simp
            refine hK.out _ _ (by first | exact trivial | go_keep) (fun hHeld165 => ?_)
            clear hK K
            try simp only [Act.put, List.setIfInBounds_toArray, List.set_cons_zero, List.set_cons_succ]
            refine wpAnyH_ready (rs := [4]) (by kernel_rfl) (by simp) ?_
            refine AllReadyH.cons (o := ?o4_166) ?h4_166 (fun K hK => ?k4_166) AllReadyH.nil
            case h4_166 =>
              simp only [List.getElem?_toArray, List.getElem?_cons_succ, List.getElem?_cons_zero]
              rfl
            refine step_append_src (by rfl) _ _ 27 (by rfl) wf.heap.size 49 i0 (.agg #[.int .i64 0, .int .i64 0]) 2 16 Try.underlying27 hi hy0 hy1 hy2 rfl (by decide) (.slice (some ⟨wf.heap.size, 0, none⟩) 0 0) 0 [] (by rfl) HO1.out (.slice (some ⟨gg, 0, none⟩) x2 (x2 + 1)) (taken.take x2).length (bvals (taken.take x2)) (by rfl) HSP.out (one_blk _) (by have := HTK.out; simp only [maxLen]; omega) (by have := HTK.out; omega) HB1.out.size ?_
            intro v' w5 hown' hgrow _
            have hB5 := HB1.out.grown hgrow HB1.out.size (fun g hg => (HO1.out.lt g hg).1)
            obtain ⟨rA, rN, rC, rfl, _⟩ := (Own.of_own hown').form
            have hz5 := hB5.size
            have HSU : Hid (SrcOk w5 (.slice (some ⟨gg, 0, none⟩) 0 0) 2 (taken.drop (x2 + 1)).length (bvals (taken.drop (x2 + 1)))) := src_suffix (j := x2 + 1) (g := gg) (off := 0) (HATW.out.below hB5 HGG.out) (Nat.lt_of_lt_of_le HGG.out hB5.size) HUN.out (by omega) (by omega) (by first | omega | rfl) (by intro hj; first | exact absurd hj (by omega) | simp)
            refine hK.out _ _ (by first | exact trivial | go_keep) (fun hHeld166 => ?_)
            clear hK K
            try simp only [Act.put, List.setIfInBounds_toArray, List.set_cons_zero, List.set_cons_succ]
            refine wpAnyH_ready (rs := [9]) (by kernel_rfl) (by simp) ?_
            refine AllReadyH.cons (o := ?o9_167) ?h9_167 (fun K hK => ?k9_167) AllReadyH.nil
            case h9_167 =>
              simp only [List.getElem?_toArray, List.getElem?_cons_succ, List.getElem?_cons_zero]
              rfl
            refine step_append_src (by rfl) _ _ 27 (by rfl) wf.heap.size 49 i0 (.agg #[.int .i64 0, .int .i64 0]) 2 16 Try.underlying27 hi hy0 hy1 hy2 rfl (by decide) (.slice rA rN rC) (0 + (taken.take x2).length) ([] ++ bvals (taken.take x2)) (by rfl) hown' (.slice (some ⟨gg, 0, none⟩) 0 0) (taken.drop (x2 + 1)).length (bvals (taken.drop (x2 + 1))) (by rfl) HSU.out (one_blk _) (by have := HTK.out; have := HTD.out; simp only [maxLen]; omega) (by have := HTK.out; have := HTD.out; omega) hz5 ?_
            intro v2 w6 hown2 hgrow2 _
            have hB6 := hB5.grown hgrow2 hz5 (fun g hg => (hown'.lt g hg).1)
            refine hK.out _ _ (by first | exact trivial | go_keep) (fun hHeld167 => ?_)
            clear hK K
            try simp only [Act.put, List.setIfInBounds_toArray, List.set_cons_zero, List.set_cons_succ]
            refine wpAnyH_take (i := 10) (oi := ?o10_168) (v := ?v10_168) ?h10_168 (by kernel_rfl) (by kernel_rfl) (by kernel_rfl) ?q10_168 (Or.inl ⟨?z10_168, ?y10_168⟩) (by assumption) ?r10_168
            case h10_168 =>
              simp only [List.getElem?_toArray, List.getElem?_cons_succ, List.getElem?_cons_zero]
              rfl
            case q10_168 => exact fun _ _ _ h => h
            case z10_168 => rfl
            case y10_168 =>
              intro w hSw
              try dsimp only at hSw
              go_simp
              try with_reducible rfl
            try simp only [Act.put, List.setIfInBounds_toArray, List.set_cons_zero, List.set_cons_succ]
            refine wpAnyH_done (by kernel_rfl) ?_ _
            have S6 := HS3.out.anew hB6 (t2 := taken.take x2 ++ taken.drop (x2 + 1)) (tv' := v2) (by rw [bvals_append, List.length_append]; simpa using hown2)
            go_wp2_with fail
            go_roundw
            case rel => exact ⟨k + 1, giveL fs ⟨ba, bz⟩, taken.take x2 ++ taken.drop (x2 + 1), _, _, rfl, by go_num, by omega, by have := HTK.out; have := HTD.out; have := HUN.out; rw [List.length_append, List.length_take, List.length_drop]; omega, Lib.hid (HI.out.rel hb).2, Lib.hid S6⟩
            case measure => simp [intOf]; omega
          have hcd : ¬ uC - (x2 + 1) = 0 := by omega
          go_wp2_with fail
          rw [← HWF.out]
          refine wp_region_held_drew (S := (fun _ => True)) (by kernel_rfl) trivial (fun hHeld => ?_)
          refine wpAnyH_take (i := 1) (oi := ?o1_169) (v := ?v1_169) ?h1_169 (by kernel_rfl) (by kernel_rfl) (by kernel_rfl) ?q1_169 (Or.inl ⟨?z1_169, ?y1_169⟩) (by assumption) ?r1_169
          case h1_169 =>
            simp only [List.getElem?_toArray, List.getElem?_cons_succ, List.getElem?_cons_zero]
            rfl
          case q1_169 => exact fun _ _ _ h => h
          case z1_169 => rfl
          case y1_169 =>
            intro w hSw
            try dsimp only at hSw
            go_simp
            try with_reducible rfl
          try simp only [Act.put, List.setIfInBounds_toArray, List.set_cons_zero, List.set_cons_succ]
          refine wpAnyH_take (i := 2) (oi := ?o2_170) (v := ?v2_170) ?h2_170 (by kernel_rfl) (by kernel_rfl) (by kernel_rfl) ?q2_170 (Or.inl ⟨?z2_170, ?y2_170⟩) (by assumption) ?r2_170
          case h2_170 =>
            simp only [List.getElem?_toArray, List.getElem?_cons_succ, List.getElem?_cons_zero]
            rfl
          case q2_170 => exact fun _ _ _ h => h
          case z2_170 => rfl
          case y2_170 =>
            intro w hSw
            try dsimp only at hSw
            go_simp
            try with_reducible rfl
          try simp only [Act.put, List.setIfInBounds_toArray, List.set_cons_zero, List.set_cons_succ]
          refine wpAnyH_take (i := 3) (oi := ?o3_171) (v := ?v3_171) ?h3_171 (by kernel_rfl) (by kernel_rfl) (by kernel_rfl) ?q3_171 (Or.inl ⟨?z3_171, ?y3_171⟩) (by assumption) ?r3_171
          case h3_171 =>
            simp only [List.getElem?_toArray, List.getElem?_cons_succ, List.getElem?_cons_zero]
            rfl
          case q3_171 => exact fun _ _ _ h => h
          case z3_171 => rfl
          case y3_171 =>
            intro w hSw
            try dsimp only at hSw
            go_simp
            try with_reducible rfl
          try simp only [Act.put, List.setIfInBounds_toArray, List.set_cons_zero, List.set_cons_succ]
          refine wpAnyH_take (i := 5) (oi := ?o5_172) (v := ?v5_172) ?h5_172 (by kernel_rfl) (by kernel_rfl) (by kernel_rfl) ?q5_172 (Or.inl ⟨?z5_172, ?y5_172⟩) (by assumption) ?r5_172
          case h5_172 =>
            simp only [List.getElem?_toArray, List.getElem?_cons_succ, List.getElem?_cons_zero]
            rfl
          case q5_172 => exact fun _ _ _ h => h
          case z5_172 => rfl
          case y5_172 =>
            intro w hSw
            try dsimp only at hSw
            go_simp
            try with_reducible rfl
          try simp only [Act.put, List.setIfInBounds_toArray, List.set_cons_zero, List.set_cons_succ]
          refine wpAnyH_take (i := 6) (oi := ?o6_173) (v := ?v6_173) ?h6_173 (by kernel_rfl) (by kernel_rfl) (by kernel_rfl) ?q6_173 (Or.inl ⟨?z6_173, ?y6_173⟩) (by assumption) ?r6_173
          case h6_173 =>
            simp only [List.getElem?_toArray, List.getElem?_cons_succ, List.getElem?_cons_zero]
            rfl
          case q6_173 => exact fun _ _ _ h => h
          case z6_173 => rfl
          case y6_173 =>
            intro w hSw
            try dsimp only at hSw
            go_simp
            try with_reducible rfl
          try simp only [Act.put, List.setIfInBounds_toArray, List.set_cons_zero, List.set_cons_succ]
          refine wpAnyH_take (i := 7) (oi := ?o7_174) (v := ?v7_174) ?h7_174 (by kernel_rfl) (by kernel_rfl) (by kernel_rfl) ?q7_174 (Or.inl ⟨?z7_174, ?y7_174⟩) (by assumption) ?r7_174
          case h7_174 =>
            simp only [List.getElem?_toArray, List.getElem?_cons_succ, List.getElem?_cons_zero]
            rfl
          case q7_174 => exact fun _ _ _ h => h
          case z7_174 => rfl
          case y7_174 =>
            intro w hSw
            try dsimp only at hSw
            go_simp
            try with_reducible rfl
          try simp only [Act.put, List.setIfInBounds_toArray, List.set_cons_zero, List.set_cons_succ]
          refine wpAnyH_take (i := 8) (oi := ?o8_175) (v := ?v8_175) ?h8_175 (by kernel_rfl) (by kernel_rfl) (by kernel_rfl) ?q8_175 (Or.inl ⟨?z8_175, ?y8_175⟩) (by assumption) ?r8_175
          case h8_175 =>
            simp only [List.getElem?_toArray, List.getElem?_cons_succ, List.getElem?_cons_zero]
            rfl
          case q8_175 => exact fun _ _ _ h => h
          case z8_175 => rfl
          case y8_175 =>
            intro w hSw
            try dsimp only at hSw
            go_simp
            try with_reducible rfl
          try simp only [Act.put, List.setIfInBounds_toArray, List.set_cons_zero, List.set_cons_succ]
          refine wpAnyH_ready (rs := [0]) (by kernel_rfl) (by simp) ?_
          refine AllReadyH.cons (o := ?o0_176) ?h0_176 (fun K hK => ?k0_176) AllReadyH.nil
          case h0_176 =>
            simp only [List.getElem?_toArray, List.getElem?_cons_succ, List.getElem?_cons_zero]
            rfl
          go_simp
          refine hK.out _ _ (by first | exact trivial | go_keep) (fun hHeld176 => ?_)
          clear hK K
          try simp only [Act.put, List.setIfInBounds_toArray, List.set_cons_zero, List.set_cons_succ]
          refine wpAnyH_ready (rs := [4]) (by kernel_rfl) (by simp) ?_
          refine AllReadyH.cons (o := ?o4_177) ?h4_177 (fun K hK => ?k4_177) AllReadyH.nil
          case h4_177 =>
            simp only [List.getElem?_toArray, List.getElem?_cons_succ, List.getElem?_cons_zero]
            rfl
          refine step_append_src (by rfl) _ _ 27 (by rfl) wf.heap.size 49 i0 (.agg #[.int .i64 0, .int .i64 0]) 2 16 Try.underlying27 hi hy0 hy1 hy2 rfl (by decide) (.slice (some ⟨wf.heap.size, 0, none⟩) 0 0) 0 [] (by rfl) HO1.out (.slice (some ⟨gg, 0, none⟩) x2 uC) (taken.take x2).length (bvals (taken.take x2)) (by rfl) HSP.out (one_blk _) (by have := HTK.out; simp only [maxLen]; omega) (by have := HTK.out; omega) HB1.out.size ?_
          intro v' w5 hown' hgrow _
          have hB5 := HB1.out.grown hgrow HB1.out.size (fun g hg => (HO1.out.lt g hg).1)
          obtain ⟨rA, rN, rC, rfl, _⟩ := (Own.of_own hown').form
          have hz5 := hB5.size
          have HSU : Hid (SrcOk w5 (.slice (some ⟨gg, (x2 + 1) * 2, none⟩) (uN - (x2 + 1)) (uC - (x2 + 1))) 2 (taken.drop (x2 + 1)).length (bvals (taken.drop (x2 + 1)))) := src_suffix (j := x2 + 1) (g := gg) (off := 0) (HATW.out.below hB5 HGG.out) (Nat.lt_of_lt_of_le HGG.out hB5.size) HUN.out (by omega) (by omega) (by first | omega | rfl) (by intro hj; first | exact absurd hj (by omega) | simp)
          refine hK.out _ _ (by first | exact trivial | go_keep) (fun hHeld177 => ?_)
          clear hK K
          try simp only [Act.put, List.setIfInBounds_toArray, List.set_cons_zero, List.set_cons_succ]
          refine wpAnyH_ready (rs := [9]) (by kernel_rfl) (by simp) ?_
          refine AllReadyH.cons (o := ?o9_178) ?h9_178 (fun K hK => ?k9_178) AllReadyH.nil
          case h9_178 =>
            simp only [List.getElem?_toArray, List.getElem?_cons_succ, List.getElem?_cons_zero]
            rfl
          refine step_append_src (by rfl) _ _ 27 (by rfl) wf.heap.size 49 i0 (.agg #[.int .i64 0, .int .i64 0]) 2 16 Try.underlying27 hi hy0 hy1 hy2 rfl (by decide) (.slice rA rN rC) (0 + (taken.take x2).length) ([] ++ bvals (taken.take x2)) (by rfl) hown' (.slice (some ⟨gg, (x2 + 1) * 2, none⟩) (uN - (x2 + 1)) (uC - (x2 + 1))) (taken.drop (x2 + 1)).length (bvals (taken.drop (x2 + 1))) (by rfl) HSU.out (one_blk _) (by have := HTK.out; have := HTD.out; simp only [maxLen]; omega) (by have := HTK.out; have := HTD.out; omega) hz5 ?_
          intro v2 w6 hown2 hgrow2 _
          have hB6 := hB5.grown hgrow2 hz5 (fun g hg => (hown'.lt g hg).1)
          refine hK.out _ _ (by first | exact trivial | go_keep) (fun hHeld178 => ?_)
          clear hK K
          try simp only [Act.put, List.setIfInBounds_toArray, List.set_cons_zero, List.set_cons_succ]
          refine wpAnyH_take (i := 10) (oi := ?o10_179) (v := ?v10_179) ?h10_179 (by kernel_rfl) (by kernel_rfl) (by kernel_rfl) ?q10_179 (Or.inl ⟨?z10_179, ?y10_179⟩) (by assumption) ?r10_179
          case h10_179 =>
            simp only [List.getElem?_toArray, List.getElem?_cons_succ, List.getElem?_cons_zero]
            rfl
          case q10_179 => exact fun _ _ _ h => h
          case z10_179 => rfl
          case y10_179 =>
            intro w hSw
            try dsimp only at hSw
            go_simp
            try with_reducible rfl
          try simp only [Act.put, List.setIfInBounds_toArray, List.set_cons_zero, List.set_cons_succ]
          refine wpAnyH_done (by kernel_rfl) ?_ _
          have S6 := HS3.out.anew hB6 (t2 := taken.take x2 ++ taken.drop (x2 + 1)) (tv' := v2) (by rw [bvals_append, List.length_append]; simpa using hown2)
          go_wp2_with fail
          go_roundw
          case rel => exact ⟨k + 1, giveL fs ⟨ba, bz⟩, taken.take x2 ++ taken.drop (x2 + 1), _, _, rfl, by go_num, by omega, by have := HTK.out; have := HTD.out; have := HUN.out; rw [List.length_append, List.length_take, List.length_drop]; omega, Lib.hid (HI.out.rel hb).2, Lib.hid S6⟩
          case measure => simp [intOf]; omega
end Go.Proofs.Ytlppngpafjfjeaa

