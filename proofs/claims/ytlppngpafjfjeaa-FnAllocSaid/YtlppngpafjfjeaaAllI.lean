/-
  (*store).alloc (by program: gen_alloc.py).
-/
import Derived.Test.YtlppngpafjfjeaaAllZ
import Derived.BigQuiet
namespace Go.Proofs.Ytlppngpafjfjeaa
open Go.RowKit
set_option linter.unusedVariables false
set_option linter.unusedSimpArgs false
set_option linter.unnecessarySimpa false
set_option maxRecDepth 16000

/-- the row of pieces, the box of the block -/
structure RS (w W : World) (q : Nat) (u : Value) (acc : List Block) (xa xz : Int) : Prop where
  own : W.ownsRow (q + 1) 49 2 u acc.length (bvals acc)
  box : Blk W q 49 #[.int .i64 xa, .int .i64 xz]
  below : Below w.heap.size w W
  size : q + 1 ≤ W.heap.size
def AllQ (w : World) (p : Nat) (bv : Value) (fs : List Block) (z : Int) (a : Nat) (e : Ending) (w' : World) : Prop :=
  (allocR fs z a = none ∧ e = .returned (.tuple #[.int .i64 0, .int .i64 4]) ∧ Below w.heap.size w w') ∨
  (∃ l t fv', allocR fs z a = some (l, t) ∧ e = .returned (.tuple #[.int .i64 t, .int .i64 0]) ∧ Blk w' p 60 #[bv, fv'] ∧ Lv w' w.heap.size w'.heap.size (blocks l) fv' ∧ Keep p (p + 1) w w')
set_option maxHeartbeats 25600000 in
theorem alloc_any {p n c g off : Nat} {bv : Value} {fs : List Block} {s : ByteArray} {z : Int} {a : Nat} {w : World} (bl : Blk w p 60 #[bv, .slice (some ⟨g, off, none⟩) n c]) (hnc : n ≤ c) (hg : g < w.heap.size) (hn : n = fs.length) (hat : AtB w g off fs) (hM : MemF s fs)
    (hz : 0 < z) (hzz : (Lit.int .i64 z).wf = true) (ha : 1 ≤ a) (ha8 : a ≤ 8) :
    Calls Try.prog 50 #[.pointer (some ⟨p, 0, none⟩), .int .i64 z, .int .i64 a] w fun e w' => AllQ w p bv fs z a e w' := by
  obtain ⟨i0, hi, hy0, hy1, hy2⟩ := info_parts block_info
  have hp := bl.lt
  have hn4 : n ≤ 4096 := by rw [hn]; exact hM.len
  have hs4 := hM.size
  have HN := Lib.hid hn
  have HAT := Lib.hid hat
  have HM := Lib.hid hM
  have HBL := Lib.hid bl
  have hzb := wf64 hzz
  have hz0 : (z == 0) = false := by simp; omega
  have p1 := bl.cell 1
  clear hn hat hM bl hzz
  go_enter Try.func50, Try.ntmps50
  go_wp2_with fail
  go_loopw [21] (fun i wr => ∃ k : Nat, k ≤ n ∧ i = .int .i64 k ∧ Hid (∀ (j : Nat) (x : Block), j < k → fs[j]? = some x → fitsB z a x = false) ∧ Below w.heap.size w wr) (fun i _ => n - (intOf i).toNat)
  case atStart => exact ⟨0, Nat.zero_le _, rfl, Lib.hid fun j x h => absurd h (by omega), Below.refl _ _⟩
  case round =>
    obtain ⟨k, hk, rfl, HP, hbr⟩ := hrel
    by_cases hlt : k < n
    case neg =>
      have HF : Hid (allocR fs z a = none) := allocR_none fun j x hx => HP.out j x (by have := (List.getElem?_eq_some_iff.1 hx).1; have := HN.out; omega) hx
      have hkn : k = n := by omega
      subst hkn
      go_wp2_with fail
      go_ret2
      exact .inl ⟨HF.out, rfl, hbr⟩
    obtain ⟨x, hx, hmem⟩ := at_lt HN.out hlt
    have hxb := HM.out.all_ x hmem
    obtain ⟨xa, xz⟩ := x
    simp only at hxb
    obtain ⟨xn, hxn, hpl⟩ := plc_eq (a := a) (b := ⟨xa, xz⟩) (by show (0 : Int) ≤ xa; omega)
    replace hxn : xa = (xn : Int) := hxn
    subst hxn
    have HX := Lib.hid hx
    have hu1 := up_ge xn ha
    have hu2 := up_le xn ha
    have hali := implUp_any xn a
    obtain ⟨t, ht⟩ : ∃ t, t = up xn a := ⟨_, rfl⟩
    rw [← ht] at hu1 hu2 hpl hali
    have HU := Lib.hid hali
    have HPL := Lib.hid hpl
    clear hx hmem ht hpl hali
    have q0 : wr.cell? ⟨g, off + k * 2, none⟩ = some (.int .i64 (xn : Int)) := ((HAT.out.below hbr hg) k _ HX.out).1
    have q1 : wr.cell? ⟨g, off + k * 2 + 1, none⟩ = some (.int .i64 xz) := ((HAT.out.below hbr hg) k _ HX.out).2
    have hszr := hbr.size
    obtain ⟨wa, hwa⟩ : ∃ V, V = wr.alloc (.cells #[.int .i64 (xn : Int), .int .i64 xz] 49) := ⟨_, rfl⟩
    have hba : Below w.heap.size w wa := by rw [hwa]; exact hbr.alloc hbr.size _
    have bb : Blk wa wr.heap.size 49 #[.int .i64 (xn : Int), .int .i64 xz] := by rw [hwa]; exact Blk.new wr _ _
    have hwz : wr.heap.size + 1 = wa.heap.size := by rw [hwa]; simp
    have HWA := Lib.hid hwa
    have HWZ := Lib.hid hwz
    clear hwa hwz
    go_wp2_with fail
    rw [← HWA.out]
    have c0 := bb.cell 0
    have c1 := bb.cell 1
    have x1 : IntKind.i64.wrap ((xn : Int) + xz) = xn + xz := IntWalk.i64_in _ (by omega)
    have x2 : IntKind.i64.wrap ((xn : Int) + xz - t) = xn + xz - t := IntWalk.i64_in _ (by omega)
    go_quiet (first | (go_at_call 68; exact Calls.quiet_of_same ((HU.out _ (by omega) ha ha8).mono fun e w' h => ⟨h.1, h.2.symm⟩)))
    obtain ⟨wb, hwb⟩ : ∃ V, V = wa.drewN nq := ⟨_, rfl⟩
    rw [← hwb]
    have hbb : Below w.heap.size w wb := by rw [hwb]; exact below_drewN hba _
    have bb2 : Blk wb wr.heap.size 49 #[.int .i64 (xn : Int), .int .i64 xz] := by rw [hwb]; exact bb.step (below_drewN (Below.refl _ _) _)
    have hwz : wr.heap.size + 1 = wb.heap.size := by rw [hwb]; have := HWZ.out; simpa using this
    have HWB := Lib.hid hwz
    clear hwb c0 c1 bb hba hwz HWA HWZ
    have c0 := bb2.cell 0
    have c1 := bb2.cell 1
    by_cases hf : z ≤ xn + xz - t
    case neg =>
      have HNO : Hid (fitsB z a ⟨xn, xz⟩ = false) := by
        show _ = _
        rw [fitsB_no, HPL.out]
        show xz < z ∨ z ≤ xz ∧ xz - z < (t : Int) - (xn : Int)
        omega
      have HQ : Hid (∀ (j : Nat) (x : Block), j < k + 1 → fs[j]? = some x → fitsB z a x = false) := fun j y hj hy => by
        rcases Nat.lt_succ_iff_lt_or_eq.1 hj with h | rfl
        · exact HP.out j y h hy
        · rw [HX.out] at hy; cases hy; exact HNO.out
      have hd : decide ((xn : Int) + xz - t < z) = true := decide_eq_true (by omega)
      go_wp2_with fail
      go_roundw
      case rel => exact ⟨k + 1, by omega, by go_num, HQ, hbb⟩
      case measure => simp [intOf]; omega
    have HAL : Hid (allocR fs z a = some (takeAt fs k ⟨xn, xz⟩ t z, (t : Int))) := by
      show _ = _
      have h1 : fitsB z a ⟨xn, xz⟩ = true := by
        rw [fitsB_iff, HPL.out]
        show z ≤ xz ∧ (t : Int) - (xn : Int) ≤ xz - z
        omega
      have h2 := allocR_at k HX.out h1 HP.out
      rw [HPL.out] at h2
      exact h2
    have hd : decide ((xn : Int) + xz - t < z) = false := decide_eq_false (by omega)
    have x3 : IntKind.i64.wrap ((t : Int) - xn) = t - xn := IntWalk.i64_in _ (by omega)
    have x4 : IntKind.i64.wrap ((t : Int) + z) = t + z := IntWalk.i64_in _ (by omega)
    have x5 : IntKind.i64.wrap ((xn : Int) + xz - (t + z)) = xn + xz - (t + z) := IntWalk.i64_in _ (by omega)
    have S0 : RS w (wb.alloc (.cells #[] 49)) wr.heap.size (.slice (some ⟨wb.heap.size, 0, none⟩) 0 0) [] xn xz :=
      ⟨by rw [HWB.out]; exact World.ownsRow_made wb #[] 0 (Nat.le_refl _) (by simp) (by simp [bvals]), bb2.alloc _, hbb.alloc hbb.size _, by have := HWB.out; simp; omega⟩
    have hsz0 : (wb.alloc (.cells #[] 49)).heap.size = wb.heap.size + 1 := by simp
    have HZ0 := Lib.hid hsz0
    have b0 : (wb.alloc (.cells #[] 49)).cell? ⟨wr.heap.size, 0, none⟩ = some (.int .i64 (xn : Int)) := S0.box.cell 0
    have b1 : (wb.alloc (.cells #[] 49)).cell? ⟨wr.heap.size, 1, none⟩ = some (.int .i64 xz) := S0.box.cell 1
    clear hsz0 bb2
    by_cases hA : (xn : Int) < t
    case pos =>
      by_cases hZ : (t : Int) + z < xn + xz
      case pos =>
        have HT : Hid (takeAt fs k ⟨xn, xz⟩ t z = fs.take k ++ ([⟨(xn : Int), (t : Int) - (xn : Int)⟩, ⟨(t : Int) + z, (xn : Int) + xz - ((t : Int) + z)⟩] : List Block) ++ fs.drop (k + 1)) := by
          show _ = _
          rw [takeAt, cutA, cutZ, if_pos (by show (xn : Int) < (t : Int); omega), if_pos (by show (t : Int) + z < (xn : Int) + xz; omega)]
          rfl
        have dA : decide ((xn : Int) < t) = true := by simp; omega
        have dZ : decide ((t : Int) + z < xn + xz) = true := by simp; omega
        have hs1 := S0.own.alloc (.cells #[Value.int .i64 ((xn : Int)), Value.int .i64 ((t : Int) - (xn : Int))] 49)
        have hc1 := news_blk (wb.alloc (.cells #[] 49)) ⟨(xn : Int), (t : Int) - (xn : Int)⟩
        rw [HZ0.out] at hc1
        have hB2 : Below w.heap.size w ((wb.alloc (.cells #[] 49)).alloc (.cells #[Value.int .i64 ((xn : Int)), Value.int .i64 ((t : Int) - (xn : Int))] 49)) := S0.below.alloc S0.below.size _
        have hz2 : wr.heap.size + 1 ≤ ((wb.alloc (.cells #[] 49)).alloc (.cells #[Value.int .i64 ((xn : Int)), Value.int .i64 ((t : Int) - (xn : Int))] 49)).heap.size := (by have := S0.size; (try simp at this); simp; omega)
        go_wp2_with (first | (at_builtin; refine wpList_append_own _ rfl _ _ 27 rfl (wr.heap.size + 1) 49 i0 (.agg #[.int .i64 0, .int .i64 0]) 2 16 Try.underlying27 hi hy0 hy1 hy2 rfl (by decide) _ _ _ rfl hs1 ⟨wb.heap.size + 1, 0, none⟩ 1 1 (bvals [⟨(xn : Int), (t : Int) - (xn : Int)⟩]) rfl rfl hc1 (one_blk _) (by simp only [maxLen, List.length_nil, List.length_singleton]; omega) (by simp only [List.length_nil, List.length_singleton]; omega) hz2 ?_; intro v' wd hown' hgrow _; have hB3 := hB2.grown hgrow (by omega) (fun g hg => (by have := (hs1.lt g hg).1; omega)); have hz3 : wr.heap.size + 1 ≤ wd.heap.size := Nat.le_trans hz2 hgrow.size; have bx3 : Blk wd wr.heap.size 49 #[.int .i64 (xn : Int), .int .i64 xz] := (by have := S0.box.alloc (.cells #[Value.int .i64 ((xn : Int)), Value.int .i64 ((t : Int) - (xn : Int))] 49); exact (hgrow.block _ this.lt (fun e => (by have := (hs1.lt _ e.symm).1; omega))).trans this); obtain ⟨gg, cc, rfl, _, _⟩ := hown'.form (by simp); have S1 : RS w wd wr.heap.size (.slice (some ⟨gg, 0, none⟩) 1 cc) ([⟨(xn : Int), (t : Int) - (xn : Int)⟩] : List Block) xn xz := ⟨(by exact hown'), bx3, hB3, hz3⟩; clear hs1 hc1 hB2 hz2 hown' hgrow hB3 hz3 bx3; have hs1 := S1.own.alloc (.cells #[Value.int .i64 ((t : Int) + z), Value.int .i64 ((xn : Int) + xz - ((t : Int) + z))] 49); have hc1 := news_blk wd ⟨(t : Int) + z, (xn : Int) + xz - ((t : Int) + z)⟩; have hB2 : Below w.heap.size w (wd.alloc (.cells #[Value.int .i64 ((t : Int) + z), Value.int .i64 ((xn : Int) + xz - ((t : Int) + z))] 49)) := S1.below.alloc S1.below.size _; have hz2 : wr.heap.size + 1 ≤ (wd.alloc (.cells #[Value.int .i64 ((t : Int) + z), Value.int .i64 ((xn : Int) + xz - ((t : Int) + z))] 49)).heap.size := (by have := S1.size; (try simp at this); simp; omega)) | (at_builtin; refine wpList_append_own _ rfl _ _ 27 rfl (wr.heap.size + 1) 49 i0 (.agg #[.int .i64 0, .int .i64 0]) 2 16 Try.underlying27 hi hy0 hy1 hy2 rfl (by decide) _ _ _ rfl hs1 ⟨wd.heap.size, 0, none⟩ 1 1 (bvals [⟨(t : Int) + z, (xn : Int) + xz - ((t : Int) + z)⟩]) rfl rfl hc1 (one_blk _) (by simp only [maxLen, List.length_nil, List.length_singleton]; omega) (by simp only [List.length_nil, List.length_singleton]; omega) hz2 ?_; intro v' we hown' hgrow _; have hB3 := hB2.grown hgrow (by omega) (fun g hg => (by have := (hs1.lt g hg).1; omega)); have hz3 : wr.heap.size + 1 ≤ we.heap.size := Nat.le_trans hz2 hgrow.size; have bx3 : Blk we wr.heap.size 49 #[.int .i64 (xn : Int), .int .i64 xz] := (by have := S1.box.alloc (.cells #[Value.int .i64 ((t : Int) + z), Value.int .i64 ((xn : Int) + xz - ((t : Int) + z))] 49); exact (hgrow.block _ this.lt (fun e => (by have := (hs1.lt _ e.symm).1; omega))).trans this); obtain ⟨gg, cc, rfl, _, _⟩ := hown'.form (by simp); have S2 : RS w we wr.heap.size (.slice (some ⟨gg, 0, none⟩) 2 cc) ([⟨(xn : Int), (t : Int) - (xn : Int)⟩, ⟨(t : Int) + z, (xn : Int) + xz - ((t : Int) + z)⟩] : List Block) xn xz := ⟨(by exact hown'), bx3, hB3, hz3⟩; clear hs1 hc1 hB2 hz2 hown' hgrow hB3 hz3 bx3))
        have hgw : g < we.heap.size := Nat.lt_of_lt_of_le hg S2.below.size
        have st : Blk we p 60 #[bv, .slice (some ⟨g, off, none⟩) n c] := HBL.out.below S2.below hp
        have AT := Lib.hid (HAT.out.below S2.below hg)
        have LP : Hid (Rep we we.heap.size (blocks ([⟨(xn : Int), (t : Int) - (xn : Int)⟩, ⟨(t : Int) + z, (xn : Int) + xz - ((t : Int) + z)⟩] : List Block)) (.slice (some ⟨gg, 0, none⟩) 2 cc)) := (lv_blk S2.own).is
        have e1 := st.cell 1
        have f1 := st.frozen 1
        have hRS := S2.below
        have hWW : Hid (w.heap.size ≤ we.heap.size) := S2.below.size
        have st2 := Lib.hid st
        have e2 : we.drew.cell? ⟨p, 1, none⟩ = some (.slice (some ⟨g, off, none⟩) n c) := st.drew.cell 1
        have hrs2 := Lib.hid hRS
        have hck : k ≤ c := by omega
        have hck1 : k + 1 ≤ c := by omega
        have hk1 : (k : Int) + 1 ≤ n := by omega
        have hkw : IntKind.i64.wrap ((k : Int) + 1) = (k : Int) + 1 := IntWalk.i64_in _ (by omega)
        clear hRS st
        have hc0 : ¬ c = 0 := by omega
        by_cases hcc : c = k + 1
        case pos =>
          obtain rfl : n = k + 1 := by omega
          subst hcc
          have R1 : Rep we we.heap.size (blocks (fs.take k)) (.slice (some ⟨g, off, none⟩) k (k + 1)) := rep_pre AT.out hgw HN.out (by omega) hn4
          have R3 : Rep we we.heap.size (blocks (fs.drop (k + 1))) (.slice (some ⟨g, off, none⟩) 0 0) := rep_suf AT.out hgw HN.out hn4 (by omega) (by first | omega | rfl) (by intro hj; first | exact absurd hj (by omega) | rfl)
          have HCC := Lib.hid (concat_cut (f1 := fs.take k) (f2 := ([⟨(xn : Int), (t : Int) - (xn : Int)⟩, ⟨(t : Int) + z, (xn : Int) + xz - ((t : Int) + z)⟩] : List Block)) (f3 := fs.drop (k + 1)) (wd := we) (N := we.heap.size) (by first | rfl | simp) (by have := HN.out; rw [List.length_take]; omega) (by simp) (by have := HN.out; rw [List.length_drop]; omega) R1 LP.out R3)
          clear R1 R3
          go_wp2_with fail
          go_region_with (go_at_call 69; refine HCC.out.mono ?_; rintro e w4 ⟨u, rfl, hL, hb4⟩; obtain ⟨uA, uN, uC, rfl⟩ := hL.form; have HL := Lib.hid hL; have HB4 := Lib.hid hb4; have bl4 := st2.out.below hb4 (by have := hWW.out; omega); have d1 := bl4.cell 1; have f1 := bl4.frozen 1; clear hL hb4)
          all_goals
            go_wp2_with fail
            go_ret2
            have hWZ := hWW.out
            have hB4 := hrs2.out.trans (HB4.out.mono hWZ)
            refine .inr ⟨_, _, .slice uA uN uC, HAL.out, rfl, by have := bl4.set_ 1 (.slice uA uN uC); simpa using this, ?_, (Keep.of_below hB4).setCell (p := ⟨p, 1, none⟩) (Nat.le_refl _) (Nat.lt_succ_self _) _⟩
            rw [HT.out]
            have := (HL.out.kept (Keep.setCell (Keep.refl p (p + 1) w4) (p := ⟨p, 1, none⟩) (Nat.le_refl _) (Nat.lt_succ_self _) (.slice uA uN uC)) (.inr (by omega)))
            obtain ⟨F, a1, a2, a3⟩ := this
            exact ⟨F, a1, ⟨a2.1, fun g hg => by have := a2.2 g hg; simp; omega⟩, by simp⟩
        have R1 : Rep we we.heap.size (blocks (fs.take k)) (.slice (some ⟨g, off, none⟩) k c) := rep_pre AT.out hgw HN.out (by omega) hn4
        have R3 : Rep we we.heap.size (blocks (fs.drop (k + 1))) (.slice (some ⟨g, off + (k + 1) * 2, none⟩) (n - (k + 1)) (c - (k + 1))) := rep_suf AT.out hgw HN.out hn4 (by omega) (by first | omega | rfl) (by intro hj; first | exact absurd hj (by omega) | rfl)
        have HCC := Lib.hid (concat_cut (f1 := fs.take k) (f2 := ([⟨(xn : Int), (t : Int) - (xn : Int)⟩, ⟨(t : Int) + z, (xn : Int) + xz - ((t : Int) + z)⟩] : List Block)) (f3 := fs.drop (k + 1)) (wd := we) (N := we.heap.size) (by first | rfl | simp) (by have := HN.out; rw [List.length_take]; omega) (by simp) (by have := HN.out; rw [List.length_drop]; omega) R1 LP.out R3)
        clear R1 R3
        go_wp2_with fail
        go_region_with (go_at_call 69; refine HCC.out.mono ?_; rintro e w4 ⟨u, rfl, hL, hb4⟩; obtain ⟨uA, uN, uC, rfl⟩ := hL.form; have HL := Lib.hid hL; have HB4 := Lib.hid hb4; have bl4 := st2.out.below hb4 (by have := hWW.out; omega); have d1 := bl4.cell 1; have f1 := bl4.frozen 1; clear hL hb4)
        all_goals
          go_wp2_with fail
          go_ret2
          have hWZ := hWW.out
          have hB4 := hrs2.out.trans (HB4.out.mono hWZ)
          refine .inr ⟨_, _, .slice uA uN uC, HAL.out, rfl, by have := bl4.set_ 1 (.slice uA uN uC); simpa using this, ?_, (Keep.of_below hB4).setCell (p := ⟨p, 1, none⟩) (Nat.le_refl _) (Nat.lt_succ_self _) _⟩
          rw [HT.out]
          have := (HL.out.kept (Keep.setCell (Keep.refl p (p + 1) w4) (p := ⟨p, 1, none⟩) (Nat.le_refl _) (Nat.lt_succ_self _) (.slice uA uN uC)) (.inr (by omega)))
          obtain ⟨F, a1, a2, a3⟩ := this
          exact ⟨F, a1, ⟨a2.1, fun g hg => by have := a2.2 g hg; simp; omega⟩, by simp⟩
      case neg =>
        have HT : Hid (takeAt fs k ⟨xn, xz⟩ t z = fs.take k ++ ([⟨(xn : Int), (t : Int) - (xn : Int)⟩] : List Block) ++ fs.drop (k + 1)) := by
          show _ = _
          rw [takeAt, cutA, cutZ, if_pos (by show (xn : Int) < (t : Int); omega), if_neg (by show ¬ (t : Int) + z < (xn : Int) + xz; omega)]
          rw [List.append_nil]
        have dA : decide ((xn : Int) < t) = true := by simp; omega
        have dZ : decide ((t : Int) + z < xn + xz) = false := by simp; omega
        have hs1 := S0.own.alloc (.cells #[Value.int .i64 ((xn : Int)), Value.int .i64 ((t : Int) - (xn : Int))] 49)
        have hc1 := news_blk (wb.alloc (.cells #[] 49)) ⟨(xn : Int), (t : Int) - (xn : Int)⟩
        rw [HZ0.out] at hc1
        have hB2 : Below w.heap.size w ((wb.alloc (.cells #[] 49)).alloc (.cells #[Value.int .i64 ((xn : Int)), Value.int .i64 ((t : Int) - (xn : Int))] 49)) := S0.below.alloc S0.below.size _
        have hz2 : wr.heap.size + 1 ≤ ((wb.alloc (.cells #[] 49)).alloc (.cells #[Value.int .i64 ((xn : Int)), Value.int .i64 ((t : Int) - (xn : Int))] 49)).heap.size := (by have := S0.size; (try simp at this); simp; omega)
        go_wp2_with (first | (at_builtin; refine wpList_append_own _ rfl _ _ 27 rfl (wr.heap.size + 1) 49 i0 (.agg #[.int .i64 0, .int .i64 0]) 2 16 Try.underlying27 hi hy0 hy1 hy2 rfl (by decide) _ _ _ rfl hs1 ⟨wb.heap.size + 1, 0, none⟩ 1 1 (bvals [⟨(xn : Int), (t : Int) - (xn : Int)⟩]) rfl rfl hc1 (one_blk _) (by simp only [maxLen, List.length_nil, List.length_singleton]; omega) (by simp only [List.length_nil, List.length_singleton]; omega) hz2 ?_; intro v' wd hown' hgrow _; have hB3 := hB2.grown hgrow (by omega) (fun g hg => (by have := (hs1.lt g hg).1; omega)); have hz3 : wr.heap.size + 1 ≤ wd.heap.size := Nat.le_trans hz2 hgrow.size; have bx3 : Blk wd wr.heap.size 49 #[.int .i64 (xn : Int), .int .i64 xz] := (by have := S0.box.alloc (.cells #[Value.int .i64 ((xn : Int)), Value.int .i64 ((t : Int) - (xn : Int))] 49); exact (hgrow.block _ this.lt (fun e => (by have := (hs1.lt _ e.symm).1; omega))).trans this); obtain ⟨gg, cc, rfl, _, _⟩ := hown'.form (by simp); have S1 : RS w wd wr.heap.size (.slice (some ⟨gg, 0, none⟩) 1 cc) ([⟨(xn : Int), (t : Int) - (xn : Int)⟩] : List Block) xn xz := ⟨(by exact hown'), bx3, hB3, hz3⟩; clear hs1 hc1 hB2 hz2 hown' hgrow hB3 hz3 bx3))
        have hgw : g < wd.heap.size := Nat.lt_of_lt_of_le hg S1.below.size
        have st : Blk wd p 60 #[bv, .slice (some ⟨g, off, none⟩) n c] := HBL.out.below S1.below hp
        have AT := Lib.hid (HAT.out.below S1.below hg)
        have LP : Hid (Rep wd wd.heap.size (blocks ([⟨(xn : Int), (t : Int) - (xn : Int)⟩] : List Block)) (.slice (some ⟨gg, 0, none⟩) 1 cc)) := (lv_blk S1.own).is
        have e1 := st.cell 1
        have f1 := st.frozen 1
        have hRS := S1.below
        have hWW : Hid (w.heap.size ≤ wd.heap.size) := S1.below.size
        have st2 := Lib.hid st
        have e2 : wd.drew.cell? ⟨p, 1, none⟩ = some (.slice (some ⟨g, off, none⟩) n c) := st.drew.cell 1
        have hrs2 := Lib.hid hRS
        have hck : k ≤ c := by omega
        have hck1 : k + 1 ≤ c := by omega
        have hk1 : (k : Int) + 1 ≤ n := by omega
        have hkw : IntKind.i64.wrap ((k : Int) + 1) = (k : Int) + 1 := IntWalk.i64_in _ (by omega)
        clear hRS st
        have hc0 : ¬ c = 0 := by omega
        by_cases hcc : c = k + 1
        case pos =>
          obtain rfl : n = k + 1 := by omega
          subst hcc
          have R1 : Rep wd wd.heap.size (blocks (fs.take k)) (.slice (some ⟨g, off, none⟩) k (k + 1)) := rep_pre AT.out hgw HN.out (by omega) hn4
          have R3 : Rep wd wd.heap.size (blocks (fs.drop (k + 1))) (.slice (some ⟨g, off, none⟩) 0 0) := rep_suf AT.out hgw HN.out hn4 (by omega) (by first | omega | rfl) (by intro hj; first | exact absurd hj (by omega) | rfl)
          have HCC := Lib.hid (concat_cut (f1 := fs.take k) (f2 := ([⟨(xn : Int), (t : Int) - (xn : Int)⟩] : List Block)) (f3 := fs.drop (k + 1)) (wd := wd) (N := wd.heap.size) (by first | rfl | simp) (by have := HN.out; rw [List.length_take]; omega) (by simp) (by have := HN.out; rw [List.length_drop]; omega) R1 LP.out R3)
          clear R1 R3
          go_wp2_with fail
          go_region_with (go_at_call 69; refine HCC.out.mono ?_; rintro e w4 ⟨u, rfl, hL, hb4⟩; obtain ⟨uA, uN, uC, rfl⟩ := hL.form; have HL := Lib.hid hL; have HB4 := Lib.hid hb4; have bl4 := st2.out.below hb4 (by have := hWW.out; omega); have d1 := bl4.cell 1; have f1 := bl4.frozen 1; clear hL hb4)
          all_goals
            go_wp2_with fail
            go_ret2
            have hWZ := hWW.out
            have hB4 := hrs2.out.trans (HB4.out.mono hWZ)
            refine .inr ⟨_, _, .slice uA uN uC, HAL.out, rfl, by have := bl4.set_ 1 (.slice uA uN uC); simpa using this, ?_, (Keep.of_below hB4).setCell (p := ⟨p, 1, none⟩) (Nat.le_refl _) (Nat.lt_succ_self _) _⟩
            rw [HT.out]
            have := (HL.out.kept (Keep.setCell (Keep.refl p (p + 1) w4) (p := ⟨p, 1, none⟩) (Nat.le_refl _) (Nat.lt_succ_self _) (.slice uA uN uC)) (.inr (by omega)))
            obtain ⟨F, a1, a2, a3⟩ := this
            exact ⟨F, a1, ⟨a2.1, fun g hg => by have := a2.2 g hg; simp; omega⟩, by simp⟩
        have R1 : Rep wd wd.heap.size (blocks (fs.take k)) (.slice (some ⟨g, off, none⟩) k c) := rep_pre AT.out hgw HN.out (by omega) hn4
        have R3 : Rep wd wd.heap.size (blocks (fs.drop (k + 1))) (.slice (some ⟨g, off + (k + 1) * 2, none⟩) (n - (k + 1)) (c - (k + 1))) := rep_suf AT.out hgw HN.out hn4 (by omega) (by first | omega | rfl) (by intro hj; first | exact absurd hj (by omega) | rfl)
        have HCC := Lib.hid (concat_cut (f1 := fs.take k) (f2 := ([⟨(xn : Int), (t : Int) - (xn : Int)⟩] : List Block)) (f3 := fs.drop (k + 1)) (wd := wd) (N := wd.heap.size) (by first | rfl | simp) (by have := HN.out; rw [List.length_take]; omega) (by simp) (by have := HN.out; rw [List.length_drop]; omega) R1 LP.out R3)
        clear R1 R3
        go_wp2_with fail
        go_region_with (go_at_call 69; refine HCC.out.mono ?_; rintro e w4 ⟨u, rfl, hL, hb4⟩; obtain ⟨uA, uN, uC, rfl⟩ := hL.form; have HL := Lib.hid hL; have HB4 := Lib.hid hb4; have bl4 := st2.out.below hb4 (by have := hWW.out; omega); have d1 := bl4.cell 1; have f1 := bl4.frozen 1; clear hL hb4)
        all_goals
          go_wp2_with fail
          go_ret2
          have hWZ := hWW.out
          have hB4 := hrs2.out.trans (HB4.out.mono hWZ)
          refine .inr ⟨_, _, .slice uA uN uC, HAL.out, rfl, by have := bl4.set_ 1 (.slice uA uN uC); simpa using this, ?_, (Keep.of_below hB4).setCell (p := ⟨p, 1, none⟩) (Nat.le_refl _) (Nat.lt_succ_self _) _⟩
          rw [HT.out]
          have := (HL.out.kept (Keep.setCell (Keep.refl p (p + 1) w4) (p := ⟨p, 1, none⟩) (Nat.le_refl _) (Nat.lt_succ_self _) (.slice uA uN uC)) (.inr (by omega)))
          obtain ⟨F, a1, a2, a3⟩ := this
          exact ⟨F, a1, ⟨a2.1, fun g hg => by have := a2.2 g hg; simp; omega⟩, by simp⟩
    case neg =>
      by_cases hZ : (t : Int) + z < xn + xz
      case pos =>
        have HT : Hid (takeAt fs k ⟨xn, xz⟩ t z = fs.take k ++ ([⟨(t : Int) + z, (xn : Int) + xz - ((t : Int) + z)⟩] : List Block) ++ fs.drop (k + 1)) := by
          show _ = _
          rw [takeAt, cutA, cutZ, if_neg (by show ¬ (xn : Int) < (t : Int); omega), if_pos (by show (t : Int) + z < (xn : Int) + xz; omega)]
          rfl
        have dA : decide ((xn : Int) < t) = false := by simp; omega
        have dZ : decide ((t : Int) + z < xn + xz) = true := by simp; omega
        have hs1 := S0.own.alloc (.cells #[Value.int .i64 ((t : Int) + z), Value.int .i64 ((xn : Int) + xz - ((t : Int) + z))] 49)
        have hc1 := news_blk (wb.alloc (.cells #[] 49)) ⟨(t : Int) + z, (xn : Int) + xz - ((t : Int) + z)⟩
        rw [HZ0.out] at hc1
        have hB2 : Below w.heap.size w ((wb.alloc (.cells #[] 49)).alloc (.cells #[Value.int .i64 ((t : Int) + z), Value.int .i64 ((xn : Int) + xz - ((t : Int) + z))] 49)) := S0.below.alloc S0.below.size _
        have hz2 : wr.heap.size + 1 ≤ ((wb.alloc (.cells #[] 49)).alloc (.cells #[Value.int .i64 ((t : Int) + z), Value.int .i64 ((xn : Int) + xz - ((t : Int) + z))] 49)).heap.size := (by have := S0.size; (try simp at this); simp; omega)
        go_wp2_with (first | (at_builtin; refine wpList_append_own _ rfl _ _ 27 rfl (wr.heap.size + 1) 49 i0 (.agg #[.int .i64 0, .int .i64 0]) 2 16 Try.underlying27 hi hy0 hy1 hy2 rfl (by decide) _ _ _ rfl hs1 ⟨wb.heap.size + 1, 0, none⟩ 1 1 (bvals [⟨(t : Int) + z, (xn : Int) + xz - ((t : Int) + z)⟩]) rfl rfl hc1 (one_blk _) (by simp only [maxLen, List.length_nil, List.length_singleton]; omega) (by simp only [List.length_nil, List.length_singleton]; omega) hz2 ?_; intro v' we hown' hgrow _; have hB3 := hB2.grown hgrow (by omega) (fun g hg => (by have := (hs1.lt g hg).1; omega)); have hz3 : wr.heap.size + 1 ≤ we.heap.size := Nat.le_trans hz2 hgrow.size; have bx3 : Blk we wr.heap.size 49 #[.int .i64 (xn : Int), .int .i64 xz] := (by have := S0.box.alloc (.cells #[Value.int .i64 ((t : Int) + z), Value.int .i64 ((xn : Int) + xz - ((t : Int) + z))] 49); exact (hgrow.block _ this.lt (fun e => (by have := (hs1.lt _ e.symm).1; omega))).trans this); obtain ⟨gg, cc, rfl, _, _⟩ := hown'.form (by simp); have S2 : RS w we wr.heap.size (.slice (some ⟨gg, 0, none⟩) 1 cc) ([⟨(t : Int) + z, (xn : Int) + xz - ((t : Int) + z)⟩] : List Block) xn xz := ⟨(by exact hown'), bx3, hB3, hz3⟩; clear hs1 hc1 hB2 hz2 hown' hgrow hB3 hz3 bx3))
        have hgw : g < we.heap.size := Nat.lt_of_lt_of_le hg S2.below.size
        have st : Blk we p 60 #[bv, .slice (some ⟨g, off, none⟩) n c] := HBL.out.below S2.below hp
        have AT := Lib.hid (HAT.out.below S2.below hg)
        have LP : Hid (Rep we we.heap.size (blocks ([⟨(t : Int) + z, (xn : Int) + xz - ((t : Int) + z)⟩] : List Block)) (.slice (some ⟨gg, 0, none⟩) 1 cc)) := (lv_blk S2.own).is
        have e1 := st.cell 1
        have f1 := st.frozen 1
        have hRS := S2.below
        have hWW : Hid (w.heap.size ≤ we.heap.size) := S2.below.size
        have st2 := Lib.hid st
        have e2 : we.drew.cell? ⟨p, 1, none⟩ = some (.slice (some ⟨g, off, none⟩) n c) := st.drew.cell 1
        have hrs2 := Lib.hid hRS
        have hck : k ≤ c := by omega
        have hck1 : k + 1 ≤ c := by omega
        have hk1 : (k : Int) + 1 ≤ n := by omega
        have hkw : IntKind.i64.wrap ((k : Int) + 1) = (k : Int) + 1 := IntWalk.i64_in _ (by omega)
        clear hRS st
        have hc0 : ¬ c = 0 := by omega
        by_cases hcc : c = k + 1
        case pos =>
          obtain rfl : n = k + 1 := by omega
          subst hcc
          have R1 : Rep we we.heap.size (blocks (fs.take k)) (.slice (some ⟨g, off, none⟩) k (k + 1)) := rep_pre AT.out hgw HN.out (by omega) hn4
          have R3 : Rep we we.heap.size (blocks (fs.drop (k + 1))) (.slice (some ⟨g, off, none⟩) 0 0) := rep_suf AT.out hgw HN.out hn4 (by omega) (by first | omega | rfl) (by intro hj; first | exact absurd hj (by omega) | rfl)
          have HCC := Lib.hid (concat_cut (f1 := fs.take k) (f2 := ([⟨(t : Int) + z, (xn : Int) + xz - ((t : Int) + z)⟩] : List Block)) (f3 := fs.drop (k + 1)) (wd := we) (N := we.heap.size) (by first | rfl | simp) (by have := HN.out; rw [List.length_take]; omega) (by simp) (by have := HN.out; rw [List.length_drop]; omega) R1 LP.out R3)
          clear R1 R3
          go_wp2_with fail
          go_region_with (go_at_call 69; refine HCC.out.mono ?_; rintro e w4 ⟨u, rfl, hL, hb4⟩; obtain ⟨uA, uN, uC, rfl⟩ := hL.form; have HL := Lib.hid hL; have HB4 := Lib.hid hb4; have bl4 := st2.out.below hb4 (by have := hWW.out; omega); have d1 := bl4.cell 1; have f1 := bl4.frozen 1; clear hL hb4)
          all_goals
            go_wp2_with fail
            go_ret2
            have hWZ := hWW.out
            have hB4 := hrs2.out.trans (HB4.out.mono hWZ)
            refine .inr ⟨_, _, .slice uA uN uC, HAL.out, rfl, by have := bl4.set_ 1 (.slice uA uN uC); simpa using this, ?_, (Keep.of_below hB4).setCell (p := ⟨p, 1, none⟩) (Nat.le_refl _) (Nat.lt_succ_self _) _⟩
            rw [HT.out]
            have := (HL.out.kept (Keep.setCell (Keep.refl p (p + 1) w4) (p := ⟨p, 1, none⟩) (Nat.le_refl _) (Nat.lt_succ_self _) (.slice uA uN uC)) (.inr (by omega)))
            obtain ⟨F, a1, a2, a3⟩ := this
            exact ⟨F, a1, ⟨a2.1, fun g hg => by have := a2.2 g hg; simp; omega⟩, by simp⟩
        have R1 : Rep we we.heap.size (blocks (fs.take k)) (.slice (some ⟨g, off, none⟩) k c) := rep_pre AT.out hgw HN.out (by omega) hn4
        have R3 : Rep we we.heap.size (blocks (fs.drop (k + 1))) (.slice (some ⟨g, off + (k + 1) * 2, none⟩) (n - (k + 1)) (c - (k + 1))) := rep_suf AT.out hgw HN.out hn4 (by omega) (by first | omega | rfl) (by intro hj; first | exact absurd hj (by omega) | rfl)
        have HCC := Lib.hid (concat_cut (f1 := fs.take k) (f2 := ([⟨(t : Int) + z, (xn : Int) + xz - ((t : Int) + z)⟩] : List Block)) (f3 := fs.drop (k + 1)) (wd := we) (N := we.heap.size) (by first | rfl | simp) (by have := HN.out; rw [List.length_take]; omega) (by simp) (by have := HN.out; rw [List.length_drop]; omega) R1 LP.out R3)
        clear R1 R3
        go_wp2_with fail
        go_region_with (go_at_call 69; refine HCC.out.mono ?_; rintro e w4 ⟨u, rfl, hL, hb4⟩; obtain ⟨uA, uN, uC, rfl⟩ := hL.form; have HL := Lib.hid hL; have HB4 := Lib.hid hb4; have bl4 := st2.out.below hb4 (by have := hWW.out; omega); have d1 := bl4.cell 1; have f1 := bl4.frozen 1; clear hL hb4)
        all_goals
          go_wp2_with fail
          go_ret2
          have hWZ := hWW.out
          have hB4 := hrs2.out.trans (HB4.out.mono hWZ)
          refine .inr ⟨_, _, .slice uA uN uC, HAL.out, rfl, by have := bl4.set_ 1 (.slice uA uN uC); simpa using this, ?_, (Keep.of_below hB4).setCell (p := ⟨p, 1, none⟩) (Nat.le_refl _) (Nat.lt_succ_self _) _⟩
          rw [HT.out]
          have := (HL.out.kept (Keep.setCell (Keep.refl p (p + 1) w4) (p := ⟨p, 1, none⟩) (Nat.le_refl _) (Nat.lt_succ_self _) (.slice uA uN uC)) (.inr (by omega)))
          obtain ⟨F, a1, a2, a3⟩ := this
          exact ⟨F, a1, ⟨a2.1, fun g hg => by have := a2.2 g hg; simp; omega⟩, by simp⟩
      case neg =>
        have HT : Hid (takeAt fs k ⟨xn, xz⟩ t z = fs.take k ++ ([] : List Block) ++ fs.drop (k + 1)) := by
          show _ = _
          rw [takeAt, cutA, cutZ, if_neg (by show ¬ (xn : Int) < (t : Int); omega), if_neg (by show ¬ (t : Int) + z < (xn : Int) + xz; omega)]
          rfl
        have dA : decide ((xn : Int) < t) = false := by simp; omega
        have dZ : decide ((t : Int) + z < xn + xz) = false := by simp; omega
        go_wp2_with fail
        have hgw : g < (wb.alloc (.cells #[] 49)).heap.size := Nat.lt_of_lt_of_le hg S0.below.size
        have st : Blk (wb.alloc (.cells #[] 49)) p 60 #[bv, .slice (some ⟨g, off, none⟩) n c] := HBL.out.below S0.below hp
        have AT := Lib.hid (HAT.out.below S0.below hg)
        have LP : Hid (Rep (wb.alloc (.cells #[] 49)) (wb.alloc (.cells #[] 49)).heap.size (blocks ([] : List Block)) (.slice (some ⟨wb.heap.size, 0, none⟩) 0 0)) := (lv_blk S0.own).is
        have e1 := st.cell 1
        have f1 := st.frozen 1
        have hRS := S0.below
        have hWW : Hid (w.heap.size ≤ wb.heap.size + 1) := (by have := hbb.size; show w.heap.size ≤ wb.heap.size + 1; omega)
        have st2 := Lib.hid st
        have e2 : (wb.alloc (.cells #[] 49)).drew.cell? ⟨p, 1, none⟩ = some (.slice (some ⟨g, off, none⟩) n c) := st.drew.cell 1
        have hrs2 := Lib.hid hRS
        have hck : k ≤ c := by omega
        have hck1 : k + 1 ≤ c := by omega
        have hk1 : (k : Int) + 1 ≤ n := by omega
        have hkw : IntKind.i64.wrap ((k : Int) + 1) = (k : Int) + 1 := IntWalk.i64_in _ (by omega)
        clear hRS st
        have hc0 : ¬ c = 0 := by omega
        by_cases hcc : c = k + 1
        case pos =>
          obtain rfl : n = k + 1 := by omega
          subst hcc
          have R1 : Rep (wb.alloc (.cells #[] 49)) (wb.alloc (.cells #[] 49)).heap.size (blocks (fs.take k)) (.slice (some ⟨g, off, none⟩) k (k + 1)) := rep_pre AT.out hgw HN.out (by omega) hn4
          have R3 : Rep (wb.alloc (.cells #[] 49)) (wb.alloc (.cells #[] 49)).heap.size (blocks (fs.drop (k + 1))) (.slice (some ⟨g, off, none⟩) 0 0) := rep_suf AT.out hgw HN.out hn4 (by omega) (by first | omega | rfl) (by intro hj; first | exact absurd hj (by omega) | rfl)
          have HCC := Lib.hid (concat_cut (f1 := fs.take k) (f2 := ([] : List Block)) (f3 := fs.drop (k + 1)) (wd := (wb.alloc (.cells #[] 49))) (N := wb.heap.size + 1) (by first | rfl | simp) (by have := HN.out; rw [List.length_take]; omega) (by simp) (by have := HN.out; rw [List.length_drop]; omega) R1 LP.out R3)
          clear R1 R3
          go_wp2_with fail
          go_region_with (go_at_call 69; refine HCC.out.mono ?_; rintro e w4 ⟨u, rfl, hL, hb4⟩; obtain ⟨uA, uN, uC, rfl⟩ := hL.form; have HL := Lib.hid hL; have HB4 := Lib.hid hb4; have bl4 := st2.out.below hb4 (by have := hWW.out; omega); have d1 := bl4.cell 1; have f1 := bl4.frozen 1; clear hL hb4)
          all_goals
            go_wp2_with fail
            go_ret2
            have hWZ := hWW.out
            have hB4 := hrs2.out.trans (HB4.out.mono hWZ)
            refine .inr ⟨_, _, .slice uA uN uC, HAL.out, rfl, by have := bl4.set_ 1 (.slice uA uN uC); simpa using this, ?_, (Keep.of_below hB4).setCell (p := ⟨p, 1, none⟩) (Nat.le_refl _) (Nat.lt_succ_self _) _⟩
            rw [HT.out]
            have := (HL.out.kept (Keep.setCell (Keep.refl p (p + 1) w4) (p := ⟨p, 1, none⟩) (Nat.le_refl _) (Nat.lt_succ_self _) (.slice uA uN uC)) (.inr (by omega)))
            obtain ⟨F, a1, a2, a3⟩ := this
            exact ⟨F, a1, ⟨a2.1, fun g hg => by have := a2.2 g hg; simp; omega⟩, by simp⟩
        have R1 : Rep (wb.alloc (.cells #[] 49)) (wb.alloc (.cells #[] 49)).heap.size (blocks (fs.take k)) (.slice (some ⟨g, off, none⟩) k c) := rep_pre AT.out hgw HN.out (by omega) hn4
        have R3 : Rep (wb.alloc (.cells #[] 49)) (wb.alloc (.cells #[] 49)).heap.size (blocks (fs.drop (k + 1))) (.slice (some ⟨g, off + (k + 1) * 2, none⟩) (n - (k + 1)) (c - (k + 1))) := rep_suf AT.out hgw HN.out hn4 (by omega) (by first | omega | rfl) (by intro hj; first | exact absurd hj (by omega) | rfl)
        have HCC := Lib.hid (concat_cut (f1 := fs.take k) (f2 := ([] : List Block)) (f3 := fs.drop (k + 1)) (wd := (wb.alloc (.cells #[] 49))) (N := wb.heap.size + 1) (by first | rfl | simp) (by have := HN.out; rw [List.length_take]; omega) (by simp) (by have := HN.out; rw [List.length_drop]; omega) R1 LP.out R3)
        clear R1 R3
        go_wp2_with fail
        go_region_with (go_at_call 69; refine HCC.out.mono ?_; rintro e w4 ⟨u, rfl, hL, hb4⟩; obtain ⟨uA, uN, uC, rfl⟩ := hL.form; have HL := Lib.hid hL; have HB4 := Lib.hid hb4; have bl4 := st2.out.below hb4 (by have := hWW.out; omega); have d1 := bl4.cell 1; have f1 := bl4.frozen 1; clear hL hb4)
        all_goals
          go_wp2_with fail
          go_ret2
          have hWZ := hWW.out
          have hB4 := hrs2.out.trans (HB4.out.mono hWZ)
          refine .inr ⟨_, _, .slice uA uN uC, HAL.out, rfl, by have := bl4.set_ 1 (.slice uA uN uC); simpa using this, ?_, (Keep.of_below hB4).setCell (p := ⟨p, 1, none⟩) (Nat.le_refl _) (Nat.lt_succ_self _) _⟩
          rw [HT.out]
          have := (HL.out.kept (Keep.setCell (Keep.refl p (p + 1) w4) (p := ⟨p, 1, none⟩) (Nat.le_refl _) (Nat.lt_succ_self _) (.slice uA uN uC)) (.inr (by omega)))
          obtain ⟨F, a1, a2, a3⟩ := this
          exact ⟨F, a1, ⟨a2.1, fun g hg => by have := a2.2 g hg; simp; omega⟩, by simp⟩
end Go.Proofs.Ytlppngpafjfjeaa

