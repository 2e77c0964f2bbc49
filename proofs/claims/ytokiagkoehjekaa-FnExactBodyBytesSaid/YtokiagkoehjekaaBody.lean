/-
  The bytes of a body of instructions: spec.BodyBytes, impl.BodyBytes.
-/
import Derived.Test.YtokiagkoehjekaaFam
import Derived.Test.YtokiagkoehjekaaTy
import Derived.Test.YtokiagkoehjekaaIdx
import Derived.Test.YtokiagkoehjekaaFnIdx
import Derived.Test.YtokiagkoehjekaaInsB
import Derived.Test.YtokiagkoehjekaaRowX
import Derived.Test.YtokiagkoehjekaaBld
namespace Go.Proofs.Ytokiagkoehjekaa
open Go.RowKit
set_option linter.unusedVariables false
set_option linter.unusedSimpArgs false
set_option linter.unnecessarySimpa false

def insBad : Ins → Bool | .mk op a => !insOk op a
def insBs : Ins → List Int | .mk op a => insBy op a
def bodyBs (ts : List Ins) : List Int := leb ts.length ++ ts.flatMap insBs
def bodyS (ts : List Ins) : ByteArray := if ts.length ≤ 120 ∧ ts.any insBad = false then strOfNums (bodyBs ts) else ⟨#[]⟩
theorem bodyS_many {ts : List Ins} (h : ¬ ts.length ≤ 120) : bodyS ts = ⟨#[]⟩ := if_neg fun e => h e.1
theorem bodyS_bad {ts : List Ins} (h : ts.any insBad = true) : bodyS ts = ⟨#[]⟩ := if_neg fun e => by rw [h] at e; exact absurd e.2 (by simp)
theorem bodyS_all {ts : List Ins} (h1 : ts.length ≤ 120) (h : ts.any insBad = false) : bodyS ts = strOfNums (bodyBs ts) := if_pos ⟨h1, h⟩
theorem ins_wf {op a : Int} (h : insOk op a = true) : (Lit.int .i64 a).wf = true := by
  rw [insOk, Bool.and_eq_true, inB_iff, inB_iff] at h
  obtain ⟨_, h3, h4⟩ := h
  have h5 : -9223372036854775808 ≤ opLo op := by unfold opLo; split <;> omega
  have h6 : opHi op ≤ 9223372036854775807 := by
    unfold opHi
    repeat' split
    all_goals omega
  have : -9223372036854775808 ≤ a ∧ a ≤ 9223372036854775807 := ⟨by omega, by omega⟩
  simpa [Lit.wf, IntKind.min, IntKind.max, IntKind.signed, IntKind.bits] using this
theorem insBy_len {op a : Int} (h : insOk op a = true) : (insBy op a).length ≤ 11 := by
  have hw := ins_wf h
  obtain ⟨_, _, hlo⟩ := ins_lo h
  rw [insBy, h]
  by_cases h1 : op = 1
  · have := sleb_ten hw
    simp [h1]; omega
  · cases h2 : opHas op
    · simp [h1]
    · have := leb_ten (hlo h1) hw
      simp [h1]; omega
/-- the bytes behind k instructions -/
def bodyAt (ts : List Ins) (k : Nat) : ByteArray := strOfNums (leb ts.length ++ (ts.take k).flatMap insBs)
theorem bodyAt_0 (ts : List Ins) : bodyAt ts 0 = strOfNums (leb ts.length) := by simp [bodyAt]
theorem bodyAt_succ {ts : List Ins} {k : Nat} {op a : Int} (h : ts[k]? = some ⟨op, a⟩) : bodyAt ts (k + 1) = bodyAt ts k ++ strOfNums (insBy op a) := by
  rw [bodyAt, bodyAt, strNums_app, List.take_add_one, h]
  simp [insBs]
theorem bodyAt_all {ts : List Ins} {k : Nat} (h : ts.length ≤ k) : bodyAt ts k = strOfNums (bodyBs ts) := by rw [bodyAt, bodyBs, List.take_of_length_le h]
theorem len_wf {n : Nat} (h : n ≤ 9223372036854775807) : (Lit.int .i64 n).wf = true := by
  have : -9223372036854775808 ≤ (n : Int) ∧ (n : Int) ≤ 9223372036854775807 := ⟨by omega, by omega⟩
  simpa [Lit.wf, IntKind.min, IntKind.max, IntKind.signed, IntKind.bits] using this

theorem BodyBytes1_enter (a : Array Value) (W : World) : Sem.run Try.prog (callFunc 38 a) W = .ok (.enter 38 a) W := by kernel_rfl
theorem BodyBytes1_any (t : Ins) {B : Nat} {cs : List Value} {w : World} (h : RepC w B (Ins.pd t) cs) :
    Calls Try.prog 38 (#[.agg cs.toArray] ++ #[]) w fun e w' => e = .returned (.bool (insBad t)) ∧ Below w.heap.size w w' := by
  obtain ⟨op, a⟩ := t
  obtain rfl := Ins.open_ h
  clear h
  obtain ⟨R, hR⟩ : ∃ R : Bool, R = insBad ⟨op, a⟩ := ⟨_, rfl⟩
  rw [← hR]
  have HR : Hid ((!insOk op a) = R) := hR.symm
  clear hR
  go_enter Try.func38, Try.ntmps38
  go_wp2_with fail
  obtain ⟨w0, hw0⟩ : ∃ W, W = w.alloc (.cells #[.int .i64 op, .int .i64 a] 25) := ⟨_, rfl⟩
  rw [← hw0]
  have bA : Blk w0 w.heap.size 25 #[.int .i64 op, .int .i64 a] := by rw [hw0]; exact Blk.new w _ _
  have hB0 : Below w.heap.size w w0 := by rw [hw0]; exact (Below.refl _ _).alloc (Nat.le_refl _) _
  clear hw0
  refine (implInsOk_any op a _).mono ?_
  rintro e w1 ⟨rfl, hb1⟩
  go_wp2_with fail
  go_ret
  exact ⟨ret_bool HR.out, hB0.trans (hb1.mono hB0.size)⟩
theorem sizeIns_any (A : Option Addr) (n c : Nat) (hn : n ≤ 9223372036854775807) (w : World) : Calls Try.prog 40 #[.slice A n c] w fun e w' => e = .returned (.int .i64 n) ∧ w = w' := by
  go_enter Try.func40, Try.ntmps40
  go_wp2_with fail
  go_ret
  exact ⟨rfl, rfl⟩

set_option maxHeartbeats 1600000 in
theorem specBodyBytes_ok (ts : List Ins) (hwf : (PD.row 2 (ts.flatMap Ins.pd)).wf) (hsz : (PD.row 2 (ts.flatMap Ins.pd)).sz ≤ 1048576) : FnRV 15 (.row 2 (ts.flatMap Ins.pd)) (.string (bodyS ts)) := by
  intro B v w hB h
  obtain ⟨A, n, c, rfl, hnl, hm, hat⟩ := rep_row Ins.pd_length (by decide) h
  unfold maxLen at hm
  have HN := Lib.hid hnl
  clear h hnl hwf hsz
  by_cases h1 : n ≤ 120
  case neg =>
    have HF := Lib.hid (bodyS_many (ts := ts) (by have := HN.out; omega))
    go_enter Try.func15, Try.ntmps15
    go_wp2_with fail
    go_ret
    exact ⟨ret_str HF.out.symm, Below.refl _ _⟩
  have H0 := Lib.hid (bodyAt_0 ts)
  have hten : (strOfNums (leb n)).size ≤ 10 := by rw [strOfNums_size]; exact leb_ten (Int.natCast_nonneg n) (len_wf (by omega))
  go_enter Try.func15, Try.ntmps15
  go_wp2_with fail
  refine (specPutLeb_any n (Int.natCast_nonneg n) (len_wf (by omega)) _).mono ?_
  rintro e w1 ⟨rfl, hb1⟩
  have kc := conv_rule w1 (strOfNums (leb n))
  have hx0 : RowX w.heap.size (.slice (some ⟨w1.heap.size, 0, none⟩) (strOfNums (leb n)).size (grownCap w1 (strOfNums (leb n)).size 0 5)) (strOfNums (leb n)) (Lib.bytesWorld w1 5 (strOfNums (leb n))) := RowX.conv hb1.size (by unfold maxLen; omega)
  have hB2 : Below w.heap.size w (Lib.bytesWorld w1 5 (strOfNums (leb n))) := hb1.trans (conv_below hb1.size)
  go_wp2_with fail
  go_loopw [3, 4] (fun u i wr => ∃ (k : Nat) (s : ByteArray), k ≤ n ∧ i = .int .i64 k ∧ s.size ≤ 10 + 11 * k ∧ Hid (s = bodyAt ts k) ∧ Hid (∀ (j : Nat) (t : Ins), j < k → ts[j]? = some t → insBad t = false) ∧ RowX w.heap.size u s wr ∧ Below w.heap.size w wr) (fun _ i _ => n - (intOf i).toNat)
  case atStart => exact ⟨0, _, Nat.zero_le _, rfl, by omega, Lib.hid (by rw [H0.out, ← HN.out]), Lib.hid fun j t h => absurd h (by omega), hx0, hB2⟩
  case round =>
    clear kc hx0 hB2
    obtain ⟨k, s, hk, rfl, hss, HS, HP, hx, hbr⟩ := hrel
    obtain ⟨uA, uC, rfl, huA⟩ := hx.form
    have hsz := hbr.size
    by_cases hlt : k < n
    · obtain ⟨g, off, rfl, hg, hcell⟩ := hat (by omega)
      obtain ⟨t, hx, hmem⟩ := at_lt HN.out hlt
      obtain ⟨op, a⟩ := t
      have c_op : wr.cell? ⟨g, off + k * 2, none⟩ = some (.int .i64 op) := cell_lit hbr (by omega) (hcell k 0 _ _ hx (by rw [Ins.pd_mk]; rfl))
      have c_a : wr.cell? ⟨g, off + k * 2 + 1, none⟩ = some (.int .i64 a) := cell_lit hbr (by omega) (hcell k 1 _ _ hx (by rw [Ins.pd_mk]; rfl))
      have HX := Lib.hid hx
      have HM := Lib.hid hmem
      clear hx hmem
      go_wp2_with fail
      refine (specInsOk_any op a _).mono ?_
      rintro e w2 ⟨rfl, hb2⟩
      have hB2 := hbr.trans (hb2.mono hbr.size)
      have hx2 := hx.step hb2
      cases hok : insOk op a
      · have HF := Lib.hid (bodyS_bad (any_hit HX.out (by rw [insBad, hok]; rfl)))
        go_wp2_with fail
        go_ret
        exact ⟨ret_str HF.out.symm, hB2⟩
      · have HQ := Lib.hid (pre_next HP.out HX.out (by rw [insBad, hok]; rfl))
        have H2 := Lib.hid (bodyAt_succ HX.out)
        have hwa := ins_wf hok
        have hl := insBy_len hok
        have hz : (strOfNums (insBy op a)).size ≤ 11 := by rw [strOfNums_size]; exact hl
        have d_op : w2.cell? ⟨g, off + k * 2, none⟩ = some (.int .i64 op) := cell_lit hB2 (by omega) (hcell k 0 _ _ HX.out (by rw [Ins.pd_mk]; rfl))
        have d_a : w2.cell? ⟨g, off + k * 2 + 1, none⟩ = some (.int .i64 a) := cell_lit hB2 (by omega) (hcell k 1 _ _ HX.out (by rw [Ins.pd_mk]; rfl))
        clear hx hok hl hcell c_op c_a
        go_wp2_with fail
        refine (specInsBytes_any op a hwa _).mono ?_
        rintro e w3 ⟨rfl, hb3⟩
        have hB3 := hB2.trans (hb3.mono hB2.size)
        have hx3 := hx2.step hb3
        clear hx2
        go_wp2_with (at_builtin; refine wpList_append_x rfl _ _ rfl hx3 rfl rfl (by omega) hB3.size ?_; intro v' w4 hx4 hgrow)
        have hB4 := hB3.grown hgrow hB3.size (fun g hg => by simp [Value.ownBlock] at hg; omega)
        go_roundw
        case rel => exact ⟨k + 1, _, by omega, by go_num, by rw [ByteArray.size_append]; omega, Lib.hid (by rw [H2.out, HS.out]), HQ, hx4, hB4⟩
        case measure => simp [intOf]; omega
    · have hkn : k = n := by omega
      have HF := Lib.hid (bodyS_all (by have := HN.out; omega) (any_none (by have := HN.out; omega) HP.out))
      have HT := Lib.hid (bodyAt_all (ts := ts) (k := k) (by have := HN.out; omega))
      have kst := hx.str
      subst hkn
      go_wp2_with fail
      go_ret
      exact ⟨ret_str (by rw [HF.out, HS.out, HT.out]), hbr⟩
set_option maxHeartbeats 1600000 in
theorem implBodyBytes_ok (ts : List Ins) (hwf : (PD.row 2 (ts.flatMap Ins.pd)).wf) (hsz : (PD.row 2 (ts.flatMap Ins.pd)).sz ≤ 1048576) : FnRV 17 (.row 2 (ts.flatMap Ins.pd)) (.string (bodyS ts)) := by
  intro B v w hB h
  have R0 := Lib.hid h
  obtain ⟨A, n, c, rfl, hnl, hm, hat⟩ := rep_row Ins.pd_length (by decide) h
  unfold maxLen at hm
  have HN := Lib.hid hnl
  clear h hnl hwf hsz
  by_cases h1 : n ≤ 120
  case neg =>
    have HF := Lib.hid (bodyS_many (ts := ts) (by have := HN.out; omega))
    go_enter Try.func17, Try.ntmps17
    go_wp2_with fail
    go_ret
    exact ⟨ret_str HF.out.symm, Below.refl _ _⟩
  have H0 := Lib.hid (bodyAt_0 ts)
  have hten : (strOfNums (leb n)).size ≤ 10 := by rw [strOfNums_size]; exact leb_ten (Int.natCast_nonneg n) (len_wf (by omega))
  go_enter Try.func17, Try.ntmps17
  go_wp2_with fail
  refine (hasInsS_any 38 #[] insBad hB R0.out BodyBytes1_enter (fun t ht cs W hW hr => BodyBytes1_any t hr)).mono ?_
  rintro e w1 ⟨rfl, hb1⟩
  cases hbad : ts.any insBad
  case true =>
    have HF := Lib.hid (bodyS_bad hbad)
    go_wp2_with fail
    go_ret
    exact ⟨ret_str HF.out.symm, hb1⟩
  have HF := Lib.hid (bodyS_all (by have := HN.out; omega) hbad)
  have HP := Lib.hid (fun (k : Nat) (t : Ins) (hx : ts[k]? = some t) => Bool.eq_false_iff.2 (fun hb => absurd (any_hit hx hb) (by rw [hbad]; simp)))
  clear hbad
  have hs1 := hb1.size
  go_wp2_with fail
  refine (sizeIns_any A n c (by omega) _).mono ?_
  rintro e w2 ⟨rfl, hw2⟩
  have bl2 : Bld w.heap.size w1.heap.size ⟨#[]⟩ _ := Bld.new w1 hb1.size
  have hB2 : Below w.heap.size w (w1.alloc (.cells #[.pointer none, .slice none 0 0] 56)) := hb1.alloc hb1.size _
  rw [hw2] at bl2 hB2
  clear hw2
  go_wp2_with fail
  refine (implPutLeb_any n (Int.natCast_nonneg n) (len_wf (by omega)) _).mono ?_
  rintro e w3 ⟨rfl, hb3⟩
  have hB3 := hB2.trans (hb3.mono hB2.size)
  replace bl2 := bl2.step hb3
  go_wp2_with fail
  refine (bld_write bl2 (by have : (ByteArray.mk #[]).size = 0 := rfl; omega) hB3.size).mono ?_
  rintro e w4 ⟨rfl, bl4, hb4⟩
  have hB4 := hB3.trans hb4
  clear bl2
  go_wp2_with fail
  go_loopw [19] (fun i wr => ∃ (k : Nat) (s : ByteArray), k ≤ n ∧ i = .int .i64 k ∧ s.size ≤ 10 + 11 * k ∧ Hid (s = bodyAt ts k) ∧ Bld w.heap.size w1.heap.size s wr ∧ Below w.heap.size w wr) (fun i _ => n - (intOf i).toNat)
  case atStart => exact ⟨0, _, Nat.zero_le _, rfl, by rw [ByteArray.size_append]; have : (ByteArray.mk #[]).size = 0 := rfl; omega, Lib.hid (by rw [H0.out, ← HN.out]; exact ByteArray.empty_append), bl4, hB4⟩
  case round =>
    clear bl4
    obtain ⟨k, s, hk, rfl, hss, HS, hbl, hbr⟩ := hrel
    have hsz := hbr.size
    by_cases hlt : k < n
    · obtain ⟨g, off, rfl, hg, hcell⟩ := hat (by omega)
      obtain ⟨t, hx, hmem⟩ := at_lt HN.out hlt
      obtain ⟨op, a⟩ := t
      have c_op : wr.cell? ⟨g, off + k * 2, none⟩ = some (.int .i64 op) := cell_lit hbr (by omega) (hcell k 0 _ _ hx (by rw [Ins.pd_mk]; rfl))
      have c_a : wr.cell? ⟨g, off + k * 2 + 1, none⟩ = some (.int .i64 a) := cell_lit hbr (by omega) (hcell k 1 _ _ hx (by rw [Ins.pd_mk]; rfl))
      have HX := Lib.hid hx
      have HM := Lib.hid hmem
      clear hx hmem
      clear hcell
      have hok : insOk op a = true := by have := HP.out k _ HX.out; simpa [insBad] using this
      have H2 := Lib.hid (bodyAt_succ HX.out)
      have hwa := ins_wf hok
      have hl := insBy_len hok
      have hz : (strOfNums (insBy op a)).size ≤ 11 := by rw [strOfNums_size]; exact hl
      have HOK := Lib.hid hok
      clear hok hl
      go_wp2_with fail
      obtain ⟨w5, hw5⟩ : ∃ W, W = wr.alloc (.cells #[.int .i64 op, .int .i64 a] 25) := ⟨_, rfl⟩
      rw [← hw5]
      have b5 : Blk w5 wr.heap.size 25 #[.int .i64 op, .int .i64 a] := by rw [hw5]; exact Blk.new wr _ _
      have hb5 : Below wr.heap.size wr w5 := by rw [hw5]; exact (Below.refl _ _).alloc (Nat.le_refl _) _
      clear hw5
      have hB5 := hbr.trans (hb5.mono hbr.size)
      have bl5 := hbl.step hb5
      clear hbl
      have a0 : w5.cell? ⟨wr.heap.size, 0, none⟩ = some (.int .i64 op) := b5.cell 0
      have a1 : w5.cell? ⟨wr.heap.size, 1, none⟩ = some (.int .i64 a) := b5.cell 1
      go_wp2_with fail
      refine (implBytes_any op a hwa HOK.out _).mono ?_
      rintro e w6 ⟨rfl, hb6⟩
      have hB6 := hB5.trans (hb6.mono hB5.size)
      replace bl5 := bl5.step hb6
      go_wp2_with fail
      refine (bld_write bl5 (by omega) hB6.size).mono ?_
      rintro e w7 ⟨rfl, bl7, hb7⟩
      have hB7 := hB6.trans hb7
      clear bl5
      go_wp2_with fail
      go_roundw
      case rel => exact ⟨k + 1, _, by omega, by go_num, by rw [ByteArray.size_append]; omega, Lib.hid (by rw [H2.out, HS.out]), bl7, hB7⟩
      case measure => simp [intOf]; omega
    · have hkn : k = n := by omega
      have HT := Lib.hid (bodyAt_all (ts := ts) (k := k) (by have := HN.out; omega))
      subst hkn
      go_wp2_with fail
      refine (bld_string hbl hbr.size).mono ?_
      rintro e w5 ⟨rfl, hb5⟩
      go_wp2_with fail
      go_ret
      exact ⟨ret_str (by rw [HF.out, HS.out, HT.out]), hbr.trans hb5⟩
end Go.Proofs.Ytokiagkoehjekaa

