/-
  The bytes that moves copy: spec.CopiedBytes, impl.CopiedBytes.
-/
import Derived.Test.YthkmofeclffifaaFam
import Derived.Test.YthkmofeclffifaaTy
import Derived.Test.YthkmofeclffifaaIdx
import Derived.Test.YthkmofeclffifaaSmall
namespace Go.Proofs.Ythkmofeclffifaa
open Go.RowKit
set_option linter.unusedVariables false
set_option linter.unusedSimpArgs false
set_option linter.unnecessarySimpa false

def mvBad : Move → Bool
  | .mk _ _ size _ _ _ _ _ => !inB size 0 4096
def mvN : Move → Int
  | .mk kind _ size _ _ _ _ _ => if kind = 1 then size else 0
def mvSum : List Move → Int
  | [] => 0
  | t :: r => mvN t + mvSum r
theorem mvSum_append : ∀ (xs ys : List Move), mvSum (xs ++ ys) = mvSum xs + mvSum ys
  | [], ys => by simp [mvSum]
  | x :: xs, ys => by rw [List.cons_append, mvSum, mvSum, mvSum_append xs ys]; omega
theorem mvSum_succ {ts : List Move} {k : Nat} {t : Move} (h : ts[k]? = some t) : mvSum (ts.take (k + 1)) = mvSum (ts.take k) + mvN t := by
  rw [List.take_add_one, h, mvSum_append]
  simp [mvSum]
def copied (ts : List Move) : Int := if ts.length ≤ 1000 ∧ ts.any mvBad = false then mvSum ts else 0
theorem copied_many {ts : List Move} (h : ¬ ts.length ≤ 1000) : copied ts = 0 := if_neg fun e => h e.1
theorem copied_bad {ts : List Move} {k : Nat} {t : Move} (hx : ts[k]? = some t) (hb : mvBad t = true) : copied ts = 0 := if_neg fun e => by rw [any_hit hx hb] at e; exact absurd e.2 (by simp)
theorem copied_all {ts : List Move} {n : Nat} (h1 : ts.length ≤ 1000) (hn : ts.length ≤ n) (hp : ∀ (j : Nat) (t : Move), j < n → ts[j]? = some t → mvBad t = false) : copied ts = mvSum ts := if_pos ⟨h1, any_none hn hp⟩

set_option maxHeartbeats 1600000 in
theorem specCopiedBytes_ok (ts : List Move) (hwf : (PD.row 8 (ts.flatMap Move.pd)).wf) (hsz : (PD.row 8 (ts.flatMap Move.pd)).sz ≤ 1048576) : FnRV 5 (.row 8 (ts.flatMap Move.pd)) (.int .i64 (copied ts)) := by
  intro B v w hB h
  obtain ⟨A, n, c, rfl, hnl, hm, hat⟩ := rep_row Move.pd_length (by decide) h
  unfold maxLen at hm
  have HN := Lib.hid hnl
  clear h hnl hwf hsz
  go_enter Try.func5, Try.ntmps5
  go_wp2_with fail
  go_loopw [3, 4] (fun s i wr => ∃ (k : Nat) (S : Int), k ≤ n ∧ s = .int .i64 S ∧ i = .int .i64 k ∧ (n ≤ 1000 ∨ k = 0) ∧ 0 ≤ S ∧ S ≤ 4096 * k ∧ Hid (S = mvSum (ts.take k)) ∧ Hid (∀ (j : Nat) (t : Move), j < k → ts[j]? = some t → mvBad t = false) ∧ Below w.heap.size w wr) (fun _ i _ => n - (intOf i).toNat)
  case atStart => exact ⟨0, 0, Nat.zero_le _, rfl, rfl, .inr rfl, by omega, by omega, Lib.hid rfl, Lib.hid fun j t h => absurd h (by omega), Below.refl _ _⟩
  case round =>
    obtain ⟨k, S, hk, rfl, rfl, hk0, hS0, hS1, HS, HP, hbr⟩ := hrel
    have hsz := hbr.size
    by_cases h1 : n ≤ 1000
    · clear hk0
      by_cases hlt : k < n
      · obtain ⟨g, off, rfl, hg, hcell⟩ := hat (by omega)
        obtain ⟨t, hx, hmem⟩ := at_lt HN.out hlt
        obtain ⟨kind, at_, size, align, typ, most, name, kids⟩ := t
        have c_kind : wr.cell? ⟨g, off + k * 8, none⟩ = some (.int .i64 kind) := cell_lit hbr (by omega) (hcell k 0 _ _ hx (by rw [Move.pd_mk]; rfl))
        have c_size : wr.cell? ⟨g, off + k * 8 + 2, none⟩ = some (.int .i64 size) := cell_lit hbr (by omega) (hcell k 2 _ _ hx (by rw [Move.pd_mk]; rfl))
        have HX := Lib.hid hx
        have HM := Lib.hid hmem
        clear hx hmem
        clear hcell
        have h2 := mvSum_succ HX.out
        rw [← HS.out, mvN] at h2
        cases hin : inB size 0 4096
        · have HF := Lib.hid (copied_bad HX.out (by rw [mvBad, hin]; rfl))
          clear h2
          go_wp2_with fail
          refine (l00In_any _ _ _ _).mono ?_
          rintro e w1 ⟨rfl, rfl⟩
          rw [hin]
          go_wp2_with fail
          go_ret
          exact ⟨ret_int HF.out.symm, hbr⟩
        · have HQ := Lib.hid (pre_next HP.out HX.out (by rw [mvBad, hin]; rfl))
          have hb := inB_iff.1 hin
          by_cases hk1 : kind = 1
          · rw [if_pos hk1] at h2
            have H2 := Lib.hid h2
            clear h2
            subst hk1
            go_wp2_with fail
            refine (l00In_any _ _ _ _).mono ?_
            rintro e w1 ⟨rfl, rfl⟩
            rw [hin]
            have hw : IntKind.i64.wrap (S + size) = S + size := by rw [IntWalk.i64_in _ (by omega)]
            go_wp2_with fail
            go_roundw
            case rel => exact ⟨k + 1, S + size, by omega, by go_num, by go_num, .inl h1, by omega, by push_cast; omega, Lib.hid H2.out.symm, HQ, hbr⟩
            case measure => simp [intOf]; omega
          · rw [if_neg hk1, Int.add_zero] at h2
            have H2 := Lib.hid h2
            have hke : (kind == 1) = false := by simpa using hk1
            clear h2
            go_wp2_with fail
            refine (l00In_any _ _ _ _).mono ?_
            rintro e w1 ⟨rfl, rfl⟩
            rw [hin]
            go_wp2_with fail
            go_roundw
            case rel => exact ⟨k + 1, S, by omega, by go_num, by go_num, .inl h1, by omega, by push_cast; omega, Lib.hid H2.out.symm, HQ, hbr⟩
            case measure => simp [intOf]; omega
      · have hkn : k = n := by omega
        have HF := Lib.hid (copied_all (by have := HN.out; omega) (by have := HN.out; omega) HP.out)
        have HT : Hid (ts.take k = ts) := List.take_of_length_le (by have := HN.out; omega)
        subst hkn
        go_wp2_with fail
        go_ret
        exact ⟨ret_int (by rw [HF.out, HS.out, HT.out]), hbr⟩
    · have hk2 : k = 0 := by omega
      subst hk2
      have HF := Lib.hid (copied_many (ts := ts) (by have := HN.out; omega))
      have hS2 : S = 0 := by omega
      subst hS2
      clear hk0 hS0 hS1
      go_wp2_with fail
      go_ret
      exact ⟨ret_int HF.out.symm, hbr⟩
set_option maxHeartbeats 1600000 in
theorem implCopiedBytes_ok (ts : List Move) (hwf : (PD.row 8 (ts.flatMap Move.pd)).wf) (hsz : (PD.row 8 (ts.flatMap Move.pd)).sz ≤ 1048576) : FnRV 7 (.row 8 (ts.flatMap Move.pd)) (.int .i64 (copied ts)) := by
  intro B v w hB h
  obtain ⟨A, n, c, rfl, hnl, hm, hat⟩ := rep_row Move.pd_length (by decide) h
  unfold maxLen at hm
  have HN := Lib.hid hnl
  clear h hnl hwf hsz
  by_cases h1 : n ≤ 1000
  · go_enter Try.func7, Try.ntmps7
    go_wp2_with fail
    go_loopw [3, 11] (fun s i wr => ∃ (k : Nat) (S : Int), k ≤ n ∧ s = .int .i64 S ∧ i = .int .i64 k ∧ 0 ≤ S ∧ S ≤ 4096 * k ∧ Hid (S = mvSum (ts.take k)) ∧ Hid (∀ (j : Nat) (t : Move), j < k → ts[j]? = some t → mvBad t = false) ∧ Below w.heap.size w wr) (fun _ i _ => n - (intOf i).toNat)
    case atStart => exact ⟨0, 0, Nat.zero_le _, rfl, rfl, by omega, by omega, Lib.hid rfl, Lib.hid fun j t h => absurd h (by omega), Below.refl _ _⟩
    case round =>
      obtain ⟨k, S, hk, rfl, rfl, hS0, hS1, HS, HP, hbr⟩ := hrel
      have hsz := hbr.size
      by_cases hlt : k < n
      · obtain ⟨g, off, rfl, hg, hcell⟩ := hat (by omega)
        obtain ⟨t, hx, hmem⟩ := at_lt HN.out hlt
        obtain ⟨kind, at_, size, align, typ, most, name, kids⟩ := t
        have c_kind : wr.cell? ⟨g, off + k * 8, none⟩ = some (.int .i64 kind) := cell_lit hbr (by omega) (hcell k 0 _ _ hx (by rw [Move.pd_mk]; rfl))
        have c_at_ : wr.cell? ⟨g, off + k * 8 + 1, none⟩ = some (.int .i64 at_) := cell_lit hbr (by omega) (hcell k 1 _ _ hx (by rw [Move.pd_mk]; rfl))
        have c_size : wr.cell? ⟨g, off + k * 8 + 2, none⟩ = some (.int .i64 size) := cell_lit hbr (by omega) (hcell k 2 _ _ hx (by rw [Move.pd_mk]; rfl))
        have c_align : wr.cell? ⟨g, off + k * 8 + 3, none⟩ = some (.int .i64 align) := cell_lit hbr (by omega) (hcell k 3 _ _ hx (by rw [Move.pd_mk]; rfl))
        have c_typ : wr.cell? ⟨g, off + k * 8 + 4, none⟩ = some (.int .i64 typ) := cell_lit hbr (by omega) (hcell k 4 _ _ hx (by rw [Move.pd_mk]; rfl))
        have c_most : wr.cell? ⟨g, off + k * 8 + 5, none⟩ = some (.int .i64 most) := cell_lit hbr (by omega) (hcell k 5 _ _ hx (by rw [Move.pd_mk]; rfl))
        have c_name : wr.cell? ⟨g, off + k * 8 + 6, none⟩ = some (.string name) := cell_lit hbr (by omega) (hcell k 6 _ _ hx (by rw [Move.pd_mk]; rfl))
        obtain ⟨kidsV, c_kids, r_kids⟩ : ∃ u, wr.cell? ⟨g, off + k * 8 + 7, none⟩ = some u ∧ Rep wr B (.row 1 (kids.flatMap rowCMoveS)) u := cell_rep hbr (by omega) hB (hcell k 7 _ _ hx (by rw [Move.pd_mk]; rfl))
        have R_kids := Lib.hid r_kids
        clear r_kids
        obtain ⟨kidsA, kidsN, kidsC, rfl⟩ := R_kids.out.form
        have HX := Lib.hid hx
        have HM := Lib.hid hmem
        clear hx hmem
        clear hcell
        have h2 := mvSum_succ HX.out
        rw [← HS.out, mvN] at h2
        have hmb : mvBad ⟨kind, at_, size, align, typ, most, name, kids⟩ = !inB size 0 4096 := rfl
        have H2 := Lib.hid h2
        have HMB := Lib.hid hmb
        clear h2 hmb
        go_wp2_with fail
        obtain ⟨w1, hw1⟩ : ∃ W, W = wr.alloc (.cells #[.int .i64 kind, .int .i64 at_, .int .i64 size, .int .i64 align, .int .i64 typ, .int .i64 most, .string name, .slice kidsA kidsN kidsC] 36) := ⟨_, rfl⟩
        rw [← hw1]
        have bE : Blk w1 wr.heap.size 36 #[.int .i64 kind, .int .i64 at_, .int .i64 size, .int .i64 align, .int .i64 typ, .int .i64 most, .string name, .slice kidsA kidsN kidsC] := by rw [hw1]; exact Blk.new wr _ _
        have hb1 : Below wr.heap.size wr w1 := by rw [hw1]; exact (Below.refl _ _).alloc (Nat.le_refl _) _
        clear hw1
        have hB1 := hbr.trans (hb1.mono hbr.size)
        refine (within_any _ _ _ _).mono ?_
        rintro e w2 ⟨rfl, rfl⟩
        cases hin : inB size 0 4096
        · have HF := Lib.hid (copied_bad HX.out (by rw [HMB.out, hin]; rfl))
          go_wp2_with fail
          go_ret
          exact ⟨ret_int HF.out.symm, hB1⟩
        · have HQ := Lib.hid (pre_next HP.out HX.out (by rw [HMB.out, hin]; rfl))
          have hb := inB_iff.1 hin
          have e_0 : w1.cell? ⟨wr.heap.size, 0, none⟩ = some (.int .i64 kind) := bE.cell 0
          have e_2 : w1.cell? ⟨wr.heap.size, 2, none⟩ = some (.int .i64 size) := bE.cell 2
          clear bE
          by_cases hk1 : kind = 1
          · have h2 := H2.out
            rw [if_pos hk1] at h2
            have H3 := Lib.hid h2
            have hw : IntKind.i64.wrap (S + size) = S + size := by rw [IntWalk.i64_in _ (by omega)]
            clear h2
            subst hk1
            go_wp2_with fail
            go_roundw
            case rel => exact ⟨k + 1, S + size, by omega, by go_num, by go_num, by omega, by push_cast; omega, Lib.hid H3.out.symm, HQ, hB1⟩
            case measure => simp [intOf]; omega
          · have h2 := H2.out
            rw [if_neg hk1, Int.add_zero] at h2
            have H3 := Lib.hid h2
            have hke : (kind == 1) = false := by simpa using hk1
            clear h2
            go_wp2_with fail
            go_roundw
            case rel => exact ⟨k + 1, S, by omega, by go_num, by go_num, by omega, by push_cast; omega, Lib.hid H3.out.symm, HQ, hB1⟩
            case measure => simp [intOf]; omega
      · have hkn : k = n := by omega
        have HF := Lib.hid (copied_all (by have := HN.out; omega) (by have := HN.out; omega) HP.out)
        have HT : Hid (ts.take k = ts) := List.take_of_length_le (by have := HN.out; omega)
        subst hkn
        go_wp2_with fail
        go_ret
        exact ⟨ret_int (by rw [HF.out, HS.out, HT.out]), hbr⟩
  · have HF := Lib.hid (copied_many (ts := ts) (by have := HN.out; omega))
    go_enter Try.func7, Try.ntmps7
    go_wp2_with fail
    go_ret
    exact ⟨ret_int HF.out.symm, Below.refl _ _⟩
end Go.Proofs.Ythkmofeclffifaa

