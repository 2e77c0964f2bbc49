/-
  The bytes of sections: spec.l17All, spec.SectionBytes, impl.SectionBytes.
-/
import Derived.Test.YtlkfaednolmfkaaFam
import Derived.Test.YtlkfaednolmfkaaTy
import Derived.Test.YtlkfaednolmfkaaIdx
import Derived.Test.YtlkfaednolmfkaaSec
import Derived.Test.YtlkfaednolmfkaaRowX
import Derived.Test.YtlkfaednolmfkaaBld
namespace Go.Proofs.Ytlkfaednolmfkaa
open Go.RowKit
set_option linter.unusedVariables false
set_option linter.unusedSimpArgs false
set_option linter.unnecessarySimpa false
set_option maxRecDepth 16000

theorem RowX.convc {B : Nat} {w : World} {s : ByteArray} {C : Array Value} {n : Nat} (hB : B ≤ w.heap.size) (hn : s.size = n) (hC : C.toList = Lib.strCells s) (hm : n ≤ maxLen) :
    RowX B (.slice (some ⟨w.heap.size, 0, none⟩) n n) s (w.alloc (.cells C 5 (C.size, C.size + 1))) := by
  subst hn
  have hl : C.size = s.size := by rw [← Array.length_toList, hC, Lib.strCells_length]
  refine ⟨_, _, _, _, rfl, hB, heap_alloc_new w _, .inr (Nat.le_refl _), Nat.le_refl _, hm, hl, ?_⟩
  rw [hC, List.take_of_length_le (by rw [Lib.strCells_length]; exact Nat.le_refl _)]
def secHead : ByteArray := ⟨#[0, 99, 111, 114, 1]⟩
def secsAt (ts : List Section) (k : Nat) : ByteArray := (ts.take k).foldl (fun s t => s ++ secOne t) secHead
theorem secsAt_0 (ts : List Section) : secsAt ts 0 = secHead := by simp [secsAt]
theorem secsAt_succ {ts : List Section} {k : Nat} {t : Section} (h : ts[k]? = some t) : secsAt ts (k + 1) = secsAt ts k ++ secOne t := by
  rw [secsAt, secsAt, List.take_add_one, h]
  simp [List.foldl_append]
theorem secsAt_mono (ts : List Section) : ∀ (j k : Nat), (secsAt ts k).size ≤ (secsAt ts (k + j)).size
  | 0, k => Nat.le_refl _
  | j + 1, k => by
    refine Nat.le_trans (secsAt_mono ts j k) ?_
    cases h : ts[k + j]? with
    | none => rw [secsAt, secsAt, ← Nat.add_assoc, List.take_add_one, h]; simp
    | some t => rw [← Nat.add_assoc, secsAt_succ h, ByteArray.size_append]; omega
theorem secsAt_le {ts : List Section} {k n : Nat} (h : k ≤ n) : (secsAt ts k).size ≤ (secsAt ts n).size := by
  have := secsAt_mono ts (n - k) k
  rwa [Nat.add_sub_cancel' h] at this
def secFits : Section → Prop | .mk id name bytes => name.size ≤ 1048576 ∧ bytes.size ≤ 1048576
theorem sec_fits {ts : List Section} (h : (PD.row 3 (ts.flatMap Section.pd)).sz ≤ 1048576) {k : Nat} {id : Int} {name bytes : ByteArray} (hx : ts[k]? = some ⟨id, name, bytes⟩) : name.size ≤ 1048576 ∧ bytes.size ≤ 1048576 := by
  rw [sz_row Section.pd_length (by decide)] at h
  have := szL_get_le (f := Section.pd) hx
  rw [Section.pd_mk] at this
  simp only [PD.szL, PD.sz] at this
  omega
def secBad (t : Section) : Bool := !secB t
def secLong : Section → Bool | .mk id name bytes => decide (30000 < bytes.size)
def secsS (ts : List Section) : ByteArray := if ts.length ≤ 20 ∧ ts.any secBad = false ∧ (secsAt ts ts.length).size ≤ 30000 then secsAt ts ts.length else ⟨#[]⟩
theorem secsS_many {ts : List Section} (h : ¬ ts.length ≤ 20) : secsS ts = ⟨#[]⟩ := if_neg fun e => h e.1
theorem secsS_bad {ts : List Section} (h : ts.any secBad = true) : secsS ts = ⟨#[]⟩ := if_neg fun e => by rw [h] at e; exact absurd e.2.1 (by simp)
theorem secsS_long {ts : List Section} (h : 30000 < (secsAt ts ts.length).size) : secsS ts = ⟨#[]⟩ := if_neg fun e => by omega
theorem secsS_all {ts : List Section} (h1 : ts.length ≤ 20) (h2 : ts.any secBad = false) (h3 : (secsAt ts ts.length).size ≤ 30000) : secsS ts = secsAt ts ts.length := if_pos ⟨h1, h2, h3⟩
theorem secsS_at {ts : List Section} {k : Nat} {id : Int} {name bytes : ByteArray} (hx : ts[k]? = some ⟨id, name, bytes⟩) (h : 30000 < bytes.size) : secsS ts = ⟨#[]⟩ := by
  refine secsS_long ?_
  have h1 := secsAt_le (ts := ts) (k := k + 1) (n := ts.length) (by have := (List.getElem?_eq_some_iff.1 hx).1; omega)
  rw [secsAt_succ hx, ByteArray.size_append] at h1
  have := secOne_ge id name bytes
  omega
theorem secs_size {ts : List Section} (hz : (PD.row 3 (ts.flatMap Section.pd)).sz ≤ 1048576) : ∀ k : Nat, (secsAt ts k).size ≤ 5 + 2097180 * k
  | 0 => by rw [secsAt_0]; decide
  | k + 1 => by
    have ih := secs_size hz k
    cases h : ts[k]? with
    | none => rw [secsAt, List.take_add_one, h, Option.toList, List.append_nil, ← secsAt]; omega
    | some t =>
      obtain ⟨id, name, bytes⟩ := t
      obtain ⟨h1, h2⟩ := sec_fits hz h
      rw [secsAt_succ h, ByteArray.size_append]
      have := secOne_size (id := id) h1 h2
      omega

set_option maxHeartbeats 1600000 in
theorem specAll_any (ts : List Section) (h20 : ts.length ≤ 20) (hz : (PD.row 3 (ts.flatMap Section.pd)).sz ≤ 1048576) (hok : ts.any secBad = false) {B : Nat} {v : Value} {w : World} (hB : B ≤ w.heap.size) (h : Rep w B (.row 3 (ts.flatMap Section.pd)) v) :
    Calls Try.prog 53 #[v] w fun e w' => e = .returned (.string (secsAt ts ts.length)) ∧ Below w.heap.size w w' := by
  obtain ⟨A, n, c, rfl, hnl, hm, hat⟩ := rep_row Section.pd_length (by decide) h
  unfold maxLen at hm
  have h20' : n ≤ 20 := by omega
  have HN := Lib.hid hnl
  have H0 := Lib.hid (secsAt_0 ts)
  have HZ := Lib.hid hz
  have HP := Lib.hid (fun (k : Nat) (t : Section) (hx : ts[k]? = some t) => Bool.eq_false_iff.2 (fun hb => absurd (any_hit hx hb) (by rw [hok]; simp)))
  clear h hnl hz hok h20
  have kc := convc_rule w #[.int .u8 0, .int .u8 99, .int .u8 111, .int .u8 114, .int .u8 1] 5 5
  have hx0 : RowX w.heap.size (.slice (some ⟨w.heap.size, 0, none⟩) 5 5) secHead (w.alloc (.cells #[.int .u8 0, .int .u8 99, .int .u8 111, .int .u8 114, .int .u8 1] 5 (5, 6))) := RowX.convc (Nat.le_refl _) (by rfl) (by rfl) (by decide)
  have hB0 : Below w.heap.size w (w.alloc (.cells #[.int .u8 0, .int .u8 99, .int .u8 111, .int .u8 114, .int .u8 1] 5 (5, 6))) := (Below.refl _ _).alloc (Nat.le_refl _) _
  go_enter Try.func53, Try.ntmps53
  go_wp2_with fail
  go_loopw [3, 4] (fun u i wr => ∃ (k : Nat) (s : ByteArray), k ≤ n ∧ i = .int .i64 k ∧ s.size ≤ 5 + 2097180 * k ∧ Hid (s = secsAt ts k) ∧ RowX w.heap.size u s wr ∧ Below w.heap.size w wr) (fun _ i _ => n - (intOf i).toNat)
  case atStart => exact ⟨0, _, Nat.zero_le _, rfl, by decide, Lib.hid H0.out.symm, hx0, hB0⟩
  case round =>
    clear kc hx0 hB0
    obtain ⟨k, s, hk, rfl, hss, HS, hx, hbr⟩ := hrel
    obtain ⟨uA, uC, rfl, huA⟩ := hx.form
    have hsz := hbr.size
    by_cases hlt : k < n
    · obtain ⟨g, off, rfl, hg, hcell⟩ := hat (by omega)
      obtain ⟨t, hx, hmem⟩ := at_lt HN.out hlt
      obtain ⟨id, name, bytes⟩ := t
      have c_id : wr.cell? ⟨g, off + k * 3, none⟩ = some (.int .i64 id) := cell_lit hbr (by omega) (hcell k 0 _ _ hx (by rw [Section.pd_mk]; rfl))
      have c_name : wr.cell? ⟨g, off + k * 3 + 1, none⟩ = some (.string name) := cell_lit hbr (by omega) (hcell k 1 _ _ hx (by rw [Section.pd_mk]; rfl))
      have c_bytes : wr.cell? ⟨g, off + k * 3 + 2, none⟩ = some (.string bytes) := cell_lit hbr (by omega) (hcell k 2 _ _ hx (by rw [Section.pd_mk]; rfl))
      have HX := Lib.hid hx
      have HM := Lib.hid hmem
      clear hx hmem
      clear hcell
      obtain ⟨hz1, hz2⟩ := sec_fits HZ.out HX.out
      obtain ⟨hi0, hi4⟩ := secB_id (id := id) (name := name) (bytes := bytes) (by have := HP.out k _ HX.out; simpa [secBad] using this)
      have H2 := Lib.hid (secsAt_succ HX.out)
      have hone := secOne_size (id := id) hz1 hz2
      go_wp2_with fail
      refine (specOne_any id name bytes hi0 hi4 hz1 hz2 _).mono ?_
      rintro e w2 ⟨rfl, hb2⟩
      have hB2 := hbr.trans (hb2.mono hbr.size)
      have hx2 := hx.step hb2
      clear hx
      go_wp2_with (at_builtin; refine wpList_append_x rfl _ _ rfl hx2 rfl rfl (by omega) hB2.size ?_; intro v' w4 hx4 hgrow)
      have hB4 := hB2.grown hgrow hB2.size (fun g hg => by simp [Value.ownBlock] at hg; omega)
      go_roundw
      case rel => exact ⟨k + 1, _, by omega, by go_num, by rw [ByteArray.size_append]; omega, Lib.hid (by rw [H2.out, HS.out]), hx4, hB4⟩
      case measure => simp [intOf]; omega
    · have hkn : k = ts.length := by have := HN.out; omega
      have kst := hx.str
      go_wp2_with fail
      go_ret
      exact ⟨ret_str (by rw [HS.out, hkn]), hbr⟩
set_option maxHeartbeats 6400000 in
theorem implSectionBytes_any (ts : List Section) (hsz : (PD.row 3 (ts.flatMap Section.pd)).sz ≤ 1048576) : FnRV 55 (.row 3 (ts.flatMap Section.pd)) (.string (secsS ts)) := by
  intro B v w hB h
  have R0 := Lib.hid h
  obtain ⟨A, n, c, rfl, hnl, hm, hat⟩ := rep_row Section.pd_length (by decide) h
  unfold maxLen at hm
  have HN := Lib.hid hnl
  have HZ := Lib.hid hsz
  have H0 := Lib.hid (secsAt_0 ts)
  clear h hnl hsz
  by_cases h1 : n ≤ 20
  case neg =>
    have HF := Lib.hid (secsS_many (ts := ts) (by have := HN.out; omega))
    go_enter Try.func55, Try.ntmps55
    go_wp2_with fail
    go_ret
    exact ⟨ret_str HF.out.symm, Below.refl _ _⟩
  have bl0 : Bld w.heap.size w.heap.size ⟨#[]⟩ _ := Bld.new w (Nat.le_refl _)
  have hB0 : Below w.heap.size w (w.alloc (.cells #[.pointer none, .slice none 0 0] 88)) := (Below.refl _ _).alloc (Nat.le_refl _) _
  go_enter Try.func55, Try.ntmps55
  go_wp2_with fail
  refine (bld_write bl0 (by decide) hB0.size).mono ?_
  rintro e w1 ⟨rfl, bl1, hb1⟩
  have hB1 := hB0.trans hb1
  clear bl0 hB0
  go_wp2_with fail
  go_loopw [13] (fun i wr => ∃ (k : Nat) (s : ByteArray), k ≤ n ∧ i = .int .i64 k ∧ s.size ≤ 5 + 2097180 * k ∧ Hid (s = secsAt ts k) ∧ Hid (∀ (j : Nat) (t : Section), j < k → ts[j]? = some t → secBad t = false) ∧ Bld w.heap.size w.heap.size s wr ∧ Below w.heap.size w wr) (fun i _ => n - (intOf i).toNat)
  case atStart => exact ⟨0, _, Nat.zero_le _, rfl, by decide, Lib.hid (by rw [H0.out]; exact ByteArray.empty_append), Lib.hid fun j t h => absurd h (by omega), bl1, hB1⟩
  case round =>
    clear bl1
    obtain ⟨k, s, hk, rfl, hss, HS, HP, hbl, hbr⟩ := hrel
    have hsz := hbr.size
    by_cases hlt : k < n
    · obtain ⟨g, off, rfl, hg, hcell⟩ := hat (by omega)
      obtain ⟨t, hx, hmem⟩ := at_lt HN.out hlt
      obtain ⟨id, name, bytes⟩ := t
      have c_id : wr.cell? ⟨g, off + k * 3, none⟩ = some (.int .i64 id) := cell_lit hbr (by omega) (hcell k 0 _ _ hx (by rw [Section.pd_mk]; rfl))
      have c_name : wr.cell? ⟨g, off + k * 3 + 1, none⟩ = some (.string name) := cell_lit hbr (by omega) (hcell k 1 _ _ hx (by rw [Section.pd_mk]; rfl))
      have c_bytes : wr.cell? ⟨g, off + k * 3 + 2, none⟩ = some (.string bytes) := cell_lit hbr (by omega) (hcell k 2 _ _ hx (by rw [Section.pd_mk]; rfl))
      have HX := Lib.hid hx
      have HM := Lib.hid hmem
      clear hx hmem
      clear hcell
      obtain ⟨hz1, hz2⟩ := sec_fits HZ.out HX.out
      have hone := secOne_size (id := id) hz1 hz2
      have H2 := Lib.hid (secsAt_succ HX.out)
      go_wp2_with fail
      obtain ⟨w5, hw5⟩ : ∃ W, W = wr.alloc (.cells #[.int .i64 id, .string name, .string bytes] 64) := ⟨_, rfl⟩
      rw [← hw5]
      have b5 : Blk w5 wr.heap.size 64 #[.int .i64 id, .string name, .string bytes] := by rw [hw5]; exact Blk.new wr _ _
      have hb5 : Below wr.heap.size wr w5 := by rw [hw5]; exact (Below.refl _ _).alloc (Nat.le_refl _) _
      clear hw5
      have hB5 := hbr.trans (hb5.mono hbr.size)
      have bl5 := hbl.step hb5
      clear hbl
      have a_id : w5.cell? ⟨wr.heap.size, 0, none⟩ = some (.int .i64 id) := b5.cell 0
      have a_name : w5.cell? ⟨wr.heap.size, 1, none⟩ = some (.string name) := b5.cell 1
      have a_bytes : w5.cell? ⟨wr.heap.size, 2, none⟩ = some (.string bytes) := b5.cell 2
      go_wp2_with fail
      refine (sectionOk_any id name bytes (by unfold maxLen; omega) _).mono ?_
      rintro e w6 ⟨rfl, hb6⟩
      have hB6 := hB5.trans (hb6.mono hB5.size)
      replace bl5 := bl5.step hb6
      replace b5 := b5.step hb6
      clear a_id a_name a_bytes
      have a_id : w6.cell? ⟨wr.heap.size, 0, none⟩ = some (.int .i64 id) := b5.cell 0
      have a_name : w6.cell? ⟨wr.heap.size, 1, none⟩ = some (.string name) := b5.cell 1
      have a_bytes : w6.cell? ⟨wr.heap.size, 2, none⟩ = some (.string bytes) := b5.cell 2
      cases hok : secB ⟨id, name, bytes⟩
      · have HF := Lib.hid (secsS_bad (any_hit HX.out (by rw [secBad, hok]; rfl)))
        go_wp2_with fail
        go_ret
        exact ⟨ret_str HF.out.symm, hB6⟩
      have HQ := Lib.hid (pre_next HP.out HX.out (by rw [secBad, hok]; rfl))
      obtain ⟨hi0, hi4⟩ := secB_id hok
      clear hok
      have z2 := putB_size (s := name) (by omega)
      have z3 := putB_size (s := bytes) (by omega)
      have z4 := putB_size (s := putB name ++ bytes) (by rw [ByteArray.size_append]; omega)
      have z5 : (putB name ++ bytes).size = (putB name).size + bytes.size := ByteArray.size_append
      have z1 : (strOfNums [id]).size = 1 := strOfNums_size _
      by_cases hid0 : id = 0
      · subst hid0
        have HO : Hid (secOne ⟨0, name, bytes⟩ = strOfNums [0] ++ putB (putB name ++ bytes)) := Lib.hid rfl
        go_wp2_with fail
        refine (implPutBytes_any name (by omega) _).mono ?_
        rintro e w7 ⟨rfl, hb7⟩
        have hB7 := hB6.trans (hb7.mono hB6.size)
        replace bl5 := bl5.step hb7
        replace b5 := b5.step hb7
        clear a_id a_name a_bytes
        have a_id : w7.cell? ⟨wr.heap.size, 0, none⟩ = some (.int .i64 0) := b5.cell 0
        go_wp2_with fail
        refine (implFix_any 0 (by omega) (by omega) _).mono ?_
        rintro e w8 ⟨rfl, hb8⟩
        have hB8 := hB7.trans (hb8.mono hB7.size)
        replace bl5 := bl5.step hb8
        go_wp2_with fail
        refine (implPutBytes_any (putB name ++ bytes) (by omega) _).mono ?_
        rintro e w9 ⟨rfl, hb9⟩
        have hB9 := hB8.trans (hb9.mono hB8.size)
        replace bl5 := bl5.step hb9
        have zz : (strOfNums [0] ++ putB (putB name ++ bytes)).size = 1 + (putB (putB name ++ bytes)).size := by rw [ByteArray.size_append, z1]
        go_wp2_with fail
        refine (bld_write bl5 (by omega) hB9.size).mono ?_
        rintro e w10 ⟨rfl, bl10, hb10⟩
        have hB10 := hB9.trans hb10
        clear bl5
        go_wp2_with fail
        go_roundw
        case rel => exact ⟨k + 1, _, by omega, by go_num, by rw [ByteArray.size_append, ← HO.out]; omega, Lib.hid (by rw [H2.out, HS.out, HO.out]), HQ, bl10, hB10⟩
        case measure => simp [intOf]; omega
      · have hidf : (id == 0) = false := by simpa using hid0
        have HO : Hid (secOne ⟨id, name, bytes⟩ = strOfNums [id] ++ putB bytes) := by show _ = _; rw [secOne, if_neg hid0]
        go_wp2_with fail
        refine (implFix_any id (by omega) (by omega) _).mono ?_
        rintro e w8 ⟨rfl, hb8⟩
        have hB8 := hB6.trans (hb8.mono hB6.size)
        replace bl5 := bl5.step hb8
        go_wp2_with fail
        refine (implPutBytes_any bytes (by omega) _).mono ?_
        rintro e w9 ⟨rfl, hb9⟩
        have hB9 := hB8.trans (hb9.mono hB8.size)
        replace bl5 := bl5.step hb9
        have zz : (strOfNums [id] ++ putB bytes).size = 1 + (putB bytes).size := by rw [ByteArray.size_append, z1]
        go_wp2_with fail
        refine (bld_write bl5 (by omega) hB9.size).mono ?_
        rintro e w10 ⟨rfl, bl10, hb10⟩
        have hB10 := hB9.trans hb10
        clear bl5
        go_wp2_with fail
        go_roundw
        case rel => exact ⟨k + 1, _, by omega, by go_num, by rw [ByteArray.size_append, ← HO.out]; omega, Lib.hid (by rw [H2.out, HS.out, HO.out]), HQ, bl10, hB10⟩
        case measure => simp [intOf]; omega
    · have hkn : k = ts.length := by have := HN.out; omega
      have hbad : ts.any secBad = false := any_none (by have := HN.out; omega) HP.out
      have HA := Lib.hid (secsS_all (ts := ts) (by have := HN.out; omega) hbad)
      have HL := Lib.hid (secsS_long (ts := ts))
      have hst : secsAt ts ts.length = s := by rw [HS.out, hkn]
      rw [hst] at HA HL
      clear hst hbad
      go_wp2_with fail
      refine (bld_len hbl).mono ?_
      rintro e w5 ⟨rfl, hw5⟩
      subst hw5
      by_cases hl : 30000 < s.size
      · have HF := Lib.hid (HL.out hl)
        go_wp2_with fail
        go_ret
        exact ⟨ret_str HF.out.symm, hbr⟩
      · have HF := Lib.hid (HA.out (by omega))
        go_wp2_with fail
        refine (bld_string hbl hbr.size).mono ?_
        rintro e w5 ⟨rfl, hb5⟩
        go_wp2_with fail
        go_ret
        exact ⟨ret_str HF.out.symm, hbr.trans hb5⟩
theorem implSectionBytes_ok (ts : List Section) (hwf : (PD.row 3 (ts.flatMap Section.pd)).wf) (hsz : (PD.row 3 (ts.flatMap Section.pd)).sz ≤ 1048576) : FnRV 55 (.row 3 (ts.flatMap Section.pd)) (.string (secsS ts)) := implSectionBytes_any ts hsz
end Go.Proofs.Ytlkfaednolmfkaa

