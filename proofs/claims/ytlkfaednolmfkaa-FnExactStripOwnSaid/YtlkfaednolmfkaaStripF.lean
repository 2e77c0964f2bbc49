/-
  spec.l17Strip; StripOwn.
-/
import Derived.Test.YtlkfaednolmfkaaDelW
namespace Go.Proofs.Ytlkfaednolmfkaa
open Go.RowKit
set_option linter.unusedVariables false
set_option linter.unusedSimpArgs false
set_option linter.unnecessarySimpa false
set_option maxRecDepth 16000

set_option maxHeartbeats 3200000 in
theorem stripS_any {ts : List Section} (h20 : ts.length ≤ 20) {B : Nat} {v : Value} {w : World} (hB : B ≤ w.heap.size) (h : Rep w B (.row 3 (ts.flatMap Section.pd)) v) :
    Calls Try.prog 54 #[v] w fun e w' => ∃ u, e = .returned u ∧ Lv w' w.heap.size w'.heap.size (.row 3 ((stripL ts).flatMap Section.pd)) u ∧ Below w.heap.size w w' := by
  obtain ⟨i0, hi, hz0, hz1, hz2⟩ := info_parts sec_info
  obtain ⟨A, n, c, rfl, hnl, hm, hat⟩ := rep_row Section.pd_length (by decide) h
  unfold maxLen at hm
  have HN := Lib.hid hnl
  have hn20 : n ≤ 20 := by omega
  clear h hnl h20
  go_enter Try.func54, Try.ntmps54
  go_wp2_with fail
  go_loopw [3, 4] (fun u i wr => ∃ (k m : Nat) (acc : List Section) (cs : List Value), k ≤ n ∧ m ≤ k ∧ i = .int .i64 k ∧ Hid (acc = stripL (ts.take k)) ∧ Grow w wr w.heap.size 64 3 m u (acc.flatMap Section.pd) cs []) (fun _ i _ => n - (intOf i).toNat)
  case atStart => exact ⟨0, 0, [], [], Nat.zero_le _, Nat.le_refl _, rfl, Lib.hid (by simp [stripL]), Grow.made (Below.refl _ _) (Nat.le_refl _) (Nat.le_refl _) (by simp) (by simp)⟩
  case round =>
    obtain ⟨k, m, acc, cs, hk, hmk, rfl, HA, hG⟩ := hrel
    have hbr := hG.2.2.2.2.1
    have hsz := hbr.size
    obtain ⟨uA, uN, uC, rfl, hul, _⟩ := (Own.of_own hG.1).form
    have huN : uN = m := by
      have h1 := hG.1.1
      have h2 := hul
      omega
    subst huN
    clear hul
    have HG := Lib.hid hG
    by_cases hlt : k < n
    · obtain ⟨g, off, rfl, hg, hcell⟩ := hat (by omega)
      obtain ⟨t, hx, hmem⟩ := at_lt HN.out hlt
      obtain ⟨id, name, bytes⟩ := t
      have c_id : wr.cell? ⟨g, off + k * 3, none⟩ = some (.int .i64 id) := cell_lit hbr (by omega) (hcell k 0 _ _ hx (by rw [Section.pd_mk]; rfl))
      have c_name : wr.cell? ⟨g, off + k * 3 + 1, none⟩ = some (.string name) := cell_lit hbr (by omega) (hcell k 1 _ _ hx (by rw [Section.pd_mk]; rfl))
      have c_bytes : wr.cell? ⟨g, off + k * 3 + 2, none⟩ = some (.string bytes) := cell_lit hbr (by omega) (hcell k 2 _ _ hx (by rw [Section.pd_mk]; rfl))
      have HX := Lib.hid hx
      have HM := Lib.hid hmem
      clear hx hmem
      clear hcell
      by_cases hid : id = 0
      · have hown0 : isOwnB ⟨id, name, bytes⟩ = true := by simpa [isOwnB] using hid
        have HS := Lib.hid (stripL_own HX.out hown0)
        subst hid
        clear hG hown0
        go_wp2_with fail
        go_roundw
        case rel => exact ⟨k + 1, uN, acc, cs, by omega, by omega, by go_num, Lib.hid (by rw [HS.out]; exact HA.out), HG.out⟩
        case measure => simp [intOf]; omega
      · have hidb : (id == 0) = false := by simpa using hid
        have HS := Lib.hid (stripL_not HX.out (show isOwnB ⟨id, name, bytes⟩ = false from hidb))
        have hown := hG.1.alloc (.cells #[.int .i64 id, .string name, .string bytes] 64)
        have hnew : ∀ j u, [Value.int .i64 id, .string name, .string bytes][j]? = some u → (wr.alloc (.cells #[.int .i64 id, .string name, .string bytes] 64)).cell? ((⟨wr.heap.size, 0, none⟩ : Addr).add j) = some u := World.news_of_block (heap_alloc_new _ _)
        have hlo2 : w.heap.size ≤ (wr.alloc (.cells #[.int .i64 id, .string name, .string bytes] 64)).heap.size := by simp; omega
        clear hG hid
        go_wp2_with (at_builtin; refine wpList_append_own_at _ rfl _ _ 42 rfl w.heap.size 64 i0 (.agg #[.int .i64 0, .string { data := #[] }, .string { data := #[] }]) 3 40 Try.underlying42 hi hz0 hz1 hz2 rfl (by decide) _ _ _ rfl hown ⟨wr.heap.size, 0, none⟩ 1 1 [.int .i64 id, .string name, .string bytes] rfl rfl hnew (sec_cells _ _ _) (by simp only [maxLen]; omega) (by omega) hlo2 ?_; intro v' w9 hown' hgrow _ hat2)
        have hG9 := grow_sec HG.out (Below.refl _ _) ((Below.refl _ _).alloc (Nat.le_refl _) _) hown' hgrow hat2
        have HG9 := Lib.hid hG9
        clear hG9 hown hown' hnew hgrow hat2
        go_roundw
        case rel => exact ⟨k + 1, uN + 1, acc ++ [⟨id, name, bytes⟩], _, by omega, by omega, by go_num, Lib.hid (by rw [HS.out, HA.out]), HG9.out⟩
        case measure => simp [intOf]; omega
    · have hkn : k = ts.length := by have := HN.out; omega
      have HE : Hid (acc = stripL ts) := by show _ = _; rw [HA.out, hkn, List.take_length]
      have HL := Lib.hid hG.done
      rw [HE.out] at HL
      clear hG hkn
      go_wp2_with fail
      go_ret
      exact ⟨_, rfl, HL.out, hbr⟩
theorem specStripOwn_ok (s : ByteArray) (h : s.size ≤ 1048576) : ∀ B w, B ≤ w.heap.size → Calls Try.prog 29 #[.string s] w fun e w' => e = .returned (.tuple #[.string (stripR s).1, .int .i64 (stripR s).2]) ∧ Below w.heap.size w w' := by
  intro B w _
  have SP := specSectionsOf_any s h w
  by_cases h0 : (secRes s).2 = 0
  case neg =>
    have HF := stripR_no h0
    obtain ⟨c, hc⟩ : ∃ c, c = (secRes s).2 := ⟨_, rfl⟩
    rw [← hc] at SP HF h0
    rw [HF]
    have HS := Lib.hid SP
    clear SP HF hc
    have hcb : (c == 0) = false := by simpa using h0
    go_enter Try.func29, Try.ntmps29
    go_wp2_with fail
    refine HS.out.mono ?_
    rintro e w1 ⟨u, rfl, hL, hb⟩
    obtain ⟨A, n, k, rfl⟩ := hL.form
    clear hL
    go_wp2_with fail
    go_ret2
    exact ⟨rfl, hb⟩
  have HF := stripR_yes h0
  obtain ⟨f1, f2, f3, f4⟩ := strip_fit h0
  have hlen := secRes_len s
  rw [h0] at SP
  obtain ⟨l, hl⟩ : ∃ l, l = (secRes s).1 := ⟨_, rfl⟩
  rw [← hl] at SP HF f1 f2 f3 f4 hlen
  rw [HF]
  clear hl HF h0
  have HS := Lib.hid SP
  have H1 := Lib.hid (fun (v : Value) (w : World) => stripS_any hlen (v := v) (w := w) (Nat.le_refl _))
  have H2 := Lib.hid (fun (v : Value) (w : World) => specAll_any _ f1 f3 f2 (v := v) (w := w) (Nat.le_refl _))
  clear SP f1 f2 f3 f4 hlen
  go_enter Try.func29, Try.ntmps29
  go_wp2_with fail
  refine HS.out.mono ?_
  rintro e w1 ⟨u, rfl, hL, hb⟩
  obtain ⟨A, n, k, rfl⟩ := hL.form
  have HL := Lib.hid hL
  clear hL
  go_wp2_with fail
  refine (H1.out _ _ HL.out.is).mono ?_
  rintro e w2 ⟨u, rfl, hL2, hb2⟩
  obtain ⟨A2, n2, k2, rfl⟩ := hL2.form
  have HL2 := Lib.hid hL2
  clear hL2
  go_wp2_with fail
  refine (H2.out _ _ HL2.out.is).mono ?_
  rintro e w3 ⟨rfl, hb3⟩
  have hB2 := hb.trans (hb2.mono hb.size)
  have hB3 := hB2.trans (hb3.mono hB2.size)
  go_wp2_with fail
  go_ret2
  exact ⟨rfl, hB3⟩
theorem implStripOwn_ok (s : ByteArray) (h : s.size ≤ 1048576) : ∀ B w, B ≤ w.heap.size → Calls Try.prog 30 #[.string s] w fun e w' => e = .returned (.tuple #[.string (stripR s).1, .int .i64 (stripR s).2]) ∧ Below w.heap.size w w' := by
  intro B w _
  have SP := implSectionsOf_any s w
  by_cases h0 : (secRes s).2 = 0
  case neg =>
    have HF := stripR_no h0
    obtain ⟨c, hc⟩ : ∃ c, c = (secRes s).2 := ⟨_, rfl⟩
    rw [← hc] at SP HF h0
    rw [HF]
    have HS := Lib.hid SP
    clear SP HF hc
    have hcb : (c == 0) = false := by simpa using h0
    go_enter Try.func30, Try.ntmps30
    go_wp2_with fail
    refine HS.out.mono ?_
    rintro e w1 ⟨u, rfl, hL, hb⟩
    obtain ⟨A, n, k, rfl⟩ := hL.form
    clear hL
    go_wp2_with fail
    go_ret2
    exact ⟨rfl, hb⟩
  have HF := stripR_yes h0
  obtain ⟨f1, f2, f3, f4⟩ := strip_fit h0
  rw [h0] at SP
  obtain ⟨l, hl⟩ : ∃ l, l = (secRes s).1 := ⟨_, rfl⟩
  rw [← hl] at SP HF f1 f2 f3 f4
  rw [← f4] at HF
  rw [HF]
  clear hl HF h0
  have HS := Lib.hid SP
  have H1 := Lib.hid (fun (v : Value) (w w1 : World) (hlo : w.heap.size ≤ w1.heap.size) (h : Lv w1 w.heap.size w1.heap.size (.row 3 (l.flatMap Section.pd)) v) => delfS_any 57 #[] hlo h isOwn_enter isOwn_any)
  have H2 := Lib.hid (implSectionBytes_any _ f3)
  clear SP f1 f2 f3 f4
  go_enter Try.func30, Try.ntmps30
  go_wp2_with fail
  refine HS.out.mono ?_
  rintro e w1 ⟨u, rfl, hL, hb⟩
  obtain ⟨A, n, k, rfl⟩ := hL.form
  have HL := Lib.hid hL
  clear hL
  go_wp2_with fail
  refine (H1.out _ _ _ hb.size HL.out).mono ?_
  rintro e w2 ⟨u, rfl, hL2, hb2⟩
  obtain ⟨A2, n2, k2, rfl⟩ := hL2.form
  have HL2 := Lib.hid hL2
  clear hL2
  go_wp2_with fail
  refine (H2.out _ _ _ (Nat.le_refl _) HL2.out).mono ?_
  rintro e w3 ⟨rfl, hb3⟩
  have hB2 := hb.trans hb2
  have hB3 := hB2.trans (hb3.mono hB2.size)
  go_wp2_with fail
  go_ret2
  exact ⟨rfl, hB3⟩
end Go.Proofs.Ytlkfaednolmfkaa

