/-
  The text of a module: spec.l15Text, spec.ModuleText (by program: gen_mt.py).
-/
import Derived.Test.YtflpfcnpjadccaaGreatDoorMtP
import Derived.Test.YtflpfcnpjadccaaGreatDoorMoShape
import Derived.Deep.RegionHeld3
namespace Go.Proofs.YtflpfcnpjadccaaGreatDoor
open Go.RowKit
set_option linter.unusedVariables false
set_option linter.unusedSimpArgs false
set_option linter.unnecessarySimpa false
set_option maxRecDepth 16000


theorem wfS {n : Int} (h : 0 ≤ n ∧ n ≤ 16) : (Lit.int .i64 n).wf = true := WalkArith.wf_i64 (by omega)
theorem l15Bit_any (r : Bool) (w : World) : Calls Tryz.prog 42 #[.bool r] w fun e w' => e = .returned (.string (bitT r)) ∧ w = w' := by
  cases r
  all_goals
    go_enter Tryz.func42, Tryz.ntmps42
    go_wp2_with fail
    go_ret
    exact ⟨rfl, rfl⟩
set_option maxHeartbeats 6400000 in
theorem l15Text_any (m : Mod) {B : Nat} {cs : List Value} {w : World} (hB : B ≤ w.heap.size) (hok : modB m = true) (h : RepC w B (Mod.pd m) cs) :
    Calls Tryz.prog 17 #[.agg cs.toArray] w fun e w' => e = .returned (.string (modT m)) ∧ Below w.heap.size w w' := by
  have hF := modF hok
  obtain ⟨pages, imports, cores⟩ := m
  obtain ⟨importsV, coresV, rfl, r_imports, r_cores⟩ := Mod.open_ h
  have R_imports := Lib.hid r_imports
  clear r_imports
  have R_cores := Lib.hid r_cores
  clear r_cores
  obtain ⟨iA, iN, iC, rfl, hnI, hmI, hatI⟩ := rep_row Imp.pd_length (by decide) R_imports.out
  obtain ⟨cA, cN, cC, rfl, hnC, hmC, hatC⟩ := rep_row Core.pd_length (by decide) R_cores.out
  unfold maxLen at hmI hmC
  have HNI := Lib.hid hnI
  have HNC := Lib.hid hnC
  have hI12 : iN ≤ 12 := by have := hF.nimp; simp only at this; omega
  have hC8 : cN ≤ 8 := by have := hF.ncore; simp only at this; omega
  have hpg := hF.pages
  simp only at hpg
  have FI := Lib.hid hF.imp
  have FC := Lib.hid hF.core
  simp only at FI FC
  have HS0 := Lib.hid (modH_sz hpg)
  have HSI := Lib.hid (fun k => imps_sz FI.out k)
  have HSC := Lib.hid (fun k => cores_sz FC.out k)
  clear h hnI hnC hF hok
  have HD_d0 := Lib.hid (fun W => digits_any pages (wfS (by omega)) W)
  have l_d0 : (itoaB pages).size ≤ 21 := itoa_sz (by omega)
  obtain ⟨d0, hd_d0⟩ : ∃ z, itoaB pages = z := ⟨_, rfl⟩
  rw [hd_d0] at HD_d0 l_d0
  have HE_d0 := Lib.hid hd_d0
  clear hd_d0
  have y_p01 : (9223372036854775807 < (⟨#[109, 111, 100, 117, 108, 101, 32]⟩ : ByteArray).size + d0.size) = False := eq_false (by have z_txMod : (⟨#[109, 111, 100, 117, 108, 101, 32]⟩ : ByteArray).size = 7 := rfl; have z_txNl : (⟨#[10]⟩ : ByteArray).size = 1 := rfl; omega)
  have x_p01 : (9223372036854775807 < 7 + d0.size) = False := eq_false (by omega)
  obtain ⟨p01, e_p01⟩ : ∃ p, (⟨#[109, 111, 100, 117, 108, 101, 32]⟩ : ByteArray) ++ d0 = p := ⟨_, rfl⟩
  have l_p01 : p01.size ≤ 28 := by rw [← e_p01, ByteArray.size_append]; have z_txMod : (⟨#[109, 111, 100, 117, 108, 101, 32]⟩ : ByteArray).size = 7 := rfl; have z_txNl : (⟨#[10]⟩ : ByteArray).size = 1 := rfl; omega
  have y_p02 : (9223372036854775807 < p01.size + (⟨#[10]⟩ : ByteArray).size) = False := eq_false (by have z_txMod : (⟨#[109, 111, 100, 117, 108, 101, 32]⟩ : ByteArray).size = 7 := rfl; have z_txNl : (⟨#[10]⟩ : ByteArray).size = 1 := rfl; omega)
  have x_p02 : (9223372036854775807 < p01.size + 1) = False := eq_false (by omega)
  obtain ⟨p02, e_p02⟩ : ∃ p, p01 ++ (⟨#[10]⟩ : ByteArray) = p := ⟨_, rfl⟩
  have l_p02 : p02.size ≤ 29 := by rw [← e_p02, ByteArray.size_append]; have z_txMod : (⟨#[109, 111, 100, 117, 108, 101, 32]⟩ : ByteArray).size = 7 := rfl; have z_txNl : (⟨#[10]⟩ : ByteArray).size = 1 := rfl; omega
  have HE0 : Hid (modH pages = p02) := by show _ = _; rw [← e_p02, ← e_p01, ← HE_d0.out]; rfl
  go_enter Tryz.func17, Tryz.ntmps17
  go_wp2_with fail
  obtain ⟨w0, hw0⟩ : ∃ W, W = w.alloc (.cells #[.int .i64 pages, .slice iA iN iC, .slice cA cN cC] 31) := ⟨_, rfl⟩
  rw [← hw0]
  have bA : Blk w0 w.heap.size 31 #[.int .i64 pages, .slice iA iN iC, .slice cA cN cC] := by rw [hw0]; exact Blk.new w _ _
  have hB0 : Below w.heap.size w w0 := by rw [hw0]; exact (Below.refl _ _).alloc (Nat.le_refl _) _
  clear hw0
  refine (HD_d0.out w0).mono ?_
  rintro e w1 ⟨rfl, hb1⟩
  have hB1 := hB0.trans (hb1.mono hB0.size)
  replace bA := bA.step hb1
  have hltA := bA.lt
  go_wp2_with fail
  clear HD_d0 hb1 hB0
  go_loopw [3, 4] (fun u i wr => ∃ (k : Nat) (s : ByteArray), u = .string s ∧ k ≤ iN ∧ i = .int .i64 k ∧ Hid (s = modH pages ++ catB ((imports.take k).map impL)) ∧ Below w.heap.size w wr ∧ Blk wr w.heap.size 31 #[.int .i64 pages, .slice iA iN iC, .slice cA cN cC]) (fun _ i _ => iN - (intOf i).toNat)
  case atStart => exact ⟨0, _, rfl, Nat.zero_le _, rfl, Lib.hid (by rw [HE0.out]; exact (app_nil _).symm), hB1, bA⟩
  case round =>
    clear hB1 bA
    obtain ⟨k, s, rfl, hk, rfl, HS, hbr, bR⟩ := hrel
    have ls : s.size ≤ 29 + 72 * k := by have h1 := HS0.out; have h2 := HSI.out k; rw [HS.out, ByteArray.size_append]; omega
    have hsz := hbr.size
    have cI : wr.cell? ⟨w.heap.size, 1, none⟩ = some (.slice iA iN iC) := bR.cell 1
    have cC_ : wr.cell? ⟨w.heap.size, 2, none⟩ = some (.slice cA cN cC) := bR.cell 2
    by_cases hlt : k < iN
    · obtain ⟨g, off, rfl, hg, hcell⟩ := hatI (by omega)
      obtain ⟨t, hx, hmem⟩ := at_lt HNI.out hlt
      obtain ⟨name, params, result⟩ := t
      have c_name : wr.cell? ⟨g, off + k * 3, none⟩ = some (.string name) := cell_lit hbr (by omega) (hcell k 0 _ _ hx (by rw [Imp.pd_mk]; rfl))
      have c_params : wr.cell? ⟨g, off + k * 3 + 1, none⟩ = some (.int .i64 params) := cell_lit hbr (by omega) (hcell k 1 _ _ hx (by rw [Imp.pd_mk]; rfl))
      have c_result : wr.cell? ⟨g, off + k * 3 + 2, none⟩ = some (.bool result) := cell_lit hbr (by omega) (hcell k 2 _ _ hx (by rw [Imp.pd_mk]; rfl))
      have HX := Lib.hid hx
      have HM := Lib.hid hmem
      clear hx hmem
      clear hcell
      have hFx := FI.out _ HM.out
      have hn40 := hFx.name
      have hp8 := hFx.params
      simp only at hn40 hp8
      have HD_d := Lib.hid (fun W => digits_any params (wfS (by omega)) W)
      have l_d : (itoaB params).size ≤ 21 := itoa_sz (by omega)
      obtain ⟨d, hd_d⟩ : ∃ z, itoaB params = z := ⟨_, rfl⟩
      rw [hd_d] at HD_d l_d
      have HE_d := Lib.hid hd_d
      clear hd_d
      have l_b := Nat.le_of_eq (bitT_size result)
      have HB := Lib.hid (fun W => l15Bit_any result W)
      obtain ⟨b, hb_⟩ : ∃ z, bitT result = z := ⟨_, rfl⟩
      rw [hb_] at HB l_b
      have HE_b := Lib.hid hb_
      clear hb_
      have y_p1 : (9223372036854775807 < (⟨#[105, 109, 112, 111, 114, 116, 32]⟩ : ByteArray).size + name.size) = False := eq_false (by have z_txImp : (⟨#[105, 109, 112, 111, 114, 116, 32]⟩ : ByteArray).size = 7 := rfl; have z_txSp : (⟨#[32]⟩ : ByteArray).size = 1 := rfl; have z_txNl : (⟨#[10]⟩ : ByteArray).size = 1 := rfl; omega)
      have x_p1 : (9223372036854775807 < 7 + name.size) = False := eq_false (by omega)
      obtain ⟨p1, e_p1⟩ : ∃ p, (⟨#[105, 109, 112, 111, 114, 116, 32]⟩ : ByteArray) ++ name = p := ⟨_, rfl⟩
      have l_p1 : p1.size ≤ 47 := by rw [← e_p1, ByteArray.size_append]; have z_txImp : (⟨#[105, 109, 112, 111, 114, 116, 32]⟩ : ByteArray).size = 7 := rfl; have z_txSp : (⟨#[32]⟩ : ByteArray).size = 1 := rfl; have z_txNl : (⟨#[10]⟩ : ByteArray).size = 1 := rfl; omega
      have y_p2 : (9223372036854775807 < p1.size + (⟨#[32]⟩ : ByteArray).size) = False := eq_false (by have z_txImp : (⟨#[105, 109, 112, 111, 114, 116, 32]⟩ : ByteArray).size = 7 := rfl; have z_txSp : (⟨#[32]⟩ : ByteArray).size = 1 := rfl; have z_txNl : (⟨#[10]⟩ : ByteArray).size = 1 := rfl; omega)
      have x_p2 : (9223372036854775807 < p1.size + 1) = False := eq_false (by omega)
      obtain ⟨p2, e_p2⟩ : ∃ p, p1 ++ (⟨#[32]⟩ : ByteArray) = p := ⟨_, rfl⟩
      have l_p2 : p2.size ≤ 48 := by rw [← e_p2, ByteArray.size_append]; have z_txImp : (⟨#[105, 109, 112, 111, 114, 116, 32]⟩ : ByteArray).size = 7 := rfl; have z_txSp : (⟨#[32]⟩ : ByteArray).size = 1 := rfl; have z_txNl : (⟨#[10]⟩ : ByteArray).size = 1 := rfl; omega
      have y_p3 : (9223372036854775807 < p2.size + d.size) = False := eq_false (by have z_txImp : (⟨#[105, 109, 112, 111, 114, 116, 32]⟩ : ByteArray).size = 7 := rfl; have z_txSp : (⟨#[32]⟩ : ByteArray).size = 1 := rfl; have z_txNl : (⟨#[10]⟩ : ByteArray).size = 1 := rfl; omega)
      obtain ⟨p3, e_p3⟩ : ∃ p, p2 ++ d = p := ⟨_, rfl⟩
      have l_p3 : p3.size ≤ 69 := by rw [← e_p3, ByteArray.size_append]; have z_txImp : (⟨#[105, 109, 112, 111, 114, 116, 32]⟩ : ByteArray).size = 7 := rfl; have z_txSp : (⟨#[32]⟩ : ByteArray).size = 1 := rfl; have z_txNl : (⟨#[10]⟩ : ByteArray).size = 1 := rfl; omega
      have y_p4 : (9223372036854775807 < p3.size + (⟨#[32]⟩ : ByteArray).size) = False := eq_false (by have z_txImp : (⟨#[105, 109, 112, 111, 114, 116, 32]⟩ : ByteArray).size = 7 := rfl; have z_txSp : (⟨#[32]⟩ : ByteArray).size = 1 := rfl; have z_txNl : (⟨#[10]⟩ : ByteArray).size = 1 := rfl; omega)
      have x_p4 : (9223372036854775807 < p3.size + 1) = False := eq_false (by omega)
      obtain ⟨p4, e_p4⟩ : ∃ p, p3 ++ (⟨#[32]⟩ : ByteArray) = p := ⟨_, rfl⟩
      have l_p4 : p4.size ≤ 70 := by rw [← e_p4, ByteArray.size_append]; have z_txImp : (⟨#[105, 109, 112, 111, 114, 116, 32]⟩ : ByteArray).size = 7 := rfl; have z_txSp : (⟨#[32]⟩ : ByteArray).size = 1 := rfl; have z_txNl : (⟨#[10]⟩ : ByteArray).size = 1 := rfl; omega
      have y_p5 : (9223372036854775807 < p4.size + b.size) = False := eq_false (by have z_txImp : (⟨#[105, 109, 112, 111, 114, 116, 32]⟩ : ByteArray).size = 7 := rfl; have z_txSp : (⟨#[32]⟩ : ByteArray).size = 1 := rfl; have z_txNl : (⟨#[10]⟩ : ByteArray).size = 1 := rfl; omega)
      obtain ⟨p5, e_p5⟩ : ∃ p, p4 ++ b = p := ⟨_, rfl⟩
      have l_p5 : p5.size ≤ 71 := by rw [← e_p5, ByteArray.size_append]; have z_txImp : (⟨#[105, 109, 112, 111, 114, 116, 32]⟩ : ByteArray).size = 7 := rfl; have z_txSp : (⟨#[32]⟩ : ByteArray).size = 1 := rfl; have z_txNl : (⟨#[10]⟩ : ByteArray).size = 1 := rfl; omega
      have y_p6 : (9223372036854775807 < p5.size + (⟨#[10]⟩ : ByteArray).size) = False := eq_false (by have z_txImp : (⟨#[105, 109, 112, 111, 114, 116, 32]⟩ : ByteArray).size = 7 := rfl; have z_txSp : (⟨#[32]⟩ : ByteArray).size = 1 := rfl; have z_txNl : (⟨#[10]⟩ : ByteArray).size = 1 := rfl; omega)
      have x_p6 : (9223372036854775807 < p5.size + 1) = False := eq_false (by omega)
      obtain ⟨p6, e_p6⟩ : ∃ p, p5 ++ (⟨#[10]⟩ : ByteArray) = p := ⟨_, rfl⟩
      have l_p6 : p6.size ≤ 72 := by rw [← e_p6, ByteArray.size_append]; have z_txImp : (⟨#[105, 109, 112, 111, 114, 116, 32]⟩ : ByteArray).size = 7 := rfl; have z_txSp : (⟨#[32]⟩ : ByteArray).size = 1 := rfl; have z_txNl : (⟨#[10]⟩ : ByteArray).size = 1 := rfl; omega
      have y_s : (9223372036854775807 < s.size + p6.size) = False := eq_false (by omega)
      have HL : Hid (impL ⟨name, params, result⟩ = p6) := by show _ = _; rw [← e_p6, ← e_p5, ← e_p4, ← e_p3, ← e_p2, ← e_p1, ← HE_d.out, ← HE_b.out]; rfl
      have HQ : Hid (s ++ p6 = modH pages ++ catB ((imports.take (k + 1)).map impL)) := by show _ = _; rw [catB_take HX.out, HL.out, HS.out, app_assoc]
      clear hFx
      go_wp2_with fail
      obtain ⟨w5, hw5⟩ : ∃ W, W = wr.alloc (.cells #[.string name, .int .i64 params, .bool result] 68) := ⟨_, rfl⟩
      rw [← hw5]
      have b5 : Blk w5 wr.heap.size 68 #[.string name, .int .i64 params, .bool result] := by rw [hw5]; exact Blk.new wr _ _
      have hb5 : Below wr.heap.size wr w5 := by rw [hw5]; exact (Below.refl _ _).alloc (Nat.le_refl _) _
      clear hw5
      have hB5 := hbr.trans (hb5.mono hbr.size)
      have bR5 := bR.step hb5
      have hBd : Below w5.heap.size w5 w5.drew := (Below.refl _ _).drew
      have bX : Blk w5.drew wr.heap.size 68 #[.string name, .int .i64 params, .bool result] := b5
      go_region_held3 (fun w' => w'.cell? ⟨wr.heap.size, 0, none⟩ = some (.string name) ∧ w'.cell? ⟨wr.heap.size, 1, none⟩ = some (.int .i64 params) ∧ w'.cell? ⟨wr.heap.size, 2, none⟩ = some (.bool result))
        (first | exact ⟨bX.cell 0, bX.cell 1, bX.cell 2⟩ | go_keep)
        (first
          | (go_at_call_of 41 params; refine (HD_d.out _).mono ?_; rintro e wq ⟨rfl, hbq⟩; replace hBd := hBd.trans (hbq.mono hBd.size); replace bX := bX.step hbq)
          | (go_at_call 42; refine (HB.out _).mono ?_; rintro e wq2 ⟨rfl, hwq⟩; subst hwq))
      all_goals
        have hB6 := hB5.trans (hBd.mono hB5.size)
        have bR6 := bR5.step hBd
        go_wp2_with fail
        go_roundw
        case rel => exact ⟨k + 1, _, rfl, by omega, by go_num, HQ, hB6, bR6⟩
        case measure => simp [intOf]; omega
    · have hkn : k = iN := by omega
      subst hkn
      have HS1 : Hid (s = modH pages ++ catB (imports.map impL)) := by show _ = _; rw [HS.out, List.take_of_length_le (by have := HNI.out; omega)]
      have HW1 : Hid (s.size ≤ 893) := by show _ ≤ _; omega
      clear ls hatI HS
      go_wp2_with fail
      obtain ⟨W1, rfl⟩ : ∃ W, W = wr := ⟨_, rfl⟩
      go_loopw [3, 6] (fun u i wr => ∃ (k2 : Nat) (s2 : ByteArray), u = .string s2 ∧ k2 ≤ cN ∧ i = .int .i64 k2 ∧ Hid (s2 = s ++ catB ((cores.take k2).map coreT)) ∧ Below w.heap.size w wr ∧ Blk wr w.heap.size 31 #[.int .i64 pages, .slice iA k iC, .slice cA cN cC]) (fun _ i _ => cN - (intOf i).toNat)
      case atStart => exact ⟨0, _, rfl, Nat.zero_le _, rfl, Lib.hid (app_nil _).symm, hbr, bR⟩
      case round =>
        clear hbr bR cC_ hsz
        obtain ⟨k2, s2, rfl, hk2, rfl, HS2, hbr, bR⟩ := hrel
        have ls : s2.size ≤ 893 + 3812 * k2 := by have h1 := HW1.out; have h2 := HSC.out k2; rw [HS2.out, ByteArray.size_append]; omega
        have hsz := hbr.size
        have cC_ : wr.cell? ⟨w.heap.size, 2, none⟩ = some (.slice cA cN cC) := bR.cell 2
        by_cases hlt : k2 < cN
        · obtain ⟨g, off, rfl, hg, hcell⟩ := hatC (by omega)
          obtain ⟨t, hx, hmem⟩ := at_lt HNC.out hlt
          obtain ⟨name, params, locals, result, code⟩ := t
          have c_name : wr.cell? ⟨g, off + k2 * 5, none⟩ = some (.string name) := cell_lit hbr (by omega) (hcell k2 0 _ _ hx (by rw [Core.pd_mk]; rfl))
          have c_params : wr.cell? ⟨g, off + k2 * 5 + 1, none⟩ = some (.int .i64 params) := cell_lit hbr (by omega) (hcell k2 1 _ _ hx (by rw [Core.pd_mk]; rfl))
          have c_locals : wr.cell? ⟨g, off + k2 * 5 + 2, none⟩ = some (.int .i64 locals) := cell_lit hbr (by omega) (hcell k2 2 _ _ hx (by rw [Core.pd_mk]; rfl))
          have c_result : wr.cell? ⟨g, off + k2 * 5 + 3, none⟩ = some (.bool result) := cell_lit hbr (by omega) (hcell k2 3 _ _ hx (by rw [Core.pd_mk]; rfl))
          obtain ⟨codeV, c_code, r_code⟩ : ∃ u, wr.cell? ⟨g, off + k2 * 5 + 4, none⟩ = some u ∧ Rep wr B (.row 2 (code.flatMap Ins.pd)) u := cell_rep hbr (by omega) hB (hcell k2 4 _ _ hx (by rw [Core.pd_mk]; rfl))
          have R_code := Lib.hid r_code
          clear r_code
          obtain ⟨codeA, codeN, codeC, rfl⟩ := R_code.out.form
          have HX := Lib.hid hx
          have HM := Lib.hid hmem
          clear hx hmem
          clear hcell
          have hFx := FC.out _ HM.out
          have hn40 := hFx.name
          have hp8 := hFx.params
          have hl8 := hFx.locals
          have hc120 := hFx.code
          have HIN := Lib.hid hFx.ins
          simp only at hn40 hp8 hl8 hc120 HIN
          have HD_d := Lib.hid (fun W => digits_any params (wfS (by omega)) W)
          have l_d : (itoaB params).size ≤ 21 := itoa_sz (by omega)
          obtain ⟨d, hd_d⟩ : ∃ z, itoaB params = z := ⟨_, rfl⟩
          rw [hd_d] at HD_d l_d
          have HE_d := Lib.hid hd_d
          clear hd_d
          have HD_d2 := Lib.hid (fun W => digits_any locals (wfS (by omega)) W)
          have l_d2 : (itoaB locals).size ≤ 21 := itoa_sz (by omega)
          obtain ⟨d2, hd_d2⟩ : ∃ z, itoaB locals = z := ⟨_, rfl⟩
          rw [hd_d2] at HD_d2 l_d2
          have HE_d2 := Lib.hid hd_d2
          clear hd_d2
          have l_b := Nat.le_of_eq (bitT_size result)
          have HB := Lib.hid (fun W => l15Bit_any result W)
          obtain ⟨b, hb_⟩ : ∃ z, bitT result = z := ⟨_, rfl⟩
          rw [hb_] at HB l_b
          have HE_b := Lib.hid hb_
          clear hb_
          have y_p1 : (9223372036854775807 < (⟨#[99, 111, 114, 101, 32]⟩ : ByteArray).size + name.size) = False := eq_false (by have z_txCore : (⟨#[99, 111, 114, 101, 32]⟩ : ByteArray).size = 5 := rfl; have z_txSp : (⟨#[32]⟩ : ByteArray).size = 1 := rfl; have z_txNl : (⟨#[10]⟩ : ByteArray).size = 1 := rfl; omega)
          have x_p1 : (9223372036854775807 < 5 + name.size) = False := eq_false (by omega)
          obtain ⟨p1, e_p1⟩ : ∃ p, (⟨#[99, 111, 114, 101, 32]⟩ : ByteArray) ++ name = p := ⟨_, rfl⟩
          have l_p1 : p1.size ≤ 45 := by rw [← e_p1, ByteArray.size_append]; have z_txCore : (⟨#[99, 111, 114, 101, 32]⟩ : ByteArray).size = 5 := rfl; have z_txSp : (⟨#[32]⟩ : ByteArray).size = 1 := rfl; have z_txNl : (⟨#[10]⟩ : ByteArray).size = 1 := rfl; omega
          have y_p2 : (9223372036854775807 < p1.size + (⟨#[32]⟩ : ByteArray).size) = False := eq_false (by have z_txCore : (⟨#[99, 111, 114, 101, 32]⟩ : ByteArray).size = 5 := rfl; have z_txSp : (⟨#[32]⟩ : ByteArray).size = 1 := rfl; have z_txNl : (⟨#[10]⟩ : ByteArray).size = 1 := rfl; omega)
          have x_p2 : (9223372036854775807 < p1.size + 1) = False := eq_false (by omega)
          obtain ⟨p2, e_p2⟩ : ∃ p, p1 ++ (⟨#[32]⟩ : ByteArray) = p := ⟨_, rfl⟩
          have l_p2 : p2.size ≤ 46 := by rw [← e_p2, ByteArray.size_append]; have z_txCore : (⟨#[99, 111, 114, 101, 32]⟩ : ByteArray).size = 5 := rfl; have z_txSp : (⟨#[32]⟩ : ByteArray).size = 1 := rfl; have z_txNl : (⟨#[10]⟩ : ByteArray).size = 1 := rfl; omega
          have y_p3 : (9223372036854775807 < p2.size + d.size) = False := eq_false (by have z_txCore : (⟨#[99, 111, 114, 101, 32]⟩ : ByteArray).size = 5 := rfl; have z_txSp : (⟨#[32]⟩ : ByteArray).size = 1 := rfl; have z_txNl : (⟨#[10]⟩ : ByteArray).size = 1 := rfl; omega)
          obtain ⟨p3, e_p3⟩ : ∃ p, p2 ++ d = p := ⟨_, rfl⟩
          have l_p3 : p3.size ≤ 67 := by rw [← e_p3, ByteArray.size_append]; have z_txCore : (⟨#[99, 111, 114, 101, 32]⟩ : ByteArray).size = 5 := rfl; have z_txSp : (⟨#[32]⟩ : ByteArray).size = 1 := rfl; have z_txNl : (⟨#[10]⟩ : ByteArray).size = 1 := rfl; omega
          have y_p4 : (9223372036854775807 < p3.size + (⟨#[32]⟩ : ByteArray).size) = False := eq_false (by have z_txCore : (⟨#[99, 111, 114, 101, 32]⟩ : ByteArray).size = 5 := rfl; have z_txSp : (⟨#[32]⟩ : ByteArray).size = 1 := rfl; have z_txNl : (⟨#[10]⟩ : ByteArray).size = 1 := rfl; omega)
          have x_p4 : (9223372036854775807 < p3.size + 1) = False := eq_false (by omega)
          obtain ⟨p4, e_p4⟩ : ∃ p, p3 ++ (⟨#[32]⟩ : ByteArray) = p := ⟨_, rfl⟩
          have l_p4 : p4.size ≤ 68 := by rw [← e_p4, ByteArray.size_append]; have z_txCore : (⟨#[99, 111, 114, 101, 32]⟩ : ByteArray).size = 5 := rfl; have z_txSp : (⟨#[32]⟩ : ByteArray).size = 1 := rfl; have z_txNl : (⟨#[10]⟩ : ByteArray).size = 1 := rfl; omega
          have y_p5 : (9223372036854775807 < p4.size + d2.size) = False := eq_false (by have z_txCore : (⟨#[99, 111, 114, 101, 32]⟩ : ByteArray).size = 5 := rfl; have z_txSp : (⟨#[32]⟩ : ByteArray).size = 1 := rfl; have z_txNl : (⟨#[10]⟩ : ByteArray).size = 1 := rfl; omega)
          obtain ⟨p5, e_p5⟩ : ∃ p, p4 ++ d2 = p := ⟨_, rfl⟩
          have l_p5 : p5.size ≤ 89 := by rw [← e_p5, ByteArray.size_append]; have z_txCore : (⟨#[99, 111, 114, 101, 32]⟩ : ByteArray).size = 5 := rfl; have z_txSp : (⟨#[32]⟩ : ByteArray).size = 1 := rfl; have z_txNl : (⟨#[10]⟩ : ByteArray).size = 1 := rfl; omega
          have y_p6 : (9223372036854775807 < p5.size + (⟨#[32]⟩ : ByteArray).size) = False := eq_false (by have z_txCore : (⟨#[99, 111, 114, 101, 32]⟩ : ByteArray).size = 5 := rfl; have z_txSp : (⟨#[32]⟩ : ByteArray).size = 1 := rfl; have z_txNl : (⟨#[10]⟩ : ByteArray).size = 1 := rfl; omega)
          have x_p6 : (9223372036854775807 < p5.size + 1) = False := eq_false (by omega)
          obtain ⟨p6, e_p6⟩ : ∃ p, p5 ++ (⟨#[32]⟩ : ByteArray) = p := ⟨_, rfl⟩
          have l_p6 : p6.size ≤ 90 := by rw [← e_p6, ByteArray.size_append]; have z_txCore : (⟨#[99, 111, 114, 101, 32]⟩ : ByteArray).size = 5 := rfl; have z_txSp : (⟨#[32]⟩ : ByteArray).size = 1 := rfl; have z_txNl : (⟨#[10]⟩ : ByteArray).size = 1 := rfl; omega
          have y_p7 : (9223372036854775807 < p6.size + b.size) = False := eq_false (by have z_txCore : (⟨#[99, 111, 114, 101, 32]⟩ : ByteArray).size = 5 := rfl; have z_txSp : (⟨#[32]⟩ : ByteArray).size = 1 := rfl; have z_txNl : (⟨#[10]⟩ : ByteArray).size = 1 := rfl; omega)
          obtain ⟨p7, e_p7⟩ : ∃ p, p6 ++ b = p := ⟨_, rfl⟩
          have l_p7 : p7.size ≤ 91 := by rw [← e_p7, ByteArray.size_append]; have z_txCore : (⟨#[99, 111, 114, 101, 32]⟩ : ByteArray).size = 5 := rfl; have z_txSp : (⟨#[32]⟩ : ByteArray).size = 1 := rfl; have z_txNl : (⟨#[10]⟩ : ByteArray).size = 1 := rfl; omega
          have y_p8 : (9223372036854775807 < p7.size + (⟨#[10]⟩ : ByteArray).size) = False := eq_false (by have z_txCore : (⟨#[99, 111, 114, 101, 32]⟩ : ByteArray).size = 5 := rfl; have z_txSp : (⟨#[32]⟩ : ByteArray).size = 1 := rfl; have z_txNl : (⟨#[10]⟩ : ByteArray).size = 1 := rfl; omega)
          have x_p8 : (9223372036854775807 < p7.size + 1) = False := eq_false (by omega)
          obtain ⟨p8, e_p8⟩ : ∃ p, p7 ++ (⟨#[10]⟩ : ByteArray) = p := ⟨_, rfl⟩
          have l_p8 : p8.size ≤ 92 := by rw [← e_p8, ByteArray.size_append]; have z_txCore : (⟨#[99, 111, 114, 101, 32]⟩ : ByteArray).size = 5 := rfl; have z_txSp : (⟨#[32]⟩ : ByteArray).size = 1 := rfl; have z_txNl : (⟨#[10]⟩ : ByteArray).size = 1 := rfl; omega
          have y_s : (9223372036854775807 < s2.size + p8.size) = False := eq_false (by omega)
          have HL : Hid (coreL ⟨name, params, locals, result, code⟩ = p8) := by show _ = _; rw [← e_p8, ← e_p7, ← e_p6, ← e_p5, ← e_p4, ← e_p3, ← e_p2, ← e_p1, ← HE_d.out, ← HE_d2.out, ← HE_b.out]; rfl
          have HZ := Lib.hid (fun j => inss_sz HIN.out j)
          obtain ⟨_, _, _, he, hnK, hmK, hatK⟩ := rep_row Ins.pd_length (by decide) R_code.out
          injection he with e1 e2 e3
          subst e1 e2 e3
          unfold maxLen at hmK
          have HNK := Lib.hid hnK
          have hK120 : codeN ≤ 120 := by rw [hnK]; exact hc120
          clear hFx hnK
          go_wp2_with fail
          obtain ⟨w5, hw5⟩ : ∃ W, W = wr.alloc (.cells #[.string name, .int .i64 params, .int .i64 locals, .bool result, .slice codeA codeN codeC] 51) := ⟨_, rfl⟩
          rw [← hw5]
          have b5 : Blk w5 wr.heap.size 51 #[.string name, .int .i64 params, .int .i64 locals, .bool result, .slice codeA codeN codeC] := by rw [hw5]; exact Blk.new wr _ _
          have hb5 : Below wr.heap.size wr w5 := by rw [hw5]; exact (Below.refl _ _).alloc (Nat.le_refl _) _
          clear hw5
          have hB5 := hbr.trans (hb5.mono hbr.size)
          have bR5 := bR.step hb5
          have hBd : Below w5.heap.size w5 w5.drew := (Below.refl _ _).drew
          have bX : Blk w5.drew wr.heap.size 51 #[.string name, .int .i64 params, .int .i64 locals, .bool result, .slice codeA codeN codeC] := b5
          go_region_held3 (fun w' => w'.cell? ⟨wr.heap.size, 0, none⟩ = some (.string name) ∧ w'.cell? ⟨wr.heap.size, 1, none⟩ = some (.int .i64 params) ∧ w'.cell? ⟨wr.heap.size, 2, none⟩ = some (.int .i64 locals) ∧ w'.cell? ⟨wr.heap.size, 3, none⟩ = some (.bool result))
            (first | exact ⟨bX.cell 0, bX.cell 1, bX.cell 2, bX.cell 3⟩ | go_keep)
            (first
              | (go_at_call_of 41 params; refine (HD_d.out _).mono ?_; rintro e wq ⟨rfl, hbq⟩; replace hBd := hBd.trans (hbq.mono hBd.size); replace bX := bX.step hbq)
              | (go_at_call_of 41 locals; refine (HD_d2.out _).mono ?_; rintro e wq ⟨rfl, hbq⟩; replace hBd := hBd.trans (hbq.mono hBd.size); replace bX := bX.step hbq)
              | (go_at_call 42; refine (HB.out _).mono ?_; rintro e wq2 ⟨rfl, hwq⟩; subst hwq))
          all_goals
            have hB6 := hB5.trans (hBd.mono hB5.size)
            have bR6 := bR5.step hBd
            have hlX := bX.lt
            have hX6 := hb5.trans (hBd.mono hb5.size)
            obtain ⟨W5, rfl⟩ : ∃ W, W = wr := ⟨_, rfl⟩
            obtain ⟨W6, rfl⟩ : ∃ W, W = wq := ⟨_, rfl⟩
            clear hBd hbq
            obtain ⟨s3, hs3⟩ : ∃ z, s2 ++ p8 = z := ⟨_, rfl⟩
            have ls3 : s3.size ≤ 985 + 3812 * k2 := by rw [← hs3, ByteArray.size_append]; omega
            have HS3 : Hid (s3 = s2 ++ coreL ⟨name, params, locals, result, code⟩) := by show _ = _; rw [HL.out, hs3]
            have HS3b := Lib.hid hs3
            go_wp2_with fail
            clear hs3
            go_loopw [3, 8] (fun u i wr' => ∃ (j : Nat) (s4 : ByteArray), u = .string s4 ∧ j ≤ codeN ∧ i = .int .i64 j ∧ Hid (s4 = s3 ++ catB ((code.take j).map insL)) ∧ Below W6.heap.size W6 wr') (fun _ i _ => codeN - (intOf i).toNat)
            case atStart => exact ⟨0, _, rfl, Nat.zero_le _, rfl, Lib.hid (by first | exact (app_nil _).symm | (rw [HS3b.out]; exact (app_nil _).symm)), Below.refl _ _⟩
            case round =>
              obtain ⟨j, s4, rfl, hj, rfl, HS4, hbr4⟩ := hrel
              have ls4 : s4.size ≤ 985 + 3812 * k2 + 31 * j := by have h2 := HZ.out j; rw [HS4.out, ByteArray.size_append]; omega
              have hb4 := hX6.trans (hbr4.mono hX6.size)
              have hbr5 := hB6.trans (hbr4.mono hB6.size)
              have bX4 := bX.step hbr4
              have c4 : wr.cell? ⟨W5.heap.size, 4, none⟩ = some (.slice codeA codeN codeC) := bX4.cell 4
              by_cases hlt4 : j < codeN
              · obtain ⟨g3, off3, rfl, hg3, hcell3⟩ := hatK (by omega)
                obtain ⟨t3, hx3, hmem3⟩ := at_lt HNK.out hlt4
                obtain ⟨op3, a3⟩ := t3
                have c_op3 : wr.cell? ⟨g3, off3 + j * 2, none⟩ = some (.int .i64 op3) := cell_lit hb4 (by omega) (hcell3 j 0 _ _ hx3 (by rw [Ins.pd_mk]; rfl))
                have c_a3 : wr.cell? ⟨g3, off3 + j * 2 + 1, none⟩ = some (.int .i64 a3) := cell_lit hb4 (by omega) (hcell3 j 1 _ _ hx3 (by rw [Ins.pd_mk]; rfl))
                have HX3 := Lib.hid hx3
                have HM3 := Lib.hid hmem3
                clear hx3 hmem3
                clear hcell3
                have HOK := Lib.hid (HIN.out _ HM3.out)
                have hrng := ins_rng2 HOK.out
                have lz := insT_sz HOK.out
                simp only at hrng lz
                have HT := Lib.hid (fun W => l15InsText_any op3 a3 (WalkArith.wf_i64 (by omega)) HOK.out W)
                obtain ⟨z, hz⟩ : ∃ z, insTR op3 a3 = z := ⟨_, rfl⟩
                rw [hz] at HT lz
                have y_1 : (9223372036854775807 < z.size + (⟨#[10]⟩ : ByteArray).size) = False := eq_false (by have z_1 : (⟨#[10]⟩ : ByteArray).size = 1 := rfl; omega)
                have x_1 : (9223372036854775807 < z.size + 1) = False := eq_false (by omega)
                have HZL : Hid (insL ⟨op3, a3⟩ = z ++ (⟨#[10]⟩ : ByteArray)) := by show insTR op3 a3 ++ txNl = _; rw [hz]; rfl
                obtain ⟨z1, hz1⟩ : ∃ p, z ++ (⟨#[10]⟩ : ByteArray) = p := ⟨_, rfl⟩
                have lz1 : z1.size ≤ 31 := by rw [← hz1, ByteArray.size_append]; have z_1 : (⟨#[10]⟩ : ByteArray).size = 1 := rfl; omega
                have y_2 : (9223372036854775807 < s4.size + z1.size) = False := eq_false (by omega)
                have HQ4 : Hid (s4 ++ z1 = s3 ++ catB ((code.take (j + 1)).map insL)) := by show _ = _; rw [catB_take HX3.out, HZL.out, hz1, HS4.out, app_assoc]
                clear hz hrng
                go_wp2_with fail
                refine (HT.out _).mono ?_
                rintro e w7 ⟨rfl, hb7⟩
                go_wp2_with fail
                go_roundw
                case rel => exact ⟨j + 1, _, rfl, by omega, by go_num, HQ4, hbr4.trans (hb7.mono hbr4.size)⟩
                case measure => simp [intOf]; omega
              · have hjn : j = codeN := by omega
                subst hjn
                have HQ2 : Hid (s4 = s ++ catB ((cores.take (k2 + 1)).map coreT)) := by
                  show _ = _
                  rw [catB_take HX.out, HS4.out, HS3.out, HS2.out, List.take_of_length_le (l := code) (by have := HNK.out; omega), coreT]
                  simp only [app_assoc]
                have bR7 := bR6.step hbr4
                clear ls4 HS4
                go_wp2_with fail
                go_roundw
                case rel => exact ⟨k2 + 1, _, rfl, by omega, by go_num, HQ2, hbr5, bR7⟩
                case measure => simp [intOf]; omega
        · have hkn : k2 = cN := by omega
          subst hkn
          have HF : Hid (modT ⟨pages, imports, cores⟩ = s2) := by
            show _ = _
            rw [modT, HS2.out, HS1.out, List.take_of_length_le (by have := HNC.out; omega)]
          clear ls HS2
          go_wp2_with fail
          go_ret
          exact ⟨ret_str HF.out.symm, hbr⟩
set_option maxHeartbeats 1600000 in
theorem specModuleText_ok (t : Mod) (hwf : PD.wfL (Mod.pd t)) (hsz : PD.szL (Mod.pd t) ≤ 1048576) : ∀ (B : Nat) (cs : List Value) (w : World), B ≤ w.heap.size → TabX w → CapC cs → RepC w B (Mod.pd t) cs →
    Calls Tryz.prog 6 #[.agg cs.toArray] w fun e w' => e = .returned (.string (modTR t)) ∧ Below w.heap.size w w' := by
  intro B cs w hB _ hcap h
  obtain ⟨pages, imports, cores⟩ := t
  obtain ⟨importsV, coresV, rfl, r_imports, r_cores⟩ := Mod.open_ h
  have R_imports := Lib.hid r_imports
  clear r_imports
  have R_cores := Lib.hid r_cores
  clear r_cores
  have HW := Lib.hid hwf
  have hcall := fun (W : World) (hW : Below w.heap.size w W) => specShapeM_any ⟨pages, imports, cores⟩ (B := B) (cs := [.int .i64 pages, importsV, coresV]) (w := W) (Nat.le_trans hB hW.size) HW.out hcap (Mod.close_ (R_imports.out.below (hW.mono hB)) (R_cores.out.below (hW.mono hB)))
  have htext := fun (W : World) (hW : Below w.heap.size w W) (hok : modB ⟨pages, imports, cores⟩ = true) => l15Text_any ⟨pages, imports, cores⟩ (B := B) (cs := [.int .i64 pages, importsV, coresV]) (w := W) (Nat.le_trans hB hW.size) hok (Mod.close_ (R_imports.out.below (hW.mono hB)) (R_cores.out.below (hW.mono hB)))
  obtain ⟨Z, hZ⟩ : ∃ Z, Z = modTR ⟨pages, imports, cores⟩ := ⟨_, rfl⟩
  have HZ := Lib.hid hZ
  obtain ⟨T, hT⟩ : ∃ T, modT ⟨pages, imports, cores⟩ = T := ⟨_, rfl⟩
  have HTT := Lib.hid hT
  obtain ⟨R, hR⟩ : ∃ R : Bool, modB ⟨pages, imports, cores⟩ = R := ⟨_, rfl⟩
  have HRR := Lib.hid hR
  rw [← hZ]
  rw [hR] at hcall htext
  rw [hT] at htext
  have HC := Lib.hid hcall
  have HX := Lib.hid htext
  clear hcall htext hR hT hZ h hwf hsz
  go_enter Tryz.func6, Tryz.ntmps6
  go_wp2_with fail
  obtain ⟨w0, hw0⟩ : ∃ W, W = w.alloc (.cells #[.int .i64 pages, importsV, coresV] 31) := ⟨_, rfl⟩
  rw [← hw0]
  have bA : Blk w0 w.heap.size 31 #[.int .i64 pages, importsV, coresV] := by rw [hw0]; exact Blk.new w _ _
  have hB0 : Below w.heap.size w w0 := by rw [hw0]; exact (Below.refl _ _).alloc (Nat.le_refl _) _
  clear hw0
  refine (HC.out w0 hB0).mono ?_
  rintro e w1 ⟨rfl, hb1⟩
  have hB1 := hB0.trans (hb1.mono hB0.size)
  replace bA := bA.step hb1
  have a_pages : w1.cell? ⟨w.heap.size, 0, none⟩ = some (.int .i64 pages) := bA.cell 0
  have a_imports : w1.cell? ⟨w.heap.size, 1, none⟩ = some (importsV) := bA.cell 1
  have a_cores : w1.cell? ⟨w.heap.size, 2, none⟩ = some (coresV) := bA.cell 2
  cases R
  · have HF : Hid (Z = ⟨#[]⟩) := by show _ = _; rw [HZ.out, modTR_no HRR.out]
    go_wp2_with fail
    go_ret
    exact ⟨ret_str HF.out.symm, hB1⟩
  · have HF : Hid (Z = T) := by show _ = _; rw [HZ.out, modTR_yes HRR.out, HTT.out]
    go_wp2_with fail
    refine (HX.out w1 hB1 (by first | rfl | trivial)).mono ?_
    rintro e w2 ⟨rfl, hb2⟩
    go_wp2_with fail
    go_ret
    exact ⟨ret_str HF.out.symm, hB1.trans (hb2.mono hB1.size)⟩
end Go.Proofs.YtflpfcnpjadccaaGreatDoor

