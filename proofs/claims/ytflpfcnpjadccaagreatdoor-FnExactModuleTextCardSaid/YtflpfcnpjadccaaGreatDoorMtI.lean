/-
  The text of a module: impl.moduleText, impl.ModuleText (by program: gen_mt.py).
-/
import Derived.Test.YtflpfcnpjadccaaGreatDoorMtP
import Derived.Test.YtflpfcnpjadccaaGreatDoorMoShape
import Derived.Test.YtflpfcnpjadccaaGreatDoorMtS
import Derived.Test.YtflpfcnpjadccaaGreatDoorMoImplS
import Derived.Test.YtflpfcnpjadccaaGreatDoorBldK
import Derived.Deep.RegionHeld3
namespace Go.Proofs.YtflpfcnpjadccaaGreatDoor
open Go.RowKit
set_option linter.unusedVariables false
set_option linter.unusedSimpArgs false
set_option linter.unnecessarySimpa false
set_option maxRecDepth 16000


theorem bit_any (r : Bool) (w : World) : Calls Tryz.prog 51 #[.bool r] w fun e w' => e = .returned (.int .i64 (bitI r)) ∧ w = w' := by
  cases r
  all_goals
    go_enter Tryz.func51, Tryz.ntmps51
    go_wp2_with fail
    go_ret
    exact ⟨rfl, rfl⟩
theorem bitDec_any (r : Bool) (w : World) (hT : TabX w) : Calls Tryz.prog 50 #[.int .i64 (bitI r)] w fun e w' => e = .returned (.string (bitT r)) ∧ Below w.heap.size w w' := by
  rw [← bitI_T]
  exact decimal_any (bitI r) (by cases r <;> rfl) w hT.2
set_option maxHeartbeats 6400000 in
theorem moduleText_any (m : Mod) {B : Nat} {cs : List Value} {w : World} (hB : B ≤ w.heap.size) (hT : TabX w) (hok : modB m = true) (h : RepC w B (Mod.pd m) cs) :
    Calls Tryz.prog 21 #[.agg cs.toArray] w fun e w' => e = .returned (.string (modT m)) ∧ Below w.heap.size w w' := by
  have hF := modF hok
  obtain ⟨pages, imports, cores⟩ := m
  obtain ⟨importsV, coresV, rfl, r_imports, r_cores⟩ := Mod.open_ h
  have R_imports := Lib.hid r_imports
  clear r_imports
  have R_cores := Lib.hid r_cores
  clear r_cores
  obtain ⟨iA, iN, iC, rfl, hnI, hmI, hatI⟩ := rep_row Imp.pd_length (by decide) R_imports.out
  obtain ⟨cA, cN, cC, rfl, hnC, hmC, hatC⟩ := rep_row Core.pd_length (by decide) R_cores.out
  unfold maxLen at hmI hmC
  have HNI := Lib.hid hnI
  have HNC := Lib.hid hnC
  have hI12 : iN ≤ 12 := by have := hF.nimp; simp only at this; omega
  have hC8 : cN ≤ 8 := by have := hF.ncore; simp only at this; omega
  have hpg := hF.pages
  simp only at hpg
  have FI := Lib.hid hF.imp
  have FC := Lib.hid hF.core
  simp only at FI FC
  have HS0 := Lib.hid (modH_sz hpg)
  have HSI := Lib.hid (fun k => imps_sz FI.out k)
  have HSC := Lib.hid (fun k => cores_sz FC.out k)
  clear h hnI hnC hF hok
  obtain ⟨w0, hw0⟩ : ∃ W, W = (w.alloc (.cells #[.int .i64 pages, .slice iA iN iC, .slice cA cN cC] 31)).alloc (.cells #[.pointer none, .slice none 0 0] 83) := ⟨_, rfl⟩
  have bA : Blk w0 w.heap.size 31 #[.int .i64 pages, .slice iA iN iC, .slice cA cN cC] := by rw [hw0]; exact (Blk.new w _ _).alloc _
  have bl : BldK (w.heap.size + 1) (w.heap.size + 1) ⟨#[]⟩ w0 := by rw [hw0]; have := BldK.new (B := w.heap.size + 1) (w.alloc (.cells #[.int .i64 pages, .slice iA iN iC, .slice cA cN cC] 31)) (by simp); simpa using this
  have hB0 : Below w.heap.size w w0 := by rw [hw0]; exact ((Below.refl _ _).alloc (Nat.le_refl _) _).alloc (by simp) _
  have hs0 : w.heap.size + 2 ≤ w0.heap.size := by rw [hw0]; simp
  have a0 : ((w.alloc (.cells #[.int .i64 pages, .slice iA iN iC, .slice cA cN cC] 31)).alloc (.cells #[.pointer none, .slice none 0 0] 83)).cell? ⟨w.heap.size, 0, none⟩ = some (.int .i64 pages) := by rw [← hw0]; exact bA.cell 0
  have HW0 := Lib.hid hw0
  clear hw0
  have HD_d0 := Lib.hid (fun W (h : TabX W) => decimal_any pages (wfS (by omega)) W h.2)
  have l_d0 : (itoaB pages).size ≤ 21 := itoa_sz (by omega)
  obtain ⟨d0, hd_d0⟩ : ∃ z, itoaB pages = z := ⟨_, rfl⟩
  rw [hd_d0] at HD_d0 l_d0
  have HE_d0 := Lib.hid hd_d0
  clear hd_d0
  have y_p01 : (9223372036854775807 < (⟨#[109, 111, 100, 117, 108, 101, 32]⟩ : ByteArray).size + d0.size) = False := eq_false (by have z_txMod : (⟨#[109, 111, 100, 117, 108, 101, 32]⟩ : ByteArray).size = 7 := rfl; have z_txNl : (⟨#[10]⟩ : ByteArray).size = 1 := rfl; omega)
  have x_p01 : (9223372036854775807 < 7 + d0.size) = False := eq_false (by omega)
  obtain ⟨p01, e_p01⟩ : ∃ p, (⟨#[109, 111, 100, 117, 108, 101, 32]⟩ : ByteArray) ++ d0 = p := ⟨_, rfl⟩
  have l_p01 : p01.size ≤ 28 := by rw [← e_p01, ByteArray.size_append]; have z_txMod : (⟨#[109, 111, 100, 117, 108, 101, 32]⟩ : ByteArray).size = 7 := rfl; have z_txNl : (⟨#[10]⟩ : ByteArray).size = 1 := rfl; omega
  have y_p02 : (9223372036854775807 < p01.size + (⟨#[10]⟩ : ByteArray).size) = False := eq_false (by have z_txMod : (⟨#[109, 111, 100, 117, 108, 101, 32]⟩ : ByteArray).size = 7 := rfl; have z_txNl : (⟨#[10]⟩ : ByteArray).size = 1 := rfl; omega)
  have x_p02 : (9223372036854775807 < p01.size + 1) = False := eq_false (by omega)
  obtain ⟨p02, e_p02⟩ : ∃ p, p01 ++ (⟨#[10]⟩ : ByteArray) = p := ⟨_, rfl⟩
  have l_p02 : p02.size ≤ 29 := by rw [← e_p02, ByteArray.size_append]; have z_txMod : (⟨#[109, 111, 100, 117, 108, 101, 32]⟩ : ByteArray).size = 7 := rfl; have z_txNl : (⟨#[10]⟩ : ByteArray).size = 1 := rfl; omega
  have HE0 : Hid (modH pages = p02) := by show _ = _; rw [← e_p02, ← e_p01, ← HE_d0.out]; rfl
  go_enter Tryz.func21, Tryz.ntmps21
  go_wp2_with fail
  rw [← HW0.out]
  refine (HD_d0.out w0 (hT.below hB0)).mono ?_
  rintro e w1 ⟨rfl, hb1⟩
  have hB1 := hB0.trans (hb1.mono hB0.size)
  replace bA := bA.step hb1
  replace bl := bl.step hb1
  have hs1 : w.heap.size + 2 ≤ w1.heap.size := Nat.le_trans hs0 hb1.size
  go_wp2_with fail
  refine (bldK_write bl (by have : (ByteArray.mk #[]).size = 0 := rfl; omega) (by omega)).mono ?_
  rintro e w2 ⟨rfl, bl2, hb2, ho2⟩
  have hB2 := hB1.trans (hb2.mono (Nat.le_succ _))
  replace bA := bA.below hb2 (Nat.lt_succ_self _)
  have hs2 : w.heap.size + 2 ≤ w2.heap.size := Nat.le_trans hs1 hb2.size
  have a1 : w2.cell? ⟨w.heap.size, 1, none⟩ = some (.slice iA iN iC) := bA.cell 1
  clear HD_d0 hb1 hB0 a0 bl hb2 hB1 ho2 HW0 hs0 hs1
  go_wp2_with fail
  go_loopw [19] (fun i wr => ∃ (k : Nat) (s : ByteArray), k ≤ iN ∧ i = .int .i64 k ∧ Hid (s = modH pages ++ catB ((imports.take k).map impL)) ∧ BldK (w.heap.size + 1) (w.heap.size + 1) s wr ∧ Below w.heap.size w wr ∧ w.heap.size + 2 ≤ wr.heap.size ∧ Blk wr w.heap.size 31 #[.int .i64 pages, .slice iA iN iC, .slice cA cN cC]) (fun i _ => iN - (intOf i).toNat)
  case atStart => exact ⟨0, _, Nat.zero_le _, rfl, Lib.hid (by rw [HE0.out, nil_app]; exact (app_nil _).symm), bl2, hB2, hs2, bA⟩
  case round =>
    clear hB2 bA bl2 hs2 a1
    obtain ⟨k, s, hk, rfl, HS, bl, hbr, hsz, bR⟩ := hrel
    have ls : s.size ≤ 29 + 72 * k := by have h1 := HS0.out; have h2 := HSI.out k; rw [HS.out, ByteArray.size_append]; omega
    by_cases hlt : k < iN
    · obtain ⟨g, off, rfl, hg, hcell⟩ := hatI (by omega)
      obtain ⟨t, hx, hmem⟩ := at_lt HNI.out hlt
      obtain ⟨name, params, result⟩ := t
      have c_name : wr.cell? ⟨g, off + k * 3, none⟩ = some (.string name) := cell_lit hbr (by omega) (hcell k 0 _ _ hx (by rw [Imp.pd_mk]; rfl))
      have c_params : wr.cell? ⟨g, off + k * 3 + 1, none⟩ = some (.int .i64 params) := cell_lit hbr (by omega) (hcell k 1 _ _ hx (by rw [Imp.pd_mk]; rfl))
      have c_result : wr.cell? ⟨g, off + k * 3 + 2, none⟩ = some (.bool result) := cell_lit hbr (by omega) (hcell k 2 _ _ hx (by rw [Imp.pd_mk]; rfl))
      have HX := Lib.hid hx
      have HM := Lib.hid hmem
      clear hx hmem
      clear hcell
      have hFx := FI.out _ HM.out
      have hn40 := hFx.name
      have hp8 := hFx.params
      simp only at hn40 hp8
      have HD_d := Lib.hid (fun W (h : TabX W) => decimal_any params (wfS (by omega)) W h.2)
      have l_d : (itoaB params).size ≤ 21 := itoa_sz (by omega)
      obtain ⟨d, hd_d⟩ : ∃ z, itoaB params = z := ⟨_, rfl⟩
      rw [hd_d] at HD_d l_d
      have HE_d := Lib.hid hd_d
      clear hd_d
      have l_b := Nat.le_of_eq (bitT_size result)
      have HB := Lib.hid (fun W => bit_any result W)
      have HBD := Lib.hid (fun W (h : TabX W) => bitDec_any result W h)
      obtain ⟨b, hb_⟩ : ∃ z, bitT result = z := ⟨_, rfl⟩
      rw [hb_] at HBD l_b
      have HE_b := Lib.hid hb_
      clear hb_
      obtain ⟨bi, hbi⟩ : ∃ z, bitI result = z := ⟨_, rfl⟩
      rw [hbi] at HB HBD
      clear hbi
      have y_p1 : (9223372036854775807 < (⟨#[105, 109, 112, 111, 114, 116, 32]⟩ : ByteArray).size + name.size) = False := eq_false (by have z_txImp : (⟨#[105, 109, 112, 111, 114, 116, 32]⟩ : ByteArray).size = 7 := rfl; have z_txSp : (⟨#[32]⟩ : ByteArray).size = 1 := rfl; have z_txNl : (⟨#[10]⟩ : ByteArray).size = 1 := rfl; omega)
      have x_p1 : (9223372036854775807 < 7 + name.size) = False := eq_false (by omega)
      obtain ⟨p1, e_p1⟩ : ∃ p, (⟨#[105, 109, 112, 111, 114, 116, 32]⟩ : ByteArray) ++ name = p := ⟨_, rfl⟩
      have l_p1 : p1.size ≤ 47 := by rw [← e_p1, ByteArray.size_append]; have z_txImp : (⟨#[105, 109, 112, 111, 114, 116, 32]⟩ : ByteArray).size = 7 := rfl; have z_txSp : (⟨#[32]⟩ : ByteArray).size = 1 := rfl; have z_txNl : (⟨#[10]⟩ : ByteArray).size = 1 := rfl; omega
      have y_p2 : (9223372036854775807 < p1.size + (⟨#[32]⟩ : ByteArray).size) = False := eq_false (by have z_txImp : (⟨#[105, 109, 112, 111, 114, 116, 32]⟩ : ByteArray).size = 7 := rfl; have z_txSp : (⟨#[32]⟩ : ByteArray).size = 1 := rfl; have z_txNl : (⟨#[10]⟩ : ByteArray).size = 1 := rfl; omega)
      have x_p2 : (9223372036854775807 < p1.size + 1) = False := eq_false (by omega)
      obtain ⟨p2, e_p2⟩ : ∃ p, p1 ++ (⟨#[32]⟩ : ByteArray) = p := ⟨_, rfl⟩
      have l_p2 : p2.size ≤ 48 := by rw [← e_p2, ByteArray.size_append]; have z_txImp : (⟨#[105, 109, 112, 111, 114, 116, 32]⟩ : ByteArray).size = 7 := rfl; have z_txSp : (⟨#[32]⟩ : ByteArray).size = 1 := rfl; have z_txNl : (⟨#[10]⟩ : ByteArray).size = 1 := rfl; omega
      have y_p3 : (9223372036854775807 < p2.size + d.size) = False := eq_false (by have z_txImp : (⟨#[105, 109, 112, 111, 114, 116, 32]⟩ : ByteArray).size = 7 := rfl; have z_txSp : (⟨#[32]⟩ : ByteArray).size = 1 := rfl; have z_txNl : (⟨#[10]⟩ : ByteArray).size = 1 := rfl; omega)
      obtain ⟨p3, e_p3⟩ : ∃ p, p2 ++ d = p := ⟨_, rfl⟩
      have l_p3 : p3.size ≤ 69 := by rw [← e_p3, ByteArray.size_append]; have z_txImp : (⟨#[105, 109, 112, 111, 114, 116, 32]⟩ : ByteArray).size = 7 := rfl; have z_txSp : (⟨#[32]⟩ : ByteArray).size = 1 := rfl; have z_txNl : (⟨#[10]⟩ : ByteArray).size = 1 := rfl; omega
      have y_p4 : (9223372036854775807 < p3.size + (⟨#[32]⟩ : ByteArray).size) = False := eq_false (by have z_txImp : (⟨#[105, 109, 112, 111, 114, 116, 32]⟩ : ByteArray).size = 7 := rfl; have z_txSp : (⟨#[32]⟩ : ByteArray).size = 1 := rfl; have z_txNl : (⟨#[10]⟩ : ByteArray).size = 1 := rfl; omega)
      have x_p4 : (9223372036854775807 < p3.size + 1) = False := eq_false (by omega)
      obtain ⟨p4, e_p4⟩ : ∃ p, p3 ++ (⟨#[32]⟩ : ByteArray) = p := ⟨_, rfl⟩
      have l_p4 : p4.size ≤ 70 := by rw [← e_p4, ByteArray.size_append]; have z_txImp : (⟨#[105, 109, 112, 111, 114, 116, 32]⟩ : ByteArray).size = 7 := rfl; have z_txSp : (⟨#[32]⟩ : ByteArray).size = 1 := rfl; have z_txNl : (⟨#[10]⟩ : ByteArray).size = 1 := rfl; omega
      have y_p5 : (9223372036854775807 < p4.size + b.size) = False := eq_false (by have z_txImp : (⟨#[105, 109, 112, 111, 114, 116, 32]⟩ : ByteArray).size = 7 := rfl; have z_txSp : (⟨#[32]⟩ : ByteArray).size = 1 := rfl; have z_txNl : (⟨#[10]⟩ : ByteArray).size = 1 := rfl; omega)
      obtain ⟨p5, e_p5⟩ : ∃ p, p4 ++ b = p := ⟨_, rfl⟩
      have l_p5 : p5.size ≤ 71 := by rw [← e_p5, ByteArray.size_append]; have z_txImp : (⟨#[105, 109, 112, 111, 114, 116, 32]⟩ : ByteArray).size = 7 := rfl; have z_txSp : (⟨#[32]⟩ : ByteArray).size = 1 := rfl; have z_txNl : (⟨#[10]⟩ : ByteArray).size = 1 := rfl; omega
      have y_p6 : (9223372036854775807 < p5.size + (⟨#[10]⟩ : ByteArray).size) = False := eq_false (by have z_txImp : (⟨#[105, 109, 112, 111, 114, 116, 32]⟩ : ByteArray).size = 7 := rfl; have z_txSp : (⟨#[32]⟩ : ByteArray).size = 1 := rfl; have z_txNl : (⟨#[10]⟩ : ByteArray).size = 1 := rfl; omega)
      have x_p6 : (9223372036854775807 < p5.size + 1) = False := eq_false (by omega)
      obtain ⟨p6, e_p6⟩ : ∃ p, p5 ++ (⟨#[10]⟩ : ByteArray) = p := ⟨_, rfl⟩
      have l_p6 : p6.size ≤ 72 := by rw [← e_p6, ByteArray.size_append]; have z_txImp : (⟨#[105, 109, 112, 111, 114, 116, 32]⟩ : ByteArray).size = 7 := rfl; have z_txSp : (⟨#[32]⟩ : ByteArray).size = 1 := rfl; have z_txNl : (⟨#[10]⟩ : ByteArray).size = 1 := rfl; omega
      have HL : Hid (impL ⟨name, params, result⟩ = p6) := by show _ = _; rw [← e_p6, ← e_p5, ← e_p4, ← e_p3, ← e_p2, ← e_p1, ← HE_d.out, ← HE_b.out]; rfl
      have HQ : Hid (s ++ p6 = modH pages ++ catB ((imports.take (k + 1)).map impL)) := by show _ = _; rw [catB_take HX.out, HL.out, HS.out, app_assoc]
      clear hFx
      go_wp2_with fail
      obtain ⟨w5, hw5⟩ : ∃ W, W = wr.alloc (.cells #[.string name, .int .i64 params, .bool result] 68) := ⟨_, rfl⟩
      rw [← hw5]
      have b5 : Blk w5 wr.heap.size 68 #[.string name, .int .i64 params, .bool result] := by rw [hw5]; exact Blk.new wr _ _
      have hb5 : Below wr.heap.size wr w5 := by rw [hw5]; exact (Below.refl _ _).alloc (Nat.le_refl _) _
      clear hw5
      have hBd : Below w.heap.size w w5.drew := (hbr.trans (hb5.mono hbr.size)).drew
      replace bR := bR.step hb5
      replace bl := bl.step hb5
      have hszd : w.heap.size + 2 ≤ w5.drew.heap.size := Nat.le_trans hsz hb5.size
      replace bR := bR.drew
      replace bl : BldK (w.heap.size + 1) (w.heap.size + 1) s w5.drew := bl.step (Below.refl _ _).drew
      have bX : Blk w5.drew wr.heap.size 68 #[.string name, .int .i64 params, .bool result] := b5
      go_region_held3 (fun w' => w'.cell? ⟨wr.heap.size, 0, none⟩ = some (.string name) ∧ w'.cell? ⟨wr.heap.size, 1, none⟩ = some (.int .i64 params) ∧ w'.cell? ⟨wr.heap.size, 2, none⟩ = some (.bool result))
        (first | exact ⟨bXz.cell 0, bXz.cell 1, bXz.cell 2⟩ | exact ⟨bX.cell 0, bX.cell 1, bX.cell 2⟩ | go_keep)
        (first
          | (go_at_call_of 50 params; refine (HD_d.out _ (hT.below hBd)).mono ?_; rintro e wq ⟨rfl, hbq⟩; have hsq := hbq.size; replace bl := bl.step hbq; replace bX := bX.step hbq; replace bR := bR.step hbq; replace hBd := hBd.trans (hbq.mono hBd.size); replace hszd := Nat.le_trans hszd hsq)
          | (go_at_call 51; refine (HB.out _).mono ?_; rintro e wq2 ⟨rfl, hwq⟩; subst hwq)
          | (go_at_call_of 50 bi; refine (HBD.out _ (hT.below hBd)).mono ?_; rintro e wq ⟨rfl, hbq⟩; have hsq := hbq.size; replace bl := bl.step hbq; replace bX := bX.step hbq; replace bR := bR.step hbq; replace hBd := hBd.trans (hbq.mono hBd.size); replace hszd := Nat.le_trans hszd hsq)
          | (go_at_call 49; refine (bldK_write bl (by omega) (by omega)).mono ?_; rintro e wz ⟨rfl, blz, hbz, hoz⟩; have bXz := bX.oth hoz (by omega) (by decide); have bRz := bR.oth hoz (by omega) (by decide); have hBz := hBd.trans (hbz.mono (Nat.le_succ _)); have hszz := Nat.le_trans hszd hbz.size))
      all_goals
        go_wp2_with fail
        go_roundw
        case rel => exact ⟨k + 1, _, by omega, by go_num, HQ, blz, hBz, hszz, bRz⟩
        case measure => simp [intOf]; omega
    · have hkn : k = iN := by omega
      subst hkn
      have HS1 : Hid (s = modH pages ++ catB (imports.map impL)) := by show _ = _; rw [HS.out, List.take_of_length_le (by have := HNI.out; omega)]
      have HW1 : Hid (s.size ≤ 893) := by show _ ≤ _; omega
      have a2 : wr.cell? ⟨w.heap.size, 2, none⟩ = some (.slice cA cN cC) := bR.cell 2
      clear ls hatI HS bR
      go_wp2_with fail
      clear a2
      obtain ⟨W1, rfl⟩ : ∃ W, W = wr := ⟨_, rfl⟩
      go_loopw [43] (fun i wr => ∃ (k2 : Nat) (s2 : ByteArray), k2 ≤ cN ∧ i = .int .i64 k2 ∧ Hid (s2 = s ++ catB ((cores.take k2).map coreT)) ∧ BldK (w.heap.size + 1) (w.heap.size + 1) s2 wr ∧ Below w.heap.size w wr ∧ w.heap.size + 2 ≤ wr.heap.size) (fun i _ => cN - (intOf i).toNat)
      case atStart => exact ⟨0, _, Nat.zero_le _, rfl, Lib.hid (app_nil _).symm, bl, hbr, hsz⟩
      case round =>
        clear hbr bl hsz
        obtain ⟨k2, s2, hk2, rfl, HS2, bl, hbr, hsz⟩ := hrel
        have ls : s2.size ≤ 893 + 3812 * k2 := by have h1 := HW1.out; have h2 := HSC.out k2; rw [HS2.out, ByteArray.size_append]; omega
        by_cases hlt : k2 < cN
        · obtain ⟨g, off, rfl, hg, hcell⟩ := hatC (by omega)
          obtain ⟨t, hx, hmem⟩ := at_lt HNC.out hlt
          obtain ⟨name, params, locals, result, code⟩ := t
          have c_name : wr.cell? ⟨g, off + k2 * 5, none⟩ = some (.string name) := cell_lit hbr (by omega) (hcell k2 0 _ _ hx (by rw [Core.pd_mk]; rfl))
          have c_params : wr.cell? ⟨g, off + k2 * 5 + 1, none⟩ = some (.int .i64 params) := cell_lit hbr (by omega) (hcell k2 1 _ _ hx (by rw [Core.pd_mk]; rfl))
          have c_locals : wr.cell? ⟨g, off + k2 * 5 + 2, none⟩ = some (.int .i64 locals) := cell_lit hbr (by omega) (hcell k2 2 _ _ hx (by rw [Core.pd_mk]; rfl))
          have c_result : wr.cell? ⟨g, off + k2 * 5 + 3, none⟩ = some (.bool result) := cell_lit hbr (by omega) (hcell k2 3 _ _ hx (by rw [Core.pd_mk]; rfl))
          obtain ⟨codeV, c_code, r_code⟩ : ∃ u, wr.cell? ⟨g, off + k2 * 5 + 4, none⟩ = some u ∧ Rep wr B (.row 2 (code.flatMap Ins.pd)) u := cell_rep hbr (by omega) hB (hcell k2 4 _ _ hx (by rw [Core.pd_mk]; rfl))
          have R_code := Lib.hid r_code
          clear r_code
          obtain ⟨codeA, codeN, codeC, rfl⟩ := R_code.out.form
          have HX := Lib.hid hx
          have HM := Lib.hid hmem
          clear hx hmem
          clear hcell
          have hFx := FC.out _ HM.out
          have hn40 := hFx.name
          have hp8 := hFx.params
          have hl8 := hFx.locals
          have hc120 := hFx.code
          have HIN := Lib.hid hFx.ins
          simp only at hn40 hp8 hl8 hc120 HIN
          have HD_d := Lib.hid (fun W (h : TabX W) => decimal_any params (wfS (by omega)) W h.2)
          have l_d : (itoaB params).size ≤ 21 := itoa_sz (by omega)
          obtain ⟨d, hd_d⟩ : ∃ z, itoaB params = z := ⟨_, rfl⟩
          rw [hd_d] at HD_d l_d
          have HE_d := Lib.hid hd_d
          clear hd_d
          have HD_d2 := Lib.hid (fun W (h : TabX W) => decimal_any locals (wfS (by omega)) W h.2)
          have l_d2 : (itoaB locals).size ≤ 21 := itoa_sz (by omega)
          obtain ⟨d2, hd_d2⟩ : ∃ z, itoaB locals = z := ⟨_, rfl⟩
          rw [hd_d2] at HD_d2 l_d2
          have HE_d2 := Lib.hid hd_d2
          clear hd_d2
          have l_b := Nat.le_of_eq (bitT_size result)
          have HB := Lib.hid (fun W => bit_any result W)
          have HBD := Lib.hid (fun W (h : TabX W) => bitDec_any result W h)
          obtain ⟨b, hb_⟩ : ∃ z, bitT result = z := ⟨_, rfl⟩
          rw [hb_] at HBD l_b
          have HE_b := Lib.hid hb_
          clear hb_
          obtain ⟨bi, hbi⟩ : ∃ z, bitI result = z := ⟨_, rfl⟩
          rw [hbi] at HB HBD
          clear hbi
          have y_p1 : (9223372036854775807 < (⟨#[99, 111, 114, 101, 32]⟩ : ByteArray).size + name.size) = False := eq_false (by have z_txCore : (⟨#[99, 111, 114, 101, 32]⟩ : ByteArray).size = 5 := rfl; have z_txSp : (⟨#[32]⟩ : ByteArray).size = 1 := rfl; have z_txNl : (⟨#[10]⟩ : ByteArray).size = 1 := rfl; omega)
          have x_p1 : (9223372036854775807 < 5 + name.size) = False := eq_false (by omega)
          obtain ⟨p1, e_p1⟩ : ∃ p, (⟨#[99, 111, 114, 101, 32]⟩ : ByteArray) ++ name = p := ⟨_, rfl⟩
          have l_p1 : p1.size ≤ 45 := by rw [← e_p1, ByteArray.size_append]; have z_txCore : (⟨#[99, 111, 114, 101, 32]⟩ : ByteArray).size = 5 := rfl; have z_txSp : (⟨#[32]⟩ : ByteArray).size = 1 := rfl; have z_txNl : (⟨#[10]⟩ : ByteArray).size = 1 := rfl; omega
          have y_p2 : (9223372036854775807 < p1.size + (⟨#[32]⟩ : ByteArray).size) = False := eq_false (by have z_txCore : (⟨#[99, 111, 114, 101, 32]⟩ : ByteArray).size = 5 := rfl; have z_txSp : (⟨#[32]⟩ : ByteArray).size = 1 := rfl; have z_txNl : (⟨#[10]⟩ : ByteArray).size = 1 := rfl; omega)
          have x_p2 : (9223372036854775807 < p1.size + 1) = False := eq_false (by omega)
          obtain ⟨p2, e_p2⟩ : ∃ p, p1 ++ (⟨#[32]⟩ : ByteArray) = p := ⟨_, rfl⟩
          have l_p2 : p2.size ≤ 46 := by rw [← e_p2, ByteArray.size_append]; have z_txCore : (⟨#[99, 111, 114, 101, 32]⟩ : ByteArray).size = 5 := rfl; have z_txSp : (⟨#[32]⟩ : ByteArray).size = 1 := rfl; have z_txNl : (⟨#[10]⟩ : ByteArray).size = 1 := rfl; omega
          have y_p3 : (9223372036854775807 < p2.size + d.size) = False := eq_false (by have z_txCore : (⟨#[99, 111, 114, 101, 32]⟩ : ByteArray).size = 5 := rfl; have z_txSp : (⟨#[32]⟩ : ByteArray).size = 1 := rfl; have z_txNl : (⟨#[10]⟩ : ByteArray).size = 1 := rfl; omega)
          obtain ⟨p3, e_p3⟩ : ∃ p, p2 ++ d = p := ⟨_, rfl⟩
          have l_p3 : p3.size ≤ 67 := by rw [← e_p3, ByteArray.size_append]; have z_txCore : (⟨#[99, 111, 114, 101, 32]⟩ : ByteArray).size = 5 := rfl; have z_txSp : (⟨#[32]⟩ : ByteArray).size = 1 := rfl; have z_txNl : (⟨#[10]⟩ : ByteArray).size = 1 := rfl; omega
          have y_p4 : (9223372036854775807 < p3.size + (⟨#[32]⟩ : ByteArray).size) = False := eq_false (by have z_txCore : (⟨#[99, 111, 114, 101, 32]⟩ : ByteArray).size = 5 := rfl; have z_txSp : (⟨#[32]⟩ : ByteArray).size = 1 := rfl; have z_txNl : (⟨#[10]⟩ : ByteArray).size = 1 := rfl; omega)
          have x_p4 : (9223372036854775807 < p3.size + 1) = False := eq_false (by omega)
          obtain ⟨p4, e_p4⟩ : ∃ p, p3 ++ (⟨#[32]⟩ : ByteArray) = p := ⟨_, rfl⟩
          have l_p4 : p4.size ≤ 68 := by rw [← e_p4, ByteArray.size_append]; have z_txCore : (⟨#[99, 111, 114, 101, 32]⟩ : ByteArray).size = 5 := rfl; have z_txSp : (⟨#[32]⟩ : ByteArray).size = 1 := rfl; have z_txNl : (⟨#[10]⟩ : ByteArray).size = 1 := rfl; omega
          have y_p5 : (9223372036854775807 < p4.size + d2.size) = False := eq_false (by have z_txCore : (⟨#[99, 111, 114, 101, 32]⟩ : ByteArray).size = 5 := rfl; have z_txSp : (⟨#[32]⟩ : ByteArray).size = 1 := rfl; have z_txNl : (⟨#[10]⟩ : ByteArray).size = 1 := rfl; omega)
          obtain ⟨p5, e_p5⟩ : ∃ p, p4 ++ d2 = p := ⟨_, rfl⟩
          have l_p5 : p5.size ≤ 89 := by rw [← e_p5, ByteArray.size_append]; have z_txCore : (⟨#[99, 111, 114, 101, 32]⟩ : ByteArray).size = 5 := rfl; have z_txSp : (⟨#[32]⟩ : ByteArray).size = 1 := rfl; have z_txNl : (⟨#[10]⟩ : ByteArray).size = 1 := rfl; omega
          have y_p6 : (9223372036854775807 < p5.size + (⟨#[32]⟩ : ByteArray).size) = False := eq_false (by have z_txCore : (⟨#[99, 111, 114, 101, 32]⟩ : ByteArray).size = 5 := rfl; have z_txSp : (⟨#[32]⟩ : ByteArray).size = 1 := rfl; have z_txNl : (⟨#[10]⟩ : ByteArray).size = 1 := rfl; omega)
          have x_p6 : (9223372036854775807 < p5.size + 1) = False := eq_false (by omega)
          obtain ⟨p6, e_p6⟩ : ∃ p, p5 ++ (⟨#[32]⟩ : ByteArray) = p := ⟨_, rfl⟩
          have l_p6 : p6.size ≤ 90 := by rw [← e_p6, ByteArray.size_append]; have z_txCore : (⟨#[99, 111, 114, 101, 32]⟩ : ByteArray).size = 5 := rfl; have z_txSp : (⟨#[32]⟩ : ByteArray).size = 1 := rfl; have z_txNl : (⟨#[10]⟩ : ByteArray).size = 1 := rfl; omega
          have y_p7 : (9223372036854775807 < p6.size + b.size) = False := eq_false (by have z_txCore : (⟨#[99, 111, 114, 101, 32]⟩ : ByteArray).size = 5 := rfl; have z_txSp : (⟨#[32]⟩ : ByteArray).size = 1 := rfl; have z_txNl : (⟨#[10]⟩ : ByteArray).size = 1 := rfl; omega)
          obtain ⟨p7, e_p7⟩ : ∃ p, p6 ++ b = p := ⟨_, rfl⟩
          have l_p7 : p7.size ≤ 91 := by rw [← e_p7, ByteArray.size_append]; have z_txCore : (⟨#[99, 111, 114, 101, 32]⟩ : ByteArray).size = 5 := rfl; have z_txSp : (⟨#[32]⟩ : ByteArray).size = 1 := rfl; have z_txNl : (⟨#[10]⟩ : ByteArray).size = 1 := rfl; omega
          have y_p8 : (9223372036854775807 < p7.size + (⟨#[10]⟩ : ByteArray).size) = False := eq_false (by have z_txCore : (⟨#[99, 111, 114, 101, 32]⟩ : ByteArray).size = 5 := rfl; have z_txSp : (⟨#[32]⟩ : ByteArray).size = 1 := rfl; have z_txNl : (⟨#[10]⟩ : ByteArray).size = 1 := rfl; omega)
          have x_p8 : (9223372036854775807 < p7.size + 1) = False := eq_false (by omega)
          obtain ⟨p8, e_p8⟩ : ∃ p, p7 ++ (⟨#[10]⟩ : ByteArray) = p := ⟨_, rfl⟩
          have l_p8 : p8.size ≤ 92 := by rw [← e_p8, ByteArray.size_append]; have z_txCore : (⟨#[99, 111, 114, 101, 32]⟩ : ByteArray).size = 5 := rfl; have z_txSp : (⟨#[32]⟩ : ByteArray).size = 1 := rfl; have z_txNl : (⟨#[10]⟩ : ByteArray).size = 1 := rfl; omega
          have HL : Hid (coreL ⟨name, params, locals, result, code⟩ = p8) := by show _ = _; rw [← e_p8, ← e_p7, ← e_p6, ← e_p5, ← e_p4, ← e_p3, ← e_p2, ← e_p1, ← HE_d.out, ← HE_d2.out, ← HE_b.out]; rfl
          have HZ := Lib.hid (fun j => inss_sz HIN.out j)
          obtain ⟨_, _, _, he, hnK, hmK, hatK⟩ := rep_row Ins.pd_length (by decide) R_code.out
          injection he with e1 e2 e3
          subst e1 e2 e3
          unfold maxLen at hmK
          have HNK := Lib.hid hnK
          have hK120 : codeN ≤ 120 := by rw [hnK]; exact hc120
          clear hFx hnK
          go_wp2_with fail
          obtain ⟨w5, hw5⟩ : ∃ W, W = wr.alloc (.cells #[.string name, .int .i64 params, .int .i64 locals, .bool result, .slice codeA codeN codeC] 51) := ⟨_, rfl⟩
          rw [← hw5]
          have b5 : Blk w5 wr.heap.size 51 #[.string name, .int .i64 params, .int .i64 locals, .bool result, .slice codeA codeN codeC] := by rw [hw5]; exact Blk.new wr _ _
          have hb5 : Below wr.heap.size wr w5 := by rw [hw5]; exact (Below.refl _ _).alloc (Nat.le_refl _) _
          clear hw5
          obtain ⟨W5, rfl⟩ : ∃ W, W = wr := ⟨_, rfl⟩
          have hBd : Below w.heap.size w w5.drew := (hbr.trans (hb5.mono hbr.size)).drew
          have hX5 : Below w.heap.size W5 w5.drew := (hb5.mono hbr.size).drew
          have hszd : w.heap.size + 2 ≤ w5.drew.heap.size := Nat.le_trans hsz hb5.size
          replace bl : BldK (w.heap.size + 1) (w.heap.size + 1) s2 w5.drew := (bl.step hb5).step (Below.refl _ _).drew
          have bX : Blk w5.drew W5.heap.size 51 #[.string name, .int .i64 params, .int .i64 locals, .bool result, .slice codeA codeN codeC] := b5
          go_region_held3 (fun w' => w'.cell? ⟨W5.heap.size, 0, none⟩ = some (.string name) ∧ w'.cell? ⟨W5.heap.size, 1, none⟩ = some (.int .i64 params) ∧ w'.cell? ⟨W5.heap.size, 2, none⟩ = some (.int .i64 locals) ∧ w'.cell? ⟨W5.heap.size, 3, none⟩ = some (.bool result))
            (first | exact ⟨bXz.cell 0, bXz.cell 1, bXz.cell 2, bXz.cell 3⟩ | exact ⟨bX.cell 0, bX.cell 1, bX.cell 2, bX.cell 3⟩ | go_keep)
            (first
              | (go_at_call_of 50 params; refine (HD_d.out _ (hT.below hBd)).mono ?_; rintro e wq ⟨rfl, hbq⟩; have hsq := hbq.size; replace bl := bl.step hbq; replace bX := bX.step hbq; replace hX5 := hX5.trans (hbq.mono hBd.size); replace hBd := hBd.trans (hbq.mono hBd.size); replace hszd := Nat.le_trans hszd hsq)
              | (go_at_call_of 50 locals; refine (HD_d2.out _ (hT.below hBd)).mono ?_; rintro e wq ⟨rfl, hbq⟩; have hsq := hbq.size; replace bl := bl.step hbq; replace bX := bX.step hbq; replace hX5 := hX5.trans (hbq.mono hBd.size); replace hBd := hBd.trans (hbq.mono hBd.size); replace hszd := Nat.le_trans hszd hsq)
              | (go_at_call 51; refine (HB.out _).mono ?_; rintro e wq2 ⟨rfl, hwq⟩; subst hwq)
              | (go_at_call_of 50 bi; refine (HBD.out _ (hT.below hBd)).mono ?_; rintro e wq ⟨rfl, hbq⟩; have hsq := hbq.size; replace bl := bl.step hbq; replace bX := bX.step hbq; replace hX5 := hX5.trans (hbq.mono hBd.size); replace hBd := hBd.trans (hbq.mono hBd.size); replace hszd := Nat.le_trans hszd hsq)
              | (go_at_call 49; refine (bldK_write bl (by omega) (by omega)).mono ?_; rintro e wz ⟨rfl, blz, hbz, hoz⟩; have bXz := bX.oth hoz (by omega) (by decide); have hX6 := hX5.trans (hbz.mono (Nat.le_succ _)); have hBz := hBd.trans (hbz.mono (Nat.le_succ _)); have hszz := Nat.le_trans hszd hbz.size))
          all_goals
            have c4 : wz.cell? ⟨W5.heap.size, 4, none⟩ = some (.slice codeA codeN codeC) := bXz.cell 4
            obtain ⟨s3, hs3⟩ : ∃ z, s2 ++ p8 = z := ⟨_, rfl⟩
            rw [hs3] at blz
            have ls3 : s3.size ≤ 985 + 3812 * k2 := by rw [← hs3, ByteArray.size_append]; omega
            have HS3 : Hid (s3 = s2 ++ coreL ⟨name, params, locals, result, code⟩) := by show _ = _; rw [HL.out, hs3]
            clear hs3 bX bXz
            go_wp2_with fail
            clear c4
            obtain ⟨W6, rfl⟩ : ∃ W, W = wz := ⟨_, rfl⟩
            go_loopw [71] (fun i wr => ∃ (j : Nat) (s4 : ByteArray), j ≤ codeN ∧ i = .int .i64 j ∧ Hid (s4 = s3 ++ catB ((code.take j).map insL)) ∧ BldK (w.heap.size + 1) (w.heap.size + 1) s4 wr ∧ Below w.heap.size w wr ∧ Below w.heap.size W5 wr ∧ w.heap.size + 2 ≤ wr.heap.size) (fun i _ => codeN - (intOf i).toNat)
            case atStart => exact ⟨0, _, Nat.zero_le _, rfl, Lib.hid (app_nil _).symm, blz, hBz, hX6, hszz⟩
            case round =>
              clear blz hBz hX6 hszz
              obtain ⟨j, s4, hj, rfl, HS4, bl4, hbr4, hb4, hsz4⟩ := hrel
              have ls4 : s4.size ≤ 985 + 3812 * k2 + 31 * j := by have h2 := HZ.out j; rw [HS4.out, ByteArray.size_append]; omega
              by_cases hlt4 : j < codeN
              · obtain ⟨g3, off3, rfl, hg3, hcell3⟩ := hatK (by omega)
                obtain ⟨t3, hx3, hmem3⟩ := at_lt HNK.out hlt4
                obtain ⟨op3, a3⟩ := t3
                have c_op3 : wr.cell? ⟨g3, off3 + j * 2, none⟩ = some (.int .i64 op3) := cell_lit hb4 (by omega) (hcell3 j 0 _ _ hx3 (by rw [Ins.pd_mk]; rfl))
                have c_a3 : wr.cell? ⟨g3, off3 + j * 2 + 1, none⟩ = some (.int .i64 a3) := cell_lit hb4 (by omega) (hcell3 j 1 _ _ hx3 (by rw [Ins.pd_mk]; rfl))
                have HX3 := Lib.hid hx3
                have HM3 := Lib.hid hmem3
                clear hx3 hmem3
                clear hcell3
                have HOK := Lib.hid (HIN.out _ HM3.out)
                have hrng := ins_rng2 HOK.out
                have lz := insT_sz HOK.out
                simp only at hrng lz
                have HTX := Lib.hid (fun W (h : TabX W) => insText_any op3 a3 (WalkArith.wf_i64 (by omega)) HOK.out W h)
                obtain ⟨z, hz⟩ : ∃ z, insTR op3 a3 = z := ⟨_, rfl⟩
                rw [hz] at HTX lz
                have HZL : Hid (insL ⟨op3, a3⟩ = z ++ (⟨#[10]⟩ : ByteArray)) := by show insTR op3 a3 ++ txNl = _; rw [hz]; rfl
                have y_1 : (9223372036854775807 < z.size + (⟨#[10]⟩ : ByteArray).size) = False := eq_false (by have z_1 : (⟨#[10]⟩ : ByteArray).size = 1 := rfl; omega)
                obtain ⟨z1, hz1⟩ : ∃ p, z ++ (⟨#[10]⟩ : ByteArray) = p := ⟨_, rfl⟩
                have lz1 : z1.size ≤ 31 := by rw [← hz1, ByteArray.size_append]; have z_1 : (⟨#[10]⟩ : ByteArray).size = 1 := rfl; omega
                have HQ4 : Hid (s4 ++ z1 = s3 ++ catB ((code.take (j + 1)).map insL)) := by show _ = _; rw [catB_take HX3.out, HZL.out, hz1, HS4.out, app_assoc]
                clear hz hrng
                go_wp2_with fail
                obtain ⟨w7, hw7⟩ : ∃ W, W = wr.alloc (.cells #[.int .i64 op3, .int .i64 a3] 76) := ⟨_, rfl⟩
                rw [← hw7]
                have b7 : Blk w7 wr.heap.size 76 #[.int .i64 op3, .int .i64 a3] := by rw [hw7]; exact Blk.new wr _ _
                have hb7 : Below wr.heap.size wr w7 := by rw [hw7]; exact (Below.refl _ _).alloc (Nat.le_refl _) _
                clear hw7
                replace bl4 := bl4.step hb7
                have hbr7 := hbr4.trans (hb7.mono hbr4.size)
                have q0 : w7.cell? ⟨wr.heap.size, 0, none⟩ = some (.int .i64 op3) := b7.cell 0
                have q1 : w7.cell? ⟨wr.heap.size, 1, none⟩ = some (.int .i64 a3) := b7.cell 1
                have hs7 := hb7.size
                go_wp2_with fail
                refine (HTX.out _ (hT.below hbr7)).mono ?_
                rintro e w8 ⟨rfl, hb8⟩
                replace bl4 := bl4.step hb8
                have hs8 := hb8.size
                have hbr8 := hbr7.trans (hb8.mono hbr7.size)
                go_wp2_with fail
                refine (bldK_write bl4 (by omega) (by omega)).mono ?_
                rintro e w9 ⟨rfl, bl9, hb9, ho9⟩
                have hX9 : Below w.heap.size wr w9 := ((hb7.mono (by omega)).trans (hb8.mono (by omega))).trans (hb9.mono (Nat.le_succ _))
                go_wp2_with fail
                go_roundw
                case rel => exact ⟨j + 1, _, by omega, by go_num, HQ4, bl9, hbr4.trans hX9, hb4.trans hX9, Nat.le_trans hsz4 hX9.size⟩
                case measure => simp [intOf]; omega
              · have hjn : j = codeN := by omega
                subst hjn
                have HQ2 : Hid (s4 = s ++ catB ((cores.take (k2 + 1)).map coreT)) := by
                  show _ = _
                  rw [catB_take HX.out, HS4.out, HS3.out, HS2.out, List.take_of_length_le (l := code) (by have := HNK.out; omega), coreT]
                  simp only [app_assoc]
                clear ls4 HS4
                go_wp2_with fail
                go_roundw
                case rel => exact ⟨k2 + 1, _, by omega, by go_num, HQ2, bl4, hbr4, hsz4⟩
                case measure => simp [intOf]; omega
        · have hkn : k2 = cN := by omega
          subst hkn
          have HF : Hid (modT ⟨pages, imports, cores⟩ = s2) := by
            show _ = _
            rw [modT, HS2.out, HS1.out, List.take_of_length_le (by have := HNC.out; omega)]
          clear ls HS2
          go_wp2_with fail
          refine (bldK_string bl (by omega)).mono ?_
          rintro e w9 ⟨rfl, hb9⟩
          go_wp2_with fail
          go_ret
          exact ⟨ret_str HF.out.symm, hbr.trans (hb9.mono (Nat.le_succ _))⟩
set_option maxHeartbeats 1600000 in
theorem implModuleText_ok (t : Mod) (hwf : PD.wfL (Mod.pd t)) (hsz : PD.szL (Mod.pd t) ≤ 1048576) : ∀ (B : Nat) (cs : List Value) (w : World), B ≤ w.heap.size → TabX w → CapC cs → RepC w B (Mod.pd t) cs →
    Calls Tryz.prog 8 #[.agg cs.toArray] w fun e w' => e = .returned (.string (modTR t)) ∧ Below w.heap.size w w' := by
  intro B cs w hB hT hcap h
  obtain ⟨pages, imports, cores⟩ := t
  obtain ⟨importsV, coresV, rfl, r_imports, r_cores⟩ := Mod.open_ h
  have R_imports := Lib.hid r_imports
  clear r_imports
  have R_cores := Lib.hid r_cores
  clear r_cores
  have HW := Lib.hid hwf
  have hcall := fun (W : World) (hW : Below w.heap.size w W) => implShapeM_any ⟨pages, imports, cores⟩ (B := B) (cs := [.int .i64 pages, importsV, coresV]) (w := W) (Nat.le_trans hB hW.size) HW.out (Mod.close_ (R_imports.out.below (hW.mono hB)) (R_cores.out.below (hW.mono hB)))
  have htext := fun (W : World) (hW : Below w.heap.size w W) (hok : modB ⟨pages, imports, cores⟩ = true) => moduleText_any ⟨pages, imports, cores⟩ (B := B) (cs := [.int .i64 pages, importsV, coresV]) (w := W) (Nat.le_trans hB hW.size) (hT.below hW) hok (Mod.close_ (R_imports.out.below (hW.mono hB)) (R_cores.out.below (hW.mono hB)))
  obtain ⟨Z, hZ⟩ : ∃ Z, Z = modTR ⟨pages, imports, cores⟩ := ⟨_, rfl⟩
  have HZ := Lib.hid hZ
  obtain ⟨T, hTE⟩ : ∃ T, modT ⟨pages, imports, cores⟩ = T := ⟨_, rfl⟩
  have HTT := Lib.hid hTE
  obtain ⟨R, hR⟩ : ∃ R : Bool, modB ⟨pages, imports, cores⟩ = R := ⟨_, rfl⟩
  have HRR := Lib.hid hR
  rw [← hZ]
  rw [hR] at hcall htext
  rw [hTE] at htext
  have HC := Lib.hid hcall
  have HX := Lib.hid htext
  clear hcall htext hR hTE hZ h hwf hsz
  go_enter Tryz.func8, Tryz.ntmps8
  go_wp2_with fail
  obtain ⟨w0, hw0⟩ : ∃ W, W = w.alloc (.cells #[.int .i64 pages, importsV, coresV] 31) := ⟨_, rfl⟩
  rw [← hw0]
  have bA : Blk w0 w.heap.size 31 #[.int .i64 pages, importsV, coresV] := by rw [hw0]; exact Blk.new w _ _
  have hB0 : Below w.heap.size w w0 := by rw [hw0]; exact (Below.refl _ _).alloc (Nat.le_refl _) _
  clear hw0
  refine (HC.out w0 hB0).mono ?_
  rintro e w1 ⟨rfl, hb1⟩
  have hB1 := hB0.trans (hb1.mono hB0.size)
  replace bA := bA.step hb1
  have a_pages : w1.cell? ⟨w.heap.size, 0, none⟩ = some (.int .i64 pages) := bA.cell 0
  have a_imports : w1.cell? ⟨w.heap.size, 1, none⟩ = some (importsV) := bA.cell 1
  have a_cores : w1.cell? ⟨w.heap.size, 2, none⟩ = some (coresV) := bA.cell 2
  cases R
  · have HF : Hid (Z = ⟨#[]⟩) := by show _ = _; rw [HZ.out, modTR_no HRR.out]
    go_wp2_with fail
    go_ret
    exact ⟨ret_str HF.out.symm, hB1⟩
  · have HF : Hid (Z = T) := by show _ = _; rw [HZ.out, modTR_yes HRR.out, HTT.out]
    go_wp2_with fail
    refine (HX.out w1 hB1 (by first | rfl | trivial)).mono ?_
    rintro e w2 ⟨rfl, hb2⟩
    go_wp2_with fail
    go_ret
    exact ⟨ret_str HF.out.symm, hB1.trans (hb2.mono hB1.size)⟩
def laidMT : List (String × DataW Unit) := [("math/bits.deBruijn32tab", Rows.laid_math_bits_deBruijn32tab), ("math/bits.deBruijn64tab", Rows.laid_math_bits_deBruijn64tab), ("internal/strconv.uint64pow10", Rows.laid_internal_strconv_uint64pow10), ("unicode.White_Space", Rows.laid_unicode_White_Space), ("strings.asciiSpace", Rows.laid_strings_asciiSpace)]
theorem tabMT_of {w : World} (h : laidMetH Tryz.prog laidMT w) : TabX w := tabX_reads (by kernel_rfl) (.tail _ (.tail _ (.tail _ (.tail _ (.head _))))) (.tail _ (.tail _ (.head _))) h
end Go.Proofs.YtflpfcnpjadccaaGreatDoor

