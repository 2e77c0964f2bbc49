/-
  spec.l04Point (by program: gen_pt.py).
-/
import Derived.Test.YtdmmiboefdbcdaaDoorChr
import Derived.Test.YtdmmiboefdbcdaaDoorByR
import Derived.Test.YtdmmiboefdbcdaaDoorIdx
import Derived.Laws.Shifts
import Derived.Laws.Concat
import Derived.Deep.RegionHeld3
namespace Go.Proofs.YtdmmiboefdbcdaaDoor
open Go.RowKit
set_option linter.unusedVariables false
set_option linter.unusedSimpArgs false
set_option linter.unnecessarySimpa false
set_option maxRecDepth 16000

def ptRes (o : Option (Int × Nat)) : Ending := match o with
  | none => .returned (.tuple #[.int .i64 0, .int .i64 0])
  | some (n, m) => .returned (.tuple #[.int .i64 n, .int .i64 m])
def PNO : Ending := .returned (.tuple #[.int .i64 0, .int .i64 0])
theorem pt1_eq {l : List Int} {b : Int} (h : l[0]? = some b) : pt1 l = if manyOf b ≤ l.length ∧ charOk (ptVal l b) = true ∧ Lib.encodeRuneZ (ptVal l b) = l.take (manyOf b) then some (ptVal l b, manyOf b) else none := by
  cases l with
  | nil => cases h
  | cons c r => simp at h; subst h; rfl
theorem pt1_no1 {s : ByteArray} {b : Int} (h : (byt s)[0]? = some b) (h1 : ¬ manyOf b ≤ s.size) : pt1 (byt s) = none := by
  rw [pt1_eq h, if_neg fun e => h1 (by simpa using e.1)]
theorem pt1_no2 {s : ByteArray} {b : Int} (h : (byt s)[0]? = some b) (h1 : charOk (ptVal (byt s) b) = false) : pt1 (byt s) = none := by
  rw [pt1_eq h, if_neg fun e => by rw [h1] at e; exact absurd e.2.1 (by decide)]
theorem pt1_no3 {s : ByteArray} {b v : Int} (h : (byt s)[0]? = some b) (hv : v = ptVal (byt s) b) (h1 : ¬ strOfNums (Lib.encodeRuneZ v) = s.extract 0 (manyOf b)) : pt1 (byt s) = none := by
  subst hv
  rw [pt1_eq h, if_neg fun e => h1 ((str_take (enc_byte _)).2 e.2.2)]
theorem pt1_yes {s : ByteArray} {b v : Int} (h : (byt s)[0]? = some b) (hv : v = ptVal (byt s) b) (hc : charOk v = true) (hz : manyOf b ≤ s.size) (h1 : strOfNums (Lib.encodeRuneZ v) = s.extract 0 (manyOf b)) : pt1 (byt s) = some (v, manyOf b) := by
  subst hv
  rw [pt1_eq h, if_pos ⟨by simpa using hz, hc, (str_take (enc_byte _)).1 h1⟩]
theorem vvl_app : ∀ (r : List Int) (a c : Int), vvl a (r ++ [c]) = vvl a r * 64 + c % 64
  | [], a, c => rfl
  | d :: r, a, c => by rw [List.cons_append, vvl, vvl, vvl_app r]
theorem vvl_next {l : List Int} {k : Nat} {a v c : Int} (h : v = vvl a ((l.take k).drop 1)) (hk : 1 ≤ k) (hc : l[k]? = some c) : v * 64 + c % 64 = vvl a ((l.take (k + 1)).drop 1) := by
  have hl := (List.getElem?_eq_some_iff.1 hc).1
  rw [List.take_add_one, hc, List.drop_append_of_le_length (by simp; omega), Option.toList_some, vvl_app, h]
def ptB (k : Nat) (v : Int) : Prop := (k = 1 ∧ 0 ≤ v ∧ v < 256) ∨ (k = 2 ∧ 0 ≤ v ∧ v < 16384) ∨ (k = 3 ∧ 0 ≤ v ∧ v < 1048576) ∨ (k = 4 ∧ 0 ≤ v ∧ v < 67108864)
theorem ptB.next {k m : Nat} {v : Int} (h : ptB k v) (hk : k < m) (hm : m ≤ 4) (c : Nat) : 0 ≤ v ∧ v < 1048576 ∧ ptB (k + 1) (v * 64 + (c : Int) % 64) := by
  unfold ptB at *
  omega
theorem and63u {c : Nat} (hc : c < 256) : bits .and .u8 (c : Int) 63 = (c : Int) % 64 := u8_and63 _ (by omega) (by omega)
theorem or64 {v : Int} {c : Nat} (h0 : 0 ≤ v) (h1 : v < 1048576) : bits .or .i64 (v * 64) ((c : Int) % 64) = v * 64 + (c : Int) % 64 :=
  bits_join .i64 63 (by decide) (fun n a b => IntWalk.i64_in _ (by omega)) 6 _ _ (by omega) (by omega) (by omega) (by omega) (by omega) (by omega)
set_option maxHeartbeats 6400000 in
theorem l04Point_any (s : ByteArray) (hs : s.size ≤ maxLen) (w : World) : Calls Tryd.prog 34 #[.string s] w fun e w' => e = ptRes (pt1 (byt s)) ∧ Below w.heap.size w w' := by
  unfold maxLen at hs
  by_cases h0 : 1 ≤ s.size
  case neg =>
    have hz : s = ⟨#[]⟩ := by
      apply byt_inj
      rw [byt_nil]
      exact List.eq_nil_of_length_eq_zero (by rw [byt_length]; omega)
    subst hz
    go_enter Tryd.func34, Tryd.ntmps34
    go_wp2_with fail
    go_ret2
    exact ⟨rfl, Below.refl _ _⟩
  have h0' : 0 < s.size := h0
  have hne : s.toList.isEmpty = false := by
    rw [ByteArray.toList_eq]
    cases h : s.data.toList with
    | nil =>
      have h1 : (byt s).length = 0 := by rw [byt, h]; rfl
      rw [byt_length] at h1
      omega
    | cons a b => rfl
  have HB := Lib.hid (byt_get h0')
  have hb255 : s[0].toNat < 256 := s[0].toNat_lt
  rcases (show s[0].toNat < 192 ∨ (192 ≤ s[0].toNat ∧ s[0].toNat < 224) ∨ (224 ≤ s[0].toNat ∧ s[0].toNat < 240) ∨ 240 ≤ s[0].toNat by omega) with hr | ⟨hr, hr2⟩ | ⟨hr, hr2⟩ | hr
  · -- 0 .. 191: 1 bytes
    have hm : manyOf ((s[0].toNat : Nat) : Int) = 1 := by unfold manyOf; split <;> (try split) <;> (try split) <;> omega
    have hh : headOf ((s[0].toNat : Nat) : Int) = ((s[0].toNat : Nat) : Int) - 0 := by unfold headOf; split <;> (try split) <;> (try split) <;> omega
    have hz : 1 ≤ s.size := h0
    have HM := Lib.hid hm
    have HH := Lib.hid hh
    clear hm hh
    go_enter Tryd.func34, Tryd.ntmps34
    go_wp2_with fail
    go_quiet (fail)
    go_wp2_with fail
    go_loopw [5, 6] (fun n i wr => ∃ (k : Nat) (v : Int), 1 ≤ k ∧ k ≤ 1 ∧ n = .int .i64 v ∧ i = .int .i64 k ∧ Hid (v = vvl (((s[0].toNat : Nat) : Int) - 0) (((byt s).take k).drop 1)) ∧ ptB k v ∧ Below w.heap.size w wr) (fun _ i _ => 4 - (intOf i).toNat)
    case atStart => exact ⟨1, _, by omega, by omega, by first | rfl | (rw [Int.sub_zero]), rfl, Lib.hid (by rw [List.drop_of_length_le (by rw [List.length_take]; exact Nat.min_le_left _ _)]; rfl), .inl ⟨rfl, by omega, by omega⟩, below_drewN (Below.refl _ _) _⟩
    case round =>
      obtain ⟨k, v, hk1, hk, rfl, rfl, HV, hpb, hbr⟩ := hrel
      have hkm : k = 1 := by omega
      subst hkm
      have HVV : Hid (v = ptVal (byt s) ((s[0].toNat : Nat) : Int)) := by show _ = _; rw [ptVal, HM.out, HH.out]; exact HV.out
      clear hpb
      have HCK := fun W => specCharOk_any v W
      cases hc : charOk v
      case false =>
        rw [hc] at HCK
        have HK := Lib.hid HCK
        clear HCK
        have HF : Hid (ptRes (pt1 (byt s)) = PNO) := by show _ = _; rw [pt1_no2 HB.out (by rw [← HVV.out]; exact hc)]; rfl
        go_wp2_with fail
        go_quiet (first | (go_at_call 46; exact Calls.quiet_of_same ((HK.out _).mono fun e w' h => ⟨h.1, h.2.symm⟩)))
        go_wp2_with fail
        go_ret2
        exact ⟨HF.out.symm, below_drewN hbr _⟩
      rw [hc] at HCK
      have HK := Lib.hid HCK
      clear HCK
      have HC := Lib.hid hc
      obtain ⟨x, hx⟩ : ∃ x, x = strOfNums (Lib.encodeRuneZ v) := ⟨_, rfl⟩
      have HCH := Lib.hid (fun W => l04Char_any v hc W)
      rw [← hx] at HCH
      have HX := Lib.hid hx
      clear hx
      have hbd : (1 : Int) ≤ (s.size : Int) := by omega
      by_cases hxe : x = s.extract 0 1
      case pos =>
        have HF : Hid (ptRes (pt1 (byt s)) = .returned (.tuple #[.int .i64 v, .int .i64 1])) := by show _ = _; rw [pt1_yes HB.out HVV.out hc (HM.out ▸ hz) (by rw [HM.out, ← HX.out]; exact hxe), HM.out]; rfl
        subst hxe
        go_wp2_with fail
        go_region_held3 (fun _ => True) (trivial) (first | (go_at_call 46; refine (HK.out _).mono ?_; rintro e w' ⟨rfl, rfl⟩) | (go_at_call 47; refine (HCH.out _).mono ?_; rintro e w2 ⟨rfl, hb2⟩; have hB2 := hbr.drew.trans (hb2.mono hbr.drew.size)))
        go_wp2_with fail
        go_ret2
        exact ⟨HF.out.symm, hB2⟩
      case neg =>
        have HF : Hid (ptRes (pt1 (byt s)) = PNO) := by show _ = _; rw [pt1_no3 HB.out HVV.out (by rw [HM.out, ← HX.out]; exact hxe)]; rfl
        have hs2 : (x.toList == (s.extract 0 1).toList) = false := str_ne2 hxe
        go_wp2_with fail
        go_region_held3 (fun _ => True) (trivial) (first | (go_at_call 46; refine (HK.out _).mono ?_; rintro e w' ⟨rfl, rfl⟩) | (go_at_call 47; refine (HCH.out _).mono ?_; rintro e w2 ⟨rfl, hb2⟩; have hB2 := hbr.drew.trans (hb2.mono hbr.drew.size)))
        go_wp2_with fail
        go_ret2
        exact ⟨HF.out.symm, hB2⟩
  · -- 192 .. 223: 2 bytes
    have hm : manyOf ((s[0].toNat : Nat) : Int) = 2 := by unfold manyOf; split <;> (try split) <;> (try split) <;> omega
    have hh : headOf ((s[0].toNat : Nat) : Int) = ((s[0].toNat : Nat) : Int) - 192 := by unfold headOf; split <;> (try split) <;> (try split) <;> omega
    by_cases hz : 2 ≤ s.size
    case neg =>
      have HF : Hid (ptRes (pt1 (byt s)) = PNO) := by show _ = _; rw [pt1_no1 HB.out (by rw [hm]; omega)]; rfl
      have hz' : (s.size : Int) < 2 := by omega
      clear hm hh
      go_enter Tryd.func34, Tryd.ntmps34
      go_wp2_with fail
      go_quiet (fail)
      go_wp2_with fail
      go_quiet (fail)
      go_wp2_with fail
      go_ret2
      exact ⟨HF.out.symm, below_drewN (Below.refl _ _) _⟩
    have HM := Lib.hid hm
    have HH := Lib.hid hh
    clear hm hh
    go_enter Tryd.func34, Tryd.ntmps34
    go_wp2_with fail
    go_quiet (fail)
    go_wp2_with fail
    go_quiet (fail)
    go_wp2_with fail
    go_loopw [5, 6] (fun n i wr => ∃ (k : Nat) (v : Int), 1 ≤ k ∧ k ≤ 2 ∧ n = .int .i64 v ∧ i = .int .i64 k ∧ Hid (v = vvl (((s[0].toNat : Nat) : Int) - 192) (((byt s).take k).drop 1)) ∧ ptB k v ∧ Below w.heap.size w wr) (fun _ i _ => 4 - (intOf i).toNat)
    case atStart => exact ⟨1, _, by omega, by omega, by first | rfl | (rw [Int.sub_zero]), rfl, Lib.hid (by rw [List.drop_of_length_le (by rw [List.length_take]; exact Nat.min_le_left _ _)]; rfl), .inl ⟨rfl, by omega, by omega⟩, below_drewN (Below.refl _ _) _⟩
    case round =>
      obtain ⟨k, v, hk1, hk, rfl, rfl, HV, hpb, hbr⟩ := hrel
      by_cases hlt : k < 2
      case pos =>
        have hks : k < s.size := by omega
        have hb2 := byt_get hks
        have hb255 : s[k].toNat < 256 := s[k].toNat_lt
        obtain ⟨hv0, hv1, hpb2⟩ := hpb.next hlt (by omega) s[k].toNat
        have HV2 := Lib.hid (vvl_next HV.out hk1 hb2)
        have ha := and63u hb255
        have hst := or64 (c := s[k].toNat) hv0 hv1
        have hsh : IntKind.i64.wrap (v * 64) = v * 64 := IntWalk.i64_in _ (by omega)
        clear hb2 hpb
        go_wp2_with fail
        go_roundw
        case rel => exact ⟨k + 1, v * 64 + ((s[k].toNat : Nat) : Int) % 64, by omega, by omega, by first | rfl | simpa using hst, by go_num, HV2, hpb2, hbr⟩
        case measure => simp [intOf]; omega
      have hkm : k = 2 := by omega
      subst hkm
      have HVV : Hid (v = ptVal (byt s) ((s[0].toNat : Nat) : Int)) := by show _ = _; rw [ptVal, HM.out, HH.out]; exact HV.out
      clear hpb
      have HCK := fun W => specCharOk_any v W
      cases hc : charOk v
      case false =>
        rw [hc] at HCK
        have HK := Lib.hid HCK
        clear HCK
        have HF : Hid (ptRes (pt1 (byt s)) = PNO) := by show _ = _; rw [pt1_no2 HB.out (by rw [← HVV.out]; exact hc)]; rfl
        go_wp2_with fail
        go_quiet (first | (go_at_call 46; exact Calls.quiet_of_same ((HK.out _).mono fun e w' h => ⟨h.1, h.2.symm⟩)))
        go_wp2_with fail
        go_ret2
        exact ⟨HF.out.symm, below_drewN hbr _⟩
      rw [hc] at HCK
      have HK := Lib.hid HCK
      clear HCK
      have HC := Lib.hid hc
      obtain ⟨x, hx⟩ : ∃ x, x = strOfNums (Lib.encodeRuneZ v) := ⟨_, rfl⟩
      have HCH := Lib.hid (fun W => l04Char_any v hc W)
      rw [← hx] at HCH
      have HX := Lib.hid hx
      clear hx
      have hbd : (2 : Int) ≤ (s.size : Int) := by omega
      by_cases hxe : x = s.extract 0 2
      case pos =>
        have HF : Hid (ptRes (pt1 (byt s)) = .returned (.tuple #[.int .i64 v, .int .i64 2])) := by show _ = _; rw [pt1_yes HB.out HVV.out hc (HM.out ▸ hz) (by rw [HM.out, ← HX.out]; exact hxe), HM.out]; rfl
        subst hxe
        go_wp2_with fail
        go_region_held3 (fun _ => True) (trivial) (first | (go_at_call 46; refine (HK.out _).mono ?_; rintro e w' ⟨rfl, rfl⟩) | (go_at_call 47; refine (HCH.out _).mono ?_; rintro e w2 ⟨rfl, hb2⟩; have hB2 := hbr.drew.trans (hb2.mono hbr.drew.size)))
        go_wp2_with fail
        go_ret2
        exact ⟨HF.out.symm, hB2⟩
      case neg =>
        have HF : Hid (ptRes (pt1 (byt s)) = PNO) := by show _ = _; rw [pt1_no3 HB.out HVV.out (by rw [HM.out, ← HX.out]; exact hxe)]; rfl
        have hs2 : (x.toList == (s.extract 0 2).toList) = false := str_ne2 hxe
        go_wp2_with fail
        go_region_held3 (fun _ => True) (trivial) (first | (go_at_call 46; refine (HK.out _).mono ?_; rintro e w' ⟨rfl, rfl⟩) | (go_at_call 47; refine (HCH.out _).mono ?_; rintro e w2 ⟨rfl, hb2⟩; have hB2 := hbr.drew.trans (hb2.mono hbr.drew.size)))
        go_wp2_with fail
        go_ret2
        exact ⟨HF.out.symm, hB2⟩
  · -- 224 .. 239: 3 bytes
    have hm : manyOf ((s[0].toNat : Nat) : Int) = 3 := by unfold manyOf; split <;> (try split) <;> (try split) <;> omega
    have hh : headOf ((s[0].toNat : Nat) : Int) = ((s[0].toNat : Nat) : Int) - 224 := by unfold headOf; split <;> (try split) <;> (try split) <;> omega
    by_cases hz : 3 ≤ s.size
    case neg =>
      have HF : Hid (ptRes (pt1 (byt s)) = PNO) := by show _ = _; rw [pt1_no1 HB.out (by rw [hm]; omega)]; rfl
      have hz' : (s.size : Int) < 3 := by omega
      clear hm hh
      go_enter Tryd.func34, Tryd.ntmps34
      go_wp2_with fail
      go_quiet (fail)
      go_wp2_with fail
      go_quiet (fail)
      go_wp2_with fail
      go_ret2
      exact ⟨HF.out.symm, below_drewN (Below.refl _ _) _⟩
    have HM := Lib.hid hm
    have HH := Lib.hid hh
    clear hm hh
    go_enter Tryd.func34, Tryd.ntmps34
    go_wp2_with fail
    go_quiet (fail)
    go_wp2_with fail
    go_quiet (fail)
    go_wp2_with fail
    go_loopw [5, 6] (fun n i wr => ∃ (k : Nat) (v : Int), 1 ≤ k ∧ k ≤ 3 ∧ n = .int .i64 v ∧ i = .int .i64 k ∧ Hid (v = vvl (((s[0].toNat : Nat) : Int) - 224) (((byt s).take k).drop 1)) ∧ ptB k v ∧ Below w.heap.size w wr) (fun _ i _ => 4 - (intOf i).toNat)
    case atStart => exact ⟨1, _, by omega, by omega, by first | rfl | (rw [Int.sub_zero]), rfl, Lib.hid (by rw [List.drop_of_length_le (by rw [List.length_take]; exact Nat.min_le_left _ _)]; rfl), .inl ⟨rfl, by omega, by omega⟩, below_drewN (Below.refl _ _) _⟩
    case round =>
      obtain ⟨k, v, hk1, hk, rfl, rfl, HV, hpb, hbr⟩ := hrel
      by_cases hlt : k < 3
      case pos =>
        have hks : k < s.size := by omega
        have hb2 := byt_get hks
        have hb255 : s[k].toNat < 256 := s[k].toNat_lt
        obtain ⟨hv0, hv1, hpb2⟩ := hpb.next hlt (by omega) s[k].toNat
        have HV2 := Lib.hid (vvl_next HV.out hk1 hb2)
        have ha := and63u hb255
        have hst := or64 (c := s[k].toNat) hv0 hv1
        have hsh : IntKind.i64.wrap (v * 64) = v * 64 := IntWalk.i64_in _ (by omega)
        clear hb2 hpb
        go_wp2_with fail
        go_roundw
        case rel => exact ⟨k + 1, v * 64 + ((s[k].toNat : Nat) : Int) % 64, by omega, by omega, by first | rfl | simpa using hst, by go_num, HV2, hpb2, hbr⟩
        case measure => simp [intOf]; omega
      have hkm : k = 3 := by omega
      subst hkm
      have HVV : Hid (v = ptVal (byt s) ((s[0].toNat : Nat) : Int)) := by show _ = _; rw [ptVal, HM.out, HH.out]; exact HV.out
      clear hpb
      have HCK := fun W => specCharOk_any v W
      cases hc : charOk v
      case false =>
        rw [hc] at HCK
        have HK := Lib.hid HCK
        clear HCK
        have HF : Hid (ptRes (pt1 (byt s)) = PNO) := by show _ = _; rw [pt1_no2 HB.out (by rw [← HVV.out]; exact hc)]; rfl
        go_wp2_with fail
        go_quiet (first | (go_at_call 46; exact Calls.quiet_of_same ((HK.out _).mono fun e w' h => ⟨h.1, h.2.symm⟩)))
        go_wp2_with fail
        go_ret2
        exact ⟨HF.out.symm, below_drewN hbr _⟩
      rw [hc] at HCK
      have HK := Lib.hid HCK
      clear HCK
      have HC := Lib.hid hc
      obtain ⟨x, hx⟩ : ∃ x, x = strOfNums (Lib.encodeRuneZ v) := ⟨_, rfl⟩
      have HCH := Lib.hid (fun W => l04Char_any v hc W)
      rw [← hx] at HCH
      have HX := Lib.hid hx
      clear hx
      have hbd : (3 : Int) ≤ (s.size : Int) := by omega
      by_cases hxe : x = s.extract 0 3
      case pos =>
        have HF : Hid (ptRes (pt1 (byt s)) = .returned (.tuple #[.int .i64 v, .int .i64 3])) := by show _ = _; rw [pt1_yes HB.out HVV.out hc (HM.out ▸ hz) (by rw [HM.out, ← HX.out]; exact hxe), HM.out]; rfl
        subst hxe
        go_wp2_with fail
        go_region_held3 (fun _ => True) (trivial) (first | (go_at_call 46; refine (HK.out _).mono ?_; rintro e w' ⟨rfl, rfl⟩) | (go_at_call 47; refine (HCH.out _).mono ?_; rintro e w2 ⟨rfl, hb2⟩; have hB2 := hbr.drew.trans (hb2.mono hbr.drew.size)))
        go_wp2_with fail
        go_ret2
        exact ⟨HF.out.symm, hB2⟩
      case neg =>
        have HF : Hid (ptRes (pt1 (byt s)) = PNO) := by show _ = _; rw [pt1_no3 HB.out HVV.out (by rw [HM.out, ← HX.out]; exact hxe)]; rfl
        have hs2 : (x.toList == (s.extract 0 3).toList) = false := str_ne2 hxe
        go_wp2_with fail
        go_region_held3 (fun _ => True) (trivial) (first | (go_at_call 46; refine (HK.out _).mono ?_; rintro e w' ⟨rfl, rfl⟩) | (go_at_call 47; refine (HCH.out _).mono ?_; rintro e w2 ⟨rfl, hb2⟩; have hB2 := hbr.drew.trans (hb2.mono hbr.drew.size)))
        go_wp2_with fail
        go_ret2
        exact ⟨HF.out.symm, hB2⟩
  · -- 240 .. 255: 4 bytes
    have hm : manyOf ((s[0].toNat : Nat) : Int) = 4 := by unfold manyOf; split <;> (try split) <;> (try split) <;> omega
    have hh : headOf ((s[0].toNat : Nat) : Int) = ((s[0].toNat : Nat) : Int) - 240 := by unfold headOf; split <;> (try split) <;> (try split) <;> omega
    by_cases hz : 4 ≤ s.size
    case neg =>
      have HF : Hid (ptRes (pt1 (byt s)) = PNO) := by show _ = _; rw [pt1_no1 HB.out (by rw [hm]; omega)]; rfl
      have hz' : (s.size : Int) < 4 := by omega
      clear hm hh
      go_enter Tryd.func34, Tryd.ntmps34
      go_wp2_with fail
      go_quiet (fail)
      go_wp2_with fail
      go_quiet (fail)
      go_wp2_with fail
      go_ret2
      exact ⟨HF.out.symm, below_drewN (Below.refl _ _) _⟩
    have HM := Lib.hid hm
    have HH := Lib.hid hh
    clear hm hh
    go_enter Tryd.func34, Tryd.ntmps34
    go_wp2_with fail
    go_quiet (fail)
    go_wp2_with fail
    go_quiet (fail)
    go_wp2_with fail
    go_loopw [5, 6] (fun n i wr => ∃ (k : Nat) (v : Int), 1 ≤ k ∧ k ≤ 4 ∧ n = .int .i64 v ∧ i = .int .i64 k ∧ Hid (v = vvl (((s[0].toNat : Nat) : Int) - 240) (((byt s).take k).drop 1)) ∧ ptB k v ∧ Below w.heap.size w wr) (fun _ i _ => 4 - (intOf i).toNat)
    case atStart => exact ⟨1, _, by omega, by omega, by first | rfl | (rw [Int.sub_zero]), rfl, Lib.hid (by rw [List.drop_of_length_le (by rw [List.length_take]; exact Nat.min_le_left _ _)]; rfl), .inl ⟨rfl, by omega, by omega⟩, below_drewN (Below.refl _ _) _⟩
    case round =>
      obtain ⟨k, v, hk1, hk, rfl, rfl, HV, hpb, hbr⟩ := hrel
      by_cases hlt : k < 4
      case pos =>
        have hks : k < s.size := by omega
        have hb2 := byt_get hks
        have hb255 : s[k].toNat < 256 := s[k].toNat_lt
        obtain ⟨hv0, hv1, hpb2⟩ := hpb.next hlt (by omega) s[k].toNat
        have HV2 := Lib.hid (vvl_next HV.out hk1 hb2)
        have ha := and63u hb255
        have hst := or64 (c := s[k].toNat) hv0 hv1
        have hsh : IntKind.i64.wrap (v * 64) = v * 64 := IntWalk.i64_in _ (by omega)
        clear hb2 hpb
        go_wp2_with fail
        go_roundw
        case rel => exact ⟨k + 1, v * 64 + ((s[k].toNat : Nat) : Int) % 64, by omega, by omega, by first | rfl | simpa using hst, by go_num, HV2, hpb2, hbr⟩
        case measure => simp [intOf]; omega
      have hkm : k = 4 := by omega
      subst hkm
      have HVV : Hid (v = ptVal (byt s) ((s[0].toNat : Nat) : Int)) := by show _ = _; rw [ptVal, HM.out, HH.out]; exact HV.out
      clear hpb
      have HCK := fun W => specCharOk_any v W
      cases hc : charOk v
      case false =>
        rw [hc] at HCK
        have HK := Lib.hid HCK
        clear HCK
        have HF : Hid (ptRes (pt1 (byt s)) = PNO) := by show _ = _; rw [pt1_no2 HB.out (by rw [← HVV.out]; exact hc)]; rfl
        go_wp2_with fail
        go_quiet (first | (go_at_call 46; exact Calls.quiet_of_same ((HK.out _).mono fun e w' h => ⟨h.1, h.2.symm⟩)))
        go_wp2_with fail
        go_ret2
        exact ⟨HF.out.symm, below_drewN hbr _⟩
      rw [hc] at HCK
      have HK := Lib.hid HCK
      clear HCK
      have HC := Lib.hid hc
      obtain ⟨x, hx⟩ : ∃ x, x = strOfNums (Lib.encodeRuneZ v) := ⟨_, rfl⟩
      have HCH := Lib.hid (fun W => l04Char_any v hc W)
      rw [← hx] at HCH
      have HX := Lib.hid hx
      clear hx
      have hbd : (4 : Int) ≤ (s.size : Int) := by omega
      by_cases hxe : x = s.extract 0 4
      case pos =>
        have HF : Hid (ptRes (pt1 (byt s)) = .returned (.tuple #[.int .i64 v, .int .i64 4])) := by show _ = _; rw [pt1_yes HB.out HVV.out hc (HM.out ▸ hz) (by rw [HM.out, ← HX.out]; exact hxe), HM.out]; rfl
        subst hxe
        go_wp2_with fail
        go_region_held3 (fun _ => True) (trivial) (first | (go_at_call 46; refine (HK.out _).mono ?_; rintro e w' ⟨rfl, rfl⟩) | (go_at_call 47; refine (HCH.out _).mono ?_; rintro e w2 ⟨rfl, hb2⟩; have hB2 := hbr.drew.trans (hb2.mono hbr.drew.size)))
        go_wp2_with fail
        go_ret2
        exact ⟨HF.out.symm, hB2⟩
      case neg =>
        have HF : Hid (ptRes (pt1 (byt s)) = PNO) := by show _ = _; rw [pt1_no3 HB.out HVV.out (by rw [HM.out, ← HX.out]; exact hxe)]; rfl
        have hs2 : (x.toList == (s.extract 0 4).toList) = false := str_ne2 hxe
        go_wp2_with fail
        go_region_held3 (fun _ => True) (trivial) (first | (go_at_call 46; refine (HK.out _).mono ?_; rintro e w' ⟨rfl, rfl⟩) | (go_at_call 47; refine (HCH.out _).mono ?_; rintro e w2 ⟨rfl, hb2⟩; have hB2 := hbr.drew.trans (hb2.mono hbr.drew.size)))
        go_wp2_with fail
        go_ret2
        exact ⟨HF.out.symm, hB2⟩
end Go.Proofs.YtdmmiboefdbcdaaDoor

