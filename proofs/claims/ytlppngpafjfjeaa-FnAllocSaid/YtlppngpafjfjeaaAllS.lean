/-
  spec.l10Alloc (by program: gen_alls.py).
-/
import Derived.Test.YtlppngpafjfjeaaAllI
namespace Go.Proofs.Ytlppngpafjfjeaa
open Go.RowKit
set_option linter.unusedVariables false
set_option linter.unusedSimpArgs false
set_option linter.unnecessarySimpa false
set_option maxRecDepth 16000

def allocM (s : ByteArray) (fs : List Block) (z : Int) (a : Nat) : Memory × Int × Int := match allocR fs z a with
  | some (l, t) => (⟨s, l⟩, t, 0)
  | none => (⟨⟨#[]⟩, []⟩, 0, 4)
theorem allocM_some {s : ByteArray} {fs l : List Block} {z t : Int} {a : Nat} (h : allocR fs z a = some (l, t)) : allocM s fs z a = (⟨s, l⟩, t, 0) := by rw [allocM, h]
theorem allocM_none {s : ByteArray} {fs : List Block} {z : Int} {a : Nat} (h : allocR fs z a = none) : allocM s fs z a = (⟨⟨#[]⟩, []⟩, 0, 4) := by rw [allocM, h]
def Mem3 (w : World) (r : Memory × Int × Int) (e : Ending) (w' : World) : Prop :=
  ∃ us, e = .returned (.tuple #[.agg us.toArray, .int .i64 r.2.1, .int .i64 r.2.2]) ∧ LvC w' w.heap.size w'.heap.size (Memory.pd r.1) us ∧ Below w.heap.size w w'
set_option maxHeartbeats 25600000 in
theorem l10Alloc_nil {c : Nat} {A : Option Addr} {s : ByteArray} {z : Int} {a : Nat} {w : World} (hM : MemF s []) (hz : 0 < z) (hzz : (Lit.int .i64 z).wf = true) (ha : 1 ≤ a) (ha8 : a ≤ 8) :
    Calls Try.prog 47 #[.agg #[.string s, .slice A 0 c], .int .i64 z, .int .i64 a] w fun e w' => Mem3 w (allocM s [] z a) e w' := by
  obtain ⟨i0, hi, hy0, hy1, hy2⟩ := info_parts block_info
  have hs4 := hM.size
  have HM := Lib.hid hM
  have hzb := wf64 hzz
  have hz0 : (z == 0) = false := by simp; omega
  obtain ⟨w0, hw0⟩ : ∃ W, W = ((w.alloc (.cells #[.string s, .slice A 0 c] 29)).alloc (.cells #[.string ⟨#[]⟩, .slice none 0 0] 29)) := ⟨_, rfl⟩
  have bP : Blk w0 w.heap.size 29 #[.string s, .slice A 0 c] := by rw [hw0]; exact (Blk.new w _ _).alloc _
  have bR : Blk w0 (w.heap.size + 1) 29 #[.string ⟨#[]⟩, .slice none 0 0] := by rw [hw0]; have := Blk.new (w.alloc (.cells #[.string s, .slice A 0 c] 29)) 29 #[.string ⟨#[]⟩, .slice none 0 0]; simpa using this
  have hB0 : Below w.heap.size w w0 := by rw [hw0]; exact ((Below.refl _ _).alloc (Nat.le_refl _) _).alloc (by simp) _
  have hs0 : w0.heap.size = w.heap.size + 2 := by rw [hw0]; simp
  have HW := Lib.hid hw0
  have HP0 := Lib.hid bP
  have HR0 := Lib.hid bR
  clear hw0
  have HF : Hid (allocR [] z a = none) := rfl
  have p1 : w0.cell? ⟨w.heap.size, 1, none⟩ = some (.slice A 0 c) := bP.cell 1
  have HS0 := Lib.hid hs0
  go_enter Try.func47, Try.ntmps47
  go_wp2_with fail
  rw [← HW.out]
  go_loopw [9] (fun i wr => i = .int .i64 0 ∧ w0 = wr) (fun _ _ => 0)
  case atStart => exact ⟨rfl, rfl⟩
  case round =>
    obtain ⟨rfl, rfl⟩ := hrel
    have r0 : w0.cell? ⟨w.heap.size + 1, 0, none⟩ = some (.string ⟨#[]⟩) := bR.cell 0
    have r1 : w0.cell? ⟨w.heap.size + 1, 1, none⟩ = some (.slice none 0 0) := bR.cell 1
    have f0 := bR.frozen 0
    have f1 := bR.frozen 1
    have hsw : w.heap.size + 2 ≤ w0.heap.size := by omega
    go_wp2_with fail
    rw [allocM_none HF.out]
    refine bodyPost_ret (v := .tuple #[.agg #[.string ⟨#[]⟩, .slice none 0 0], .int .i64 0, .int .i64 4]) (by simp [results, Try.results47, go_sem, r0, r1]) rfl ⟨[.string ⟨#[]⟩, .slice none 0 0], rfl, lvC_mem (nil_blk _ _ (by simp; omega)) _, ?_⟩
    repeat (first | exact hB0 | exact HB0.out.trans (hB0.mono (by have := HS0.out; omega)) | refine Below.setCell ?_ (by simp; try omega) _)
set_option maxHeartbeats 25600000 in
theorem l10Alloc_any {n c g off : Nat} {fs : List Block} {s : ByteArray} {z : Int} {a : Nat} {w : World} (hnc : n ≤ c) (hg : g < w.heap.size) (hn : n = fs.length) (hat : AtB w g off fs) (hM : MemF s fs) (hz : 0 < z) (hzz : (Lit.int .i64 z).wf = true) (ha : 1 ≤ a) (ha8 : a ≤ 8) :
    Calls Try.prog 47 #[.agg #[.string s, .slice (some ⟨g, off, none⟩) n c], .int .i64 z, .int .i64 a] w fun e w' => Mem3 w (allocM s fs z a) e w' := by
  obtain ⟨i0, hi, hy0, hy1, hy2⟩ := info_parts block_info
  have hs4 := hM.size
  have HM := Lib.hid hM
  have hzb := wf64 hzz
  have hz0 : (z == 0) = false := by simp; omega
  obtain ⟨w0, hw0⟩ : ∃ W, W = ((w.alloc (.cells #[.string s, .slice (some ⟨g, off, none⟩) n c] 29)).alloc (.cells #[.string ⟨#[]⟩, .slice none 0 0] 29)) := ⟨_, rfl⟩
  have bP : Blk w0 w.heap.size 29 #[.string s, .slice (some ⟨g, off, none⟩) n c] := by rw [hw0]; exact (Blk.new w _ _).alloc _
  have bR : Blk w0 (w.heap.size + 1) 29 #[.string ⟨#[]⟩, .slice none 0 0] := by rw [hw0]; have := Blk.new (w.alloc (.cells #[.string s, .slice (some ⟨g, off, none⟩) n c] 29)) 29 #[.string ⟨#[]⟩, .slice none 0 0]; simpa using this
  have hB0 : Below w.heap.size w w0 := by rw [hw0]; exact ((Below.refl _ _).alloc (Nat.le_refl _) _).alloc (by simp) _
  have hs0 : w0.heap.size = w.heap.size + 2 := by rw [hw0]; simp
  have HW := Lib.hid hw0
  have HP0 := Lib.hid bP
  have HR0 := Lib.hid bR
  clear hw0
  have hn4 : n ≤ 4096 := by rw [hn]; exact hM.len
  have HN := Lib.hid hn
  have HAT := Lib.hid (hat.below hB0 hg)
  have HG : Hid (g < w0.heap.size) := by show g < w0.heap.size; omega
  have HB0 := Lib.hid hB0
  have HS0 := Lib.hid hs0
  clear hn hat hM hzz hB0 hs0 bP bR
  go_enter Try.func47, Try.ntmps47
  go_wp2_with fail
  rw [← HW.out]
  go_loopw [9] (fun i wr => ∃ k : Nat, k ≤ n ∧ i = .int .i64 k ∧ Hid (∀ (j : Nat) (x : Block), j < k → fs[j]? = some x → fitsB z a x = false) ∧ Below w0.heap.size w0 wr) (fun i _ => n - (intOf i).toNat)
  case atStart => exact ⟨0, Nat.zero_le _, rfl, Lib.hid fun j x h => absurd h (by omega), Below.refl _ _⟩
  case round =>
    obtain ⟨k, hk, rfl, HP, hbr⟩ := hrel
    have bP := HP0.out.step hbr
    have p1 : wr.cell? ⟨w.heap.size, 1, none⟩ = some (.slice (some ⟨g, off, none⟩) n c) := bP.cell 1
    by_cases hlt : k < n
    case neg =>
      have HF : Hid (allocR fs z a = none) := allocR_none fun j x hx => HP.out j x (by have := (List.getElem?_eq_some_iff.1 hx).1; have := HN.out; omega) hx
      have hkn : k = n := by omega
      subst hkn
      have bR := HR0.out.step hbr
      have r0 : wr.cell? ⟨w.heap.size + 1, 0, none⟩ = some (.string ⟨#[]⟩) := bR.cell 0
      have r1 : wr.cell? ⟨w.heap.size + 1, 1, none⟩ = some (.slice none 0 0) := bR.cell 1
      have f0 := bR.frozen 0
      have f1 := bR.frozen 1
      have hsw : w.heap.size + 2 ≤ wr.heap.size := by have := hbr.size; first | omega | (have := HS0.out; omega)
      go_wp2_with fail
      rw [allocM_none HF.out]
      refine bodyPost_ret (v := .tuple #[.agg #[.string ⟨#[]⟩, .slice none 0 0], .int .i64 0, .int .i64 4]) (by simp [results, Try.results47, go_sem, r0, r1]) rfl ⟨[.string ⟨#[]⟩, .slice none 0 0], rfl, lvC_mem (nil_blk _ _ (by simp; omega)) _, ?_⟩
      repeat (first | exact hB0 | exact HB0.out.trans (hbr.mono (by have := HS0.out; omega)) | refine Below.setCell ?_ (by simp; try omega) _)
    obtain ⟨x, hx, hmem⟩ := at_lt HN.out hlt
    have hxb := HM.out.all_ x hmem
    obtain ⟨xa, xz⟩ := x
    simp only at hxb
    obtain ⟨xn, hxn, hpl⟩ := plc_eq (a := a) (b := ⟨xa, xz⟩) (by show (0 : Int) ≤ xa; omega)
    replace hxn : xa = (xn : Int) := hxn
    subst hxn
    have HX := Lib.hid hx
    have hu1 := up_ge xn ha
    have hu2 := up_le xn ha
    have hali := specUp_any xn a
    obtain ⟨t, ht⟩ : ∃ t, t = up xn a := ⟨_, rfl⟩
    rw [← ht] at hu1 hu2 hpl hali
    have HU := Lib.hid hali
    have HPL := Lib.hid hpl
    clear hx hmem ht hpl hali
    have q0 : wr.cell? ⟨g, off + k * 2, none⟩ = some (.int .i64 (xn : Int)) := ((HAT.out.below hbr HG.out) k _ HX.out).1
    have q1 : wr.cell? ⟨g, off + k * 2 + 1, none⟩ = some (.int .i64 xz) := ((HAT.out.below hbr HG.out) k _ HX.out).2
    have hszr := hbr.size
    obtain ⟨wb, hwa⟩ : ∃ V, V = wr.alloc (.cells #[.int .i64 (xn : Int), .int .i64 xz] 49) := ⟨_, rfl⟩
    have hbb : Below w0.heap.size w0 wb := by rw [hwa]; exact hbr.alloc hbr.size _
    have bb2 : Blk wb wr.heap.size 49 #[.int .i64 (xn : Int), .int .i64 xz] := by rw [hwa]; exact Blk.new wr _ _
    have hwz : wr.heap.size + 1 = wb.heap.size := by rw [hwa]; simp
    have HWA := Lib.hid hwa
    have HWB := Lib.hid hwz
    clear hwa hwz bP
    go_wp2_with fail
    rw [← HWA.out]
    refine (HU.out _ (by omega) ha ha8).mono ?_
    rintro e w' ⟨rfl, rfl⟩
    have c0 := bb2.cell 0
    have c1 := bb2.cell 1
    have x1 : IntKind.i64.wrap ((xn : Int) + xz) = xn + xz := IntWalk.i64_in _ (by omega)
    have x2 : IntKind.i64.wrap ((xn : Int) + xz - t) = xn + xz - t := IntWalk.i64_in _ (by omega)
    have x3 : IntKind.i64.wrap ((t : Int) - xn) = t - xn := IntWalk.i64_in _ (by omega)
    have x4 : IntKind.i64.wrap (xz - z) = xz - z := IntWalk.i64_in _ (by omega)
    have hdr : fitsB z a ⟨xn, xz⟩ = (decide (z ≤ xz) && decide ((t : Int) - xn ≤ xz - z)) := by
      show (decide (z ≤ xz) && decide (plc a ⟨xn, xz⟩ - (xn : Int) ≤ xz - z)) = _
      rw [HPL.out]
    have HDR := Lib.hid hdr
    clear hdr
    by_cases hf : z ≤ xz ∧ (t : Int) - xn ≤ xz - z
    case neg =>
      have HNO : Hid (fitsB z a ⟨xn, xz⟩ = false) := by
        show _ = _
        rw [HDR.out, ← Bool.not_eq_true, Bool.and_eq_true, decide_eq_true_eq, decide_eq_true_eq]
        exact hf
      have HQ : Hid (∀ (j : Nat) (x : Block), j < k + 1 → fs[j]? = some x → fitsB z a x = false) := fun j y hj hy => by
        rcases Nat.lt_succ_iff_lt_or_eq.1 hj with h | rfl
        · exact HP.out j y h hy
        · rw [HX.out] at hy; cases hy; exact HNO.out
      by_cases hd0 : xz < z
      case pos =>
        have hd : decide (xz < z) = true := decide_eq_true hd0
        clear hf
        go_wp2_with fail
        go_roundw
        case rel => exact ⟨k + 1, by omega, by go_num, HQ, hbb⟩
        case measure => simp [intOf]; omega
      case neg =>
        have hd : decide (xz < z) = false := decide_eq_false hd0
        have hd1 : xz - z < (t : Int) - xn := by omega
        have hd2 : decide (xz - z < (t : Int) - xn) = true := decide_eq_true hd1
        clear hf
        go_wp2_with fail
        go_roundw
        case rel => exact ⟨k + 1, by omega, by go_num, HQ, hbb⟩
        case measure => simp [intOf]; omega
    have HAL : Hid (allocR fs z a = some (takeAt fs k ⟨xn, xz⟩ t z, (t : Int))) := by
      show _ = _
      have h1 : fitsB z a ⟨xn, xz⟩ = true := by
        rw [HDR.out, Bool.and_eq_true, decide_eq_true_eq, decide_eq_true_eq]
        exact hf
      have h2 := allocR_at k HX.out h1 HP.out
      rw [HPL.out] at h2
      exact h2
    obtain ⟨hf1, hf2⟩ := hf
    have hd : decide (xz < z) = false := decide_eq_false (by omega)
    have hd2 : decide (xz - z < (t : Int) - xn) = false := decide_eq_false (by omega)
    have x5 : IntKind.i64.wrap ((t : Int) + z) = t + z := IntWalk.i64_in _ (by omega)
    have x6 : IntKind.i64.wrap ((xn : Int) + xz - t - z) = xn + xz - t - z := IntWalk.i64_in _ (by omega)
    have hsz0 : (wb.alloc (.cells #[] 49)).heap.size = wb.heap.size + 1 := by simp
    have hbz : Below w0.heap.size w0 (wb.alloc (.cells #[] 49)) := hbb.alloc hbb.size _
    have p2 : wb.cell? ⟨w.heap.size, 1, none⟩ = some (.slice (some ⟨g, off, none⟩) n c) := (HP0.out.step hbb).cell 1
    have p3 : (wb.alloc (.cells #[] 49)).cell? ⟨w.heap.size, 1, none⟩ = some (.slice (some ⟨g, off, none⟩) n c) := (HP0.out.step hbz).cell 1
    have ho0 : (wb.alloc (.cells #[] 49)).ownsRow (wr.heap.size + 1) 49 2 (.slice (some ⟨wb.heap.size, 0, none⟩) 0 0) 0 [] := by rw [HWB.out]; exact World.ownsRow_made wb #[] 0 (Nat.le_refl _) (by simp) (by simp)
    have hbox : Blk (wb.alloc (.cells #[] 49)) wr.heap.size 49 #[.int .i64 (xn : Int), .int .i64 xz] := bb2.alloc _
    have HZ0 : Hid (wr.heap.size + 1 ≤ (wb.alloc (.cells #[] 49)).heap.size) := by have := HWB.out; show wr.heap.size + 1 ≤ _; rw [hsz0]; omega
    have hgz : g < (wb.alloc (.cells #[] 49)).heap.size := Nat.lt_of_lt_of_le HG.out hbz.size
    have HSRC : Hid (SrcOk (wb.alloc (.cells #[] 49)) (.slice (some ⟨g, off, none⟩) k c) 2 (fs.take k).length (bvals (fs.take k))) := src_blk (rep_pre (HAT.out.below hbz HG.out) hgz HN.out hk hn4)
    have HTK : Hid ((fs.take k).length ≤ 4096) := by show _ ≤ _; rw [List.length_take]; omega
    have HDK : Hid ((fs.drop (k + 1)).length ≤ 4096) := by show _ ≤ _; rw [List.length_drop]; have := HN.out; omega
    have hkc : k ≤ c := by omega
    have hc0 : ¬ c = 0 := by omega
    have HO0 := Lib.hid ho0
    have HBX := Lib.hid hbox
    have HBZ := Lib.hid hbz
    clear hsz0 hbz ho0 hbox bb2 hgz
    by_cases hA : (xn : Int) < t
    case pos =>
      by_cases hZ : (0 : Int) < xn + xz - t - z
      case pos =>
        have HT : Hid (takeAt fs k ⟨xn, xz⟩ t z = fs.take k ++ ([⟨(xn : Int), (t : Int) - (xn : Int)⟩] : List Block) ++ ([⟨(t : Int) + z, (xn : Int) + xz - (t : Int) - z⟩] : List Block) ++ fs.drop (k + 1)) := by
          show _ = _
          have e : (xn : Int) + xz - ((t : Int) + z) = xn + xz - t - z := by omega
          rw [takeAt, cutA, cutZ, if_pos (by show (xn : Int) < (t : Int); omega), if_pos (by show (t : Int) + z < (xn : Int) + xz; omega)]
          simp [e]
        have dA : decide ((xn : Int) < t) = true := by simp; omega
        have dZ : decide ((0 : Int) < xn + xz - t - z) = true := by simp; omega
        go_wp2_with (first | (at_builtin; refine wpList_append_src rfl _ _ 27 rfl (wr.heap.size + 1) 49 i0 (.agg #[.int .i64 0, .int .i64 0]) 2 16 Try.underlying27 hi hy0 hy1 hy2 rfl (by decide) _ _ _ rfl HO0.out _ _ _ rfl HSRC.out (one_blk _) (by have := HTK.out; simp only [maxLen]; omega) (by have := HTK.out; omega) HZ0.out ?_; intro v' wc hown' hgrow _; have hB3 := HBZ.out.grown hgrow HBZ.out.size (fun g hg => (by have := (HO0.out.lt g hg).1; omega)); have hz3 : wr.heap.size + 1 ≤ wc.heap.size := Nat.le_trans HZ0.out hgrow.size; have bx3 : Blk wc wr.heap.size 49 #[.int .i64 (xn : Int), .int .i64 xz] := (hgrow.block _ HBX.out.lt (fun e => (by have := (HO0.out.lt _ e.symm).1; omega))).trans HBX.out; rw [Nat.zero_add, List.nil_append] at hown'; obtain ⟨uA, uN, uC, rfl, _⟩ := (Own.of_own hown').form; have S0 : RS w0 wc wr.heap.size (.slice uA uN uC) (fs.take k) xn xz := ⟨hown', bx3, hB3, hz3⟩; clear hown' hgrow hB3 hz3 bx3; have b0 : wc.cell? ⟨wr.heap.size, 0, none⟩ = some (.int .i64 (xn : Int)) := S0.box.cell 0; have b1 : wc.cell? ⟨wr.heap.size, 1, none⟩ = some (.int .i64 xz) := S0.box.cell 1; have hs1 := S0.own.alloc (.cells #[Value.int .i64 ((xn : Int)), Value.int .i64 ((t : Int) - (xn : Int))] 49); have hc1 := news_blk wc ⟨(xn : Int), (t : Int) - (xn : Int)⟩; have hB2 : Below w0.heap.size w0 (wc.alloc (.cells #[Value.int .i64 ((xn : Int)), Value.int .i64 ((t : Int) - (xn : Int))] 49)) := S0.below.alloc S0.below.size _; have hz2 : wr.heap.size + 1 ≤ (wc.alloc (.cells #[Value.int .i64 ((xn : Int)), Value.int .i64 ((t : Int) - (xn : Int))] 49)).heap.size := (by have := S0.size; (try simp at this); simp; omega)) | (at_builtin; refine wpList_append_own _ rfl _ _ 27 rfl (wr.heap.size + 1) 49 i0 (.agg #[.int .i64 0, .int .i64 0]) 2 16 Try.underlying27 hi hy0 hy1 hy2 rfl (by decide) _ _ _ rfl hs1 ⟨wc.heap.size, 0, none⟩ 1 1 (bvals [⟨(xn : Int), (t : Int) - (xn : Int)⟩]) rfl rfl hc1 (one_blk _) (by have := HTK.out; (try simp only [maxLen, List.length_append, List.length_singleton, List.length_nil]); omega) (by have := HTK.out; (try simp only [List.length_append, List.length_singleton, List.length_nil]); omega) hz2 ?_; intro v' wd hown' hgrow _; have hB3 := hB2.grown hgrow hB2.size (fun g hg => (by have := (hs1.lt g hg).1; omega)); have hz3 : wr.heap.size + 1 ≤ wd.heap.size := Nat.le_trans hz2 hgrow.size; have bx3 : Blk wd wr.heap.size 49 #[.int .i64 (xn : Int), .int .i64 xz] := (by have := S0.box.alloc (.cells #[Value.int .i64 ((xn : Int)), Value.int .i64 ((t : Int) - (xn : Int))] 49); exact (hgrow.block _ this.lt (fun e => (by have := (hs1.lt _ e.symm).1; omega))).trans this); obtain ⟨vA, vN, vC, rfl, _⟩ := (Own.of_own hown').form; have S1 : RS w0 wd wr.heap.size (.slice vA vN vC) (fs.take k ++ ([⟨(xn : Int), (t : Int) - (xn : Int)⟩] : List Block)) xn xz := ⟨(by rw [bvals_append, List.length_append]; exact hown'), bx3, hB3, hz3⟩; clear hs1 hc1 hB2 hz2 hown' hgrow hB3 hz3 bx3 b0 b1; have b0 : wd.cell? ⟨wr.heap.size, 0, none⟩ = some (.int .i64 (xn : Int)) := S1.box.cell 0; have b1 : wd.cell? ⟨wr.heap.size, 1, none⟩ = some (.int .i64 xz) := S1.box.cell 1; have hs1 := S1.own.alloc (.cells #[Value.int .i64 ((t : Int) + z), Value.int .i64 ((xn : Int) + xz - (t : Int) - z)] 49); have hc1 := news_blk wd ⟨(t : Int) + z, (xn : Int) + xz - (t : Int) - z⟩; have hB2 : Below w0.heap.size w0 (wd.alloc (.cells #[Value.int .i64 ((t : Int) + z), Value.int .i64 ((xn : Int) + xz - (t : Int) - z)] 49)) := S1.below.alloc S1.below.size _; have hz2 : wr.heap.size + 1 ≤ (wd.alloc (.cells #[Value.int .i64 ((t : Int) + z), Value.int .i64 ((xn : Int) + xz - (t : Int) - z)] 49)).heap.size := (by have := S1.size; (try simp at this); simp; omega)) | (at_builtin; refine wpList_append_own _ rfl _ _ 27 rfl (wr.heap.size + 1) 49 i0 (.agg #[.int .i64 0, .int .i64 0]) 2 16 Try.underlying27 hi hy0 hy1 hy2 rfl (by decide) _ _ _ rfl hs1 ⟨wd.heap.size, 0, none⟩ 1 1 (bvals [⟨(t : Int) + z, (xn : Int) + xz - (t : Int) - z⟩]) rfl rfl hc1 (one_blk _) (by have := HTK.out; (try simp only [maxLen, List.length_append, List.length_singleton, List.length_nil]); omega) (by have := HTK.out; (try simp only [List.length_append, List.length_singleton, List.length_nil]); omega) hz2 ?_; intro v' we hown' hgrow _; have hB3 := hB2.grown hgrow hB2.size (fun g hg => (by have := (hs1.lt g hg).1; omega)); have hz3 : wr.heap.size + 1 ≤ we.heap.size := Nat.le_trans hz2 hgrow.size; have bx3 : Blk we wr.heap.size 49 #[.int .i64 (xn : Int), .int .i64 xz] := (by have := S1.box.alloc (.cells #[Value.int .i64 ((t : Int) + z), Value.int .i64 ((xn : Int) + xz - (t : Int) - z)] 49); exact (hgrow.block _ this.lt (fun e => (by have := (hs1.lt _ e.symm).1; omega))).trans this); obtain ⟨yA, yN, yC, rfl, _⟩ := (Own.of_own hown').form; have S2 : RS w0 we wr.heap.size (.slice yA yN yC) (fs.take k ++ ([⟨(xn : Int), (t : Int) - (xn : Int)⟩] : List Block) ++ ([⟨(t : Int) + z, (xn : Int) + xz - (t : Int) - z⟩] : List Block)) xn xz := ⟨(by rw [bvals_append, List.length_append]; exact hown'), bx3, hB3, hz3⟩; clear hs1 hc1 hB2 hz2 hown' hgrow hB3 hz3 bx3 b0 b1; have b0 : we.cell? ⟨wr.heap.size, 0, none⟩ = some (.int .i64 (xn : Int)) := S2.box.cell 0; have b1 : we.cell? ⟨wr.heap.size, 1, none⟩ = some (.int .i64 xz) := S2.box.cell 1))
        have hk1 : (k : Int) + 1 ≤ n := by omega
        have hk0 : (0 : Int) ≤ (k : Int) + 1 := by omega
        have hkw : IntKind.i64.wrap ((k : Int) + 1) = (k : Int) + 1 := IntWalk.i64_in _ (by omega)
        by_cases hcc : c = k + 1
        case pos =>
          obtain rfl : n = k + 1 := by omega
          subst hcc
          have HD : Hid (Below w0.heap.size w0 we.drew) := S2.below.drew
          have HSR2 : Hid (SrcOk we.drew (.slice (some ⟨g, off, none⟩) 0 0) 2 (fs.drop (k + 1)).length (bvals (fs.drop (k + 1)))) := src_suffix (j := k + 1) (HAT.out.below HD.out HG.out) (Nat.lt_of_lt_of_le HG.out HD.out.size) HN.out hn4 (by omega) (by first | omega | rfl) (by intro hj; first | exact absurd hj (by omega) | rfl)
          have HOWN := Lib.hid (owns_step S2.own (Below.refl _ _).drew)
          have hz3 : wr.heap.size + 1 ≤ we.drew.heap.size := by simpa using S2.size
          have bP := Lib.hid (HP0.out.step HD.out)
          have bR := Lib.hid (HR0.out.step HD.out)
          have bPw := HP0.out.step S2.below
          have p0 : we.cell? ⟨w.heap.size, 0, none⟩ = some (.string s) := bPw.cell 0
          have p1 : we.cell? ⟨w.heap.size, 1, none⟩ = some (.slice (some ⟨g, off, none⟩) (k + 1) (k + 1)) := bPw.cell 1
          clear b0 b1 S2
          go_wp2_with fail
          refine wp_region_held_drew (S := (fun w' => w'.cell? ⟨w.heap.size, 0, none⟩ = some (.string s) ∧ w'.cell? ⟨w.heap.size, 1, none⟩ = some (.slice (some ⟨g, off, none⟩) (k + 1) (k + 1)))) (by kernel_rfl) ⟨bPw.cell 0, bPw.cell 1⟩ (fun hHeld => ?_)
          refine wpAnyH_take (i := 0) (oi := ?o0_1) (v := ?v0_1) ?h0_1 (by kernel_rfl) (by kernel_rfl) (by kernel_rfl) ?q0_1 (Or.inl ⟨?z0_1, ?y0_1⟩) (by assumption) ?r0_1
          case h0_1 =>
            simp only [List.getElem?_toArray, List.getElem?_cons_succ, List.getElem?_cons_zero]
            rfl
          case q0_1 => exact fun _ _ _ h => h
          case z0_1 => rfl
          case y0_1 =>
            intro w hSw
            try dsimp only at hSw
            go_simp
            try with_reducible rfl
          try simp only [Act.put, List.setIfInBounds_toArray, List.set_cons_zero, List.set_cons_succ]
          refine wpAnyH_take (i := 1) (oi := ?o1_2) (v := ?v1_2) ?h1_2 (by kernel_rfl) (by kernel_rfl) (by kernel_rfl) ?q1_2 (Or.inl ⟨?z1_2, ?y1_2⟩) (by assumption) ?r1_2
          case h1_2 =>
            simp only [List.getElem?_toArray, List.getElem?_cons_succ, List.getElem?_cons_zero]
            rfl
          case q1_2 => exact fun _ _ _ h => h
          case z1_2 => rfl
          case y1_2 =>
            intro w hSw
            try dsimp only at hSw
            go_simp
            try with_reducible rfl
          try simp only [Act.put, List.setIfInBounds_toArray, List.set_cons_zero, List.set_cons_succ]
          refine wpAnyH_take (i := 2) (oi := ?o2_3) (v := ?v2_3) ?h2_3 (by kernel_rfl) (by kernel_rfl) (by kernel_rfl) ?q2_3 (Or.inl ⟨?z2_3, ?y2_3⟩) (by assumption) ?r2_3
          case h2_3 =>
            simp only [List.getElem?_toArray, List.getElem?_cons_succ, List.getElem?_cons_zero]
            rfl
          case q2_3 => exact fun _ _ _ h => h
          case z2_3 => rfl
          case y2_3 =>
            intro w hSw
            try dsimp only at hSw
            go_simp
            try with_reducible rfl
          try simp only [Act.put, List.setIfInBounds_toArray, List.set_cons_zero, List.set_cons_succ]
          refine wpAnyH_take (i := 3) (oi := ?o3_4) (v := ?v3_4) ?h3_4 (by kernel_rfl) (by kernel_rfl) (by kernel_rfl) ?q3_4 (Or.inl ⟨?z3_4, ?y3_4⟩) (by assumption) ?r3_4
          case h3_4 =>
            simp only [List.getElem?_toArray, List.getElem?_cons_succ, List.getElem?_cons_zero]
            rfl
          case q3_4 => exact fun _ _ _ h => h
          case z3_4 => rfl
          case y3_4 =>
            intro w hSw
            try dsimp only at hSw
            go_simp
            try with_reducible rfl
          try simp only [Act.put, List.setIfInBounds_toArray, List.set_cons_zero, List.set_cons_succ]
          refine wpAnyH_take (i := 4) (oi := ?o4_5) (v := ?v4_5) ?h4_5 (by kernel_rfl) (by kernel_rfl) (by kernel_rfl) ?q4_5 (Or.inl ⟨?z4_5, ?y4_5⟩) (by assumption) ?r4_5
          case h4_5 =>
            simp only [List.getElem?_toArray, List.getElem?_cons_succ, List.getElem?_cons_zero]
            rfl
          case q4_5 => exact fun _ _ _ h => h
          case z4_5 => rfl
          case y4_5 =>
            intro w hSw
            try dsimp only at hSw
            go_simp
            try with_reducible rfl
          try simp only [Act.put, List.setIfInBounds_toArray, List.set_cons_zero, List.set_cons_succ]
          refine wpAnyH_take (i := 5) (oi := ?o5_6) (v := ?v5_6) ?h5_6 (by kernel_rfl) (by kernel_rfl) (by kernel_rfl) ?q5_6 (Or.inl ⟨?z5_6, ?y5_6⟩) (by assumption) ?r5_6
          case h5_6 =>
            simp only [List.getElem?_toArray, List.getElem?_cons_succ, List.getElem?_cons_zero]
            rfl
          case q5_6 => exact fun _ _ _ h => h
          case z5_6 => rfl
          case y5_6 =>
            intro w hSw
            try dsimp only at hSw
            go_simp
            try with_reducible rfl
          try simp only [Act.put, List.setIfInBounds_toArray, List.set_cons_zero, List.set_cons_succ]
          refine wpAnyH_take (i := 6) (oi := ?o6_7) (v := ?v6_7) ?h6_7 (by kernel_rfl) (by kernel_rfl) (by kernel_rfl) ?q6_7 (Or.inl ⟨?z6_7, ?y6_7⟩) (by assumption) ?r6_7
          case h6_7 =>
            simp only [List.getElem?_toArray, List.getElem?_cons_succ, List.getElem?_cons_zero]
            rfl
          case q6_7 => exact fun _ _ _ h => h
          case z6_7 => rfl
          case y6_7 =>
            intro w hSw
            try dsimp only at hSw
            go_simp
            try with_reducible rfl
          try simp only [Act.put, List.setIfInBounds_toArray, List.set_cons_zero, List.set_cons_succ]
          refine wpAnyH_take (i := 7) (oi := ?o7_8) (v := ?v7_8) ?h7_8 (by kernel_rfl) (by kernel_rfl) (by kernel_rfl) ?q7_8 (Or.inl ⟨?z7_8, ?y7_8⟩) (by assumption) ?r7_8
          case h7_8 =>
            simp only [List.getElem?_toArray, List.getElem?_cons_succ, List.getElem?_cons_zero]
            rfl
          case q7_8 => exact fun _ _ _ h => h
          case z7_8 => rfl
          case y7_8 =>
            intro w hSw
            try dsimp only at hSw
            go_simp
            try with_reducible rfl
          try simp only [Act.put, List.setIfInBounds_toArray, List.set_cons_zero, List.set_cons_succ]
          refine wpAnyH_take (i := 10) (oi := ?o10_9) (v := ?v10_9) ?h10_9 (by kernel_rfl) (by kernel_rfl) (by kernel_rfl) ?q10_9 (Or.inl ⟨?z10_9, ?y10_9⟩) (by assumption) ?r10_9
          case h10_9 =>
            simp only [List.getElem?_toArray, List.getElem?_cons_succ, List.getElem?_cons_zero]
            rfl
          case q10_9 => exact fun _ _ _ h => h
          case z10_9 => rfl
          case y10_9 =>
            intro w hSw
            try dsimp only at hSw
            go_simp
            try with_reducible rfl
          try simp only [Act.put, List.setIfInBounds_toArray, List.set_cons_zero, List.set_cons_succ]
          refine wpAnyH_ready (rs := [8]) (by kernel_rfl) (by simp) ?_
          refine AllReadyH.cons (o := ?o8_10) ?h8_10 (fun K hK => ?k8_10) AllReadyH.nil
          case h8_10 =>
            simp only [List.getElem?_toArray, List.getElem?_cons_succ, List.getElem?_cons_zero]
            rfl
          refine step_append_src (by rfl) _ _ 27 (by rfl) (wr.heap.size + 1) 49 i0 (.agg #[.int .i64 0, .int .i64 0]) 2 16 Try.underlying27 hi hy0 hy1 hy2 rfl (by decide) (.slice yA yN yC) (fs.take k ++ ([⟨(xn : Int), (t : Int) - (xn : Int)⟩] : List Block) ++ ([⟨(t : Int) + z, (xn : Int) + xz - (t : Int) - z⟩] : List Block)).length (bvals (fs.take k ++ ([⟨(xn : Int), (t : Int) - (xn : Int)⟩] : List Block) ++ ([⟨(t : Int) + z, (xn : Int) + xz - (t : Int) - z⟩] : List Block))) (by rfl) HOWN.out (.slice (some ⟨g, off, none⟩) 0 0) (fs.drop (k + 1)).length (bvals (fs.drop (k + 1))) (by rfl) HSR2.out (one_blk _) (by have := HTK.out; have := HDK.out; (try simp only [maxLen, List.length_append, List.length_singleton]); omega) (by have := HTK.out; have := HDK.out; (try simp only [List.length_append, List.length_singleton]); omega) hz3 ?_
          intro v' w3 hown' hgrow hor
          have hB3 := HD.out.grown hgrow HD.out.size (fun g hg => by have := (HOWN.out.lt g hg).1; omega)
          have bR3 := HR0.out.step hB3
          have bP3 := HP0.out.step hB3
          obtain ⟨rA, rN, rC, rfl, _⟩ := (Own.of_own hown').form
          have r0 : w3.cell? ⟨w.heap.size + 1, 0, none⟩ = some (.string ⟨#[]⟩) := bR3.cell 0
          have r1 : w3.cell? ⟨w.heap.size + 1, 1, none⟩ = some (.slice none 0 0) := bR3.cell 1
          have f0 := bR3.frozen 0
          have f1 := bR3.frozen 1
          refine hK.out _ _ (by first | exact ⟨bP3.cell 0, bP3.cell 1⟩ | go_keep) (fun hHeld10 => ?_)
          clear hK K
          try simp only [Act.put, List.setIfInBounds_toArray, List.set_cons_zero, List.set_cons_succ]
          refine wpAnyH_take (i := 9) (oi := ?o9_11) (v := ?v9_11) ?h9_11 (by kernel_rfl) (by kernel_rfl) (by kernel_rfl) ?q9_11 (Or.inl ⟨?z9_11, ?y9_11⟩) (by assumption) ?r9_11
          case h9_11 =>
            simp only [List.getElem?_toArray, List.getElem?_cons_succ, List.getElem?_cons_zero]
            rfl
          case q9_11 => exact fun _ _ _ h => h
          case z9_11 => rfl
          case y9_11 =>
            intro w hSw
            try dsimp only at hSw
            go_simp
            try with_reducible rfl
          try simp only [Act.put, List.setIfInBounds_toArray, List.set_cons_zero, List.set_cons_succ]
          refine wpAnyH_ready (rs := [11]) (by kernel_rfl) (by simp) ?_
          refine AllReadyH.cons (o := ?o11_12) ?h11_12 (fun K hK => ?k11_12) AllReadyH.nil
          case h11_12 =>
            simp only [List.getElem?_toArray, List.getElem?_cons_succ, List.getElem?_cons_zero]
            rfl
          go_simp
          refine hK.out _ _ (by first | exact ⟨((bP3.far (p := ⟨w.heap.size + 1, 0, none⟩) (by simp) _).far (p := ⟨w.heap.size + 1, 1, none⟩) (by simp) _).cell 0, ((bP3.far (p := ⟨w.heap.size + 1, 0, none⟩) (by simp) _).far (p := ⟨w.heap.size + 1, 1, none⟩) (by simp) _).cell 1⟩ | go_keep) (fun hHeld12 => ?_)
          clear hK K
          try simp only [Act.put, List.setIfInBounds_toArray, List.set_cons_zero, List.set_cons_succ]
          refine wpAnyH_take (i := 12) (oi := ?o12_13) (v := ?v12_13) ?h12_13 (by kernel_rfl) (by kernel_rfl) (by kernel_rfl) ?q12_13 (Or.inl ⟨?z12_13, ?y12_13⟩) (by assumption) ?r12_13
          case h12_13 =>
            simp only [List.getElem?_toArray, List.getElem?_cons_succ, List.getElem?_cons_zero]
            rfl
          case q12_13 => exact fun _ _ _ h => h
          case z12_13 => rfl
          case y12_13 =>
            intro w hSw
            try dsimp only at hSw
            go_simp
            try with_reducible rfl
          try simp only [Act.put, List.setIfInBounds_toArray, List.set_cons_zero, List.set_cons_succ]
          refine wpAnyH_take (i := 13) (oi := ?o13_14) (v := ?v13_14) ?h13_14 (by kernel_rfl) (by kernel_rfl) (by kernel_rfl) ?q13_14 (Or.inl ⟨?z13_14, ?y13_14⟩) (by assumption) ?r13_14
          case h13_14 =>
            simp only [List.getElem?_toArray, List.getElem?_cons_succ, List.getElem?_cons_zero]
            rfl
          case q13_14 => exact fun _ _ _ h => h
          case z13_14 => rfl
          case y13_14 =>
            intro w hSw
            try dsimp only at hSw
            go_simp
            try with_reducible rfl
          try simp only [Act.put, List.setIfInBounds_toArray, List.set_cons_zero, List.set_cons_succ]
          refine wpAnyH_done (by kernel_rfl) ?_ _
          have bR4 : Blk ((w3.setCell ⟨w.heap.size + 1, 0, none⟩ (.string s)).setCell ⟨w.heap.size + 1, 1, none⟩ (.slice rA rN rC)) (w.heap.size + 1) 29 #[.string s, .slice rA rN rC] := by have := (bR3.set_ 0 (.string s)).set_ 1 (.slice rA rN rC); simpa using this
          have s0 := bR4.cell 0
          have s1 := bR4.cell 1
          go_wp2_with fail
          rw [allocM_some HAL.out]
          have hs2 := HS0.out
          have hszb := hB3.size
          refine bodyPost_ret (v := .tuple #[.agg #[.string s, .slice rA rN rC], .int .i64 t, .int .i64 0]) (by simp [results, Try.results47, go_sem, s0, s1]) rfl ⟨[.string s, .slice rA rN rC], rfl, lvC_mem ?_ _, ?_⟩
          · rw [HT.out]
            exact lv_two (owns_far (owns_far hown' (p := ⟨w.heap.size + 1, 0, none⟩) (by show w.heap.size + 1 < wr.heap.size + 1; omega) _) (p := ⟨w.heap.size + 1, 1, none⟩) (by show w.heap.size + 1 < wr.heap.size + 1; omega) _) (by omega)
          · exact ((HB0.out.trans (hB3.mono (by omega))).setCell (p := ⟨w.heap.size + 1, 0, none⟩) (by simp) _).setCell (p := ⟨w.heap.size + 1, 1, none⟩) (by simp) _
        have hcd : ¬ c - (k + 1) = 0 := by omega
        have HD : Hid (Below w0.heap.size w0 we.drew) := S2.below.drew
        have HSR2 : Hid (SrcOk we.drew (.slice (some ⟨g, off + (k + 1) * 2, none⟩) (n - (k + 1)) (c - (k + 1))) 2 (fs.drop (k + 1)).length (bvals (fs.drop (k + 1)))) := src_suffix (j := k + 1) (HAT.out.below HD.out HG.out) (Nat.lt_of_lt_of_le HG.out HD.out.size) HN.out hn4 (by omega) (by first | omega | rfl) (by intro hj; first | exact absurd hj (by omega) | rfl)
        have HOWN := Lib.hid (owns_step S2.own (Below.refl _ _).drew)
        have hz3 : wr.heap.size + 1 ≤ we.drew.heap.size := by simpa using S2.size
        have bP := Lib.hid (HP0.out.step HD.out)
        have bR := Lib.hid (HR0.out.step HD.out)
        have bPw := HP0.out.step S2.below
        have p0 : we.cell? ⟨w.heap.size, 0, none⟩ = some (.string s) := bPw.cell 0
        have p1 : we.cell? ⟨w.heap.size, 1, none⟩ = some (.slice (some ⟨g, off, none⟩) n c) := bPw.cell 1
        clear b0 b1 S2
        go_wp2_with fail
        refine wp_region_held_drew (S := (fun w' => w'.cell? ⟨w.heap.size, 0, none⟩ = some (.string s) ∧ w'.cell? ⟨w.heap.size, 1, none⟩ = some (.slice (some ⟨g, off, none⟩) n c))) (by kernel_rfl) ⟨bPw.cell 0, bPw.cell 1⟩ (fun hHeld => ?_)
        refine wpAnyH_take (i := 0) (oi := ?o0_15) (v := ?v0_15) ?h0_15 (by kernel_rfl) (by kernel_rfl) (by kernel_rfl) ?q0_15 (Or.inl ⟨?z0_15, ?y0_15⟩) (by assumption) ?r0_15
        case h0_15 =>
          simp only [List.getElem?_toArray, List.getElem?_cons_succ, List.getElem?_cons_zero]
          rfl
        case q0_15 => exact fun _ _ _ h => h
        case z0_15 => rfl
        case y0_15 =>
          intro w hSw
          try dsimp only at hSw
          go_simp
          try with_reducible rfl
        try simp only [Act.put, List.setIfInBounds_toArray, List.set_cons_zero, List.set_cons_succ]
        refine wpAnyH_take (i := 1) (oi := ?o1_16) (v := ?v1_16) ?h1_16 (by kernel_rfl) (by kernel_rfl) (by kernel_rfl) ?q1_16 (Or.inl ⟨?z1_16, ?y1_16⟩) (by assumption) ?r1_16
        case h1_16 =>
          simp only [List.getElem?_toArray, List.getElem?_cons_succ, List.getElem?_cons_zero]
          rfl
        case q1_16 => exact fun _ _ _ h => h
        case z1_16 => rfl
        case y1_16 =>
          intro w hSw
          try dsimp only at hSw
          go_simp
          try with_reducible rfl
        try simp only [Act.put, List.setIfInBounds_toArray, List.set_cons_zero, List.set_cons_succ]
        refine wpAnyH_take (i := 2) (oi := ?o2_17) (v := ?v2_17) ?h2_17 (by kernel_rfl) (by kernel_rfl) (by kernel_rfl) ?q2_17 (Or.inl ⟨?z2_17, ?y2_17⟩) (by assumption) ?r2_17
        case h2_17 =>
          simp only [List.getElem?_toArray, List.getElem?_cons_succ, List.getElem?_cons_zero]
          rfl
        case q2_17 => exact fun _ _ _ h => h
        case z2_17 => rfl
        case y2_17 =>
          intro w hSw
          try dsimp only at hSw
          go_simp
          try with_reducible rfl
        try simp only [Act.put, List.setIfInBounds_toArray, List.set_cons_zero, List.set_cons_succ]
        refine wpAnyH_take (i := 3) (oi := ?o3_18) (v := ?v3_18) ?h3_18 (by kernel_rfl) (by kernel_rfl) (by kernel_rfl) ?q3_18 (Or.inl ⟨?z3_18, ?y3_18⟩) (by assumption) ?r3_18
        case h3_18 =>
          simp only [List.getElem?_toArray, List.getElem?_cons_succ, List.getElem?_cons_zero]
          rfl
        case q3_18 => exact fun _ _ _ h => h
        case z3_18 => rfl
        case y3_18 =>
          intro w hSw
          try dsimp only at hSw
          go_simp
          try with_reducible rfl
        try simp only [Act.put, List.setIfInBounds_toArray, List.set_cons_zero, List.set_cons_succ]
        refine wpAnyH_take (i := 4) (oi := ?o4_19) (v := ?v4_19) ?h4_19 (by kernel_rfl) (by kernel_rfl) (by kernel_rfl) ?q4_19 (Or.inl ⟨?z4_19, ?y4_19⟩) (by assumption) ?r4_19
        case h4_19 =>
          simp only [List.getElem?_toArray, List.getElem?_cons_succ, List.getElem?_cons_zero]
          rfl
        case q4_19 => exact fun _ _ _ h => h
        case z4_19 => rfl
        case y4_19 =>
          intro w hSw
          try dsimp only at hSw
          go_simp
          try with_reducible rfl
        try simp only [Act.put, List.setIfInBounds_toArray, List.set_cons_zero, List.set_cons_succ]
        refine wpAnyH_take (i := 5) (oi := ?o5_20) (v := ?v5_20) ?h5_20 (by kernel_rfl) (by kernel_rfl) (by kernel_rfl) ?q5_20 (Or.inl ⟨?z5_20, ?y5_20⟩) (by assumption) ?r5_20
        case h5_20 =>
          simp only [List.getElem?_toArray, List.getElem?_cons_succ, List.getElem?_cons_zero]
          rfl
        case q5_20 => exact fun _ _ _ h => h
        case z5_20 => rfl
        case y5_20 =>
          intro w hSw
          try dsimp only at hSw
          go_simp
          try with_reducible rfl
        try simp only [Act.put, List.setIfInBounds_toArray, List.set_cons_zero, List.set_cons_succ]
        refine wpAnyH_take (i := 6) (oi := ?o6_21) (v := ?v6_21) ?h6_21 (by kernel_rfl) (by kernel_rfl) (by kernel_rfl) ?q6_21 (Or.inl ⟨?z6_21, ?y6_21⟩) (by assumption) ?r6_21
        case h6_21 =>
          simp only [List.getElem?_toArray, List.getElem?_cons_succ, List.getElem?_cons_zero]
          rfl
        case q6_21 => exact fun _ _ _ h => h
        case z6_21 => rfl
        case y6_21 =>
          intro w hSw
          try dsimp only at hSw
          go_simp
          try with_reducible rfl
        try simp only [Act.put, List.setIfInBounds_toArray, List.set_cons_zero, List.set_cons_succ]
        refine wpAnyH_take (i := 7) (oi := ?o7_22) (v := ?v7_22) ?h7_22 (by kernel_rfl) (by kernel_rfl) (by kernel_rfl) ?q7_22 (Or.inl ⟨?z7_22, ?y7_22⟩) (by assumption) ?r7_22
        case h7_22 =>
          simp only [List.getElem?_toArray, List.getElem?_cons_succ, List.getElem?_cons_zero]
          rfl
        case q7_22 => exact fun _ _ _ h => h
        case z7_22 => rfl
        case y7_22 =>
          intro w hSw
          try dsimp only at hSw
          go_simp
          try with_reducible rfl
        try simp only [Act.put, List.setIfInBounds_toArray, List.set_cons_zero, List.set_cons_succ]
        refine wpAnyH_take (i := 10) (oi := ?o10_23) (v := ?v10_23) ?h10_23 (by kernel_rfl) (by kernel_rfl) (by kernel_rfl) ?q10_23 (Or.inl ⟨?z10_23, ?y10_23⟩) (by assumption) ?r10_23
        case h10_23 =>
          simp only [List.getElem?_toArray, List.getElem?_cons_succ, List.getElem?_cons_zero]
          rfl
        case q10_23 => exact fun _ _ _ h => h
        case z10_23 => rfl
        case y10_23 =>
          intro w hSw
          try dsimp only at hSw
          go_simp
          try with_reducible rfl
        try simp only [Act.put, List.setIfInBounds_toArray, List.set_cons_zero, List.set_cons_succ]
        refine wpAnyH_ready (rs := [8]) (by kernel_rfl) (by simp) ?_
        refine AllReadyH.cons (o := ?o8_24) ?h8_24 (fun K hK => ?k8_24) AllReadyH.nil
        case h8_24 =>
          simp only [List.getElem?_toArray, List.getElem?_cons_succ, List.getElem?_cons_zero]
          rfl
        refine step_append_src (by rfl) _ _ 27 (by rfl) (wr.heap.size + 1) 49 i0 (.agg #[.int .i64 0, .int .i64 0]) 2 16 Try.underlying27 hi hy0 hy1 hy2 rfl (by decide) (.slice yA yN yC) (fs.take k ++ ([⟨(xn : Int), (t : Int) - (xn : Int)⟩] : List Block) ++ ([⟨(t : Int) + z, (xn : Int) + xz - (t : Int) - z⟩] : List Block)).length (bvals (fs.take k ++ ([⟨(xn : Int), (t : Int) - (xn : Int)⟩] : List Block) ++ ([⟨(t : Int) + z, (xn : Int) + xz - (t : Int) - z⟩] : List Block))) (by rfl) HOWN.out (.slice (some ⟨g, off + (k + 1) * 2, none⟩) (n - (k + 1)) (c - (k + 1))) (fs.drop (k + 1)).length (bvals (fs.drop (k + 1))) (by rfl) HSR2.out (one_blk _) (by have := HTK.out; have := HDK.out; (try simp only [maxLen, List.length_append, List.length_singleton]); omega) (by have := HTK.out; have := HDK.out; (try simp only [List.length_append, List.length_singleton]); omega) hz3 ?_
        intro v' w3 hown' hgrow hor
        have hB3 := HD.out.grown hgrow HD.out.size (fun g hg => by have := (HOWN.out.lt g hg).1; omega)
        have bR3 := HR0.out.step hB3
        have bP3 := HP0.out.step hB3
        obtain ⟨rA, rN, rC, rfl, _⟩ := (Own.of_own hown').form
        have r0 : w3.cell? ⟨w.heap.size + 1, 0, none⟩ = some (.string ⟨#[]⟩) := bR3.cell 0
        have r1 : w3.cell? ⟨w.heap.size + 1, 1, none⟩ = some (.slice none 0 0) := bR3.cell 1
        have f0 := bR3.frozen 0
        have f1 := bR3.frozen 1
        refine hK.out _ _ (by first | exact ⟨bP3.cell 0, bP3.cell 1⟩ | go_keep) (fun hHeld24 => ?_)
        clear hK K
        try simp only [Act.put, List.setIfInBounds_toArray, List.set_cons_zero, List.set_cons_succ]
        refine wpAnyH_take (i := 9) (oi := ?o9_25) (v := ?v9_25) ?h9_25 (by kernel_rfl) (by kernel_rfl) (by kernel_rfl) ?q9_25 (Or.inl ⟨?z9_25, ?y9_25⟩) (by assumption) ?r9_25
        case h9_25 =>
          simp only [List.getElem?_toArray, List.getElem?_cons_succ, List.getElem?_cons_zero]
          rfl
        case q9_25 => exact fun _ _ _ h => h
        case z9_25 => rfl
        case y9_25 =>
          intro w hSw
          try dsimp only at hSw
          go_simp
          try with_reducible rfl
        try simp only [Act.put, List.setIfInBounds_toArray, List.set_cons_zero, List.set_cons_succ]
        refine wpAnyH_ready (rs := [11]) (by kernel_rfl) (by simp) ?_
        refine AllReadyH.cons (o := ?o11_26) ?h11_26 (fun K hK => ?k11_26) AllReadyH.nil
        case h11_26 =>
          simp only [List.getElem?_toArray, List.getElem?_cons_succ, List.getElem?_cons_zero]
          rfl
        go_simp
        refine hK.out _ _ (by first | exact ⟨((bP3.far (p := ⟨w.heap.size + 1, 0, none⟩) (by simp) _).far (p := ⟨w.heap.size + 1, 1, none⟩) (by simp) _).cell 0, ((bP3.far (p := ⟨w.heap.size + 1, 0, none⟩) (by simp) _).far (p := ⟨w.heap.size + 1, 1, none⟩) (by simp) _).cell 1⟩ | go_keep) (fun hHeld26 => ?_)
        clear hK K
        try simp only [Act.put, List.setIfInBounds_toArray, List.set_cons_zero, List.set_cons_succ]
        refine wpAnyH_take (i := 12) (oi := ?o12_27) (v := ?v12_27) ?h12_27 (by kernel_rfl) (by kernel_rfl) (by kernel_rfl) ?q12_27 (Or.inl ⟨?z12_27, ?y12_27⟩) (by assumption) ?r12_27
        case h12_27 =>
          simp only [List.getElem?_toArray, List.getElem?_cons_succ, List.getElem?_cons_zero]
          rfl
        case q12_27 => exact fun _ _ _ h => h
        case z12_27 => rfl
        case y12_27 =>
          intro w hSw
          try dsimp only at hSw
          go_simp
          try with_reducible rfl
        try simp only [Act.put, List.setIfInBounds_toArray, List.set_cons_zero, List.set_cons_succ]
        refine wpAnyH_take (i := 13) (oi := ?o13_28) (v := ?v13_28) ?h13_28 (by kernel_rfl) (by kernel_rfl) (by kernel_rfl) ?q13_28 (Or.inl ⟨?z13_28, ?y13_28⟩) (by assumption) ?r13_28
        case h13_28 =>
          simp only [List.getElem?_toArray, List.getElem?_cons_succ, List.getElem?_cons_zero]
          rfl
        case q13_28 => exact fun _ _ _ h => h
        case z13_28 => rfl
        case y13_28 =>
          intro w hSw
          try dsimp only at hSw
          go_simp
          try with_reducible rfl
        try simp only [Act.put, List.setIfInBounds_toArray, List.set_cons_zero, List.set_cons_succ]
        refine wpAnyH_done (by kernel_rfl) ?_ _
        have bR4 : Blk ((w3.setCell ⟨w.heap.size + 1, 0, none⟩ (.string s)).setCell ⟨w.heap.size + 1, 1, none⟩ (.slice rA rN rC)) (w.heap.size + 1) 29 #[.string s, .slice rA rN rC] := by have := (bR3.set_ 0 (.string s)).set_ 1 (.slice rA rN rC); simpa using this
        have s0 := bR4.cell 0
        have s1 := bR4.cell 1
        go_wp2_with fail
        rw [allocM_some HAL.out]
        have hs2 := HS0.out
        have hszb := hB3.size
        refine bodyPost_ret (v := .tuple #[.agg #[.string s, .slice rA rN rC], .int .i64 t, .int .i64 0]) (by simp [results, Try.results47, go_sem, s0, s1]) rfl ⟨[.string s, .slice rA rN rC], rfl, lvC_mem ?_ _, ?_⟩
        · rw [HT.out]
          exact lv_two (owns_far (owns_far hown' (p := ⟨w.heap.size + 1, 0, none⟩) (by show w.heap.size + 1 < wr.heap.size + 1; omega) _) (p := ⟨w.heap.size + 1, 1, none⟩) (by show w.heap.size + 1 < wr.heap.size + 1; omega) _) (by omega)
        · exact ((HB0.out.trans (hB3.mono (by omega))).setCell (p := ⟨w.heap.size + 1, 0, none⟩) (by simp) _).setCell (p := ⟨w.heap.size + 1, 1, none⟩) (by simp) _
      case neg =>
        have HT : Hid (takeAt fs k ⟨xn, xz⟩ t z = fs.take k ++ ([⟨(xn : Int), (t : Int) - (xn : Int)⟩] : List Block) ++ fs.drop (k + 1)) := by
          show _ = _
          have e : (xn : Int) + xz - ((t : Int) + z) = xn + xz - t - z := by omega
          rw [takeAt, cutA, cutZ, if_pos (by show (xn : Int) < (t : Int); omega), if_neg (by show ¬ (t : Int) + z < (xn : Int) + xz; omega)]
          simp
        have dA : decide ((xn : Int) < t) = true := by simp; omega
        have dZ : decide ((0 : Int) < xn + xz - t - z) = false := by simp; omega
        go_wp2_with (first | (at_builtin; refine wpList_append_src rfl _ _ 27 rfl (wr.heap.size + 1) 49 i0 (.agg #[.int .i64 0, .int .i64 0]) 2 16 Try.underlying27 hi hy0 hy1 hy2 rfl (by decide) _ _ _ rfl HO0.out _ _ _ rfl HSRC.out (one_blk _) (by have := HTK.out; simp only [maxLen]; omega) (by have := HTK.out; omega) HZ0.out ?_; intro v' wc hown' hgrow _; have hB3 := HBZ.out.grown hgrow HBZ.out.size (fun g hg => (by have := (HO0.out.lt g hg).1; omega)); have hz3 : wr.heap.size + 1 ≤ wc.heap.size := Nat.le_trans HZ0.out hgrow.size; have bx3 : Blk wc wr.heap.size 49 #[.int .i64 (xn : Int), .int .i64 xz] := (hgrow.block _ HBX.out.lt (fun e => (by have := (HO0.out.lt _ e.symm).1; omega))).trans HBX.out; rw [Nat.zero_add, List.nil_append] at hown'; obtain ⟨uA, uN, uC, rfl, _⟩ := (Own.of_own hown').form; have S0 : RS w0 wc wr.heap.size (.slice uA uN uC) (fs.take k) xn xz := ⟨hown', bx3, hB3, hz3⟩; clear hown' hgrow hB3 hz3 bx3; have b0 : wc.cell? ⟨wr.heap.size, 0, none⟩ = some (.int .i64 (xn : Int)) := S0.box.cell 0; have b1 : wc.cell? ⟨wr.heap.size, 1, none⟩ = some (.int .i64 xz) := S0.box.cell 1; have hs1 := S0.own.alloc (.cells #[Value.int .i64 ((xn : Int)), Value.int .i64 ((t : Int) - (xn : Int))] 49); have hc1 := news_blk wc ⟨(xn : Int), (t : Int) - (xn : Int)⟩; have hB2 : Below w0.heap.size w0 (wc.alloc (.cells #[Value.int .i64 ((xn : Int)), Value.int .i64 ((t : Int) - (xn : Int))] 49)) := S0.below.alloc S0.below.size _; have hz2 : wr.heap.size + 1 ≤ (wc.alloc (.cells #[Value.int .i64 ((xn : Int)), Value.int .i64 ((t : Int) - (xn : Int))] 49)).heap.size := (by have := S0.size; (try simp at this); simp; omega)) | (at_builtin; refine wpList_append_own _ rfl _ _ 27 rfl (wr.heap.size + 1) 49 i0 (.agg #[.int .i64 0, .int .i64 0]) 2 16 Try.underlying27 hi hy0 hy1 hy2 rfl (by decide) _ _ _ rfl hs1 ⟨wc.heap.size, 0, none⟩ 1 1 (bvals [⟨(xn : Int), (t : Int) - (xn : Int)⟩]) rfl rfl hc1 (one_blk _) (by have := HTK.out; (try simp only [maxLen, List.length_append, List.length_singleton, List.length_nil]); omega) (by have := HTK.out; (try simp only [List.length_append, List.length_singleton, List.length_nil]); omega) hz2 ?_; intro v' wd hown' hgrow _; have hB3 := hB2.grown hgrow hB2.size (fun g hg => (by have := (hs1.lt g hg).1; omega)); have hz3 : wr.heap.size + 1 ≤ wd.heap.size := Nat.le_trans hz2 hgrow.size; have bx3 : Blk wd wr.heap.size 49 #[.int .i64 (xn : Int), .int .i64 xz] := (by have := S0.box.alloc (.cells #[Value.int .i64 ((xn : Int)), Value.int .i64 ((t : Int) - (xn : Int))] 49); exact (hgrow.block _ this.lt (fun e => (by have := (hs1.lt _ e.symm).1; omega))).trans this); obtain ⟨vA, vN, vC, rfl, _⟩ := (Own.of_own hown').form; have S1 : RS w0 wd wr.heap.size (.slice vA vN vC) (fs.take k ++ ([⟨(xn : Int), (t : Int) - (xn : Int)⟩] : List Block)) xn xz := ⟨(by rw [bvals_append, List.length_append]; exact hown'), bx3, hB3, hz3⟩; clear hs1 hc1 hB2 hz2 hown' hgrow hB3 hz3 bx3 b0 b1; have b0 : wd.cell? ⟨wr.heap.size, 0, none⟩ = some (.int .i64 (xn : Int)) := S1.box.cell 0; have b1 : wd.cell? ⟨wr.heap.size, 1, none⟩ = some (.int .i64 xz) := S1.box.cell 1))
        have hk1 : (k : Int) + 1 ≤ n := by omega
        have hk0 : (0 : Int) ≤ (k : Int) + 1 := by omega
        have hkw : IntKind.i64.wrap ((k : Int) + 1) = (k : Int) + 1 := IntWalk.i64_in _ (by omega)
        by_cases hcc : c = k + 1
        case pos =>
          obtain rfl : n = k + 1 := by omega
          subst hcc
          have HD : Hid (Below w0.heap.size w0 wd.drew) := S1.below.drew
          have HSR2 : Hid (SrcOk wd.drew (.slice (some ⟨g, off, none⟩) 0 0) 2 (fs.drop (k + 1)).length (bvals (fs.drop (k + 1)))) := src_suffix (j := k + 1) (HAT.out.below HD.out HG.out) (Nat.lt_of_lt_of_le HG.out HD.out.size) HN.out hn4 (by omega) (by first | omega | rfl) (by intro hj; first | exact absurd hj (by omega) | rfl)
          have HOWN := Lib.hid (owns_step S1.own (Below.refl _ _).drew)
          have hz3 : wr.heap.size + 1 ≤ wd.drew.heap.size := by simpa using S1.size
          have bP := Lib.hid (HP0.out.step HD.out)
          have bR := Lib.hid (HR0.out.step HD.out)
          have bPw := HP0.out.step S1.below
          have p0 : wd.cell? ⟨w.heap.size, 0, none⟩ = some (.string s) := bPw.cell 0
          have p1 : wd.cell? ⟨w.heap.size, 1, none⟩ = some (.slice (some ⟨g, off, none⟩) (k + 1) (k + 1)) := bPw.cell 1
          clear b0 b1 S1
          go_wp2_with fail
          refine wp_region_held_drew (S := (fun w' => w'.cell? ⟨w.heap.size, 0, none⟩ = some (.string s) ∧ w'.cell? ⟨w.heap.size, 1, none⟩ = some (.slice (some ⟨g, off, none⟩) (k + 1) (k + 1)))) (by kernel_rfl) ⟨bPw.cell 0, bPw.cell 1⟩ (fun hHeld => ?_)
          refine wpAnyH_take (i := 0) (oi := ?o0_29) (v := ?v0_29) ?h0_29 (by kernel_rfl) (by kernel_rfl) (by kernel_rfl) ?q0_29 (Or.inl ⟨?z0_29, ?y0_29⟩) (by assumption) ?r0_29
          case h0_29 =>
            simp only [List.getElem?_toArray, List.getElem?_cons_succ, List.getElem?_cons_zero]
            rfl
          case q0_29 => exact fun _ _ _ h => h
          case z0_29 => rfl
          case y0_29 =>
            intro w hSw
            try dsimp only at hSw
            go_simp
            try with_reducible rfl
          try simp only [Act.put, List.setIfInBounds_toArray, List.set_cons_zero, List.set_cons_succ]
          refine wpAnyH_take (i := 1) (oi := ?o1_30) (v := ?v1_30) ?h1_30 (by kernel_rfl) (by kernel_rfl) (by kernel_rfl) ?q1_30 (Or.inl ⟨?z1_30, ?y1_30⟩) (by assumption) ?r1_30
          case h1_30 =>
            simp only [List.getElem?_toArray, List.getElem?_cons_succ, List.getElem?_cons_zero]
            rfl
          case q1_30 => exact fun _ _ _ h => h
          case z1_30 => rfl
          case y1_30 =>
            intro w hSw
            try dsimp only at hSw
            go_simp
            try with_reducible rfl
          try simp only [Act.put, List.setIfInBounds_toArray, List.set_cons_zero, List.set_cons_succ]
          refine wpAnyH_take (i := 2) (oi := ?o2_31) (v := ?v2_31) ?h2_31 (by kernel_rfl) (by kernel_rfl) (by kernel_rfl) ?q2_31 (Or.inl ⟨?z2_31, ?y2_31⟩) (by assumption) ?r2_31
          case h2_31 =>
            simp only [List.getElem?_toArray, List.getElem?_cons_succ, List.getElem?_cons_zero]
            rfl
          case q2_31 => exact fun _ _ _ h => h
          case z2_31 => rfl
          case y2_31 =>
            intro w hSw
            try dsimp only at hSw
            go_simp
            try with_reducible rfl
          try simp only [Act.put, List.setIfInBounds_toArray, List.set_cons_zero, List.set_cons_succ]
          refine wpAnyH_take (i := 3) (oi := ?o3_32) (v := ?v3_32) ?h3_32 (by kernel_rfl) (by kernel_rfl) (by kernel_rfl) ?q3_32 (Or.inl ⟨?z3_32, ?y3_32⟩) (by assumption) ?r3_32
          case h3_32 =>
            simp only [List.getElem?_toArray, List.getElem?_cons_succ, List.getElem?_cons_zero]
            rfl
          case q3_32 => exact fun _ _ _ h => h
          case z3_32 => rfl
          case y3_32 =>
            intro w hSw
            try dsimp only at hSw
            go_simp
            try with_reducible rfl
          try simp only [Act.put, List.setIfInBounds_toArray, List.set_cons_zero, List.set_cons_succ]
          refine wpAnyH_take (i := 4) (oi := ?o4_33) (v := ?v4_33) ?h4_33 (by kernel_rfl) (by kernel_rfl) (by kernel_rfl) ?q4_33 (Or.inl ⟨?z4_33, ?y4_33⟩) (by assumption) ?r4_33
          case h4_33 =>
            simp only [List.getElem?_toArray, List.getElem?_cons_succ, List.getElem?_cons_zero]
            rfl
          case q4_33 => exact fun _ _ _ h => h
          case z4_33 => rfl
          case y4_33 =>
            intro w hSw
            try dsimp only at hSw
            go_simp
            try with_reducible rfl
          try simp only [Act.put, List.setIfInBounds_toArray, List.set_cons_zero, List.set_cons_succ]
          refine wpAnyH_take (i := 5) (oi := ?o5_34) (v := ?v5_34) ?h5_34 (by kernel_rfl) (by kernel_rfl) (by kernel_rfl) ?q5_34 (Or.inl ⟨?z5_34, ?y5_34⟩) (by assumption) ?r5_34
          case h5_34 =>
            simp only [List.getElem?_toArray, List.getElem?_cons_succ, List.getElem?_cons_zero]
            rfl
          case q5_34 => exact fun _ _ _ h => h
          case z5_34 => rfl
          case y5_34 =>
            intro w hSw
            try dsimp only at hSw
            go_simp
            try with_reducible rfl
          try simp only [Act.put, List.setIfInBounds_toArray, List.set_cons_zero, List.set_cons_succ]
          refine wpAnyH_take (i := 6) (oi := ?o6_35) (v := ?v6_35) ?h6_35 (by kernel_rfl) (by kernel_rfl) (by kernel_rfl) ?q6_35 (Or.inl ⟨?z6_35, ?y6_35⟩) (by assumption) ?r6_35
          case h6_35 =>
            simp only [List.getElem?_toArray, List.getElem?_cons_succ, List.getElem?_cons_zero]
            rfl
          case q6_35 => exact fun _ _ _ h => h
          case z6_35 => rfl
          case y6_35 =>
            intro w hSw
            try dsimp only at hSw
            go_simp
            try with_reducible rfl
          try simp only [Act.put, List.setIfInBounds_toArray, List.set_cons_zero, List.set_cons_succ]
          refine wpAnyH_take (i := 7) (oi := ?o7_36) (v := ?v7_36) ?h7_36 (by kernel_rfl) (by kernel_rfl) (by kernel_rfl) ?q7_36 (Or.inl ⟨?z7_36, ?y7_36⟩) (by assumption) ?r7_36
          case h7_36 =>
            simp only [List.getElem?_toArray, List.getElem?_cons_succ, List.getElem?_cons_zero]
            rfl
          case q7_36 => exact fun _ _ _ h => h
          case z7_36 => rfl
          case y7_36 =>
            intro w hSw
            try dsimp only at hSw
            go_simp
            try with_reducible rfl
          try simp only [Act.put, List.setIfInBounds_toArray, List.set_cons_zero, List.set_cons_succ]
          refine wpAnyH_take (i := 10) (oi := ?o10_37) (v := ?v10_37) ?h10_37 (by kernel_rfl) (by kernel_rfl) (by kernel_rfl) ?q10_37 (Or.inl ⟨?z10_37, ?y10_37⟩) (by assumption) ?r10_37
          case h10_37 =>
            simp only [List.getElem?_toArray, List.getElem?_cons_succ, List.getElem?_cons_zero]
            rfl
          case q10_37 => exact fun _ _ _ h => h
          case z10_37 => rfl
          case y10_37 =>
            intro w hSw
            try dsimp only at hSw
            go_simp
            try with_reducible rfl
          try simp only [Act.put, List.setIfInBounds_toArray, List.set_cons_zero, List.set_cons_succ]
          refine wpAnyH_ready (rs := [8]) (by kernel_rfl) (by simp) ?_
          refine AllReadyH.cons (o := ?o8_38) ?h8_38 (fun K hK => ?k8_38) AllReadyH.nil
          case h8_38 =>
            simp only [List.getElem?_toArray, List.getElem?_cons_succ, List.getElem?_cons_zero]
            rfl
          refine step_append_src (by rfl) _ _ 27 (by rfl) (wr.heap.size + 1) 49 i0 (.agg #[.int .i64 0, .int .i64 0]) 2 16 Try.underlying27 hi hy0 hy1 hy2 rfl (by decide) (.slice vA vN vC) (fs.take k ++ ([⟨(xn : Int), (t : Int) - (xn : Int)⟩] : List Block)).length (bvals (fs.take k ++ ([⟨(xn : Int), (t : Int) - (xn : Int)⟩] : List Block))) (by rfl) HOWN.out (.slice (some ⟨g, off, none⟩) 0 0) (fs.drop (k + 1)).length (bvals (fs.drop (k + 1))) (by rfl) HSR2.out (one_blk _) (by have := HTK.out; have := HDK.out; (try simp only [maxLen, List.length_append, List.length_singleton]); omega) (by have := HTK.out; have := HDK.out; (try simp only [List.length_append, List.length_singleton]); omega) hz3 ?_
          intro v' w3 hown' hgrow hor
          have hB3 := HD.out.grown hgrow HD.out.size (fun g hg => by have := (HOWN.out.lt g hg).1; omega)
          have bR3 := HR0.out.step hB3
          have bP3 := HP0.out.step hB3
          obtain ⟨rA, rN, rC, rfl, _⟩ := (Own.of_own hown').form
          have r0 : w3.cell? ⟨w.heap.size + 1, 0, none⟩ = some (.string ⟨#[]⟩) := bR3.cell 0
          have r1 : w3.cell? ⟨w.heap.size + 1, 1, none⟩ = some (.slice none 0 0) := bR3.cell 1
          have f0 := bR3.frozen 0
          have f1 := bR3.frozen 1
          refine hK.out _ _ (by first | exact ⟨bP3.cell 0, bP3.cell 1⟩ | go_keep) (fun hHeld38 => ?_)
          clear hK K
          try simp only [Act.put, List.setIfInBounds_toArray, List.set_cons_zero, List.set_cons_succ]
          refine wpAnyH_take (i := 9) (oi := ?o9_39) (v := ?v9_39) ?h9_39 (by kernel_rfl) (by kernel_rfl) (by kernel_rfl) ?q9_39 (Or.inl ⟨?z9_39, ?y9_39⟩) (by assumption) ?r9_39
          case h9_39 =>
            simp only [List.getElem?_toArray, List.getElem?_cons_succ, List.getElem?_cons_zero]
            rfl
          case q9_39 => exact fun _ _ _ h => h
          case z9_39 => rfl
          case y9_39 =>
            intro w hSw
            try dsimp only at hSw
            go_simp
            try with_reducible rfl
          try simp only [Act.put, List.setIfInBounds_toArray, List.set_cons_zero, List.set_cons_succ]
          refine wpAnyH_ready (rs := [11]) (by kernel_rfl) (by simp) ?_
          refine AllReadyH.cons (o := ?o11_40) ?h11_40 (fun K hK => ?k11_40) AllReadyH.nil
          case h11_40 =>
            simp only [List.getElem?_toArray, List.getElem?_cons_succ, List.getElem?_cons_zero]
            rfl
          go_simp
          refine hK.out _ _ (by first | exact ⟨((bP3.far (p := ⟨w.heap.size + 1, 0, none⟩) (by simp) _).far (p := ⟨w.heap.size + 1, 1, none⟩) (by simp) _).cell 0, ((bP3.far (p := ⟨w.heap.size + 1, 0, none⟩) (by simp) _).far (p := ⟨w.heap.size + 1, 1, none⟩) (by simp) _).cell 1⟩ | go_keep) (fun hHeld40 => ?_)
          clear hK K
          try simp only [Act.put, List.setIfInBounds_toArray, List.set_cons_zero, List.set_cons_succ]
          refine wpAnyH_take (i := 12) (oi := ?o12_41) (v := ?v12_41) ?h12_41 (by kernel_rfl) (by kernel_rfl) (by kernel_rfl) ?q12_41 (Or.inl ⟨?z12_41, ?y12_41⟩) (by assumption) ?r12_41
          case h12_41 =>
            simp only [List.getElem?_toArray, List.getElem?_cons_succ, List.getElem?_cons_zero]
            rfl
          case q12_41 => exact fun _ _ _ h => h
          case z12_41 => rfl
          case y12_41 =>
            intro w hSw
            try dsimp only at hSw
            go_simp
            try with_reducible rfl
          try simp only [Act.put, List.setIfInBounds_toArray, List.set_cons_zero, List.set_cons_succ]
          refine wpAnyH_take (i := 13) (oi := ?o13_42) (v := ?v13_42) ?h13_42 (by kernel_rfl) (by kernel_rfl) (by kernel_rfl) ?q13_42 (Or.inl ⟨?z13_42, ?y13_42⟩) (by assumption) ?r13_42
          case h13_42 =>
            simp only [List.getElem?_toArray, List.getElem?_cons_succ, List.getElem?_cons_zero]
            rfl
          case q13_42 => exact fun _ _ _ h => h
          case z13_42 => rfl
          case y13_42 =>
            intro w hSw
            try dsimp only at hSw
            go_simp
            try with_reducible rfl
          try simp only [Act.put, List.setIfInBounds_toArray, List.set_cons_zero, List.set_cons_succ]
          refine wpAnyH_done (by kernel_rfl) ?_ _
          have bR4 : Blk ((w3.setCell ⟨w.heap.size + 1, 0, none⟩ (.string s)).setCell ⟨w.heap.size + 1, 1, none⟩ (.slice rA rN rC)) (w.heap.size + 1) 29 #[.string s, .slice rA rN rC] := by have := (bR3.set_ 0 (.string s)).set_ 1 (.slice rA rN rC); simpa using this
          have s0 := bR4.cell 0
          have s1 := bR4.cell 1
          go_wp2_with fail
          rw [allocM_some HAL.out]
          have hs2 := HS0.out
          have hszb := hB3.size
          refine bodyPost_ret (v := .tuple #[.agg #[.string s, .slice rA rN rC], .int .i64 t, .int .i64 0]) (by simp [results, Try.results47, go_sem, s0, s1]) rfl ⟨[.string s, .slice rA rN rC], rfl, lvC_mem ?_ _, ?_⟩
          · rw [HT.out]
            exact lv_two (owns_far (owns_far hown' (p := ⟨w.heap.size + 1, 0, none⟩) (by show w.heap.size + 1 < wr.heap.size + 1; omega) _) (p := ⟨w.heap.size + 1, 1, none⟩) (by show w.heap.size + 1 < wr.heap.size + 1; omega) _) (by omega)
          · exact ((HB0.out.trans (hB3.mono (by omega))).setCell (p := ⟨w.heap.size + 1, 0, none⟩) (by simp) _).setCell (p := ⟨w.heap.size + 1, 1, none⟩) (by simp) _
        have hcd : ¬ c - (k + 1) = 0 := by omega
        have HD : Hid (Below w0.heap.size w0 wd.drew) := S1.below.drew
        have HSR2 : Hid (SrcOk wd.drew (.slice (some ⟨g, off + (k + 1) * 2, none⟩) (n - (k + 1)) (c - (k + 1))) 2 (fs.drop (k + 1)).length (bvals (fs.drop (k + 1)))) := src_suffix (j := k + 1) (HAT.out.below HD.out HG.out) (Nat.lt_of_lt_of_le HG.out HD.out.size) HN.out hn4 (by omega) (by first | omega | rfl) (by intro hj; first | exact absurd hj (by omega) | rfl)
        have HOWN := Lib.hid (owns_step S1.own (Below.refl _ _).drew)
        have hz3 : wr.heap.size + 1 ≤ wd.drew.heap.size := by simpa using S1.size
        have bP := Lib.hid (HP0.out.step HD.out)
        have bR := Lib.hid (HR0.out.step HD.out)
        have bPw := HP0.out.step S1.below
        have p0 : wd.cell? ⟨w.heap.size, 0, none⟩ = some (.string s) := bPw.cell 0
        have p1 : wd.cell? ⟨w.heap.size, 1, none⟩ = some (.slice (some ⟨g, off, none⟩) n c) := bPw.cell 1
        clear b0 b1 S1
        go_wp2_with fail
        refine wp_region_held_drew (S := (fun w' => w'.cell? ⟨w.heap.size, 0, none⟩ = some (.string s) ∧ w'.cell? ⟨w.heap.size, 1, none⟩ = some (.slice (some ⟨g, off, none⟩) n c))) (by kernel_rfl) ⟨bPw.cell 0, bPw.cell 1⟩ (fun hHeld => ?_)
        refine wpAnyH_take (i := 0) (oi := ?o0_43) (v := ?v0_43) ?h0_43 (by kernel_rfl) (by kernel_rfl) (by kernel_rfl) ?q0_43 (Or.inl ⟨?z0_43, ?y0_43⟩) (by assumption) ?r0_43
        case h0_43 =>
          simp only [List.getElem?_toArray, List.getElem?_cons_succ, List.getElem?_cons_zero]
          rfl
        case q0_43 => exact fun _ _ _ h => h
        case z0_43 => rfl
        case y0_43 =>
          intro w hSw
          try dsimp only at hSw
          go_simp
          try with_reducible rfl
        try simp only [Act.put, List.setIfInBounds_toArray, List.set_cons_zero, List.set_cons_succ]
        refine wpAnyH_take (i := 1) (oi := ?o1_44) (v := ?v1_44) ?h1_44 (by kernel_rfl) (by kernel_rfl) (by kernel_rfl) ?q1_44 (Or.inl ⟨?z1_44, ?y1_44⟩) (by assumption) ?r1_44
        case h1_44 =>
          simp only [List.getElem?_toArray, List.getElem?_cons_succ, List.getElem?_cons_zero]
          rfl
        case q1_44 => exact fun _ _ _ h => h
        case z1_44 => rfl
        case y1_44 =>
          intro w hSw
          try dsimp only at hSw
          go_simp
          try with_reducible rfl
        try simp only [Act.put, List.setIfInBounds_toArray, List.set_cons_zero, List.set_cons_succ]
        refine wpAnyH_take (i := 2) (oi := ?o2_45) (v := ?v2_45) ?h2_45 (by kernel_rfl) (by kernel_rfl) (by kernel_rfl) ?q2_45 (Or.inl ⟨?z2_45, ?y2_45⟩) (by assumption) ?r2_45
        case h2_45 =>
          simp only [List.getElem?_toArray, List.getElem?_cons_succ, List.getElem?_cons_zero]
          rfl
        case q2_45 => exact fun _ _ _ h => h
        case z2_45 => rfl
        case y2_45 =>
          intro w hSw
          try dsimp only at hSw
          go_simp
          try with_reducible rfl
        try simp only [Act.put, List.setIfInBounds_toArray, List.set_cons_zero, List.set_cons_succ]
        refine wpAnyH_take (i := 3) (oi := ?o3_46) (v := ?v3_46) ?h3_46 (by kernel_rfl) (by kernel_rfl) (by kernel_rfl) ?q3_46 (Or.inl ⟨?z3_46, ?y3_46⟩) (by assumption) ?r3_46
        case h3_46 =>
          simp only [List.getElem?_toArray, List.getElem?_cons_succ, List.getElem?_cons_zero]
          rfl
        case q3_46 => exact fun _ _ _ h => h
        case z3_46 => rfl
        case y3_46 =>
          intro w hSw
          try dsimp only at hSw
          go_simp
          try with_reducible rfl
        try simp only [Act.put, List.setIfInBounds_toArray, List.set_cons_zero, List.set_cons_succ]
        refine wpAnyH_take (i := 4) (oi := ?o4_47) (v := ?v4_47) ?h4_47 (by kernel_rfl) (by kernel_rfl) (by kernel_rfl) ?q4_47 (Or.inl ⟨?z4_47, ?y4_47⟩) (by assumption) ?r4_47
        case h4_47 =>
          simp only [List.getElem?_toArray, List.getElem?_cons_succ, List.getElem?_cons_zero]
          rfl
        case q4_47 => exact fun _ _ _ h => h
        case z4_47 => rfl
        case y4_47 =>
          intro w hSw
          try dsimp only at hSw
          go_simp
          try with_reducible rfl
        try simp only [Act.put, List.setIfInBounds_toArray, List.set_cons_zero, List.set_cons_succ]
        refine wpAnyH_take (i := 5) (oi := ?o5_48) (v := ?v5_48) ?h5_48 (by kernel_rfl) (by kernel_rfl) (by kernel_rfl) ?q5_48 (Or.inl ⟨?z5_48, ?y5_48⟩) (by assumption) ?r5_48
        case h5_48 =>
          simp only [List.getElem?_toArray, List.getElem?_cons_succ, List.getElem?_cons_zero]
          rfl
        case q5_48 => exact fun _ _ _ h => h
        case z5_48 => rfl
        case y5_48 =>
          intro w hSw
          try dsimp only at hSw
          go_simp
          try with_reducible rfl
        try simp only [Act.put, List.setIfInBounds_toArray, List.set_cons_zero, List.set_cons_succ]
        refine wpAnyH_take (i := 6) (oi := ?o6_49) (v := ?v6_49) ?h6_49 (by kernel_rfl) (by kernel_rfl) (by kernel_rfl) ?q6_49 (Or.inl ⟨?z6_49, ?y6_49⟩) (by assumption) ?r6_49
        case h6_49 =>
          simp only [List.getElem?_toArray, List.getElem?_cons_succ, List.getElem?_cons_zero]
          rfl
        case q6_49 => exact fun _ _ _ h => h
        case z6_49 => rfl
        case y6_49 =>
          intro w hSw
          try dsimp only at hSw
          go_simp
          try with_reducible rfl
        try simp only [Act.put, List.setIfInBounds_toArray, List.set_cons_zero, List.set_cons_succ]
        refine wpAnyH_take (i := 7) (oi := ?o7_50) (v := ?v7_50) ?h7_50 (by kernel_rfl) (by kernel_rfl) (by kernel_rfl) ?q7_50 (Or.inl ⟨?z7_50, ?y7_50⟩) (by assumption) ?r7_50
        case h7_50 =>
          simp only [List.getElem?_toArray, List.getElem?_cons_succ, List.getElem?_cons_zero]
          rfl
        case q7_50 => exact fun _ _ _ h => h
        case z7_50 => rfl
        case y7_50 =>
          intro w hSw
          try dsimp only at hSw
          go_simp
          try with_reducible rfl
        try simp only [Act.put, List.setIfInBounds_toArray, List.set_cons_zero, List.set_cons_succ]
        refine wpAnyH_take (i := 10) (oi := ?o10_51) (v := ?v10_51) ?h10_51 (by kernel_rfl) (by kernel_rfl) (by kernel_rfl) ?q10_51 (Or.inl ⟨?z10_51, ?y10_51⟩) (by assumption) ?r10_51
        case h10_51 =>
          simp only [List.getElem?_toArray, List.getElem?_cons_succ, List.getElem?_cons_zero]
          rfl
        case q10_51 => exact fun _ _ _ h => h
        case z10_51 => rfl
        case y10_51 =>
          intro w hSw
          try dsimp only at hSw
          go_simp
          try with_reducible rfl
        try simp only [Act.put, List.setIfInBounds_toArray, List.set_cons_zero, List.set_cons_succ]
        refine wpAnyH_ready (rs := [8]) (by kernel_rfl) (by simp) ?_
        refine AllReadyH.cons (o := ?o8_52) ?h8_52 (fun K hK => ?k8_52) AllReadyH.nil
        case h8_52 =>
          simp only [List.getElem?_toArray, List.getElem?_cons_succ, List.getElem?_cons_zero]
          rfl
        refine step_append_src (by rfl) _ _ 27 (by rfl) (wr.heap.size + 1) 49 i0 (.agg #[.int .i64 0, .int .i64 0]) 2 16 Try.underlying27 hi hy0 hy1 hy2 rfl (by decide) (.slice vA vN vC) (fs.take k ++ ([⟨(xn : Int), (t : Int) - (xn : Int)⟩] : List Block)).length (bvals (fs.take k ++ ([⟨(xn : Int), (t : Int) - (xn : Int)⟩] : List Block))) (by rfl) HOWN.out (.slice (some ⟨g, off + (k + 1) * 2, none⟩) (n - (k + 1)) (c - (k + 1))) (fs.drop (k + 1)).length (bvals (fs.drop (k + 1))) (by rfl) HSR2.out (one_blk _) (by have := HTK.out; have := HDK.out; (try simp only [maxLen, List.length_append, List.length_singleton]); omega) (by have := HTK.out; have := HDK.out; (try simp only [List.length_append, List.length_singleton]); omega) hz3 ?_
        intro v' w3 hown' hgrow hor
        have hB3 := HD.out.grown hgrow HD.out.size (fun g hg => by have := (HOWN.out.lt g hg).1; omega)
        have bR3 := HR0.out.step hB3
        have bP3 := HP0.out.step hB3
        obtain ⟨rA, rN, rC, rfl, _⟩ := (Own.of_own hown').form
        have r0 : w3.cell? ⟨w.heap.size + 1, 0, none⟩ = some (.string ⟨#[]⟩) := bR3.cell 0
        have r1 : w3.cell? ⟨w.heap.size + 1, 1, none⟩ = some (.slice none 0 0) := bR3.cell 1
        have f0 := bR3.frozen 0
        have f1 := bR3.frozen 1
        refine hK.out _ _ (by first | exact ⟨bP3.cell 0, bP3.cell 1⟩ | go_keep) (fun hHeld52 => ?_)
        clear hK K
        try simp only [Act.put, List.setIfInBounds_toArray, List.set_cons_zero, List.set_cons_succ]
        refine wpAnyH_take (i := 9) (oi := ?o9_53) (v := ?v9_53) ?h9_53 (by kernel_rfl) (by kernel_rfl) (by kernel_rfl) ?q9_53 (Or.inl ⟨?z9_53, ?y9_53⟩) (by assumption) ?r9_53
        case h9_53 =>
          simp only [List.getElem?_toArray, List.getElem?_cons_succ, List.getElem?_cons_zero]
          rfl
        case q9_53 => exact fun _ _ _ h => h
        case z9_53 => rfl
        case y9_53 =>
          intro w hSw
          try dsimp only at hSw
          go_simp
          try with_reducible rfl
        try simp only [Act.put, List.setIfInBounds_toArray, List.set_cons_zero, List.set_cons_succ]
        refine wpAnyH_ready (rs := [11]) (by kernel_rfl) (by simp) ?_
        refine AllReadyH.cons (o := ?o11_54) ?h11_54 (fun K hK => ?k11_54) AllReadyH.nil
        case h11_54 =>
          simp only [List.getElem?_toArray, List.getElem?_cons_succ, List.getElem?_cons_zero]
          rfl
        go_simp
        refine hK.out _ _ (by first | exact ⟨((bP3.far (p := ⟨w.heap.size + 1, 0, none⟩) (by simp) _).far (p := ⟨w.heap.size + 1, 1, none⟩) (by simp) _).cell 0, ((bP3.far (p := ⟨w.heap.size + 1, 0, none⟩) (by simp) _).far (p := ⟨w.heap.size + 1, 1, none⟩) (by simp) _).cell 1⟩ | go_keep) (fun hHeld54 => ?_)
        clear hK K
        try simp only [Act.put, List.setIfInBounds_toArray, List.set_cons_zero, List.set_cons_succ]
        refine wpAnyH_take (i := 12) (oi := ?o12_55) (v := ?v12_55) ?h12_55 (by kernel_rfl) (by kernel_rfl) (by kernel_rfl) ?q12_55 (Or.inl ⟨?z12_55, ?y12_55⟩) (by assumption) ?r12_55
        case h12_55 =>
          simp only [List.getElem?_toArray, List.getElem?_cons_succ, List.getElem?_cons_zero]
          rfl
        case q12_55 => exact fun _ _ _ h => h
        case z12_55 => rfl
        case y12_55 =>
          intro w hSw
          try dsimp only at hSw
          go_simp
          try with_reducible rfl
        try simp only [Act.put, List.setIfInBounds_toArray, List.set_cons_zero, List.set_cons_succ]
        refine wpAnyH_take (i := 13) (oi := ?o13_56) (v := ?v13_56) ?h13_56 (by kernel_rfl) (by kernel_rfl) (by kernel_rfl) ?q13_56 (Or.inl ⟨?z13_56, ?y13_56⟩) (by assumption) ?r13_56
        case h13_56 =>
          simp only [List.getElem?_toArray, List.getElem?_cons_succ, List.getElem?_cons_zero]
          rfl
        case q13_56 => exact fun _ _ _ h => h
        case z13_56 => rfl
        case y13_56 =>
          intro w hSw
          try dsimp only at hSw
          go_simp
          try with_reducible rfl
        try simp only [Act.put, List.setIfInBounds_toArray, List.set_cons_zero, List.set_cons_succ]
        refine wpAnyH_done (by kernel_rfl) ?_ _
        have bR4 : Blk ((w3.setCell ⟨w.heap.size + 1, 0, none⟩ (.string s)).setCell ⟨w.heap.size + 1, 1, none⟩ (.slice rA rN rC)) (w.heap.size + 1) 29 #[.string s, .slice rA rN rC] := by have := (bR3.set_ 0 (.string s)).set_ 1 (.slice rA rN rC); simpa using this
        have s0 := bR4.cell 0
        have s1 := bR4.cell 1
        go_wp2_with fail
        rw [allocM_some HAL.out]
        have hs2 := HS0.out
        have hszb := hB3.size
        refine bodyPost_ret (v := .tuple #[.agg #[.string s, .slice rA rN rC], .int .i64 t, .int .i64 0]) (by simp [results, Try.results47, go_sem, s0, s1]) rfl ⟨[.string s, .slice rA rN rC], rfl, lvC_mem ?_ _, ?_⟩
        · rw [HT.out]
          exact lv_two (owns_far (owns_far hown' (p := ⟨w.heap.size + 1, 0, none⟩) (by show w.heap.size + 1 < wr.heap.size + 1; omega) _) (p := ⟨w.heap.size + 1, 1, none⟩) (by show w.heap.size + 1 < wr.heap.size + 1; omega) _) (by omega)
        · exact ((HB0.out.trans (hB3.mono (by omega))).setCell (p := ⟨w.heap.size + 1, 0, none⟩) (by simp) _).setCell (p := ⟨w.heap.size + 1, 1, none⟩) (by simp) _
    case neg =>
      by_cases hZ : (0 : Int) < xn + xz - t - z
      case pos =>
        have HT : Hid (takeAt fs k ⟨xn, xz⟩ t z = fs.take k ++ ([⟨(t : Int) + z, (xn : Int) + xz - (t : Int) - z⟩] : List Block) ++ fs.drop (k + 1)) := by
          show _ = _
          have e : (xn : Int) + xz - ((t : Int) + z) = xn + xz - t - z := by omega
          rw [takeAt, cutA, cutZ, if_neg (by show ¬ (xn : Int) < (t : Int); omega), if_pos (by show (t : Int) + z < (xn : Int) + xz; omega)]
          simp [e]
        have dA : decide ((xn : Int) < t) = false := by simp; omega
        have dZ : decide ((0 : Int) < xn + xz - t - z) = true := by simp; omega
        go_wp2_with (first | (at_builtin; refine wpList_append_src rfl _ _ 27 rfl (wr.heap.size + 1) 49 i0 (.agg #[.int .i64 0, .int .i64 0]) 2 16 Try.underlying27 hi hy0 hy1 hy2 rfl (by decide) _ _ _ rfl HO0.out _ _ _ rfl HSRC.out (one_blk _) (by have := HTK.out; simp only [maxLen]; omega) (by have := HTK.out; omega) HZ0.out ?_; intro v' wc hown' hgrow _; have hB3 := HBZ.out.grown hgrow HBZ.out.size (fun g hg => (by have := (HO0.out.lt g hg).1; omega)); have hz3 : wr.heap.size + 1 ≤ wc.heap.size := Nat.le_trans HZ0.out hgrow.size; have bx3 : Blk wc wr.heap.size 49 #[.int .i64 (xn : Int), .int .i64 xz] := (hgrow.block _ HBX.out.lt (fun e => (by have := (HO0.out.lt _ e.symm).1; omega))).trans HBX.out; rw [Nat.zero_add, List.nil_append] at hown'; obtain ⟨uA, uN, uC, rfl, _⟩ := (Own.of_own hown').form; have S0 : RS w0 wc wr.heap.size (.slice uA uN uC) (fs.take k) xn xz := ⟨hown', bx3, hB3, hz3⟩; clear hown' hgrow hB3 hz3 bx3; have b0 : wc.cell? ⟨wr.heap.size, 0, none⟩ = some (.int .i64 (xn : Int)) := S0.box.cell 0; have b1 : wc.cell? ⟨wr.heap.size, 1, none⟩ = some (.int .i64 xz) := S0.box.cell 1; have hs1 := S0.own.alloc (.cells #[Value.int .i64 ((t : Int) + z), Value.int .i64 ((xn : Int) + xz - (t : Int) - z)] 49); have hc1 := news_blk wc ⟨(t : Int) + z, (xn : Int) + xz - (t : Int) - z⟩; have hB2 : Below w0.heap.size w0 (wc.alloc (.cells #[Value.int .i64 ((t : Int) + z), Value.int .i64 ((xn : Int) + xz - (t : Int) - z)] 49)) := S0.below.alloc S0.below.size _; have hz2 : wr.heap.size + 1 ≤ (wc.alloc (.cells #[Value.int .i64 ((t : Int) + z), Value.int .i64 ((xn : Int) + xz - (t : Int) - z)] 49)).heap.size := (by have := S0.size; (try simp at this); simp; omega)) | (at_builtin; refine wpList_append_own _ rfl _ _ 27 rfl (wr.heap.size + 1) 49 i0 (.agg #[.int .i64 0, .int .i64 0]) 2 16 Try.underlying27 hi hy0 hy1 hy2 rfl (by decide) _ _ _ rfl hs1 ⟨wc.heap.size, 0, none⟩ 1 1 (bvals [⟨(t : Int) + z, (xn : Int) + xz - (t : Int) - z⟩]) rfl rfl hc1 (one_blk _) (by have := HTK.out; (try simp only [maxLen, List.length_append, List.length_singleton, List.length_nil]); omega) (by have := HTK.out; (try simp only [List.length_append, List.length_singleton, List.length_nil]); omega) hz2 ?_; intro v' we hown' hgrow _; have hB3 := hB2.grown hgrow hB2.size (fun g hg => (by have := (hs1.lt g hg).1; omega)); have hz3 : wr.heap.size + 1 ≤ we.heap.size := Nat.le_trans hz2 hgrow.size; have bx3 : Blk we wr.heap.size 49 #[.int .i64 (xn : Int), .int .i64 xz] := (by have := S0.box.alloc (.cells #[Value.int .i64 ((t : Int) + z), Value.int .i64 ((xn : Int) + xz - (t : Int) - z)] 49); exact (hgrow.block _ this.lt (fun e => (by have := (hs1.lt _ e.symm).1; omega))).trans this); obtain ⟨yA, yN, yC, rfl, _⟩ := (Own.of_own hown').form; have S2 : RS w0 we wr.heap.size (.slice yA yN yC) (fs.take k ++ ([⟨(t : Int) + z, (xn : Int) + xz - (t : Int) - z⟩] : List Block)) xn xz := ⟨(by rw [bvals_append, List.length_append]; exact hown'), bx3, hB3, hz3⟩; clear hs1 hc1 hB2 hz2 hown' hgrow hB3 hz3 bx3 b0 b1; have b0 : we.cell? ⟨wr.heap.size, 0, none⟩ = some (.int .i64 (xn : Int)) := S2.box.cell 0; have b1 : we.cell? ⟨wr.heap.size, 1, none⟩ = some (.int .i64 xz) := S2.box.cell 1))
        have hk1 : (k : Int) + 1 ≤ n := by omega
        have hk0 : (0 : Int) ≤ (k : Int) + 1 := by omega
        have hkw : IntKind.i64.wrap ((k : Int) + 1) = (k : Int) + 1 := IntWalk.i64_in _ (by omega)
        by_cases hcc : c = k + 1
        case pos =>
          obtain rfl : n = k + 1 := by omega
          subst hcc
          have HD : Hid (Below w0.heap.size w0 we.drew) := S2.below.drew
          have HSR2 : Hid (SrcOk we.drew (.slice (some ⟨g, off, none⟩) 0 0) 2 (fs.drop (k + 1)).length (bvals (fs.drop (k + 1)))) := src_suffix (j := k + 1) (HAT.out.below HD.out HG.out) (Nat.lt_of_lt_of_le HG.out HD.out.size) HN.out hn4 (by omega) (by first | omega | rfl) (by intro hj; first | exact absurd hj (by omega) | rfl)
          have HOWN := Lib.hid (owns_step S2.own (Below.refl _ _).drew)
          have hz3 : wr.heap.size + 1 ≤ we.drew.heap.size := by simpa using S2.size
          have bP := Lib.hid (HP0.out.step HD.out)
          have bR := Lib.hid (HR0.out.step HD.out)
          have bPw := HP0.out.step S2.below
          have p0 : we.cell? ⟨w.heap.size, 0, none⟩ = some (.string s) := bPw.cell 0
          have p1 : we.cell? ⟨w.heap.size, 1, none⟩ = some (.slice (some ⟨g, off, none⟩) (k + 1) (k + 1)) := bPw.cell 1
          clear b0 b1 S2
          go_wp2_with fail
          refine wp_region_held_drew (S := (fun w' => w'.cell? ⟨w.heap.size, 0, none⟩ = some (.string s) ∧ w'.cell? ⟨w.heap.size, 1, none⟩ = some (.slice (some ⟨g, off, none⟩) (k + 1) (k + 1)))) (by kernel_rfl) ⟨bPw.cell 0, bPw.cell 1⟩ (fun hHeld => ?_)
          refine wpAnyH_take (i := 0) (oi := ?o0_57) (v := ?v0_57) ?h0_57 (by kernel_rfl) (by kernel_rfl) (by kernel_rfl) ?q0_57 (Or.inl ⟨?z0_57, ?y0_57⟩) (by assumption) ?r0_57
          case h0_57 =>
            simp only [List.getElem?_toArray, List.getElem?_cons_succ, List.getElem?_cons_zero]
            rfl
          case q0_57 => exact fun _ _ _ h => h
          case z0_57 => rfl
          case y0_57 =>
            intro w hSw
            try dsimp only at hSw
            go_simp
            try with_reducible rfl
          try simp only [Act.put, List.setIfInBounds_toArray, List.set_cons_zero, List.set_cons_succ]
          refine wpAnyH_take (i := 1) (oi := ?o1_58) (v := ?v1_58) ?h1_58 (by kernel_rfl) (by kernel_rfl) (by kernel_rfl) ?q1_58 (Or.inl ⟨?z1_58, ?y1_58⟩) (by assumption) ?r1_58
          case h1_58 =>
            simp only [List.getElem?_toArray, List.getElem?_cons_succ, List.getElem?_cons_zero]
            rfl
          case q1_58 => exact fun _ _ _ h => h
          case z1_58 => rfl
          case y1_58 =>
            intro w hSw
            try dsimp only at hSw
            go_simp
            try with_reducible rfl
          try simp only [Act.put, List.setIfInBounds_toArray, List.set_cons_zero, List.set_cons_succ]
          refine wpAnyH_take (i := 2) (oi := ?o2_59) (v := ?v2_59) ?h2_59 (by kernel_rfl) (by kernel_rfl) (by kernel_rfl) ?q2_59 (Or.inl ⟨?z2_59, ?y2_59⟩) (by assumption) ?r2_59
          case h2_59 =>
            simp only [List.getElem?_toArray, List.getElem?_cons_succ, List.getElem?_cons_zero]
            rfl
          case q2_59 => exact fun _ _ _ h => h
          case z2_59 => rfl
          case y2_59 =>
            intro w hSw
            try dsimp only at hSw
            go_simp
            try with_reducible rfl
          try simp only [Act.put, List.setIfInBounds_toArray, List.set_cons_zero, List.set_cons_succ]
          refine wpAnyH_take (i := 3) (oi := ?o3_60) (v := ?v3_60) ?h3_60 (by kernel_rfl) (by kernel_rfl) (by kernel_rfl) ?q3_60 (Or.inl ⟨?z3_60, ?y3_60⟩) (by assumption) ?r3_60
          case h3_60 =>
            simp only [List.getElem?_toArray, List.getElem?_cons_succ, List.getElem?_cons_zero]
            rfl
          case q3_60 => exact fun _ _ _ h => h
          case z3_60 => rfl
          case y3_60 =>
            intro w hSw
            try dsimp only at hSw
            go_simp
            try with_reducible rfl
          try simp only [Act.put, List.setIfInBounds_toArray, List.set_cons_zero, List.set_cons_succ]
          refine wpAnyH_take (i := 4) (oi := ?o4_61) (v := ?v4_61) ?h4_61 (by kernel_rfl) (by kernel_rfl) (by kernel_rfl) ?q4_61 (Or.inl ⟨?z4_61, ?y4_61⟩) (by assumption) ?r4_61
          case h4_61 =>
            simp only [List.getElem?_toArray, List.getElem?_cons_succ, List.getElem?_cons_zero]
            rfl
          case q4_61 => exact fun _ _ _ h => h
          case z4_61 => rfl
          case y4_61 =>
            intro w hSw
            try dsimp only at hSw
            go_simp
            try with_reducible rfl
          try simp only [Act.put, List.setIfInBounds_toArray, List.set_cons_zero, List.set_cons_succ]
          refine wpAnyH_take (i := 5) (oi := ?o5_62) (v := ?v5_62) ?h5_62 (by kernel_rfl) (by kernel_rfl) (by kernel_rfl) ?q5_62 (Or.inl ⟨?z5_62, ?y5_62⟩) (by assumption) ?r5_62
          case h5_62 =>
            simp only [List.getElem?_toArray, List.getElem?_cons_succ, List.getElem?_cons_zero]
            rfl
          case q5_62 => exact fun _ _ _ h => h
          case z5_62 => rfl
          case y5_62 =>
            intro w hSw
            try dsimp only at hSw
            go_simp
            try with_reducible rfl
          try simp only [Act.put, List.setIfInBounds_toArray, List.set_cons_zero, List.set_cons_succ]
          refine wpAnyH_take (i := 6) (oi := ?o6_63) (v := ?v6_63) ?h6_63 (by kernel_rfl) (by kernel_rfl) (by kernel_rfl) ?q6_63 (Or.inl ⟨?z6_63, ?y6_63⟩) (by assumption) ?r6_63
          case h6_63 =>
            simp only [List.getElem?_toArray, List.getElem?_cons_succ, List.getElem?_cons_zero]
            rfl
          case q6_63 => exact fun _ _ _ h => h
          case z6_63 => rfl
          case y6_63 =>
            intro w hSw
            try dsimp only at hSw
            go_simp
            try with_reducible rfl
          try simp only [Act.put, List.setIfInBounds_toArray, List.set_cons_zero, List.set_cons_succ]
          refine wpAnyH_take (i := 7) (oi := ?o7_64) (v := ?v7_64) ?h7_64 (by kernel_rfl) (by kernel_rfl) (by kernel_rfl) ?q7_64 (Or.inl ⟨?z7_64, ?y7_64⟩) (by assumption) ?r7_64
          case h7_64 =>
            simp only [List.getElem?_toArray, List.getElem?_cons_succ, List.getElem?_cons_zero]
            rfl
          case q7_64 => exact fun _ _ _ h => h
          case z7_64 => rfl
          case y7_64 =>
            intro w hSw
            try dsimp only at hSw
            go_simp
            try with_reducible rfl
          try simp only [Act.put, List.setIfInBounds_toArray, List.set_cons_zero, List.set_cons_succ]
          refine wpAnyH_take (i := 10) (oi := ?o10_65) (v := ?v10_65) ?h10_65 (by kernel_rfl) (by kernel_rfl) (by kernel_rfl) ?q10_65 (Or.inl ⟨?z10_65, ?y10_65⟩) (by assumption) ?r10_65
          case h10_65 =>
            simp only [List.getElem?_toArray, List.getElem?_cons_succ, List.getElem?_cons_zero]
            rfl
          case q10_65 => exact fun _ _ _ h => h
          case z10_65 => rfl
          case y10_65 =>
            intro w hSw
            try dsimp only at hSw
            go_simp
            try with_reducible rfl
          try simp only [Act.put, List.setIfInBounds_toArray, List.set_cons_zero, List.set_cons_succ]
          refine wpAnyH_ready (rs := [8]) (by kernel_rfl) (by simp) ?_
          refine AllReadyH.cons (o := ?o8_66) ?h8_66 (fun K hK => ?k8_66) AllReadyH.nil
          case h8_66 =>
            simp only [List.getElem?_toArray, List.getElem?_cons_succ, List.getElem?_cons_zero]
            rfl
          refine step_append_src (by rfl) _ _ 27 (by rfl) (wr.heap.size + 1) 49 i0 (.agg #[.int .i64 0, .int .i64 0]) 2 16 Try.underlying27 hi hy0 hy1 hy2 rfl (by decide) (.slice yA yN yC) (fs.take k ++ ([⟨(t : Int) + z, (xn : Int) + xz - (t : Int) - z⟩] : List Block)).length (bvals (fs.take k ++ ([⟨(t : Int) + z, (xn : Int) + xz - (t : Int) - z⟩] : List Block))) (by rfl) HOWN.out (.slice (some ⟨g, off, none⟩) 0 0) (fs.drop (k + 1)).length (bvals (fs.drop (k + 1))) (by rfl) HSR2.out (one_blk _) (by have := HTK.out; have := HDK.out; (try simp only [maxLen, List.length_append, List.length_singleton]); omega) (by have := HTK.out; have := HDK.out; (try simp only [List.length_append, List.length_singleton]); omega) hz3 ?_
          intro v' w3 hown' hgrow hor
          have hB3 := HD.out.grown hgrow HD.out.size (fun g hg => by have := (HOWN.out.lt g hg).1; omega)
          have bR3 := HR0.out.step hB3
          have bP3 := HP0.out.step hB3
          obtain ⟨rA, rN, rC, rfl, _⟩ := (Own.of_own hown').form
          have r0 : w3.cell? ⟨w.heap.size + 1, 0, none⟩ = some (.string ⟨#[]⟩) := bR3.cell 0
          have r1 : w3.cell? ⟨w.heap.size + 1, 1, none⟩ = some (.slice none 0 0) := bR3.cell 1
          have f0 := bR3.frozen 0
          have f1 := bR3.frozen 1
          refine hK.out _ _ (by first | exact ⟨bP3.cell 0, bP3.cell 1⟩ | go_keep) (fun hHeld66 => ?_)
          clear hK K
          try simp only [Act.put, List.setIfInBounds_toArray, List.set_cons_zero, List.set_cons_succ]
          refine wpAnyH_take (i := 9) (oi := ?o9_67) (v := ?v9_67) ?h9_67 (by kernel_rfl) (by kernel_rfl) (by kernel_rfl) ?q9_67 (Or.inl ⟨?z9_67, ?y9_67⟩) (by assumption) ?r9_67
          case h9_67 =>
            simp only [List.getElem?_toArray, List.getElem?_cons_succ, List.getElem?_cons_zero]
            rfl
          case q9_67 => exact fun _ _ _ h => h
          case z9_67 => rfl
          case y9_67 =>
            intro w hSw
            try dsimp only at hSw
            go_simp
            try with_reducible rfl
          try simp only [Act.put, List.setIfInBounds_toArray, List.set_cons_zero, List.set_cons_succ]
          refine wpAnyH_ready (rs := [11]) (by kernel_rfl) (by simp) ?_
          refine AllReadyH.cons (o := ?o11_68) ?h11_68 (fun K hK => ?k11_68) AllReadyH.nil
          case h11_68 =>
            simp only [List.getElem?_toArray, List.getElem?_cons_succ, List.getElem?_cons_zero]
            rfl
          go_simp
          refine hK.out _ _ (by first | exact ⟨((bP3.far (p := ⟨w.heap.size + 1, 0, none⟩) (by simp) _).far (p := ⟨w.heap.size + 1, 1, none⟩) (by simp) _).cell 0, ((bP3.far (p := ⟨w.heap.size + 1, 0, none⟩) (by simp) _).far (p := ⟨w.heap.size + 1, 1, none⟩) (by simp) _).cell 1⟩ | go_keep) (fun hHeld68 => ?_)
          clear hK K
          try simp only [Act.put, List.setIfInBounds_toArray, List.set_cons_zero, List.set_cons_succ]
          refine wpAnyH_take (i := 12) (oi := ?o12_69) (v := ?v12_69) ?h12_69 (by kernel_rfl) (by kernel_rfl) (by kernel_rfl) ?q12_69 (Or.inl ⟨?z12_69, ?y12_69⟩) (by assumption) ?r12_69
          case h12_69 =>
            simp only [List.getElem?_toArray, List.getElem?_cons_succ, List.getElem?_cons_zero]
            rfl
          case q12_69 => exact fun _ _ _ h => h
          case z12_69 => rfl
          case y12_69 =>
            intro w hSw
            try dsimp only at hSw
            go_simp
            try with_reducible rfl
          try simp only [Act.put, List.setIfInBounds_toArray, List.set_cons_zero, List.set_cons_succ]
          refine wpAnyH_take (i := 13) (oi := ?o13_70) (v := ?v13_70) ?h13_70 (by kernel_rfl) (by kernel_rfl) (by kernel_rfl) ?q13_70 (Or.inl ⟨?z13_70, ?y13_70⟩) (by assumption) ?r13_70
          case h13_70 =>
            simp only [List.getElem?_toArray, List.getElem?_cons_succ, List.getElem?_cons_zero]
            rfl
          case q13_70 => exact fun _ _ _ h => h
          case z13_70 => rfl
          case y13_70 =>
            intro w hSw
            try dsimp only at hSw
            go_simp
            try with_reducible rfl
          try simp only [Act.put, List.setIfInBounds_toArray, List.set_cons_zero, List.set_cons_succ]
          refine wpAnyH_done (by kernel_rfl) ?_ _
          have bR4 : Blk ((w3.setCell ⟨w.heap.size + 1, 0, none⟩ (.string s)).setCell ⟨w.heap.size + 1, 1, none⟩ (.slice rA rN rC)) (w.heap.size + 1) 29 #[.string s, .slice rA rN rC] := by have := (bR3.set_ 0 (.string s)).set_ 1 (.slice rA rN rC); simpa using this
          have s0 := bR4.cell 0
          have s1 := bR4.cell 1
          go_wp2_with fail
          rw [allocM_some HAL.out]
          have hs2 := HS0.out
          have hszb := hB3.size
          refine bodyPost_ret (v := .tuple #[.agg #[.string s, .slice rA rN rC], .int .i64 t, .int .i64 0]) (by simp [results, Try.results47, go_sem, s0, s1]) rfl ⟨[.string s, .slice rA rN rC], rfl, lvC_mem ?_ _, ?_⟩
          · rw [HT.out]
            exact lv_two (owns_far (owns_far hown' (p := ⟨w.heap.size + 1, 0, none⟩) (by show w.heap.size + 1 < wr.heap.size + 1; omega) _) (p := ⟨w.heap.size + 1, 1, none⟩) (by show w.heap.size + 1 < wr.heap.size + 1; omega) _) (by omega)
          · exact ((HB0.out.trans (hB3.mono (by omega))).setCell (p := ⟨w.heap.size + 1, 0, none⟩) (by simp) _).setCell (p := ⟨w.heap.size + 1, 1, none⟩) (by simp) _
        have hcd : ¬ c - (k + 1) = 0 := by omega
        have HD : Hid (Below w0.heap.size w0 we.drew) := S2.below.drew
        have HSR2 : Hid (SrcOk we.drew (.slice (some ⟨g, off + (k + 1) * 2, none⟩) (n - (k + 1)) (c - (k + 1))) 2 (fs.drop (k + 1)).length (bvals (fs.drop (k + 1)))) := src_suffix (j := k + 1) (HAT.out.below HD.out HG.out) (Nat.lt_of_lt_of_le HG.out HD.out.size) HN.out hn4 (by omega) (by first | omega | rfl) (by intro hj; first | exact absurd hj (by omega) | rfl)
        have HOWN := Lib.hid (owns_step S2.own (Below.refl _ _).drew)
        have hz3 : wr.heap.size + 1 ≤ we.drew.heap.size := by simpa using S2.size
        have bP := Lib.hid (HP0.out.step HD.out)
        have bR := Lib.hid (HR0.out.step HD.out)
        have bPw := HP0.out.step S2.below
        have p0 : we.cell? ⟨w.heap.size, 0, none⟩ = some (.string s) := bPw.cell 0
        have p1 : we.cell? ⟨w.heap.size, 1, none⟩ = some (.slice (some ⟨g, off, none⟩) n c) := bPw.cell 1
        clear b0 b1 S2
        go_wp2_with fail
        refine wp_region_held_drew (S := (fun w' => w'.cell? ⟨w.heap.size, 0, none⟩ = some (.string s) ∧ w'.cell? ⟨w.heap.size, 1, none⟩ = some (.slice (some ⟨g, off, none⟩) n c))) (by kernel_rfl) ⟨bPw.cell 0, bPw.cell 1⟩ (fun hHeld => ?_)
        refine wpAnyH_take (i := 0) (oi := ?o0_71) (v := ?v0_71) ?h0_71 (by kernel_rfl) (by kernel_rfl) (by kernel_rfl) ?q0_71 (Or.inl ⟨?z0_71, ?y0_71⟩) (by assumption) ?r0_71
        case h0_71 =>
          simp only [List.getElem?_toArray, List.getElem?_cons_succ, List.getElem?_cons_zero]
          rfl
        case q0_71 => exact fun _ _ _ h => h
        case z0_71 => rfl
        case y0_71 =>
          intro w hSw
          try dsimp only at hSw
          go_simp
          try with_reducible rfl
        try simp only [Act.put, List.setIfInBounds_toArray, List.set_cons_zero, List.set_cons_succ]
        refine wpAnyH_take (i := 1) (oi := ?o1_72) (v := ?v1_72) ?h1_72 (by kernel_rfl) (by kernel_rfl) (by kernel_rfl) ?q1_72 (Or.inl ⟨?z1_72, ?y1_72⟩) (by assumption) ?r1_72
        case h1_72 =>
          simp only [List.getElem?_toArray, List.getElem?_cons_succ, List.getElem?_cons_zero]
          rfl
        case q1_72 => exact fun _ _ _ h => h
        case z1_72 => rfl
        case y1_72 =>
          intro w hSw
          try dsimp only at hSw
          go_simp
          try with_reducible rfl
        try simp only [Act.put, List.setIfInBounds_toArray, List.set_cons_zero, List.set_cons_succ]
        refine wpAnyH_take (i := 2) (oi := ?o2_73) (v := ?v2_73) ?h2_73 (by kernel_rfl) (by kernel_rfl) (by kernel_rfl) ?q2_73 (Or.inl ⟨?z2_73, ?y2_73⟩) (by assumption) ?r2_73
        case h2_73 =>
          simp only [List.getElem?_toArray, List.getElem?_cons_succ, List.getElem?_cons_zero]
          rfl
        case q2_73 => exact fun _ _ _ h => h
        case z2_73 => rfl
        case y2_73 =>
          intro w hSw
          try dsimp only at hSw
          go_simp
          try with_reducible rfl
        try simp only [Act.put, List.setIfInBounds_toArray, List.set_cons_zero, List.set_cons_succ]
        refine wpAnyH_take (i := 3) (oi := ?o3_74) (v := ?v3_74) ?h3_74 (by kernel_rfl) (by kernel_rfl) (by kernel_rfl) ?q3_74 (Or.inl ⟨?z3_74, ?y3_74⟩) (by assumption) ?r3_74
        case h3_74 =>
          simp only [List.getElem?_toArray, List.getElem?_cons_succ, List.getElem?_cons_zero]
          rfl
        case q3_74 => exact fun _ _ _ h => h
        case z3_74 => rfl
        case y3_74 =>
          intro w hSw
          try dsimp only at hSw
          go_simp
          try with_reducible rfl
        try simp only [Act.put, List.setIfInBounds_toArray, List.set_cons_zero, List.set_cons_succ]
        refine wpAnyH_take (i := 4) (oi := ?o4_75) (v := ?v4_75) ?h4_75 (by kernel_rfl) (by kernel_rfl) (by kernel_rfl) ?q4_75 (Or.inl ⟨?z4_75, ?y4_75⟩) (by assumption) ?r4_75
        case h4_75 =>
          simp only [List.getElem?_toArray, List.getElem?_cons_succ, List.getElem?_cons_zero]
          rfl
        case q4_75 => exact fun _ _ _ h => h
        case z4_75 => rfl
        case y4_75 =>
          intro w hSw
          try dsimp only at hSw
          go_simp
          try with_reducible rfl
        try simp only [Act.put, List.setIfInBounds_toArray, List.set_cons_zero, List.set_cons_succ]
        refine wpAnyH_take (i := 5) (oi := ?o5_76) (v := ?v5_76) ?h5_76 (by kernel_rfl) (by kernel_rfl) (by kernel_rfl) ?q5_76 (Or.inl ⟨?z5_76, ?y5_76⟩) (by assumption) ?r5_76
        case h5_76 =>
          simp only [List.getElem?_toArray, List.getElem?_cons_succ, List.getElem?_cons_zero]
          rfl
        case q5_76 => exact fun _ _ _ h => h
        case z5_76 => rfl
        case y5_76 =>
          intro w hSw
          try dsimp only at hSw
          go_simp
          try with_reducible rfl
        try simp only [Act.put, List.setIfInBounds_toArray, List.set_cons_zero, List.set_cons_succ]
        refine wpAnyH_take (i := 6) (oi := ?o6_77) (v := ?v6_77) ?h6_77 (by kernel_rfl) (by kernel_rfl) (by kernel_rfl) ?q6_77 (Or.inl ⟨?z6_77, ?y6_77⟩) (by assumption) ?r6_77
        case h6_77 =>
          simp only [List.getElem?_toArray, List.getElem?_cons_succ, List.getElem?_cons_zero]
          rfl
        case q6_77 => exact fun _ _ _ h => h
        case z6_77 => rfl
        case y6_77 =>
          intro w hSw
          try dsimp only at hSw
          go_simp
          try with_reducible rfl
        try simp only [Act.put, List.setIfInBounds_toArray, List.set_cons_zero, List.set_cons_succ]
        refine wpAnyH_take (i := 7) (oi := ?o7_78) (v := ?v7_78) ?h7_78 (by kernel_rfl) (by kernel_rfl) (by kernel_rfl) ?q7_78 (Or.inl ⟨?z7_78, ?y7_78⟩) (by assumption) ?r7_78
        case h7_78 =>
          simp only [List.getElem?_toArray, List.getElem?_cons_succ, List.getElem?_cons_zero]
          rfl
        case q7_78 => exact fun _ _ _ h => h
        case z7_78 => rfl
        case y7_78 =>
          intro w hSw
          try dsimp only at hSw
          go_simp
          try with_reducible rfl
        try simp only [Act.put, List.setIfInBounds_toArray, List.set_cons_zero, List.set_cons_succ]
        refine wpAnyH_take (i := 10) (oi := ?o10_79) (v := ?v10_79) ?h10_79 (by kernel_rfl) (by kernel_rfl) (by kernel_rfl) ?q10_79 (Or.inl ⟨?z10_79, ?y10_79⟩) (by assumption) ?r10_79
        case h10_79 =>
          simp only [List.getElem?_toArray, List.getElem?_cons_succ, List.getElem?_cons_zero]
          rfl
        case q10_79 => exact fun _ _ _ h => h
        case z10_79 => rfl
        case y10_79 =>
          intro w hSw
          try dsimp only at hSw
          go_simp
          try with_reducible rfl
        try simp only [Act.put, List.setIfInBounds_toArray, List.set_cons_zero, List.set_cons_succ]
        refine wpAnyH_ready (rs := [8]) (by kernel_rfl) (by simp) ?_
        refine AllReadyH.cons (o := ?o8_80) ?h8_80 (fun K hK => ?k8_80) AllReadyH.nil
        case h8_80 =>
          simp only [List.getElem?_toArray, List.getElem?_cons_succ, List.getElem?_cons_zero]
          rfl
        refine step_append_src (by rfl) _ _ 27 (by rfl) (wr.heap.size + 1) 49 i0 (.agg #[.int .i64 0, .int .i64 0]) 2 16 Try.underlying27 hi hy0 hy1 hy2 rfl (by decide) (.slice yA yN yC) (fs.take k ++ ([⟨(t : Int) + z, (xn : Int) + xz - (t : Int) - z⟩] : List Block)).length (bvals (fs.take k ++ ([⟨(t : Int) + z, (xn : Int) + xz - (t : Int) - z⟩] : List Block))) (by rfl) HOWN.out (.slice (some ⟨g, off + (k + 1) * 2, none⟩) (n - (k + 1)) (c - (k + 1))) (fs.drop (k + 1)).length (bvals (fs.drop (k + 1))) (by rfl) HSR2.out (one_blk _) (by have := HTK.out; have := HDK.out; (try simp only [maxLen, List.length_append, List.length_singleton]); omega) (by have := HTK.out; have := HDK.out; (try simp only [List.length_append, List.length_singleton]); omega) hz3 ?_
        intro v' w3 hown' hgrow hor
        have hB3 := HD.out.grown hgrow HD.out.size (fun g hg => by have := (HOWN.out.lt g hg).1; omega)
        have bR3 := HR0.out.step hB3
        have bP3 := HP0.out.step hB3
        obtain ⟨rA, rN, rC, rfl, _⟩ := (Own.of_own hown').form
        have r0 : w3.cell? ⟨w.heap.size + 1, 0, none⟩ = some (.string ⟨#[]⟩) := bR3.cell 0
        have r1 : w3.cell? ⟨w.heap.size + 1, 1, none⟩ = some (.slice none 0 0) := bR3.cell 1
        have f0 := bR3.frozen 0
        have f1 := bR3.frozen 1
        refine hK.out _ _ (by first | exact ⟨bP3.cell 0, bP3.cell 1⟩ | go_keep) (fun hHeld80 => ?_)
        clear hK K
        try simp only [Act.put, List.setIfInBounds_toArray, List.set_cons_zero, List.set_cons_succ]
        refine wpAnyH_take (i := 9) (oi := ?o9_81) (v := ?v9_81) ?h9_81 (by kernel_rfl) (by kernel_rfl) (by kernel_rfl) ?q9_81 (Or.inl ⟨?z9_81, ?y9_81⟩) (by assumption) ?r9_81
        case h9_81 =>
          simp only [List.getElem?_toArray, List.getElem?_cons_succ, List.getElem?_cons_zero]
          rfl
        case q9_81 => exact fun _ _ _ h => h
        case z9_81 => rfl
        case y9_81 =>
          intro w hSw
          try dsimp only at hSw
          go_simp
          try with_reducible rfl
        try simp only [Act.put, List.setIfInBounds_toArray, List.set_cons_zero, List.set_cons_succ]
        refine wpAnyH_ready (rs := [11]) (by kernel_rfl) (by simp) ?_
        refine AllReadyH.cons (o := ?o11_82) ?h11_82 (fun K hK => ?k11_82) AllReadyH.nil
        case h11_82 =>
          simp only [List.getElem?_toArray, List.getElem?_cons_succ, List.getElem?_cons_zero]
          rfl
        go_simp
        refine hK.out _ _ (by first | exact ⟨((bP3.far (p := ⟨w.heap.size + 1, 0, none⟩) (by simp) _).far (p := ⟨w.heap.size + 1, 1, none⟩) (by simp) _).cell 0, ((bP3.far (p := ⟨w.heap.size + 1, 0, none⟩) (by simp) _).far (p := ⟨w.heap.size + 1, 1, none⟩) (by simp) _).cell 1⟩ | go_keep) (fun hHeld82 => ?_)
        clear hK K
        try simp only [Act.put, List.setIfInBounds_toArray, List.set_cons_zero, List.set_cons_succ]
        refine wpAnyH_take (i := 12) (oi := ?o12_83) (v := ?v12_83) ?h12_83 (by kernel_rfl) (by kernel_rfl) (by kernel_rfl) ?q12_83 (Or.inl ⟨?z12_83, ?y12_83⟩) (by assumption) ?r12_83
        case h12_83 =>
          simp only [List.getElem?_toArray, List.getElem?_cons_succ, List.getElem?_cons_zero]
          rfl
        case q12_83 => exact fun _ _ _ h => h
        case z12_83 => rfl
        case y12_83 =>
          intro w hSw
          try dsimp only at hSw
          go_simp
          try with_reducible rfl
        try simp only [Act.put, List.setIfInBounds_toArray, List.set_cons_zero, List.set_cons_succ]
        refine wpAnyH_take (i := 13) (oi := ?o13_84) (v := ?v13_84) ?h13_84 (by kernel_rfl) (by kernel_rfl) (by kernel_rfl) ?q13_84 (Or.inl ⟨?z13_84, ?y13_84⟩) (by assumption) ?r13_84
        case h13_84 =>
          simp only [List.getElem?_toArray, List.getElem?_cons_succ, List.getElem?_cons_zero]
          rfl
        case q13_84 => exact fun _ _ _ h => h
        case z13_84 => rfl
        case y13_84 =>
          intro w hSw
          try dsimp only at hSw
          go_simp
          try with_reducible rfl
        try simp only [Act.put, List.setIfInBounds_toArray, List.set_cons_zero, List.set_cons_succ]
        refine wpAnyH_done (by kernel_rfl) ?_ _
        have bR4 : Blk ((w3.setCell ⟨w.heap.size + 1, 0, none⟩ (.string s)).setCell ⟨w.heap.size + 1, 1, none⟩ (.slice rA rN rC)) (w.heap.size + 1) 29 #[.string s, .slice rA rN rC] := by have := (bR3.set_ 0 (.string s)).set_ 1 (.slice rA rN rC); simpa using this
        have s0 := bR4.cell 0
        have s1 := bR4.cell 1
        go_wp2_with fail
        rw [allocM_some HAL.out]
        have hs2 := HS0.out
        have hszb := hB3.size
        refine bodyPost_ret (v := .tuple #[.agg #[.string s, .slice rA rN rC], .int .i64 t, .int .i64 0]) (by simp [results, Try.results47, go_sem, s0, s1]) rfl ⟨[.string s, .slice rA rN rC], rfl, lvC_mem ?_ _, ?_⟩
        · rw [HT.out]
          exact lv_two (owns_far (owns_far hown' (p := ⟨w.heap.size + 1, 0, none⟩) (by show w.heap.size + 1 < wr.heap.size + 1; omega) _) (p := ⟨w.heap.size + 1, 1, none⟩) (by show w.heap.size + 1 < wr.heap.size + 1; omega) _) (by omega)
        · exact ((HB0.out.trans (hB3.mono (by omega))).setCell (p := ⟨w.heap.size + 1, 0, none⟩) (by simp) _).setCell (p := ⟨w.heap.size + 1, 1, none⟩) (by simp) _
      case neg =>
        have HT : Hid (takeAt fs k ⟨xn, xz⟩ t z = fs.take k ++ fs.drop (k + 1)) := by
          show _ = _
          have e : (xn : Int) + xz - ((t : Int) + z) = xn + xz - t - z := by omega
          rw [takeAt, cutA, cutZ, if_neg (by show ¬ (xn : Int) < (t : Int); omega), if_neg (by show ¬ (t : Int) + z < (xn : Int) + xz; omega)]
          simp
        have dA : decide ((xn : Int) < t) = false := by simp; omega
        have dZ : decide ((0 : Int) < xn + xz - t - z) = false := by simp; omega
        go_wp2_with (first | (at_builtin; refine wpList_append_src rfl _ _ 27 rfl (wr.heap.size + 1) 49 i0 (.agg #[.int .i64 0, .int .i64 0]) 2 16 Try.underlying27 hi hy0 hy1 hy2 rfl (by decide) _ _ _ rfl HO0.out _ _ _ rfl HSRC.out (one_blk _) (by have := HTK.out; simp only [maxLen]; omega) (by have := HTK.out; omega) HZ0.out ?_; intro v' wc hown' hgrow _; have hB3 := HBZ.out.grown hgrow HBZ.out.size (fun g hg => (by have := (HO0.out.lt g hg).1; omega)); have hz3 : wr.heap.size + 1 ≤ wc.heap.size := Nat.le_trans HZ0.out hgrow.size; have bx3 : Blk wc wr.heap.size 49 #[.int .i64 (xn : Int), .int .i64 xz] := (hgrow.block _ HBX.out.lt (fun e => (by have := (HO0.out.lt _ e.symm).1; omega))).trans HBX.out; rw [Nat.zero_add, List.nil_append] at hown'; obtain ⟨uA, uN, uC, rfl, _⟩ := (Own.of_own hown').form; have S0 : RS w0 wc wr.heap.size (.slice uA uN uC) (fs.take k) xn xz := ⟨hown', bx3, hB3, hz3⟩; clear hown' hgrow hB3 hz3 bx3; have b0 : wc.cell? ⟨wr.heap.size, 0, none⟩ = some (.int .i64 (xn : Int)) := S0.box.cell 0; have b1 : wc.cell? ⟨wr.heap.size, 1, none⟩ = some (.int .i64 xz) := S0.box.cell 1))
        have hk1 : (k : Int) + 1 ≤ n := by omega
        have hk0 : (0 : Int) ≤ (k : Int) + 1 := by omega
        have hkw : IntKind.i64.wrap ((k : Int) + 1) = (k : Int) + 1 := IntWalk.i64_in _ (by omega)
        by_cases hcc : c = k + 1
        case pos =>
          obtain rfl : n = k + 1 := by omega
          subst hcc
          have HD : Hid (Below w0.heap.size w0 wc.drew) := S0.below.drew
          have HSR2 : Hid (SrcOk wc.drew (.slice (some ⟨g, off, none⟩) 0 0) 2 (fs.drop (k + 1)).length (bvals (fs.drop (k + 1)))) := src_suffix (j := k + 1) (HAT.out.below HD.out HG.out) (Nat.lt_of_lt_of_le HG.out HD.out.size) HN.out hn4 (by omega) (by first | omega | rfl) (by intro hj; first | exact absurd hj (by omega) | rfl)
          have HOWN := Lib.hid (owns_step S0.own (Below.refl _ _).drew)
          have hz3 : wr.heap.size + 1 ≤ wc.drew.heap.size := by simpa using S0.size
          have bP := Lib.hid (HP0.out.step HD.out)
          have bR := Lib.hid (HR0.out.step HD.out)
          have bPw := HP0.out.step S0.below
          have p0 : wc.cell? ⟨w.heap.size, 0, none⟩ = some (.string s) := bPw.cell 0
          have p1 : wc.cell? ⟨w.heap.size, 1, none⟩ = some (.slice (some ⟨g, off, none⟩) (k + 1) (k + 1)) := bPw.cell 1
          clear b0 b1 S0
          go_wp2_with fail
          refine wp_region_held_drew (S := (fun w' => w'.cell? ⟨w.heap.size, 0, none⟩ = some (.string s) ∧ w'.cell? ⟨w.heap.size, 1, none⟩ = some (.slice (some ⟨g, off, none⟩) (k + 1) (k + 1)))) (by kernel_rfl) ⟨bPw.cell 0, bPw.cell 1⟩ (fun hHeld => ?_)
          refine wpAnyH_take (i := 0) (oi := ?o0_85) (v := ?v0_85) ?h0_85 (by kernel_rfl) (by kernel_rfl) (by kernel_rfl) ?q0_85 (Or.inl ⟨?z0_85, ?y0_85⟩) (by assumption) ?r0_85
          case h0_85 =>
            simp only [List.getElem?_toArray, List.getElem?_cons_succ, List.getElem?_cons_zero]
            rfl
          case q0_85 => exact fun _ _ _ h => h
          case z0_85 => rfl
          case y0_85 =>
            intro w hSw
            try dsimp only at hSw
            go_simp
            try with_reducible rfl
          try simp only [Act.put, List.setIfInBounds_toArray, List.set_cons_zero, List.set_cons_succ]
          refine wpAnyH_take (i := 1) (oi := ?o1_86) (v := ?v1_86) ?h1_86 (by kernel_rfl) (by kernel_rfl) (by kernel_rfl) ?q1_86 (Or.inl ⟨?z1_86, ?y1_86⟩) (by assumption) ?r1_86
          case h1_86 =>
            simp only [List.getElem?_toArray, List.getElem?_cons_succ, List.getElem?_cons_zero]
            rfl
          case q1_86 => exact fun _ _ _ h => h
          case z1_86 => rfl
          case y1_86 =>
            intro w hSw
            try dsimp only at hSw
            go_simp
            try with_reducible rfl
          try simp only [Act.put, List.setIfInBounds_toArray, List.set_cons_zero, List.set_cons_succ]
          refine wpAnyH_take (i := 2) (oi := ?o2_87) (v := ?v2_87) ?h2_87 (by kernel_rfl) (by kernel_rfl) (by kernel_rfl) ?q2_87 (Or.inl ⟨?z2_87, ?y2_87⟩) (by assumption) ?r2_87
          case h2_87 =>
            simp only [List.getElem?_toArray, List.getElem?_cons_succ, List.getElem?_cons_zero]
            rfl
          case q2_87 => exact fun _ _ _ h => h
          case z2_87 => rfl
          case y2_87 =>
            intro w hSw
            try dsimp only at hSw
            go_simp
            try with_reducible rfl
          try simp only [Act.put, List.setIfInBounds_toArray, List.set_cons_zero, List.set_cons_succ]
          refine wpAnyH_take (i := 3) (oi := ?o3_88) (v := ?v3_88) ?h3_88 (by kernel_rfl) (by kernel_rfl) (by kernel_rfl) ?q3_88 (Or.inl ⟨?z3_88, ?y3_88⟩) (by assumption) ?r3_88
          case h3_88 =>
            simp only [List.getElem?_toArray, List.getElem?_cons_succ, List.getElem?_cons_zero]
            rfl
          case q3_88 => exact fun _ _ _ h => h
          case z3_88 => rfl
          case y3_88 =>
            intro w hSw
            try dsimp only at hSw
            go_simp
            try with_reducible rfl
          try simp only [Act.put, List.setIfInBounds_toArray, List.set_cons_zero, List.set_cons_succ]
          refine wpAnyH_take (i := 4) (oi := ?o4_89) (v := ?v4_89) ?h4_89 (by kernel_rfl) (by kernel_rfl) (by kernel_rfl) ?q4_89 (Or.inl ⟨?z4_89, ?y4_89⟩) (by assumption) ?r4_89
          case h4_89 =>
            simp only [List.getElem?_toArray, List.getElem?_cons_succ, List.getElem?_cons_zero]
            rfl
          case q4_89 => exact fun _ _ _ h => h
          case z4_89 => rfl
          case y4_89 =>
            intro w hSw
            try dsimp only at hSw
            go_simp
            try with_reducible rfl
          try simp only [Act.put, List.setIfInBounds_toArray, List.set_cons_zero, List.set_cons_succ]
          refine wpAnyH_take (i := 5) (oi := ?o5_90) (v := ?v5_90) ?h5_90 (by kernel_rfl) (by kernel_rfl) (by kernel_rfl) ?q5_90 (Or.inl ⟨?z5_90, ?y5_90⟩) (by assumption) ?r5_90
          case h5_90 =>
            simp only [List.getElem?_toArray, List.getElem?_cons_succ, List.getElem?_cons_zero]
            rfl
          case q5_90 => exact fun _ _ _ h => h
          case z5_90 => rfl
          case y5_90 =>
            intro w hSw
            try dsimp only at hSw
            go_simp
            try with_reducible rfl
          try simp only [Act.put, List.setIfInBounds_toArray, List.set_cons_zero, List.set_cons_succ]
          refine wpAnyH_take (i := 6) (oi := ?o6_91) (v := ?v6_91) ?h6_91 (by kernel_rfl) (by kernel_rfl) (by kernel_rfl) ?q6_91 (Or.inl ⟨?z6_91, ?y6_91⟩) (by assumption) ?r6_91
          case h6_91 =>
            simp only [List.getElem?_toArray, List.getElem?_cons_succ, List.getElem?_cons_zero]
            rfl
          case q6_91 => exact fun _ _ _ h => h
          case z6_91 => rfl
          case y6_91 =>
            intro w hSw
            try dsimp only at hSw
            go_simp
            try with_reducible rfl
          try simp only [Act.put, List.setIfInBounds_toArray, List.set_cons_zero, List.set_cons_succ]
          refine wpAnyH_take (i := 7) (oi := ?o7_92) (v := ?v7_92) ?h7_92 (by kernel_rfl) (by kernel_rfl) (by kernel_rfl) ?q7_92 (Or.inl ⟨?z7_92, ?y7_92⟩) (by assumption) ?r7_92
          case h7_92 =>
            simp only [List.getElem?_toArray, List.getElem?_cons_succ, List.getElem?_cons_zero]
            rfl
          case q7_92 => exact fun _ _ _ h => h
          case z7_92 => rfl
          case y7_92 =>
            intro w hSw
            try dsimp only at hSw
            go_simp
            try with_reducible rfl
          try simp only [Act.put, List.setIfInBounds_toArray, List.set_cons_zero, List.set_cons_succ]
          refine wpAnyH_take (i := 10) (oi := ?o10_93) (v := ?v10_93) ?h10_93 (by kernel_rfl) (by kernel_rfl) (by kernel_rfl) ?q10_93 (Or.inl ⟨?z10_93, ?y10_93⟩) (by assumption) ?r10_93
          case h10_93 =>
            simp only [List.getElem?_toArray, List.getElem?_cons_succ, List.getElem?_cons_zero]
            rfl
          case q10_93 => exact fun _ _ _ h => h
          case z10_93 => rfl
          case y10_93 =>
            intro w hSw
            try dsimp only at hSw
            go_simp
            try with_reducible rfl
          try simp only [Act.put, List.setIfInBounds_toArray, List.set_cons_zero, List.set_cons_succ]
          refine wpAnyH_ready (rs := [8]) (by kernel_rfl) (by simp) ?_
          refine AllReadyH.cons (o := ?o8_94) ?h8_94 (fun K hK => ?k8_94) AllReadyH.nil
          case h8_94 =>
            simp only [List.getElem?_toArray, List.getElem?_cons_succ, List.getElem?_cons_zero]
            rfl
          refine step_append_src (by rfl) _ _ 27 (by rfl) (wr.heap.size + 1) 49 i0 (.agg #[.int .i64 0, .int .i64 0]) 2 16 Try.underlying27 hi hy0 hy1 hy2 rfl (by decide) (.slice uA uN uC) (fs.take k).length (bvals (fs.take k)) (by rfl) HOWN.out (.slice (some ⟨g, off, none⟩) 0 0) (fs.drop (k + 1)).length (bvals (fs.drop (k + 1))) (by rfl) HSR2.out (one_blk _) (by have := HTK.out; have := HDK.out; (try simp only [maxLen, List.length_append, List.length_singleton]); omega) (by have := HTK.out; have := HDK.out; (try simp only [List.length_append, List.length_singleton]); omega) hz3 ?_
          intro v' w3 hown' hgrow hor
          have hB3 := HD.out.grown hgrow HD.out.size (fun g hg => by have := (HOWN.out.lt g hg).1; omega)
          have bR3 := HR0.out.step hB3
          have bP3 := HP0.out.step hB3
          obtain ⟨rA, rN, rC, rfl, _⟩ := (Own.of_own hown').form
          have r0 : w3.cell? ⟨w.heap.size + 1, 0, none⟩ = some (.string ⟨#[]⟩) := bR3.cell 0
          have r1 : w3.cell? ⟨w.heap.size + 1, 1, none⟩ = some (.slice none 0 0) := bR3.cell 1
          have f0 := bR3.frozen 0
          have f1 := bR3.frozen 1
          refine hK.out _ _ (by first | exact ⟨bP3.cell 0, bP3.cell 1⟩ | go_keep) (fun hHeld94 => ?_)
          clear hK K
          try simp only [Act.put, List.setIfInBounds_toArray, List.set_cons_zero, List.set_cons_succ]
          refine wpAnyH_take (i := 9) (oi := ?o9_95) (v := ?v9_95) ?h9_95 (by kernel_rfl) (by kernel_rfl) (by kernel_rfl) ?q9_95 (Or.inl ⟨?z9_95, ?y9_95⟩) (by assumption) ?r9_95
          case h9_95 =>
            simp only [List.getElem?_toArray, List.getElem?_cons_succ, List.getElem?_cons_zero]
            rfl
          case q9_95 => exact fun _ _ _ h => h
          case z9_95 => rfl
          case y9_95 =>
            intro w hSw
            try dsimp only at hSw
            go_simp
            try with_reducible rfl
          try simp only [Act.put, List.setIfInBounds_toArray, List.set_cons_zero, List.set_cons_succ]
          refine wpAnyH_ready (rs := [11]) (by kernel_rfl) (by simp) ?_
          refine AllReadyH.cons (o := ?o11_96) ?h11_96 (fun K hK => ?k11_96) AllReadyH.nil
          case h11_96 =>
            simp only [List.getElem?_toArray, List.getElem?_cons_succ, List.getElem?_cons_zero]
            rfl
          go_simp
          refine hK.out _ _ (by first | exact ⟨((bP3.far (p := ⟨w.heap.size + 1, 0, none⟩) (by simp) _).far (p := ⟨w.heap.size + 1, 1, none⟩) (by simp) _).cell 0, ((bP3.far (p := ⟨w.heap.size + 1, 0, none⟩) (by simp) _).far (p := ⟨w.heap.size + 1, 1, none⟩) (by simp) _).cell 1⟩ | go_keep) (fun hHeld96 => ?_)
          clear hK K
          try simp only [Act.put, List.setIfInBounds_toArray, List.set_cons_zero, List.set_cons_succ]
          refine wpAnyH_take (i := 12) (oi := ?o12_97) (v := ?v12_97) ?h12_97 (by kernel_rfl) (by kernel_rfl) (by kernel_rfl) ?q12_97 (Or.inl ⟨?z12_97, ?y12_97⟩) (by assumption) ?r12_97
          case h12_97 =>
            simp only [List.getElem?_toArray, List.getElem?_cons_succ, List.getElem?_cons_zero]
            rfl
          case q12_97 => exact fun _ _ _ h => h
          case z12_97 => rfl
          case y12_97 =>
            intro w hSw
            try dsimp only at hSw
            go_simp
            try with_reducible rfl
          try simp only [Act.put, List.setIfInBounds_toArray, List.set_cons_zero, List.set_cons_succ]
          refine wpAnyH_take (i := 13) (oi := ?o13_98) (v := ?v13_98) ?h13_98 (by kernel_rfl) (by kernel_rfl) (by kernel_rfl) ?q13_98 (Or.inl ⟨?z13_98, ?y13_98⟩) (by assumption) ?r13_98
          case h13_98 =>
            simp only [List.getElem?_toArray, List.getElem?_cons_succ, List.getElem?_cons_zero]
            rfl
          case q13_98 => exact fun _ _ _ h => h
          case z13_98 => rfl
          case y13_98 =>
            intro w hSw
            try dsimp only at hSw
            go_simp
            try with_reducible rfl
          try simp only [Act.put, List.setIfInBounds_toArray, List.set_cons_zero, List.set_cons_succ]
          refine wpAnyH_done (by kernel_rfl) ?_ _
          have bR4 : Blk ((w3.setCell ⟨w.heap.size + 1, 0, none⟩ (.string s)).setCell ⟨w.heap.size + 1, 1, none⟩ (.slice rA rN rC)) (w.heap.size + 1) 29 #[.string s, .slice rA rN rC] := by have := (bR3.set_ 0 (.string s)).set_ 1 (.slice rA rN rC); simpa using this
          have s0 := bR4.cell 0
          have s1 := bR4.cell 1
          go_wp2_with fail
          rw [allocM_some HAL.out]
          have hs2 := HS0.out
          have hszb := hB3.size
          refine bodyPost_ret (v := .tuple #[.agg #[.string s, .slice rA rN rC], .int .i64 t, .int .i64 0]) (by simp [results, Try.results47, go_sem, s0, s1]) rfl ⟨[.string s, .slice rA rN rC], rfl, lvC_mem ?_ _, ?_⟩
          · rw [HT.out]
            exact lv_two (owns_far (owns_far hown' (p := ⟨w.heap.size + 1, 0, none⟩) (by show w.heap.size + 1 < wr.heap.size + 1; omega) _) (p := ⟨w.heap.size + 1, 1, none⟩) (by show w.heap.size + 1 < wr.heap.size + 1; omega) _) (by omega)
          · exact ((HB0.out.trans (hB3.mono (by omega))).setCell (p := ⟨w.heap.size + 1, 0, none⟩) (by simp) _).setCell (p := ⟨w.heap.size + 1, 1, none⟩) (by simp) _
        have hcd : ¬ c - (k + 1) = 0 := by omega
        have HD : Hid (Below w0.heap.size w0 wc.drew) := S0.below.drew
        have HSR2 : Hid (SrcOk wc.drew (.slice (some ⟨g, off + (k + 1) * 2, none⟩) (n - (k + 1)) (c - (k + 1))) 2 (fs.drop (k + 1)).length (bvals (fs.drop (k + 1)))) := src_suffix (j := k + 1) (HAT.out.below HD.out HG.out) (Nat.lt_of_lt_of_le HG.out HD.out.size) HN.out hn4 (by omega) (by first | omega | rfl) (by intro hj; first | exact absurd hj (by omega) | rfl)
        have HOWN := Lib.hid (owns_step S0.own (Below.refl _ _).drew)
        have hz3 : wr.heap.size + 1 ≤ wc.drew.heap.size := by simpa using S0.size
        have bP := Lib.hid (HP0.out.step HD.out)
        have bR := Lib.hid (HR0.out.step HD.out)
        have bPw := HP0.out.step S0.below
        have p0 : wc.cell? ⟨w.heap.size, 0, none⟩ = some (.string s) := bPw.cell 0
        have p1 : wc.cell? ⟨w.heap.size, 1, none⟩ = some (.slice (some ⟨g, off, none⟩) n c) := bPw.cell 1
        clear b0 b1 S0
        go_wp2_with fail
        refine wp_region_held_drew (S := (fun w' => w'.cell? ⟨w.heap.size, 0, none⟩ = some (.string s) ∧ w'.cell? ⟨w.heap.size, 1, none⟩ = some (.slice (some ⟨g, off, none⟩) n c))) (by kernel_rfl) ⟨bPw.cell 0, bPw.cell 1⟩ (fun hHeld => ?_)
        refine wpAnyH_take (i := 0) (oi := ?o0_99) (v := ?v0_99) ?h0_99 (by kernel_rfl) (by kernel_rfl) (by kernel_rfl) ?q0_99 (Or.inl ⟨?z0_99, ?y0_99⟩) (by assumption) ?r0_99
        case h0_99 =>
          simp only [List.getElem?_toArray, List.getElem?_cons_succ, List.getElem?_cons_zero]
          rfl
        case q0_99 => exact fun _ _ _ h => h
        case z0_99 => rfl
        case y0_99 =>
          intro w hSw
          try dsimp only at hSw
          go_simp
          try with_reducible rfl
        try simp only [Act.put, List.setIfInBounds_toArray, List.set_cons_zero, List.set_cons_succ]
        refine wpAnyH_take (i := 1) (oi := ?o1_100) (v := ?v1_100) ?h1_100 (by kernel_rfl) (by kernel_rfl) (by kernel_rfl) ?q1_100 (Or.inl ⟨?z1_100, ?y1_100⟩) (by assumption) ?r1_100
        case h1_100 =>
          simp only [List.getElem?_toArray, List.getElem?_cons_succ, List.getElem?_cons_zero]
          rfl
        case q1_100 => exact fun _ _ _ h => h
        case z1_100 => rfl
        case y1_100 =>
          intro w hSw
          try dsimp only at hSw
          go_simp
          try with_reducible rfl
        try simp only [Act.put, List.setIfInBounds_toArray, List.set_cons_zero, List.set_cons_succ]
        refine wpAnyH_take (i := 2) (oi := ?o2_101) (v := ?v2_101) ?h2_101 (by kernel_rfl) (by kernel_rfl) (by kernel_rfl) ?q2_101 (Or.inl ⟨?z2_101, ?y2_101⟩) (by assumption) ?r2_101
        case h2_101 =>
          simp only [List.getElem?_toArray, List.getElem?_cons_succ, List.getElem?_cons_zero]
          rfl
        case q2_101 => exact fun _ _ _ h => h
        case z2_101 => rfl
        case y2_101 =>
          intro w hSw
          try dsimp only at hSw
          go_simp
          try with_reducible rfl
        try simp only [Act.put, List.setIfInBounds_toArray, List.set_cons_zero, List.set_cons_succ]
        refine wpAnyH_take (i := 3) (oi := ?o3_102) (v := ?v3_102) ?h3_102 (by kernel_rfl) (by kernel_rfl) (by kernel_rfl) ?q3_102 (Or.inl ⟨?z3_102, ?y3_102⟩) (by assumption) ?r3_102
        case h3_102 =>
          simp only [List.getElem?_toArray, List.getElem?_cons_succ, List.getElem?_cons_zero]
          rfl
        case q3_102 => exact fun _ _ _ h => h
        case z3_102 => rfl
        case y3_102 =>
          intro w hSw
          try dsimp only at hSw
          go_simp
          try with_reducible rfl
        try simp only [Act.put, List.setIfInBounds_toArray, List.set_cons_zero, List.set_cons_succ]
        refine wpAnyH_take (i := 4) (oi := ?o4_103) (v := ?v4_103) ?h4_103 (by kernel_rfl) (by kernel_rfl) (by kernel_rfl) ?q4_103 (Or.inl ⟨?z4_103, ?y4_103⟩) (by assumption) ?r4_103
        case h4_103 =>
          simp only [List.getElem?_toArray, List.getElem?_cons_succ, List.getElem?_cons_zero]
          rfl
        case q4_103 => exact fun _ _ _ h => h
        case z4_103 => rfl
        case y4_103 =>
          intro w hSw
          try dsimp only at hSw
          go_simp
          try with_reducible rfl
        try simp only [Act.put, List.setIfInBounds_toArray, List.set_cons_zero, List.set_cons_succ]
        refine wpAnyH_take (i := 5) (oi := ?o5_104) (v := ?v5_104) ?h5_104 (by kernel_rfl) (by kernel_rfl) (by kernel_rfl) ?q5_104 (Or.inl ⟨?z5_104, ?y5_104⟩) (by assumption) ?r5_104
        case h5_104 =>
          simp only [List.getElem?_toArray, List.getElem?_cons_succ, List.getElem?_cons_zero]
          rfl
        case q5_104 => exact fun _ _ _ h => h
        case z5_104 => rfl
        case y5_104 =>
          intro w hSw
          try dsimp only at hSw
          go_simp
          try with_reducible rfl
        try simp only [Act.put, List.setIfInBounds_toArray, List.set_cons_zero, List.set_cons_succ]
        refine wpAnyH_take (i := 6) (oi := ?o6_105) (v := ?v6_105) ?h6_105 (by kernel_rfl) (by kernel_rfl) (by kernel_rfl) ?q6_105 (Or.inl ⟨?z6_105, ?y6_105⟩) (by assumption) ?r6_105
        case h6_105 =>
          simp only [List.getElem?_toArray, List.getElem?_cons_succ, List.getElem?_cons_zero]
          rfl
        case q6_105 => exact fun _ _ _ h => h
        case z6_105 => rfl
        case y6_105 =>
          intro w hSw
          try dsimp only at hSw
          go_simp
          try with_reducible rfl
        try simp only [Act.put, List.setIfInBounds_toArray, List.set_cons_zero, List.set_cons_succ]
        refine wpAnyH_take (i := 7) (oi := ?o7_106) (v := ?v7_106) ?h7_106 (by kernel_rfl) (by kernel_rfl) (by kernel_rfl) ?q7_106 (Or.inl ⟨?z7_106, ?y7_106⟩) (by assumption) ?r7_106
        case h7_106 =>
          simp only [List.getElem?_toArray, List.getElem?_cons_succ, List.getElem?_cons_zero]
          rfl
        case q7_106 => exact fun _ _ _ h => h
        case z7_106 => rfl
        case y7_106 =>
          intro w hSw
          try dsimp only at hSw
          go_simp
          try with_reducible rfl
        try simp only [Act.put, List.setIfInBounds_toArray, List.set_cons_zero, List.set_cons_succ]
        refine wpAnyH_take (i := 10) (oi := ?o10_107) (v := ?v10_107) ?h10_107 (by kernel_rfl) (by kernel_rfl) (by kernel_rfl) ?q10_107 (Or.inl ⟨?z10_107, ?y10_107⟩) (by assumption) ?r10_107
        case h10_107 =>
          simp only [List.getElem?_toArray, List.getElem?_cons_succ, List.getElem?_cons_zero]
          rfl
        case q10_107 => exact fun _ _ _ h => h
        case z10_107 => rfl
        case y10_107 =>
          intro w hSw
          try dsimp only at hSw
          go_simp
          try with_reducible rfl
        try simp only [Act.put, List.setIfInBounds_toArray, List.set_cons_zero, List.set_cons_succ]
        refine wpAnyH_ready (rs := [8]) (by kernel_rfl) (by simp) ?_
        refine AllReadyH.cons (o := ?o8_108) ?h8_108 (fun K hK => ?k8_108) AllReadyH.nil
        case h8_108 =>
          simp only [List.getElem?_toArray, List.getElem?_cons_succ, List.getElem?_cons_zero]
          rfl
        refine step_append_src (by rfl) _ _ 27 (by rfl) (wr.heap.size + 1) 49 i0 (.agg #[.int .i64 0, .int .i64 0]) 2 16 Try.underlying27 hi hy0 hy1 hy2 rfl (by decide) (.slice uA uN uC) (fs.take k).length (bvals (fs.take k)) (by rfl) HOWN.out (.slice (some ⟨g, off + (k + 1) * 2, none⟩) (n - (k + 1)) (c - (k + 1))) (fs.drop (k + 1)).length (bvals (fs.drop (k + 1))) (by rfl) HSR2.out (one_blk _) (by have := HTK.out; have := HDK.out; (try simp only [maxLen, List.length_append, List.length_singleton]); omega) (by have := HTK.out; have := HDK.out; (try simp only [List.length_append, List.length_singleton]); omega) hz3 ?_
        intro v' w3 hown' hgrow hor
        have hB3 := HD.out.grown hgrow HD.out.size (fun g hg => by have := (HOWN.out.lt g hg).1; omega)
        have bR3 := HR0.out.step hB3
        have bP3 := HP0.out.step hB3
        obtain ⟨rA, rN, rC, rfl, _⟩ := (Own.of_own hown').form
        have r0 : w3.cell? ⟨w.heap.size + 1, 0, none⟩ = some (.string ⟨#[]⟩) := bR3.cell 0
        have r1 : w3.cell? ⟨w.heap.size + 1, 1, none⟩ = some (.slice none 0 0) := bR3.cell 1
        have f0 := bR3.frozen 0
        have f1 := bR3.frozen 1
        refine hK.out _ _ (by first | exact ⟨bP3.cell 0, bP3.cell 1⟩ | go_keep) (fun hHeld108 => ?_)
        clear hK K
        try simp only [Act.put, List.setIfInBounds_toArray, List.set_cons_zero, List.set_cons_succ]
        refine wpAnyH_take (i := 9) (oi := ?o9_109) (v := ?v9_109) ?h9_109 (by kernel_rfl) (by kernel_rfl) (by kernel_rfl) ?q9_109 (Or.inl ⟨?z9_109, ?y9_109⟩) (by assumption) ?r9_109
        case h9_109 =>
          simp only [List.getElem?_toArray, List.getElem?_cons_succ, List.getElem?_cons_zero]
          rfl
        case q9_109 => exact fun _ _ _ h => h
        case z9_109 => rfl
        case y9_109 =>
          intro w hSw
          try dsimp only at hSw
          go_simp
          try with_reducible rfl
        try simp only [Act.put, List.setIfInBounds_toArray, List.set_cons_zero, List.set_cons_succ]
        refine wpAnyH_ready (rs := [11]) (by kernel_rfl) (by simp) ?_
        refine AllReadyH.cons (o := ?o11_110) ?h11_110 (fun K hK => ?k11_110) AllReadyH.nil
        case h11_110 =>
          simp only [List.getElem?_toArray, List.getElem?_cons_succ, List.getElem?_cons_zero]
          rfl
        go_simp
        refine hK.out _ _ (by first | exact ⟨((bP3.far (p := ⟨w.heap.size + 1, 0, none⟩) (by simp) _).far (p := ⟨w.heap.size + 1, 1, none⟩) (by simp) _).cell 0, ((bP3.far (p := ⟨w.heap.size + 1, 0, none⟩) (by simp) _).far (p := ⟨w.heap.size + 1, 1, none⟩) (by simp) _).cell 1⟩ | go_keep) (fun hHeld110 => ?_)
        clear hK K
        try simp only [Act.put, List.setIfInBounds_toArray, List.set_cons_zero, List.set_cons_succ]
        refine wpAnyH_take (i := 12) (oi := ?o12_111) (v := ?v12_111) ?h12_111 (by kernel_rfl) (by kernel_rfl) (by kernel_rfl) ?q12_111 (Or.inl ⟨?z12_111, ?y12_111⟩) (by assumption) ?r12_111
        case h12_111 =>
          simp only [List.getElem?_toArray, List.getElem?_cons_succ, List.getElem?_cons_zero]
          rfl
        case q12_111 => exact fun _ _ _ h => h
        case z12_111 => rfl
        case y12_111 =>
          intro w hSw
          try dsimp only at hSw
          go_simp
          try with_reducible rfl
        try simp only [Act.put, List.setIfInBounds_toArray, List.set_cons_zero, List.set_cons_succ]
        refine wpAnyH_take (i := 13) (oi := ?o13_112) (v := ?v13_112) ?h13_112 (by kernel_rfl) (by kernel_rfl) (by kernel_rfl) ?q13_112 (Or.inl ⟨?z13_112, ?y13_112⟩) (by assumption) ?r13_112
        case h13_112 =>
          simp only [List.getElem?_toArray, List.getElem?_cons_succ, List.getElem?_cons_zero]
          rfl
        case q13_112 => exact fun _ _ _ h => h
        case z13_112 => rfl
        case y13_112 =>
          intro w hSw
          try dsimp only at hSw
          go_simp
          try with_reducible rfl
        try simp only [Act.put, List.setIfInBounds_toArray, List.set_cons_zero, List.set_cons_succ]
        refine wpAnyH_done (by kernel_rfl) ?_ _
        have bR4 : Blk ((w3.setCell ⟨w.heap.size + 1, 0, none⟩ (.string s)).setCell ⟨w.heap.size + 1, 1, none⟩ (.slice rA rN rC)) (w.heap.size + 1) 29 #[.string s, .slice rA rN rC] := by have := (bR3.set_ 0 (.string s)).set_ 1 (.slice rA rN rC); simpa using this
        have s0 := bR4.cell 0
        have s1 := bR4.cell 1
        go_wp2_with fail
        rw [allocM_some HAL.out]
        have hs2 := HS0.out
        have hszb := hB3.size
        refine bodyPost_ret (v := .tuple #[.agg #[.string s, .slice rA rN rC], .int .i64 t, .int .i64 0]) (by simp [results, Try.results47, go_sem, s0, s1]) rfl ⟨[.string s, .slice rA rN rC], rfl, lvC_mem ?_ _, ?_⟩
        · rw [HT.out]
          exact lv_two (owns_far (owns_far hown' (p := ⟨w.heap.size + 1, 0, none⟩) (by show w.heap.size + 1 < wr.heap.size + 1; omega) _) (p := ⟨w.heap.size + 1, 1, none⟩) (by show w.heap.size + 1 < wr.heap.size + 1; omega) _) (by omega)
        · exact ((HB0.out.trans (hB3.mono (by omega))).setCell (p := ⟨w.heap.size + 1, 0, none⟩) (by simp) _).setCell (p := ⟨w.heap.size + 1, 1, none⟩) (by simp) _
end Go.Proofs.Ytlppngpafjfjeaa

