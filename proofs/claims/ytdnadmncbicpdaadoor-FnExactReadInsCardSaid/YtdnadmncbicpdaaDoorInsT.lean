/-
  InsText: spec.l15Digits, l15InsText; strconv.FormatInt, impl.insText (by program: gen_insT.py).
-/
import Derived.Test.YtdnadmncbicpdaaDoorWords
import Derived.Test.YtdnadmncbicpdaaDoorIns
import Derived.Test.YtdnadmncbicpdaaDoorDcm
import Derived.Laws.BytesArg
import Derived.Laws.Concat
import Derived.Laws.Shifts
import Derived.Lib.ItoaLen
import Derived.Deep.RegionHeld3
import Derived.Deep.RegionWith
namespace Go.Proofs.YtdnadmncbicpdaaDoor
open Go.RowKit Go.Shelf
set_option linter.unusedVariables false
set_option linter.unusedSimpArgs false
set_option linter.unnecessarySimpa false
set_option maxRecDepth 16000

def TabX (w : World) : Prop := TabW w ∧ TabP w
theorem TabX.below {w w' : World} (h : TabX w) (hb : Below w.heap.size w w') : TabX w' := ⟨h.1.below hb, h.2.below hb⟩
theorem tabX_reads {l : List (String × DataW Unit)} (hp : (l.all fun x => x.2.handleName?.isNone) = true) (hm : ("strings.asciiSpace", (Rows.laid_strings_asciiSpace : DataW Unit)) ∈ l) (hm2 : ("internal/strconv.uint64pow10", (Rows.laid_internal_strconv_uint64pow10 : DataW Unit)) ∈ l) {w : World} (h : laidMetH Tryd.prog l w) : TabX w := ⟨tabW_reads hp hm h, tabP_reads hp hm2 h⟩
def insTR (op a : Int) : ByteArray := if insOk op a = true then (if opHas op = true then opWordR op ++ (⟨#[32]⟩ ++ itoaB a) else opWordR op) else ⟨#[]⟩
theorem insT_no {op a : Int} (h : insOk op a = false) : insTR op a = ⟨#[]⟩ := if_neg (by rw [h]; decide)
theorem insT_0 {op a : Int} (h : insOk op a = true) (h2 : opHas op = false) : insTR op a = opWordR op := by rw [insTR, if_pos h, if_neg (by rw [h2]; decide)]
theorem insT_1 {op a : Int} (h : insOk op a = true) (h2 : opHas op = true) : insTR op a = opWordR op ++ (⟨#[32]⟩ ++ itoaB a) := by rw [insTR, if_pos h, if_pos h2]
theorem words_small : (words.all fun x => decide (x.size ≤ 8)) = true := by kernel_rfl
theorem word_size {j : Nat} {x : ByteArray} (h : words[j]? = some x) : x.size ≤ 8 := by
  have := List.all_eq_true.1 words_small x (List.mem_of_getElem? h)
  simpa using this

set_option maxHeartbeats 3200000 in
theorem l15InsText_any (op a : Int) (ha : (Lit.int .i64 a).wf = true) (hok : insOk op a = true) (w : World) : Calls Tryd.prog 17 #[.agg #[.int .i64 op, .int .i64 a]] w fun e w' => e = .returned (.string (insTR op a)) ∧ Below w.heap.size w w' := by
  have h40 : inB op 1 40 = true := by rw [insOk, Bool.and_eq_true] at hok; exact hok.1
  obtain ⟨j, x, hop, hj, hx⟩ := op_split h40
  have hop2 : op = (j : Int) + 1 := by omega
  have hwd : opWordR op = x := by rw [hop]; exact opWord_yes hx
  clear hop
  subst hop2
  have hwx := word_size hx
  obtain ⟨Z, hZ⟩ : ∃ Z, Z = insTR ((j : Int) + 1) a := ⟨_, rfl⟩
  have HZ := Lib.hid hZ
  rw [← hZ]
  have HOK := Lib.hid hok
  have HWD := Lib.hid hwd
  have HA := Lib.hid ha
  have hba := wf64 ha
  have hsz := itoaB_size (n := a) hba.1 hba.2
  have HW := Lib.hid (fun (W : World) => l15Words_any W)
  have HO := Lib.hid (fun W => specOp_any ((j : Int) + 1) W)
  have HX := Lib.hid hx
  have hs : IntKind.i64.wrap ((j : Int) + 1 - 1) = (j : Int) := by rw [IntWalk.i64_in _ (by omega)]; omega
  have hs2 : IntKind.i64.wrap (j : Int) = (j : Int) := IntWalk.i64_in _ (by omega)
  have hj0 : (0 : Int) ≤ (j : Int) := by omega
  have hj1 : (j : Int) < 40 := by omega
  have hj2 : (0 : Int) ≤ (j : Int) + 1 := by omega
  have hj3 : (j : Int) + 1 < 41 := by omega
  clear hZ hwd hok h40 ha hba hx
  go_enter Tryd.func17, Tryd.ntmps17
  go_wp2_with fail
  obtain ⟨w0, hw0⟩ : ∃ W, W = w.alloc (.cells #[.int .i64 ((j : Int) + 1), .int .i64 a] 23) := ⟨_, rfl⟩
  rw [← hw0]
  have bA : Blk w0 w.heap.size 23 #[.int .i64 ((j : Int) + 1), .int .i64 a] := by rw [hw0]; exact Blk.new w _ _
  have hB0 : Below w.heap.size w w0 := by rw [hw0]; exact (Below.refl _ _).alloc (Nat.le_refl _) _
  clear hw0
  have hBd : Below w.heap.size w w0.drew := hB0.drew
  have bD := bA.drew
  have hlt := bA.lt
  have q0 : w0.drew.cell? ⟨w.heap.size, 0, none⟩ = some (.int .i64 ((j : Int) + 1)) := bD.cell 0
  go_region_with (first | (go_at_call 24; refine (HW.out _).mono ?_; rintro e wq ⟨rfl, hcq, hbq⟩; have hBq := hBd.trans (hbq.mono hBd.size); have bQ := bD.step hbq; have c0 : wq.cell? ⟨w.heap.size, 0, none⟩ = some (.int .i64 ((j : Int) + 1)) := bQ.cell 0; have hcx : wq.cell? ⟨w0.heap.size, j, none⟩ = some (.string x) := hcq (j) x HX.out))
  all_goals
    have hsx := itoaB_size (n := a) (wf64 HA.out).1 (wf64 HA.out).2
    have q1 : wq.cell? ⟨w.heap.size, 1, none⟩ = some (.int .i64 a) := bQ.cell 1
    cases hh : opHas ((j : Int) + 1)
    case false =>
      have HF : Hid (Z = x) := by show _ = _; rw [HZ.out, insT_0 HOK.out hh, HWD.out]
      rw [hh] at HO
      clear hh
      go_wp2_with fail
      refine (HO.out wq).mono ?_
      rintro e w2 ⟨rfl, hw2⟩
      have hw2' := hw2.symm
      clear hw2
      subst hw2'
      go_wp2_with fail
      go_ret
      exact ⟨ret_str HF.out.symm, hBq⟩
    have HF : Hid (Z = x ++ (⟨#[32]⟩ ++ itoaB a)) := by show _ = _; rw [HZ.out, insT_1 HOK.out hh, HWD.out]
    have HD := Lib.hid (digits_any a HA.out wq)
    rw [hh] at HO
    obtain ⟨d, hd⟩ : ∃ d, d = itoaB a := ⟨_, rfl⟩
    rw [← hd] at HF HD hsx
    clear hh hd hsz
    have z2 : ((⟨#[32]⟩ : ByteArray) ++ d).size = 1 + d.size := by rw [ByteArray.size_append]; rfl
    go_wp2_with fail
    refine (HO.out wq).mono ?_
    rintro e w2 ⟨rfl, hw2⟩
    have hw2' := hw2.symm
    clear hw2
    subst hw2'
    go_wp2_with fail
    refine HD.out.mono ?_
    rintro e w3 ⟨rfl, hb3⟩
    go_wp2_with fail
    go_ret
    exact ⟨ret_str HF.out.symm, hBq.trans (hb3.mono hBq.size)⟩
set_option maxHeartbeats 3200000 in
theorem insText_any (op a : Int) (ha : (Lit.int .i64 a).wf = true) (hok : insOk op a = true) (w : World) (hT : TabX w) : Calls Tryd.prog 23 #[.agg #[.int .i64 op, .int .i64 a]] w fun e w' => e = .returned (.string (insTR op a)) ∧ Below w.heap.size w w' := by
  have h40 : inB op 1 40 = true := by rw [insOk, Bool.and_eq_true] at hok; exact hok.1
  obtain ⟨j, x, hop, hj, hx⟩ := op_split h40
  have hop2 : op = (j : Int) + 1 := by omega
  have hwd : opWordR op = x := by rw [hop]; exact opWord_yes hx
  clear hop
  subst hop2
  have hwx := word_size hx
  obtain ⟨Z, hZ⟩ : ∃ Z, Z = insTR ((j : Int) + 1) a := ⟨_, rfl⟩
  have HZ := Lib.hid hZ
  rw [← hZ]
  have HOK := Lib.hid hok
  have HWD := Lib.hid hwd
  have HA := Lib.hid ha
  have hba := wf64 ha
  have hsz := itoaB_size (n := a) hba.1 hba.2
  have HW := Lib.hid (fun (W : World) (h : TabX W) => opWords_any W h.1)
  have HO := Lib.hid (fun W => implOp_any ((j : Int) + 1) W)
  have HX := Lib.hid hx
  have hj0 : (0 : Int) ≤ (j : Int) := by omega
  have hj1 : (j : Int) < 40 := by omega
  have hj2 : (0 : Int) ≤ (j : Int) + 1 := by omega
  have hj3 : (j : Int) + 1 < 41 := by omega
  clear hZ hwd hok h40 ha hba hx
  go_enter Tryd.func23, Tryd.ntmps23
  go_wp2_with fail
  obtain ⟨w0, hw0⟩ : ∃ W, W = w.alloc (.cells #[.int .i64 ((j : Int) + 1), .int .i64 a] 23) := ⟨_, rfl⟩
  rw [← hw0]
  have bA : Blk w0 w.heap.size 23 #[.int .i64 ((j : Int) + 1), .int .i64 a] := by rw [hw0]; exact Blk.new w _ _
  have hB0 : Below w.heap.size w w0 := by rw [hw0]; exact (Below.refl _ _).alloc (Nat.le_refl _) _
  clear hw0
  have hBd : Below w.heap.size w w0.drew := hB0.drew
  have hTd : TabX w0.drew := hT.below hBd
  have bD := bA.drew
  have hlt := bA.lt
  have q0 : w0.drew.cell? ⟨w.heap.size, 0, none⟩ = some (.int .i64 ((j : Int) + 1)) := bD.cell 0
  go_region_with (first | (go_at_call 10; refine (HW.out _ hTd).mono ?_; rintro e wq ⟨rfl, hcq, hbq⟩; have hBq := hBd.trans (hbq.mono hBd.size); have bQ := bD.step hbq; have c0 : wq.cell? ⟨w.heap.size, 0, none⟩ = some (.int .i64 ((j : Int) + 1)) := bQ.cell 0; have hcx : wq.cell? ⟨w0.heap.size, j + 1, none⟩ = some (.string x) := hcq (j + 1) x HX.out))
  all_goals
    have hsx := itoaB_size (n := a) (wf64 HA.out).1 (wf64 HA.out).2
    have q1 : wq.cell? ⟨w.heap.size, 1, none⟩ = some (.int .i64 a) := bQ.cell 1
    cases hh : opHas ((j : Int) + 1)
    case false =>
      have HF : Hid (Z = x) := by show _ = _; rw [HZ.out, insT_0 HOK.out hh, HWD.out]
      rw [hh] at HO
      clear hh
      go_wp2_with fail
      refine (HO.out wq).mono ?_
      rintro e w2 ⟨rfl, hw2⟩
      have hw2' := hw2.symm
      clear hw2
      subst hw2'
      go_wp2_with fail
      go_ret
      exact ⟨ret_str HF.out.symm, hBq⟩
    have HF : Hid (Z = x ++ (⟨#[32]⟩ ++ itoaB a)) := by show _ = _; rw [HZ.out, insT_1 HOK.out hh, HWD.out]
    have HD := Lib.hid (decimal_any a HA.out wq (hT.below hBq).2)
    rw [hh] at HO
    obtain ⟨d, hd⟩ : ∃ d, d = itoaB a := ⟨_, rfl⟩
    rw [← hd] at HF HD hsx
    clear hh hd hsz
    have z2 : ((⟨#[32]⟩ : ByteArray) ++ d).size = 1 + d.size := by rw [ByteArray.size_append]; rfl
    go_wp2_with fail
    refine (HO.out wq).mono ?_
    rintro e w2 ⟨rfl, hw2⟩
    have hw2' := hw2.symm
    clear hw2
    subst hw2'
    go_wp2_with fail
    refine HD.out.mono ?_
    rintro e w3 ⟨rfl, hb3⟩
    go_wp2_with fail
    go_ret
    exact ⟨ret_str HF.out.symm, hBq.trans (hb3.mono hBq.size)⟩
set_option maxHeartbeats 1600000 in
set_option maxHeartbeats 1600000 in
theorem implInsText_any (op a : Int) (ha : (Lit.int .i64 a).wf = true) (w : World) (hT : TabX w) : Calls Tryd.prog 12 #[.agg #[.int .i64 op, .int .i64 a]] w fun e w' => e = .returned (.string (insTR op a)) ∧ Below w.heap.size w w' := by
  obtain ⟨Z, hZ⟩ : ∃ Z, Z = insTR op a := ⟨_, rfl⟩
  have HC := Lib.hid (fun (W : World) (hok : insOk op a = true) (h : TabX W) => insText_any op a ha hok W h)
  have HZ := Lib.hid hZ
  rw [← hZ] at HC ⊢
  clear hZ ha
  go_enter Tryd.func12, Tryd.ntmps12
  go_wp2_with fail
  obtain ⟨w0, hw0⟩ : ∃ W, W = w.alloc (.cells #[.int .i64 op, .int .i64 a] 23) := ⟨_, rfl⟩
  rw [← hw0]
  have bA : Blk w0 w.heap.size 23 #[.int .i64 op, .int .i64 a] := by rw [hw0]; exact Blk.new w _ _
  have hB0 : Below w.heap.size w w0 := by rw [hw0]; exact (Below.refl _ _).alloc (Nat.le_refl _) _
  clear hw0
  refine (implInsOk_any op a _).mono ?_
  rintro e w1 ⟨rfl, hb1⟩
  have hB1 := hB0.trans (hb1.mono hB0.size)
  replace bA := bA.step hb1
  cases hok : insOk op a
  · have HF : Hid (Z = ⟨#[]⟩) := by show _ = _; rw [HZ.out, insT_no hok]
    go_wp2_with fail
    go_ret
    exact ⟨ret_str HF.out.symm, hB1⟩
  have b0 : w1.cell? ⟨w.heap.size, 0, none⟩ = some (.int .i64 op) := bA.cell 0
  have b1 : w1.cell? ⟨w.heap.size, 1, none⟩ = some (.int .i64 a) := bA.cell 1
  go_wp2_with fail
  refine (HC.out w1 hok (hT.below hB1)).mono ?_
  rintro e w2 ⟨rfl, hb2⟩
  go_wp2_with fail
  go_ret
  exact ⟨rfl, hB1.trans (hb2.mono hB1.size)⟩
end Go.Proofs.YtdnadmncbicpdaaDoor

