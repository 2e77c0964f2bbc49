/-
  ReadIns: both readings agree: the plain law.
-/
import Derived.Test.YtdnadmncbicpdaaDoorDcI
namespace Go.Proofs.YtdnadmncbicpdaaDoor
open Go.RowKit
set_option linter.unusedVariables false
set_option linter.unusedSimpArgs false
set_option linter.unnecessarySimpa false
set_option maxRecDepth 100000

theorem words_plain : (words.all fun x => decide (0 < x.size) && x.data.toList.all fun b => !(b == 32)) = true := by kernel_rfl
theorem words_index : (List.range 40).all (fun j => opI words 0 ((words[j]?).getD ⟨#[]⟩) == j + 1 && decide (ixW ((words[j]?).getD ⟨#[]⟩) = ((j + 1 : Nat) : Int))) = true := by kernel_rfl
theorem word_ix {j : Nat} {x : ByteArray} (hj : j < 40) (h : words[j]? = some x) : opI words 0 x = j + 1 ∧ ixW x = ((j + 1 : Nat) : Int) := by
  have := List.all_eq_true.1 words_index j (List.mem_range.2 hj)
  rw [h, Option.getD_some, Bool.and_eq_true, beq_iff_eq, decide_eq_true_eq] at this
  exact this
theorem word_no32 {j : Nat} {x : ByteArray} (h : words[j]? = some x) : 0 < x.size ∧ ∀ c ∈ byt x, c ≠ 32 := by
  have h1 := List.all_eq_true.1 words_plain x (List.mem_of_getElem? h)
  rw [Bool.and_eq_true, decide_eq_true_eq] at h1
  refine ⟨h1.1, fun c hc => ?_⟩
  obtain ⟨b, hb, rfl⟩ := List.mem_map.1 hc
  have h2 := List.all_eq_true.1 h1.2 b hb
  intro e
  have : b = 32 := by
    apply UInt8.toNat.inj
    have : (b.toNat : Int) = 32 := e
    show b.toNat = 32
    omega
  rw [this] at h2
  cases h2
theorem itoa_no32 (n : Int) : ∀ c ∈ byt (itoaB n), c ≠ 32 := by
  intro c hc
  have hb := byt_itoa n
  rw [itoa_def] at hb
  rw [hb] at hc
  split at hc
  · rcases List.mem_cons.1 hc with rfl | hc
    · decide
    · have := dec10_digit _ _ (Nat.le_refl _) c hc
      omega
  · have := dec10_digit _ _ (Nat.le_refl _) c hc
    omega
/-- strings.Cut at a space -/
theorem index_no {l : List UInt8} (h : ∀ b ∈ l, b ≠ 32) : Lib.index l [32] = -1 := by
  induction l with
  | nil => rfl
  | cons b l ih =>
    have hb : ¬ (32 : UInt8) = b := fun e => h b (by simp) e.symm
    have := ih (fun x hx => h x (by simp [hx]))
    rw [Lib.index]
    simp [List.isPrefixOf, hb, this]
theorem index_at {p r : List UInt8} (h : ∀ b ∈ p, b ≠ 32) : Lib.index (p ++ 32 :: r) [32] = (p.length : Int) := by
  induction p with
  | nil =>
    show Lib.index (32 :: r) [32] = _
    rw [Lib.index]
    simp [List.isPrefixOf]
  | cons b l ih =>
    have hb : ¬ (32 : UInt8) = b := fun e => h b (by simp) e.symm
    have := ih (fun x hx => h x (by simp [hx]))
    show Lib.index (b :: (l ++ 32 :: r)) [32] = _
    rw [Lib.index, this]
    have h1 : ¬ (((l.length : Nat) : Int) == -1) = true := by simp
    rw [if_neg h1]
    simp [List.isPrefixOf, hb]
theorem cut_no {l : List UInt8} (h : ∀ b ∈ l, b ≠ 32) : Lib.cut l [32] = (l, [], false) := by
  rw [Lib.cut, index_no h, if_neg (by decide)]
theorem cut_at {p r : List UInt8} (h : ∀ b ∈ p, b ≠ 32) : Lib.cut (p ++ 32 :: r) [32] = (p, r, true) := by
  rw [Lib.cut, index_at h, if_pos (by omega), Int.toNat_natCast]
  simp
theorem byt_no32 {x : ByteArray} (h : ∀ c ∈ byt x, c ≠ 32) : ∀ b ∈ x.data.toList, b ≠ 32 := fun b hb e => by
  subst e
  exact h 32 (List.mem_map.2 ⟨32, hb, rfl⟩) rfl
theorem mk_list (x : ByteArray) : (⟨x.data.toList.toArray⟩ : ByteArray) = x := by simp
theorem cat_list (x y : ByteArray) : (x ++ (⟨#[32]⟩ ++ y)).data.toList = x.data.toList ++ 32 :: y.data.toList := by simp
theorem cat_byt (x y : ByteArray) : byt (x ++ (⟨#[32]⟩ ++ y)) = byt x ++ 32 :: byt y := by
  show (x ++ (⟨#[32]⟩ ++ y)).data.toList.map _ = _
  rw [cat_list]
  exact List.map_append
theorem ins_a0 {k a : Int} (h : opHas k = false) (ha : inB a (opLo k) (opHi k) = true) : a = 0 := by
  have h1 : opLo k = 0 := by
    unfold opHas at h
    simp only [Bool.or_eq_false_iff] at h
    unfold opLo
    simp [h]
  have h2 : opHi k = 0 := by
    unfold opHas at h
    simp only [Bool.or_eq_false_iff] at h
    unfold opHi
    simp [h]
  rw [h1, h2, inB, Bool.and_eq_true, decide_eq_true_eq, decide_eq_true_eq] at ha
  omega
theorem opLo_ge (k : Int) : -9223372036854775808 ≤ opLo k := by unfold opLo; split <;> decide
theorem opHi_le9 (k : Int) : opHi k ≤ 9223372036854775807 := by unfold opHi; repeat' (first | decide | split)
theorem ins_wf {op a : Int} (h : insOk op a = true) : -9223372036854775808 ≤ a ∧ a ≤ 9223372036854775807 := by
  rw [insOk, Bool.and_eq_true] at h
  have h2 := h.2
  rw [inB, Bool.and_eq_true, decide_eq_true_eq, decide_eq_true_eq] at h2
  have := opLo_ge op
  have := opHi_le9 op
  omega
theorem decR_nil : (decR ⟨#[]⟩).1 = 0 := by
  rfl
theorem read_text {op a : Int} {s : ByteArray} (h : insOk op a = true) (hs : insTR op a = s) : rdS s = (op, a, true) ∧ rdI s = (op, a, true) := by
  have hwf := ins_wf h
  have h' := h
  rw [insOk, Bool.and_eq_true] at h'
  obtain ⟨h40, hin⟩ := h'
  obtain ⟨j, x, rfl, hj, hx⟩ := op_split h40
  obtain ⟨w1, w2⟩ := word_ix hj hx
  obtain ⟨w3, w4⟩ := word_no32 hx
  have hop := opWord_yes hx
  have hfin : rdFin s ((j + 1 : Nat) : Int) a = (((j + 1 : Nat) : Int), a, true) := by rw [rdFin, if_pos ⟨h, hs⟩]
  cases hh : opHas ((j + 1 : Nat) : Int) with
  | false =>
    obtain rfl := ins_a0 hh hin
    rw [insT_0 h hh, hop] at hs
    subst hs
    have hc : cutB 32 x = [x] := by rw [cutB, cutL_one w4, List.map_cons, List.map_nil, strOfNums_byt]
    have hcw : cutW x = x := by
      show (⟨(Lib.cut x.data.toList [32]).1.toArray⟩ : ByteArray) = x
      rw [cut_no (byt_no32 w4)]
    have hco : cutO x = ⟨#[]⟩ := by
      show (⟨(Lib.cut x.data.toList [32]).2.1.toArray⟩ : ByteArray) = _
      rw [cut_no (byt_no32 w4)]
    refine ⟨?_, ?_⟩
    · rw [rdS_none (by rw [hc]; rfl), hc]
      show rdFin x ((opI words 0 x : Nat) : Int) 0 = _
      rw [w1]; exact hfin
    · rw [rdI, hcw, hco, w2, decR_nil, if_pos ⟨w3, by rw [insT_0 h hh, hop]⟩]
  | true =>
    have hs0 := hs
    rw [insT_1 h hh, hop] at hs
    have hn := numR_itoa hwf.1 hwf.2
    rw [itoa_def] at hn
    have hc : cutB 32 s = [x, itoaB a] := by rw [← hs, cutB, cat_byt, cutL_two w4, cutL_one (itoa_no32 a), List.map_cons, List.map_cons, List.map_nil, strOfNums_byt, strOfNums_byt]
    have hcw : cutW s = x := by
      show (⟨(Lib.cut s.data.toList [32]).1.toArray⟩ : ByteArray) = x
      rw [← hs, cat_list, cut_at (byt_no32 w4)]
    have hco : cutO s = itoaB a := by
      show (⟨(Lib.cut s.data.toList [32]).2.1.toArray⟩ : ByteArray) = _
      rw [← hs, cat_list, cut_at (byt_no32 w4)]
    have hpos : 0 < s.size := by rw [← hs, ByteArray.size_append]; omega
    refine ⟨?_, ?_⟩
    · rw [rdS_some (p := itoaB a) (by rw [hc]; rfl) (by rw [hn]), hc, hn]
      show rdFin s ((opI words 0 x : Nat) : Int) a = _
      rw [w1]; exact hfin
    · rw [rdI, hcw, hco, w2, decR_itoa hwf.1 hwf.2, if_pos ⟨hpos, hs0⟩]
theorem read_eq (s : ByteArray) : rdI s = rdS s := by
  by_cases hE : ∃ op a, insOk op a = true ∧ insTR op a = s
  · obtain ⟨op, a, h1, h2⟩ := hE
    obtain ⟨e1, e2⟩ := read_text h1 h2
    rw [e1, e2]
  · have hI : rdI s = (0, 0, false) := by
      rw [rdI, if_neg]
      rintro ⟨h0, h1⟩
      cases hok : insOk (ixW (cutW s)) (decR (cutO s)).1 with
      | false => rw [insT_no hok] at h1; rw [← h1] at h0; exact absurd h0 (by decide)
      | true => exact hE ⟨_, _, hok, h1⟩
    have hF : ∀ op a, rdFin s op a = (0, 0, false) := fun op a => by
      rw [rdFin, if_neg]
      rintro ⟨h1, h2⟩
      exact hE ⟨op, a, h1, h2⟩
    rw [hI]
    cases hp : (cutB 32 s)[1]? with
    | none => rw [rdS_none hp, hF]
    | some p =>
      cases hb : (numR p).2 with
      | false => rw [rdS_bad hp hb]
      | true => rw [rdS_some hp hb, hF]
def rdP (s : ByteArray) : Ins × Bool := (⟨(rdS s).1, (rdS s).2.1⟩, (rdS s).2.2)
theorem specReadIns_ok (s : ByteArray) (hs : s.size ≤ 1048576) : ∀ (B : Nat) (w : World), B ≤ w.heap.size → TabR w →
    Calls Tryd.prog 4 #[.string s] w fun e w' => ∃ us, e = .returned (.tuple #[.agg us.toArray, .bool (rdP s).2]) ∧ LvC w' w.heap.size w'.heap.size (Ins.pd (rdP s).1) us ∧ Below w.heap.size w w' := by
  intro B w hB hT
  obtain ⟨w0, hw0⟩ : ∃ V, V = w.alloc (.cells #[.int .i64 0, .int .i64 0] 23) := ⟨_, rfl⟩
  have HR0 : Hid (Blk w0 w.heap.size 23 #[.int .i64 0, .int .i64 0]) := by show Blk _ _ _ _; rw [hw0]; exact Blk.new w _ _
  have HB0 : Hid (Below w.heap.size w w0) := by show Below _ _ _; rw [hw0]; exact (Below.refl _ _).alloc (Nat.le_refl _) _
  have HW0 := Lib.hid hw0
  clear hw0
  obtain ⟨op, hop⟩ : ∃ x, x = (rdS s).1 := ⟨_, rfl⟩
  obtain ⟨a, ha⟩ : ∃ x, x = (rdS s).2.1 := ⟨_, rfl⟩
  obtain ⟨b, hb⟩ : ∃ x, x = (rdS s).2.2 := ⟨_, rfl⟩
  have HL := Lib.hid (l15Read_any hs w0)
  unfold ReadQ at HL
  rw [← hop, ← ha, ← hb] at HL
  rw [show (rdP s).2 = b from hb.symm, show (rdP s).1 = (⟨op, a⟩ : Ins) from by rw [rdP, hop, ha]]
  clear hop ha hb hs
  go_enter Tryd.func4, Tryd.ntmps4
  go_wp2_with fail
  rw [← HW0.out]
  refine HL.out.mono ?_
  rintro e w1 ⟨rfl, hb1⟩
  have HB1 := Lib.hid (HB0.out.trans (hb1.mono HB0.out.size))
  have HR1 := Lib.hid (HR0.out.step hb1)
  clear hb1
  have r0 : w1.cell? ⟨w.heap.size, 0, none⟩ = some (.int .i64 0) := HR1.out.cell 0
  have r1 : w1.cell? ⟨w.heap.size, 1, none⟩ = some (.int .i64 0) := HR1.out.cell 1
  have f0 := HR1.out.frozen 0
  have f1 := HR1.out.frozen 1
  go_wp2_with fail
  have bN : Blk ((w1.setCell ⟨w.heap.size, 0, none⟩ (.int .i64 op)).setCell ⟨w.heap.size, 1, none⟩ (.int .i64 a)) w.heap.size 23 #[.int .i64 op, .int .i64 a] := by
    have := (HR1.out.set_ 0 (.int .i64 op)).set_ 1 (.int .i64 a)
    simpa using this
  have n0 := bN.cell 0
  have n1 := bN.cell 1
  refine bodyPost_ret (v := .tuple #[.agg #[.int .i64 op, .int .i64 a], .bool b]) (by simp [results, Tryd.results4, go_sem, n0, n1]) rfl ⟨[.int .i64 op, .int .i64 a], rfl, ((LvC.nil _ _ _ (by have := HB1.out.size; first | omega | (simp; done) | (simp; omega))).lit _).lit _, ?_⟩
  exact (HB1.out.setCell (p := ⟨w.heap.size, 0, none⟩) (Nat.le_refl _) _).setCell (p := ⟨w.heap.size, 1, none⟩) (Nat.le_refl _) _
theorem implReadIns_ok (s : ByteArray) (hs : s.size ≤ 1048576) : ∀ (B : Nat) (w : World), B ≤ w.heap.size → TabR w →
    Calls Tryd.prog 5 #[.string s] w fun e w' => ∃ us, e = .returned (.tuple #[.agg us.toArray, .bool (rdP s).2]) ∧ LvC w' w.heap.size w'.heap.size (Ins.pd (rdP s).1) us ∧ Below w.heap.size w w' :=
  fun B w hB hT => (implReadIns_any hs w hT).mono fun e w' he => by
    obtain ⟨h1, h2⟩ := he
    rw [read_eq] at h1
    exact ⟨[.int .i64 (rdS s).1, .int .i64 (rdS s).2.1], h1, ((LvC.nil w' _ _ (Nat.le_refl _)).lit _).lit _, h2⟩
def laidRI : List (String × DataW Unit) := [("math/bits.deBruijn32tab", Rows.laid_math_bits_deBruijn32tab), ("math/bits.deBruijn64tab", Rows.laid_math_bits_deBruijn64tab), ("internal/strconv.uint64pow10", Rows.laid_internal_strconv_uint64pow10), ("strconv.ErrRange", Rows.laid_strconv_ErrRange), ("strconv.ErrSyntax", Rows.laid_strconv_ErrSyntax), ("unicode.White_Space", Rows.laid_unicode_White_Space), ("strings.asciiSpace", Rows.laid_strings_asciiSpace)]
theorem tabRI_of {w : World} (h : laidMetH Tryd.prog laidRI w) (hs : w.ShapedOpen Tryd.prog) : TabR w :=
  ⟨tabX_reads (by kernel_rfl) (.tail _ (.tail _ (.tail _ (.tail _ (.tail _ (.tail _ (.head _))))))) (.tail _ (.tail _ (.head _))) h,
   cell_of_shapedOpen_int (P := Tryd.prog) (g := 1) (t := 3) (zero := #[.int .i64 0]) hs (of_decide_eq_true (by kernel_rfl)) (by kernel_rfl) rfl (by kernel_rfl) (by kernel_rfl) Tryd.underlying3,
   if_reads (g := 3) (t := 41) (by kernel_rfl) (by kernel_rfl) Tryd.underlying41 (Lib.laidMet.reads (by rw [MakeChecks.laidMetH_plain _ _ _ (by kernel_rfl)] at h; exact h) (.tail _ (.tail _ (.tail _ (.tail _ (.head _)))))),
   if_reads (g := 4) (t := 41) (by kernel_rfl) (by kernel_rfl) Tryd.underlying41 (Lib.laidMet.reads (by rw [MakeChecks.laidMetH_plain _ _ _ (by kernel_rfl)] at h; exact h) (.tail _ (.tail _ (.tail _ (.head _)))))⟩
end Go.Proofs.YtdnadmncbicpdaaDoor

