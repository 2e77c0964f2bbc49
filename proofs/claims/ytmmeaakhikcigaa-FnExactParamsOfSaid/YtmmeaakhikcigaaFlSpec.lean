/-
  The flat kinds of types (spec); by program: gen_flat.py.
-/
import Derived.Test.YtmmeaakhikcigaaFlJoin
import Derived.Test.YtmmeaakhikcigaaLayUp
namespace Go.Proofs.Ytmmeaakhikcigaa
open Go.RowKit
set_option linter.unusedVariables false
set_option linter.unusedSimpArgs false
set_option linter.unnecessarySimpa false
set_option maxRecDepth 16000

def FlC (fn : Nat) (t : Ty) : Prop := ∀ (B : Nat) (cs : List Value) (w : World), t.parts ≤ 4194304 → t.shapes = true → PD.wfL (Ty.pd t) → B ≤ w.heap.size → RepC w B (Ty.pd t) cs →
  Calls Try.prog fn #[.agg cs.toArray] w fun e w' => ∃ u, e = .returned u ∧ w'.ownsRow w.heap.size 2 1 u t.flat.length (i64s t.flat) ∧ Below w.heap.size w w'
theorem ownsRow_lit (w : World) {lo : Nat} {e : TypeId} (cur : Array Value) (h : lo ≤ w.heap.size) (hm : cur.size ≤ maxLen) : (w.alloc (.cells cur e)).ownsRow lo e 1 (.slice (some ⟨w.heap.size, 0, none⟩) cur.size cur.size) cur.size cur.toList :=
  ⟨by simp, .inr ⟨w.heap.size, cur.size, cur, rfl, h, heap_alloc_new w _, Nat.le_refl _, hm, by simp, by rw [Nat.mul_one]; exact List.take_of_length_le (by simp)⟩⟩
theorem ownsRow_litAt (w : World) {lo g k : Nat} {e : TypeId} {xs : List Value} (cur : Array Value) (h : lo ≤ w.heap.size) (hm : k ≤ maxLen) (hg : w.heap.size = g) (hk : cur.size = k) (hx : cur.toList = xs) :
    (w.alloc (.cells cur e)).ownsRow lo e 1 (.slice (some ⟨g, 0, none⟩) k k) k xs := by
  subst hg hk hx
  exact ownsRow_lit w cur h hm
theorem step_append_row {P : Program} {w : World} {ops : Array Oper} {o : Oper} {a : Act} {K : Act → World → Prop} {Q : Exit → Act → World → Prop} {E : Prop} (hgd : o.guard = none) (s x : Operand) (t : TypeId)
    (ho : o.op = .call { callee := .builtin .append, args := #[s, x], argTypes := #[t, t] })
    (base : Nat) (e : TypeId) (i : TypeInfo) (z : Value) (size bytes : Nat) (ht : P.underlying t = some (.slice e)) (hi : P.info? e = some i) (hz : i.zero = some z)
    (hsize : i.size = size) (hby : i.bytes = bytes) (hzs : z.cells.size = size) (hsz : 0 < size)
    (v : Value) (n : Nat) (xs : List Value) (hs : a.eval s = v) (hown : w.ownsRow base e size v n xs)
    (u : Value) (b2 m : Nat) (news : List Value) (hx : a.eval x = u) (hown2 : w.ownsRow b2 e size u m news) (h1 : ∀ y ∈ news, y.oneCell' = true)
    (h63 : n + m ≤ maxLen) (hbytes : (n + m) * bytes ≤ 140737488355328) (hbase : base ≤ w.heap.size)
    (h : ∀ v' w', w'.ownsRow base e size v' (n + m) (xs ++ news) → w.grownBy w' v.ownBlock → K (a.put o.dst v') w') : if Region.wanted o (yielded ops a.tmps) = true then Oper.wp P o a w K Q else E := by
  have hw : Region.wanted o (yielded ops a.tmps) = true := by simp [Region.wanted, hgd]
  rw [if_pos hw]
  rcases hown2.2 with ⟨rfl, rfl⟩ | ⟨g, cap, cur, rfl, _⟩
  · have hn : news = [] := List.eq_nil_of_length_eq_zero (by simpa using hown2.1)
    subst hn
    have hrun := run_append_owned_none (P := P) (w := w) base t o.type e i size ht hi v n xs hown
    have := h v w (by simpa using hown) (grown_refl _ _)
    unfold Oper.wp
    simp [execOp, ho, resolve, invoke, builtin, hs, hx, hrun, Result.andThen]
    exact this
  · exact wp_append_own _ s x t ho base e i z size bytes ht hi hz hsize hby hzs hsz v n xs hs hown ⟨g, 0, none⟩ m cap news hx hown2.1 (hown2.cells (g := g) rfl) h1 h63 hbytes hbase fun v' w' h2 h3 _ => h v' w' h2 h3

set_option maxHeartbeats 1600000 in
theorem specAll_any {ts : List Ty} (ih : ∀ t ∈ ts, FlC 104 t) (hg : Good ts) {B : Nat} {v : Value} {w : World} (hB : B ≤ w.heap.size) (h : Rep w B (.row 4 (ts.flatMap Ty.pd)) v) :
    Calls Try.prog 81 #[v] w fun e w' => ∃ u, e = .returned u ∧ w'.ownsRow w.heap.size 2 1 u (Ty.flatL ts).length (i64s (Ty.flatL ts)) ∧ Below w.heap.size w w' := by
  obtain ⟨i0, hi, hz0, hz1, hz2⟩ := info_parts info_i64
  obtain ⟨A, n, c, rfl, hnl, hm, hat⟩ := rep_row Ty.pd_length (by decide) h
  unfold maxLen at hm
  have HN := Lib.hid hnl
  have HI := Lib.hid ih
  have HG := Lib.hid hg
  clear hnl ih hg h
  go_enter Try.func81, Try.ntmps81
  go_wp2_with fail
  go_loopw [3, 4] (fun out i wr => ∃ (k m : Nat) (xs : List Int), k ≤ n ∧ i = .int .i64 k ∧ m ≤ 8388608 ∧ Hid (xs = Ty.flatL (ts.take k)) ∧ Hid (m = xs.length) ∧ wr.ownsRow w.heap.size 2 1 out m (i64s xs) ∧ Below w.heap.size w wr) (fun _ i _ => n - (intOf i).toNat)
  case atStart => exact ⟨0, 0, [], Nat.zero_le _, rfl, by omega, Lib.hid (by rw [List.take_zero, Ty.flatL]), Lib.hid rfl, World.ownsRow_made w #[] 0 (Nat.le_refl _) (by simp) (by simp), (Below.refl _ _).alloc (Nat.le_refl _) _⟩
  case round =>
    obtain ⟨k, m, xs, hk, rfl, hm8, HX, HM, hown, hbr⟩ := hrel
    have hsz := hbr.size
    by_cases hlt : k < n
    · obtain ⟨g, off, rfl, hg2, hcell2⟩ := hat (by omega)
      obtain ⟨t2, hx2, hmem2⟩ := at_lt HN.out hlt
      obtain ⟨kind2, name2, labels2, kids2⟩ := t2
      have c_kind2 : wr.cell? ⟨g, off + k * 4, none⟩ = some (.int .i64 kind2) := cell_lit hbr (by omega) (hcell2 k 0 _ _ hx2 (by rw [Ty.pd_mk]; rfl))
      have c_name2 : wr.cell? ⟨g, off + k * 4 + 1, none⟩ = some (.string name2) := cell_lit hbr (by omega) (hcell2 k 1 _ _ hx2 (by rw [Ty.pd_mk]; rfl))
      obtain ⟨labelsV2, c_labels2, r_labels2⟩ : ∃ u, wr.cell? ⟨g, off + k * 4 + 2, none⟩ = some u ∧ Rep wr B (.row 1 (labels2.flatMap strC)) u := cell_rep hbr (by omega) hB (hcell2 k 2 _ _ hx2 (by rw [Ty.pd_mk]; rfl))
      have R_labels2 := Lib.hid r_labels2
      clear r_labels2
      obtain ⟨kidsV2, c_kids2, r_kids2⟩ : ∃ u, wr.cell? ⟨g, off + k * 4 + 3, none⟩ = some u ∧ Rep wr B (.row 4 (kids2.flatMap Ty.pd)) u := cell_rep hbr (by omega) hB (hcell2 k 3 _ _ hx2 (by rw [Ty.pd_mk]; rfl))
      have R_kids2 := Lib.hid r_kids2
      clear r_kids2
      have HX2 := Lib.hid hx2
      have HM2 := Lib.hid hmem2
      clear hx2 hmem2
      clear hcell2
      have hcall := fun (W : World) (hW : Below wr.heap.size wr W) => HI.out _ HM2.out B [.int .i64 kind2, .string name2, labelsV2, kidsV2] W (Nat.le_trans (parts_mem HM2.out) HG.out.sz) (HG.out.sh _ HM2.out) (HG.out.wf _ HM2.out) (Nat.le_trans hB (Nat.le_trans hbr.size hW.size)) (Ty.close_ (R_labels2.out.below (hW.mono (Nat.le_trans hB hbr.size))) (R_kids2.out.below (hW.mono (Nat.le_trans hB hbr.size))))
      have h2 := flatL_succ HX2.out
      have h3 := flatL_take_len ts (k + 1)
      have h4 := HG.out.sz
      obtain ⟨ys, hys⟩ : ∃ ys, ys = (Ty.mk kind2 name2 labels2 kids2).flat := ⟨_, rfl⟩
      simp only [← hys] at hcall h2
      rw [← HX.out] at h2
      obtain ⟨q, hq⟩ : ∃ q, q = ys.length := ⟨_, rfl⟩
      simp only [← hq] at hcall
      rw [h2, List.length_append, ← HM.out, ← hq] at h3
      have hq2 : m + q ≤ 8388608 := by omega
      have H2 := Lib.hid h2
      have HQ := Lib.hid hq
      have HC := Lib.hid hcall
      clear hcall h2 h3 h4 hys hq
      go_wp2_with fail
      refine (HC.out wr (Below.refl _ _)).mono ?_
      rintro e w1 ⟨u, rfl, hu, hb1'⟩
      have hb1 := hb1'
      have hbr1 := hbr.trans (hb1.mono hbr.size)
      replace hown := owns_step hown hb1
      replace hu := owns_base hu (Nat.le_refl _)
      go_wp2_with (at_builtin; refine wpList_append_row rfl _ _ 59 rfl w.heap.size 2 i0 (.int .i64 0) 1 8 Try.underlying59 hi hz0 hz1 hz2 rfl (by decide) _ _ _ rfl hown _ _ _ _ rfl hu (i64s_one _) (by simp only [maxLen]; omega) (by omega) hbr1.size ?_; intro v' w3 hown' hgrow)
      have hbr3 := hbr1.grown hgrow hbr1.size (fun g hg => (hown.lt g hg).1)
      go_roundw
      case rel => exact ⟨k + 1, m + q, xs ++ ys, by omega, by go_num, hq2, Lib.hid H2.out.symm, Lib.hid (by rw [List.length_append, ← HM.out, ← HQ.out]), by rw [i64s_append]; exact hown', hbr3⟩
      case measure => simp [intOf]; omega
    · have hkn : k = n := by omega
      have HT : Hid (ts.take k = ts) := List.take_of_length_le (by have := HN.out; omega)
      subst hkn
      go_wp2_with fail
      go_ret
      have hx := HX.out
      have hm2 := HM.out
      rw [HT.out] at hx
      rw [← hx, ← hm2]
      exact ⟨_, rfl, hown, hbr⟩

set_option maxHeartbeats 1600000 in
theorem specFlat_unit {kind : Int} {name : ByteArray} {labels : List ByteArray} {kids : List Ty} {B n n' c c' : Nat} {A A' : Option Addr} {w : World} (HT : Hid (TyIn B n n' c c' A A' name labels kids w)) (hk : kind = 1) :
    Calls Try.prog 104 #[.agg #[.int .i64 kind, .string name, .slice A' n' c', .slice A n c]] w fun e w' => ∃ u, e = .returned u ∧ w'.ownsRow w.heap.size 2 1 u (Ty.mk kind name labels kids).flat.length (i64s (Ty.mk kind name labels kids).flat) ∧ Below w.heap.size w w' := by
  subst hk
  rw [flat_unit]
  go_enter Try.func104, Try.ntmps104
  go_wp2_with fail
  go_ret
  exact ⟨_, rfl, World.ownsRow_nil _ _ _ _, (Below.refl _ _).alloc (Nat.le_refl _) _⟩

set_option maxHeartbeats 1600000 in
theorem specFlat_s64 {kind : Int} {name : ByteArray} {labels : List ByteArray} {kids : List Ty} {B n n' c c' : Nat} {A A' : Option Addr} {w : World} (HT : Hid (TyIn B n n' c c' A A' name labels kids w)) (hk : kind = 9) :
    Calls Try.prog 104 #[.agg #[.int .i64 kind, .string name, .slice A' n' c', .slice A n c]] w fun e w' => ∃ u, e = .returned u ∧ w'.ownsRow w.heap.size 2 1 u (Ty.mk kind name labels kids).flat.length (i64s (Ty.mk kind name labels kids).flat) ∧ Below w.heap.size w w' := by
  subst hk
  rw [flat_s64]
  go_enter Try.func104, Try.ntmps104
  go_wp2_with fail
  go_ret
  have hz := (Below.refl w.heap.size w).alloc (Nat.le_refl _) (.cells #[.int .i64 9, .string name, .slice A' n' c', .slice A n c] 51)
  exact ⟨_, rfl, ownsRow_litAt _ #[.int .i64 2] hz.size (by decide) (by simp) rfl rfl, hz.alloc hz.size _⟩

set_option maxHeartbeats 1600000 in
theorem specFlat_text {kind : Int} {name : ByteArray} {labels : List ByteArray} {kids : List Ty} {B n n' c c' : Nat} {A A' : Option Addr} {w : World} (HT : Hid (TyIn B n n' c c' A A' name labels kids w)) (hk : kind = 11) :
    Calls Try.prog 104 #[.agg #[.int .i64 kind, .string name, .slice A' n' c', .slice A n c]] w fun e w' => ∃ u, e = .returned u ∧ w'.ownsRow w.heap.size 2 1 u (Ty.mk kind name labels kids).flat.length (i64s (Ty.mk kind name labels kids).flat) ∧ Below w.heap.size w w' := by
  subst hk
  rw [flat_text (.inl rfl)]
  go_enter Try.func104, Try.ntmps104
  go_wp2_with fail
  go_ret
  have hz := (Below.refl w.heap.size w).alloc (Nat.le_refl _) (.cells #[.int .i64 11, .string name, .slice A' n' c', .slice A n c] 51)
  exact ⟨_, rfl, ownsRow_litAt _ #[.int .i64 1, .int .i64 1] hz.size (by decide) (by simp) rfl rfl, hz.alloc hz.size _⟩

set_option maxHeartbeats 1600000 in
theorem specFlat_list {kind : Int} {name : ByteArray} {labels : List ByteArray} {kids : List Ty} {B n n' c c' : Nat} {A A' : Option Addr} {w : World} (HT : Hid (TyIn B n n' c c' A A' name labels kids w)) (hk : kind = 12) :
    Calls Try.prog 104 #[.agg #[.int .i64 kind, .string name, .slice A' n' c', .slice A n c]] w fun e w' => ∃ u, e = .returned u ∧ w'.ownsRow w.heap.size 2 1 u (Ty.mk kind name labels kids).flat.length (i64s (Ty.mk kind name labels kids).flat) ∧ Below w.heap.size w w' := by
  subst hk
  rw [flat_text (.inr rfl)]
  go_enter Try.func104, Try.ntmps104
  go_wp2_with fail
  go_ret
  have hz := (Below.refl w.heap.size w).alloc (Nat.le_refl _) (.cells #[.int .i64 12, .string name, .slice A' n' c', .slice A n c] 51)
  exact ⟨_, rfl, ownsRow_litAt _ #[.int .i64 1, .int .i64 1] hz.size (by decide) (by simp) rfl rfl, hz.alloc hz.size _⟩

set_option maxHeartbeats 1600000 in
theorem specFlat_other {kind : Int} {name : ByteArray} {labels : List ByteArray} {kids : List Ty} {B n n' c c' : Nat} {A A' : Option Addr} {w : World} (HT : Hid (TyIn B n n' c c' A A' name labels kids w)) (k1 : (kind == 1) = false) (k9 : (kind == 9) = false) (k11 : (kind == 11) = false) (k12 : (kind == 12) = false) (k13 : (kind == 13) = false) (k14 : (kind == 14) = false) (k15 : (kind == 15) = false) (k16 : (kind == 16) = false) (k17 : (kind == 17) = false) :
    Calls Try.prog 104 #[.agg #[.int .i64 kind, .string name, .slice A' n' c', .slice A n c]] w fun e w' => ∃ u, e = .returned u ∧ w'.ownsRow w.heap.size 2 1 u (Ty.mk kind name labels kids).flat.length (i64s (Ty.mk kind name labels kids).flat) ∧ Below w.heap.size w w' := by
  have HF := Lib.hid (flat_other (name := name) (labels := labels) (kids := kids) k1 k9 k11 k12 k13 k14 k15 k16 k17)
  rw [HF.out]
  go_enter Try.func104, Try.ntmps104
  go_wp2_with fail
  go_ret
  have hz := (Below.refl w.heap.size w).alloc (Nat.le_refl _) (.cells #[.int .i64 kind, .string name, .slice A' n' c', .slice A n c] 51)
  exact ⟨_, rfl, ownsRow_litAt _ #[.int .i64 1] hz.size (by decide) (by simp) rfl rfl, hz.alloc hz.size _⟩

set_option maxHeartbeats 1600000 in
theorem specFlat_row {kind : Int} {name : ByteArray} {labels : List ByteArray} {kids : List Ty} {B n n' c c' : Nat} {A A' : Option Addr} {w : World} (HT : Hid (TyIn B n n' c c' A A' name labels kids w)) (hk : kind = 15 ∨ kind = 16) (HI : Hid (∀ t ∈ kids, FlC 104 t)) (HG : Hid (Good kids)) :
    Calls Try.prog 104 #[.agg #[.int .i64 kind, .string name, .slice A' n' c', .slice A n c]] w fun e w' => ∃ u, e = .returned u ∧ w'.ownsRow w.heap.size 2 1 u (Ty.mk kind name labels kids).flat.length (i64s (Ty.mk kind name labels kids).flat) ∧ Below w.heap.size w w' := by
  have HF := Lib.hid (flat_row (name := name) (labels := labels) (kids := kids) hk)
  rw [HF.out]
  rcases hk with rfl | rfl
  · go_enter Try.func104, Try.ntmps104
    go_wp2_with fail
    obtain ⟨w0, hw0⟩ : ∃ W, W = w.alloc (.cells #[.int .i64 15, .string name, .slice A' n' c', .slice A n c] 51) := ⟨_, rfl⟩
    rw [← hw0]
    have bA : Blk w0 w.heap.size 51 #[.int .i64 15, .string name, .slice A' n' c', .slice A n c] := by rw [hw0]; exact Blk.new w _ _
    have hB0 : Below w.heap.size w w0 := by rw [hw0]; exact (Below.refl _ _).alloc (Nat.le_refl _) _
    clear hw0
    have a_kind : w0.cell? ⟨w.heap.size, 0, none⟩ = some (.int .i64 15) := bA.cell 0
    have a_kids : w0.cell? ⟨w.heap.size, 3, none⟩ = some (.slice A n c) := bA.cell 3
    try go_wp2_with fail
    refine (specAll_any HI.out HG.out (HT.out.c (kind := 0) hB0).1 (HT.out.k hB0)).mono ?_
    rintro e w1 ⟨u, rfl, hu, hb1⟩
    go_wp2_with fail
    go_ret
    exact ⟨_, rfl, owns_base hu hB0.size, hB0.trans (hb1.mono hB0.size)⟩
  · go_enter Try.func104, Try.ntmps104
    go_wp2_with fail
    obtain ⟨w0, hw0⟩ : ∃ W, W = w.alloc (.cells #[.int .i64 16, .string name, .slice A' n' c', .slice A n c] 51) := ⟨_, rfl⟩
    rw [← hw0]
    have bA : Blk w0 w.heap.size 51 #[.int .i64 16, .string name, .slice A' n' c', .slice A n c] := by rw [hw0]; exact Blk.new w _ _
    have hB0 : Below w.heap.size w w0 := by rw [hw0]; exact (Below.refl _ _).alloc (Nat.le_refl _) _
    clear hw0
    have a_kind : w0.cell? ⟨w.heap.size, 0, none⟩ = some (.int .i64 16) := bA.cell 0
    have a_kids : w0.cell? ⟨w.heap.size, 3, none⟩ = some (.slice A n c) := bA.cell 3
    try go_wp2_with fail
    refine (specAll_any HI.out HG.out (HT.out.c (kind := 0) hB0).1 (HT.out.k hB0)).mono ?_
    rintro e w1 ⟨u, rfl, hu, hb1⟩
    go_wp2_with fail
    go_ret
    exact ⟨_, rfl, owns_base hu hB0.size, hB0.trans (hb1.mono hB0.size)⟩
set_option maxHeartbeats 3200000 in
theorem specFlat_var {kind : Int} {name : ByteArray} {labels : List ByteArray} {kids : List Ty} {B n n' c c' : Nat} {A A' : Option Addr} {w : World} (HT : Hid (TyIn B n n' c c' A A' name labels kids w)) (hk : kind = 13 ∨ kind = 14 ∨ kind = 17) (HI : Hid (∀ t ∈ Ty.cases ⟨kind, name, labels, kids⟩, FlC 104 t)) (HG : Hid (Good (Ty.cases ⟨kind, name, labels, kids⟩))) (HS : Hid ((Ty.mk kind name labels kids).shapes = true)) (HW : Hid (PD.wfL (Ty.pd ⟨kind, name, labels, kids⟩))) :
    Calls Try.prog 104 #[.agg #[.int .i64 kind, .string name, .slice A' n' c', .slice A n c]] w fun e w' => ∃ u, e = .returned u ∧ w'.ownsRow w.heap.size 2 1 u (Ty.mk kind name labels kids).flat.length (i64s (Ty.mk kind name labels kids).flat) ∧ Below w.heap.size w w' := by
  obtain ⟨i0, hi, hz0, hz1, hz2⟩ := info_parts info_i64
  have HF := Lib.hid (flat_var (name := name) (labels := labels) (kids := kids) hk)
  have HJ := Lib.hid (flatJ_cases (name := name) (labels := labels) (kids := kids) hk)
  rw [HF.out, ← HJ.out]
  obtain ⟨ts, hts⟩ : ∃ ts, ts = Ty.cases ⟨kind, name, labels, kids⟩ := ⟨_, rfl⟩
  have HTS := Lib.hid hts
  rw [← hts] at HI HG ⊢
  clear hts HF HJ
  rcases hk with rfl | rfl | rfl
  · go_enter Try.func104, Try.ntmps104
    go_wp2_with fail
    obtain ⟨w0, hw0⟩ : ∃ W, W = w.alloc (.cells #[.int .i64 13, .string name, .slice A' n' c', .slice A n c] 51) := ⟨_, rfl⟩
    rw [← hw0]
    have bA : Blk w0 w.heap.size 51 #[.int .i64 13, .string name, .slice A' n' c', .slice A n c] := by rw [hw0]; exact Blk.new w _ _
    have hB0 : Below w.heap.size w w0 := by rw [hw0]; exact (Below.refl _ _).alloc (Nat.le_refl _) _
    clear hw0
    refine (specCases_any ⟨13, name, labels, kids⟩ (HT.out.c (kind := 0) hB0).1 HW.out HS.out (HT.out.c hB0).2).mono ?_
    rintro e w1 ⟨u, rfl, hu, hb1⟩
    rw [← HTS.out] at hu
    have hB1 := hB0.trans (hb1.mono hB0.size)
    obtain ⟨A1, n1, c1, rfl, hnl, hm, hat⟩ := rep_row Ty.pd_length (by decide) hu
    unfold maxLen at hm
    have hW1 := Nat.le_refl w1.heap.size
    have HN := Lib.hid hnl
    clear hnl hu
    go_wp2_with fail
    go_loopw [4, 5] (fun out i wr => ∃ (k m : Nat) (xs : List Int), k ≤ n1 ∧ i = .int .i64 k ∧ m ≤ 8388608 ∧ Hid (xs = Ty.flatJ [] (ts.take k)) ∧ Hid (m = xs.length) ∧ wr.ownsRow w.heap.size 2 1 out m (i64s xs) ∧ Below w1.heap.size w1 wr) (fun _ i _ => n1 - (intOf i).toNat)
    case atStart => exact ⟨0, 0, [], Nat.zero_le _, rfl, by omega, Lib.hid (by rw [List.take_zero, Ty.flatJ]), Lib.hid rfl, World.ownsRow_made w1 #[] 0 hB1.size (by simp) (by simp), (Below.refl _ _).alloc (Nat.le_refl _) _⟩
    case round =>
      obtain ⟨k, m, xs, hk, rfl, hm8, HX, HM, hown, hbr⟩ := hrel
      have hsz := hbr.size
      have hBr := hB1.trans (hbr.mono hB1.size)
      by_cases hlt : k < n1
      · obtain ⟨g, off, rfl, hg2, hcell2⟩ := hat (by omega)
        obtain ⟨t2, hx2, hmem2⟩ := at_lt HN.out hlt
        obtain ⟨kind2, name2, labels2, kids2⟩ := t2
        have c_kind2 : wr.cell? ⟨g, off + k * 4, none⟩ = some (.int .i64 kind2) := cell_lit hbr (by omega) (hcell2 k 0 _ _ hx2 (by rw [Ty.pd_mk]; rfl))
        have c_name2 : wr.cell? ⟨g, off + k * 4 + 1, none⟩ = some (.string name2) := cell_lit hbr (by omega) (hcell2 k 1 _ _ hx2 (by rw [Ty.pd_mk]; rfl))
        obtain ⟨labelsV2, c_labels2, r_labels2⟩ : ∃ u, wr.cell? ⟨g, off + k * 4 + 2, none⟩ = some u ∧ Rep wr w1.heap.size (.row 1 (labels2.flatMap strC)) u := cell_rep hbr (by omega) hW1 (hcell2 k 2 _ _ hx2 (by rw [Ty.pd_mk]; rfl))
        have R_labels2 := Lib.hid r_labels2
        clear r_labels2
        obtain ⟨kidsV2, c_kids2, r_kids2⟩ : ∃ u, wr.cell? ⟨g, off + k * 4 + 3, none⟩ = some u ∧ Rep wr w1.heap.size (.row 4 (kids2.flatMap Ty.pd)) u := cell_rep hbr (by omega) hW1 (hcell2 k 3 _ _ hx2 (by rw [Ty.pd_mk]; rfl))
        have R_kids2 := Lib.hid r_kids2
        clear r_kids2
        have HX2 := Lib.hid hx2
        have HM2 := Lib.hid hmem2
        clear hx2 hmem2
        clear hcell2
        have hcall := fun (W : World) (hW : Below wr.heap.size wr W) => HI.out _ HM2.out w1.heap.size [.int .i64 kind2, .string name2, labelsV2, kidsV2] W (Nat.le_trans (parts_mem HM2.out) HG.out.sz) (HG.out.sh _ HM2.out) (HG.out.wf _ HM2.out) (Nat.le_trans hbr.size hW.size) (Ty.close_ (R_labels2.out.below (hW.mono hbr.size)) (R_kids2.out.below (hW.mono hbr.size)))
        have h2 := flatJ_succ HX2.out
        have h3 := flatJ_take_len ts (k + 1)
        have h4 := HG.out.sz
        have h5 := (flat_ok (Ty.mk kind2 name2 labels2 kids2)).1
        have h6 : two xs := by rw [HX.out]; exact ((flatL_ok (ts.take k)).2.2 [] two_nil).1
        obtain ⟨ys, hys⟩ : ∃ ys, ys = (Ty.mk kind2 name2 labels2 kids2).flat := ⟨_, rfl⟩
        simp only [← hys] at hcall h2 h5
        rw [← HX.out] at h2
        obtain ⟨q, hq⟩ : ∃ q, q = ys.length := ⟨_, rfl⟩
        simp only [← hq] at hcall
        rw [h2, joinK_length, ← HM.out, ← hq] at h3
        have hq2 : max m q ≤ 8388608 := by omega
        have hq3 : q ≤ 16777216 := by omega
        have H2 := Lib.hid h2
        have H5 := Lib.hid h5
        have H6 := Lib.hid h6
        have HQ := Lib.hid hq
        have HC := Lib.hid hcall
        clear hcall h2 h3 h4 h5 h6 hys hq
        go_wp2_with fail
        refine (HC.out wr (Below.refl _ _)).mono ?_
        rintro e w2 ⟨u, rfl, hu, hb1'⟩
        have hb2 := hb1'
        replace hu := owns_base hu (Nat.le_refl _)
        have hbr2 := hbr.trans (hb2.mono hbr.size)
        replace hown := owns_step hown hb2
        go_wp2_with fail
        refine (specJoin_row (by omega) hq3 H6.out H5.out hown hu).mono ?_
        rintro e w3 ⟨r, rfl, hr, hb3⟩
        have hbr3 := hbr2.trans (hb3.mono hbr2.size)
        go_wp2_with fail
        go_roundw
        case rel => exact ⟨k + 1, max m q, joinK xs ys, by omega, by go_num, hq2, Lib.hid H2.out.symm, Lib.hid (by rw [joinK_length, ← HM.out, ← HQ.out]), owns_base hr (hB1.trans (hbr2.mono hB1.size)).size, hbr3⟩
        case measure => simp [intOf]; omega
      · have hkn : k = n1 := by omega
        have HT2 : Hid (ts.take k = ts) := List.take_of_length_le (by have := HN.out; omega)
        subst hkn
        have hx := HX.out
        rw [HT2.out] at hx
        have HXX := Lib.hid hx
        clear hx
        have hlit := ownsRow_litAt wr (lo := w.heap.size) (g := wr.heap.size) (k := 1) (e := 2) (xs := [.int .i64 1]) #[.int .i64 1] hBr.size (by decide) rfl rfl rfl
        have hown2 := owns_step hown ((Below.refl wr.heap.size wr).alloc (Nat.le_refl _) (.cells #[.int .i64 1] 2))
        have hB2 : Below w.heap.size w (wr.alloc (.cells #[.int .i64 1] 2)) := hBr.alloc hBr.size _
        go_wp2_with (at_builtin; refine wpList_append_row rfl _ _ 59 rfl w.heap.size 2 i0 (.int .i64 0) 1 8 Try.underlying59 hi hz0 hz1 hz2 rfl (by decide) _ _ _ rfl hlit _ _ _ _ rfl hown2 (i64s_one _) (by simp only [maxLen]; omega) (by omega) hB2.size ?_; intro v' w3 hown' hgrow)
        have hbr3 := hB2.grown hgrow hB2.size (fun g hg => (hlit.lt g hg).1)
        go_ret
        refine ⟨_, rfl, ?_, hbr3⟩
        rw [← HXX.out, ← HM.out, Nat.add_comm m 1]
        exact hown'
  · go_enter Try.func104, Try.ntmps104
    go_wp2_with fail
    obtain ⟨w0, hw0⟩ : ∃ W, W = w.alloc (.cells #[.int .i64 14, .string name, .slice A' n' c', .slice A n c] 51) := ⟨_, rfl⟩
    rw [← hw0]
    have bA : Blk w0 w.heap.size 51 #[.int .i64 14, .string name, .slice A' n' c', .slice A n c] := by rw [hw0]; exact Blk.new w _ _
    have hB0 : Below w.heap.size w w0 := by rw [hw0]; exact (Below.refl _ _).alloc (Nat.le_refl _) _
    clear hw0
    refine (specCases_any ⟨14, name, labels, kids⟩ (HT.out.c (kind := 0) hB0).1 HW.out HS.out (HT.out.c hB0).2).mono ?_
    rintro e w1 ⟨u, rfl, hu, hb1⟩
    rw [← HTS.out] at hu
    have hB1 := hB0.trans (hb1.mono hB0.size)
    obtain ⟨A1, n1, c1, rfl, hnl, hm, hat⟩ := rep_row Ty.pd_length (by decide) hu
    unfold maxLen at hm
    have hW1 := Nat.le_refl w1.heap.size
    have HN := Lib.hid hnl
    clear hnl hu
    go_wp2_with fail
    go_loopw [4, 5] (fun out i wr => ∃ (k m : Nat) (xs : List Int), k ≤ n1 ∧ i = .int .i64 k ∧ m ≤ 8388608 ∧ Hid (xs = Ty.flatJ [] (ts.take k)) ∧ Hid (m = xs.length) ∧ wr.ownsRow w.heap.size 2 1 out m (i64s xs) ∧ Below w1.heap.size w1 wr) (fun _ i _ => n1 - (intOf i).toNat)
    case atStart => exact ⟨0, 0, [], Nat.zero_le _, rfl, by omega, Lib.hid (by rw [List.take_zero, Ty.flatJ]), Lib.hid rfl, World.ownsRow_made w1 #[] 0 hB1.size (by simp) (by simp), (Below.refl _ _).alloc (Nat.le_refl _) _⟩
    case round =>
      obtain ⟨k, m, xs, hk, rfl, hm8, HX, HM, hown, hbr⟩ := hrel
      have hsz := hbr.size
      have hBr := hB1.trans (hbr.mono hB1.size)
      by_cases hlt : k < n1
      · obtain ⟨g, off, rfl, hg2, hcell2⟩ := hat (by omega)
        obtain ⟨t2, hx2, hmem2⟩ := at_lt HN.out hlt
        obtain ⟨kind2, name2, labels2, kids2⟩ := t2
        have c_kind2 : wr.cell? ⟨g, off + k * 4, none⟩ = some (.int .i64 kind2) := cell_lit hbr (by omega) (hcell2 k 0 _ _ hx2 (by rw [Ty.pd_mk]; rfl))
        have c_name2 : wr.cell? ⟨g, off + k * 4 + 1, none⟩ = some (.string name2) := cell_lit hbr (by omega) (hcell2 k 1 _ _ hx2 (by rw [Ty.pd_mk]; rfl))
        obtain ⟨labelsV2, c_labels2, r_labels2⟩ : ∃ u, wr.cell? ⟨g, off + k * 4 + 2, none⟩ = some u ∧ Rep wr w1.heap.size (.row 1 (labels2.flatMap strC)) u := cell_rep hbr (by omega) hW1 (hcell2 k 2 _ _ hx2 (by rw [Ty.pd_mk]; rfl))
        have R_labels2 := Lib.hid r_labels2
        clear r_labels2
        obtain ⟨kidsV2, c_kids2, r_kids2⟩ : ∃ u, wr.cell? ⟨g, off + k * 4 + 3, none⟩ = some u ∧ Rep wr w1.heap.size (.row 4 (kids2.flatMap Ty.pd)) u := cell_rep hbr (by omega) hW1 (hcell2 k 3 _ _ hx2 (by rw [Ty.pd_mk]; rfl))
        have R_kids2 := Lib.hid r_kids2
        clear r_kids2
        have HX2 := Lib.hid hx2
        have HM2 := Lib.hid hmem2
        clear hx2 hmem2
        clear hcell2
        have hcall := fun (W : World) (hW : Below wr.heap.size wr W) => HI.out _ HM2.out w1.heap.size [.int .i64 kind2, .string name2, labelsV2, kidsV2] W (Nat.le_trans (parts_mem HM2.out) HG.out.sz) (HG.out.sh _ HM2.out) (HG.out.wf _ HM2.out) (Nat.le_trans hbr.size hW.size) (Ty.close_ (R_labels2.out.below (hW.mono hbr.size)) (R_kids2.out.below (hW.mono hbr.size)))
        have h2 := flatJ_succ HX2.out
        have h3 := flatJ_take_len ts (k + 1)
        have h4 := HG.out.sz
        have h5 := (flat_ok (Ty.mk kind2 name2 labels2 kids2)).1
        have h6 : two xs := by rw [HX.out]; exact ((flatL_ok (ts.take k)).2.2 [] two_nil).1
        obtain ⟨ys, hys⟩ : ∃ ys, ys = (Ty.mk kind2 name2 labels2 kids2).flat := ⟨_, rfl⟩
        simp only [← hys] at hcall h2 h5
        rw [← HX.out] at h2
        obtain ⟨q, hq⟩ : ∃ q, q = ys.length := ⟨_, rfl⟩
        simp only [← hq] at hcall
        rw [h2, joinK_length, ← HM.out, ← hq] at h3
        have hq2 : max m q ≤ 8388608 := by omega
        have hq3 : q ≤ 16777216 := by omega
        have H2 := Lib.hid h2
        have H5 := Lib.hid h5
        have H6 := Lib.hid h6
        have HQ := Lib.hid hq
        have HC := Lib.hid hcall
        clear hcall h2 h3 h4 h5 h6 hys hq
        go_wp2_with fail
        refine (HC.out wr (Below.refl _ _)).mono ?_
        rintro e w2 ⟨u, rfl, hu, hb1'⟩
        have hb2 := hb1'
        replace hu := owns_base hu (Nat.le_refl _)
        have hbr2 := hbr.trans (hb2.mono hbr.size)
        replace hown := owns_step hown hb2
        go_wp2_with fail
        refine (specJoin_row (by omega) hq3 H6.out H5.out hown hu).mono ?_
        rintro e w3 ⟨r, rfl, hr, hb3⟩
        have hbr3 := hbr2.trans (hb3.mono hbr2.size)
        go_wp2_with fail
        go_roundw
        case rel => exact ⟨k + 1, max m q, joinK xs ys, by omega, by go_num, hq2, Lib.hid H2.out.symm, Lib.hid (by rw [joinK_length, ← HM.out, ← HQ.out]), owns_base hr (hB1.trans (hbr2.mono hB1.size)).size, hbr3⟩
        case measure => simp [intOf]; omega
      · have hkn : k = n1 := by omega
        have HT2 : Hid (ts.take k = ts) := List.take_of_length_le (by have := HN.out; omega)
        subst hkn
        have hx := HX.out
        rw [HT2.out] at hx
        have HXX := Lib.hid hx
        clear hx
        have hlit := ownsRow_litAt wr (lo := w.heap.size) (g := wr.heap.size) (k := 1) (e := 2) (xs := [.int .i64 1]) #[.int .i64 1] hBr.size (by decide) rfl rfl rfl
        have hown2 := owns_step hown ((Below.refl wr.heap.size wr).alloc (Nat.le_refl _) (.cells #[.int .i64 1] 2))
        have hB2 : Below w.heap.size w (wr.alloc (.cells #[.int .i64 1] 2)) := hBr.alloc hBr.size _
        go_wp2_with (at_builtin; refine wpList_append_row rfl _ _ 59 rfl w.heap.size 2 i0 (.int .i64 0) 1 8 Try.underlying59 hi hz0 hz1 hz2 rfl (by decide) _ _ _ rfl hlit _ _ _ _ rfl hown2 (i64s_one _) (by simp only [maxLen]; omega) (by omega) hB2.size ?_; intro v' w3 hown' hgrow)
        have hbr3 := hB2.grown hgrow hB2.size (fun g hg => (hlit.lt g hg).1)
        go_ret
        refine ⟨_, rfl, ?_, hbr3⟩
        rw [← HXX.out, ← HM.out, Nat.add_comm m 1]
        exact hown'
  · go_enter Try.func104, Try.ntmps104
    go_wp2_with fail
    obtain ⟨w0, hw0⟩ : ∃ W, W = w.alloc (.cells #[.int .i64 17, .string name, .slice A' n' c', .slice A n c] 51) := ⟨_, rfl⟩
    rw [← hw0]
    have bA : Blk w0 w.heap.size 51 #[.int .i64 17, .string name, .slice A' n' c', .slice A n c] := by rw [hw0]; exact Blk.new w _ _
    have hB0 : Below w.heap.size w w0 := by rw [hw0]; exact (Below.refl _ _).alloc (Nat.le_refl _) _
    clear hw0
    refine (specCases_any ⟨17, name, labels, kids⟩ (HT.out.c (kind := 0) hB0).1 HW.out HS.out (HT.out.c hB0).2).mono ?_
    rintro e w1 ⟨u, rfl, hu, hb1⟩
    rw [← HTS.out] at hu
    have hB1 := hB0.trans (hb1.mono hB0.size)
    obtain ⟨A1, n1, c1, rfl, hnl, hm, hat⟩ := rep_row Ty.pd_length (by decide) hu
    unfold maxLen at hm
    have hW1 := Nat.le_refl w1.heap.size
    have HN := Lib.hid hnl
    clear hnl hu
    go_wp2_with fail
    go_loopw [4, 5] (fun out i wr => ∃ (k m : Nat) (xs : List Int), k ≤ n1 ∧ i = .int .i64 k ∧ m ≤ 8388608 ∧ Hid (xs = Ty.flatJ [] (ts.take k)) ∧ Hid (m = xs.length) ∧ wr.ownsRow w.heap.size 2 1 out m (i64s xs) ∧ Below w1.heap.size w1 wr) (fun _ i _ => n1 - (intOf i).toNat)
    case atStart => exact ⟨0, 0, [], Nat.zero_le _, rfl, by omega, Lib.hid (by rw [List.take_zero, Ty.flatJ]), Lib.hid rfl, World.ownsRow_made w1 #[] 0 hB1.size (by simp) (by simp), (Below.refl _ _).alloc (Nat.le_refl _) _⟩
    case round =>
      obtain ⟨k, m, xs, hk, rfl, hm8, HX, HM, hown, hbr⟩ := hrel
      have hsz := hbr.size
      have hBr := hB1.trans (hbr.mono hB1.size)
      by_cases hlt : k < n1
      · obtain ⟨g, off, rfl, hg2, hcell2⟩ := hat (by omega)
        obtain ⟨t2, hx2, hmem2⟩ := at_lt HN.out hlt
        obtain ⟨kind2, name2, labels2, kids2⟩ := t2
        have c_kind2 : wr.cell? ⟨g, off + k * 4, none⟩ = some (.int .i64 kind2) := cell_lit hbr (by omega) (hcell2 k 0 _ _ hx2 (by rw [Ty.pd_mk]; rfl))
        have c_name2 : wr.cell? ⟨g, off + k * 4 + 1, none⟩ = some (.string name2) := cell_lit hbr (by omega) (hcell2 k 1 _ _ hx2 (by rw [Ty.pd_mk]; rfl))
        obtain ⟨labelsV2, c_labels2, r_labels2⟩ : ∃ u, wr.cell? ⟨g, off + k * 4 + 2, none⟩ = some u ∧ Rep wr w1.heap.size (.row 1 (labels2.flatMap strC)) u := cell_rep hbr (by omega) hW1 (hcell2 k 2 _ _ hx2 (by rw [Ty.pd_mk]; rfl))
        have R_labels2 := Lib.hid r_labels2
        clear r_labels2
        obtain ⟨kidsV2, c_kids2, r_kids2⟩ : ∃ u, wr.cell? ⟨g, off + k * 4 + 3, none⟩ = some u ∧ Rep wr w1.heap.size (.row 4 (kids2.flatMap Ty.pd)) u := cell_rep hbr (by omega) hW1 (hcell2 k 3 _ _ hx2 (by rw [Ty.pd_mk]; rfl))
        have R_kids2 := Lib.hid r_kids2
        clear r_kids2
        have HX2 := Lib.hid hx2
        have HM2 := Lib.hid hmem2
        clear hx2 hmem2
        clear hcell2
        have hcall := fun (W : World) (hW : Below wr.heap.size wr W) => HI.out _ HM2.out w1.heap.size [.int .i64 kind2, .string name2, labelsV2, kidsV2] W (Nat.le_trans (parts_mem HM2.out) HG.out.sz) (HG.out.sh _ HM2.out) (HG.out.wf _ HM2.out) (Nat.le_trans hbr.size hW.size) (Ty.close_ (R_labels2.out.below (hW.mono hbr.size)) (R_kids2.out.below (hW.mono hbr.size)))
        have h2 := flatJ_succ HX2.out
        have h3 := flatJ_take_len ts (k + 1)
        have h4 := HG.out.sz
        have h5 := (flat_ok (Ty.mk kind2 name2 labels2 kids2)).1
        have h6 : two xs := by rw [HX.out]; exact ((flatL_ok (ts.take k)).2.2 [] two_nil).1
        obtain ⟨ys, hys⟩ : ∃ ys, ys = (Ty.mk kind2 name2 labels2 kids2).flat := ⟨_, rfl⟩
        simp only [← hys] at hcall h2 h5
        rw [← HX.out] at h2
        obtain ⟨q, hq⟩ : ∃ q, q = ys.length := ⟨_, rfl⟩
        simp only [← hq] at hcall
        rw [h2, joinK_length, ← HM.out, ← hq] at h3
        have hq2 : max m q ≤ 8388608 := by omega
        have hq3 : q ≤ 16777216 := by omega
        have H2 := Lib.hid h2
        have H5 := Lib.hid h5
        have H6 := Lib.hid h6
        have HQ := Lib.hid hq
        have HC := Lib.hid hcall
        clear hcall h2 h3 h4 h5 h6 hys hq
        go_wp2_with fail
        refine (HC.out wr (Below.refl _ _)).mono ?_
        rintro e w2 ⟨u, rfl, hu, hb1'⟩
        have hb2 := hb1'
        replace hu := owns_base hu (Nat.le_refl _)
        have hbr2 := hbr.trans (hb2.mono hbr.size)
        replace hown := owns_step hown hb2
        go_wp2_with fail
        refine (specJoin_row (by omega) hq3 H6.out H5.out hown hu).mono ?_
        rintro e w3 ⟨r, rfl, hr, hb3⟩
        have hbr3 := hbr2.trans (hb3.mono hbr2.size)
        go_wp2_with fail
        go_roundw
        case rel => exact ⟨k + 1, max m q, joinK xs ys, by omega, by go_num, hq2, Lib.hid H2.out.symm, Lib.hid (by rw [joinK_length, ← HM.out, ← HQ.out]), owns_base hr (hB1.trans (hbr2.mono hB1.size)).size, hbr3⟩
        case measure => simp [intOf]; omega
      · have hkn : k = n1 := by omega
        have HT2 : Hid (ts.take k = ts) := List.take_of_length_le (by have := HN.out; omega)
        subst hkn
        have hx := HX.out
        rw [HT2.out] at hx
        have HXX := Lib.hid hx
        clear hx
        have hlit := ownsRow_litAt wr (lo := w.heap.size) (g := wr.heap.size) (k := 1) (e := 2) (xs := [.int .i64 1]) #[.int .i64 1] hBr.size (by decide) rfl rfl rfl
        have hown2 := owns_step hown ((Below.refl wr.heap.size wr).alloc (Nat.le_refl _) (.cells #[.int .i64 1] 2))
        have hB2 : Below w.heap.size w (wr.alloc (.cells #[.int .i64 1] 2)) := hBr.alloc hBr.size _
        go_wp2_with (at_builtin; refine wpList_append_row rfl _ _ 59 rfl w.heap.size 2 i0 (.int .i64 0) 1 8 Try.underlying59 hi hz0 hz1 hz2 rfl (by decide) _ _ _ rfl hlit _ _ _ _ rfl hown2 (i64s_one _) (by simp only [maxLen]; omega) (by omega) hB2.size ?_; intro v' w3 hown' hgrow)
        have hbr3 := hB2.grown hgrow hB2.size (fun g hg => (hlit.lt g hg).1)
        go_ret
        refine ⟨_, rfl, ?_, hbr3⟩
        rw [← HXX.out, ← HM.out, Nat.add_comm m 1]
        exact hown'
theorem specFlat_unitT : FlC 104 unitT := by
  intro B cs w hp hs hw hB h
  rw [unitT] at hw h
  obtain ⟨A, n, c, A', n', c', rfl, ht⟩ := tyIn hB hw h
  exact specFlat_unit (Lib.hid ht) rfl
theorem specFlat_all : ∀ t : Ty, FlC 104 t := Ty.rec_kids fun kind name labels kids ih => by
  intro B cs w hp hs hw hB h
  obtain ⟨A, n, c, A', n', c', rfl, ht⟩ := tyIn hB hw h
  obtain ⟨hg, hgk⟩ := good_cases hp hs hw
  by_cases k1 : kind = 1
  · exact specFlat_unit (Lib.hid ht) k1
  by_cases k9 : kind = 9
  · exact specFlat_s64 (Lib.hid ht) k9
  by_cases k11 : kind = 11
  · exact specFlat_text (Lib.hid ht) k11
  by_cases k12 : kind = 12
  · exact specFlat_list (Lib.hid ht) k12
  by_cases k15 : kind = 15 ∨ kind = 16
  · exact specFlat_row (Lib.hid ht) k15 (Lib.hid ih) (Lib.hid hgk)
  by_cases k13 : kind = 13 ∨ kind = 14 ∨ kind = 17
  · refine specFlat_var (Lib.hid ht) k13 (Lib.hid fun t hm => ?_) (Lib.hid hg) (Lib.hid hs) (Lib.hid hw)
    rw [Ty.cases] at hm
    split at hm
    · rcases List.mem_cons.1 hm with rfl | hm
      · exact specFlat_unitT
      · exact ih t hm
    split at hm
    · exact ih t hm
    · exact absurd hm List.not_mem_nil
  · exact specFlat_other (Lib.hid ht) (by simpa using k1) (by simpa using k9) (by simpa using k11) (by simpa using k12) (by simp; omega) (by simp; omega) (by simp; omega) (by simp; omega) (by simp; omega)
end Go.Proofs.Ytmmeaakhikcigaa

