/-
  spec.SamePlan, impl.SamePlan: the same bool (by program: gen_samepl.py).
-/
import Derived.Test.YtnedcpoengcbaaaSamePl
import Derived.Deep.RegionHeld3
namespace Go.Proofs.Ytnedcpoengcbaaa
open Go.RowKit
set_option linter.unusedVariables false
set_option linter.unusedSimpArgs false
set_option linter.unnecessarySimpa false
set_option maxRecDepth 100000

def planEq : Plan → Plan → Bool | ⟨types, from_, to_, flat, mem⟩, ⟨Ztypes, Zfrom_, Zto_, Zflat, Zmem⟩ => same2 (tyEq 100) types Ztypes && decide (from_ = Zfrom_) && decide (to_ = Zto_) && movesEq 100 flat Zflat && movesEq 100 mem Zmem
theorem sameTypeT_enter (a : Array Value) (W : World) : Sem.run Try.prog (callFunc 42 a) W = .ok (.enter 42 a) W := by kernel_rfl
set_option maxHeartbeats 3200000 in
theorem implSamePlan_any (x y : Plan) {B : Nat} {cs ds : List Value} {w : World} (hB : B ≤ w.heap.size) (h : RepC w B (Plan.pd x) cs) (k : RepC w B (Plan.pd y) ds) :
    Calls Try.prog 14 #[.agg cs.toArray, .agg ds.toArray] w fun e w' => e = .returned (.bool (planEq x y)) ∧ Below w.heap.size w w' := by
  obtain ⟨types, from_, to_, flat, mem⟩ := x
  obtain ⟨typesV, flatV, memV, rfl, r_types, r_flat, r_mem⟩ := Plan.open_ h
  obtain ⟨typesA, typesN, typesC, rfl⟩ := r_types.form
  have R_types := Lib.hid r_types
  clear r_types
  obtain ⟨flatA, flatN, flatC, rfl⟩ := r_flat.form
  have R_flat := Lib.hid r_flat
  clear r_flat
  obtain ⟨memA, memN, memC, rfl⟩ := r_mem.form
  have R_mem := Lib.hid r_mem
  clear r_mem
  obtain ⟨Ztypes, Zfrom_, Zto_, Zflat, Zmem⟩ := y
  obtain ⟨ZtypesV, ZflatV, ZmemV, rfl, r_Ztypes, r_Zflat, r_Zmem⟩ := Plan.open_ k
  obtain ⟨ZtypesA, ZtypesN, ZtypesC, rfl⟩ := r_Ztypes.form
  have R_Ztypes := Lib.hid r_Ztypes
  clear r_Ztypes
  obtain ⟨ZflatA, ZflatN, ZflatC, rfl⟩ := r_Zflat.form
  have R_Zflat := Lib.hid r_Zflat
  clear r_Zflat
  obtain ⟨ZmemA, ZmemN, ZmemC, rfl⟩ := r_Zmem.form
  have R_Zmem := Lib.hid r_Zmem
  clear r_Zmem
  clear h k
  have HF : Hid (planEq (⟨types, from_, to_, flat, mem⟩ : Plan) (⟨Ztypes, Zfrom_, Zto_, Zflat, Zmem⟩ : Plan) = (same2 (tyEq 100) types Ztypes && decide (from_ = Zfrom_) && decide (to_ = Zto_) && movesEq 100 flat Zflat && movesEq 100 mem Zmem)) := Lib.hid rfl
  obtain ⟨R, hR⟩ : ∃ R, R = planEq (⟨types, from_, to_, flat, mem⟩ : Plan) (⟨Ztypes, Zfrom_, Zto_, Zflat, Zmem⟩ : Plan) := ⟨_, rfl⟩
  rw [← hR] at HF ⊢
  clear hR
  obtain ⟨w0, hw0⟩ : ∃ W, W = (w.alloc (.cells #[.slice typesA typesN typesC, .int .i64 from_, .int .i64 to_, .slice flatA flatN flatC, .slice memA memN memC] 43)).alloc (.cells #[.slice ZtypesA ZtypesN ZtypesC, .int .i64 Zfrom_, .int .i64 Zto_, .slice ZflatA ZflatN ZflatC, .slice ZmemA ZmemN ZmemC] 43) := ⟨_, rfl⟩
  have bA : Blk w0 w.heap.size 43 #[.slice typesA typesN typesC, .int .i64 from_, .int .i64 to_, .slice flatA flatN flatC, .slice memA memN memC] := by rw [hw0]; exact (Blk.new w _ _).alloc _
  have bC : Blk w0 (w.heap.size + 1) 43 #[.slice ZtypesA ZtypesN ZtypesC, .int .i64 Zfrom_, .int .i64 Zto_, .slice ZflatA ZflatN ZflatC, .slice ZmemA ZmemN ZmemC] := by rw [hw0]; have := Blk.new (w.alloc (.cells #[.slice typesA typesN typesC, .int .i64 from_, .int .i64 to_, .slice flatA flatN flatC, .slice memA memN memC] 43)) 43 #[.slice ZtypesA ZtypesN ZtypesC, .int .i64 Zfrom_, .int .i64 Zto_, .slice ZflatA ZflatN ZflatC, .slice ZmemA ZmemN ZmemC]; simpa using this
  have hB0 : Below w.heap.size w w0 := by rw [hw0]; exact ((Below.refl _ _).alloc (Nat.le_refl _) _).alloc (by simp) _
  have hs0 := hB0.size
  go_enter Try.func14, Try.ntmps14
  go_wp2_with fail
  rw [← hw0]
  clear hw0
  refine (eqfTypeS_any 42 #[] (tyEq 100) (Nat.le_trans hB hs0) (R_types.out.below (hB0.mono hB)) (R_Ztypes.out.below (hB0.mono hB)) sameTypeT_enter (fun x _ y _ cs ds W hW hr1 hr2 => implSameTypeT_any x y (Nat.le_trans (Nat.le_trans hB hs0) hW.size) hr1 hr2)).mono ?_
  rintro e w1 ⟨rfl, hb1⟩
  have hB1 := hB0.trans (hb1.mono hs0)
  replace bA := bA.step hb1
  replace bC := bC.step hb1
  have e_from_ : w1.cell? ⟨w.heap.size, 1, none⟩ = some (.int .i64 from_) := bA.cell 1
  have e_Zfrom_ : w1.cell? ⟨w.heap.size + 1, 1, none⟩ = some (.int .i64 Zfrom_) := bC.cell 1
  have e_to_ : w1.cell? ⟨w.heap.size, 2, none⟩ = some (.int .i64 to_) := bA.cell 2
  have e_Zto_ : w1.cell? ⟨w.heap.size + 1, 2, none⟩ = some (.int .i64 Zto_) := bC.cell 2
  have e_flat : w1.cell? ⟨w.heap.size, 3, none⟩ = some (.slice flatA flatN flatC) := bA.cell 3
  have e_Zflat : w1.cell? ⟨w.heap.size + 1, 3, none⟩ = some (.slice ZflatA ZflatN ZflatC) := bC.cell 3
  have e_mem : w1.cell? ⟨w.heap.size, 4, none⟩ = some (.slice memA memN memC) := bA.cell 4
  have e_Zmem : w1.cell? ⟨w.heap.size + 1, 4, none⟩ = some (.slice ZmemA ZmemN ZmemC) := bC.cell 4
  cases hi : same2 (tyEq 100) types Ztypes
  case false =>
    have HQ : Hid (R = false) := by show _ = _; rw [HF.out]; simp [hi]
    go_wp2_with fail
    go_ret
    exact ⟨ret_bool HQ.out.symm, hB1⟩
  by_cases h_from_ : from_ = Zfrom_
  case neg =>
    have HQ : Hid (R = false) := by show _ = _; rw [HF.out]; simp [h_from_]
    have hs : (from_ == Zfrom_) = false := by simpa using h_from_
    go_wp2_with fail
    go_ret
    exact ⟨ret_bool HQ.out.symm, hB1⟩
  subst h_from_
  by_cases h_to_ : to_ = Zto_
  case neg =>
    have HQ : Hid (R = false) := by show _ = _; rw [HF.out]; simp [h_to_]
    have hs : (to_ == Zto_) = false := by simpa using h_to_
    go_wp2_with fail
    go_ret
    exact ⟨ret_bool HQ.out.symm, hB1⟩
  subst h_to_
  have HG : Hid (R = (movesEq 100 flat Zflat && movesEq 100 mem Zmem)) := by show _ = _; rw [HF.out, hi]; simp
  clear hi
  go_wp2_with fail
  clear e_from_ e_Zfrom_ e_to_ e_Zto_ e_flat e_Zflat e_mem e_Zmem
  refine (implSameMoves_any 100 (Nat.le_refl _) flat Zflat B _ _ w1 (Nat.le_trans hB hB1.size) (R_flat.out.below (hB1.mono hB)) (R_Zflat.out.below (hB1.mono hB))).mono ?_
  rintro e w2 ⟨rfl, hb2⟩
  have hB2 := hB1.trans (hb2.mono hB1.size)
  replace bA := bA.step hb2
  replace bC := bC.step hb2
  have e_mem : w2.cell? ⟨w.heap.size, 4, none⟩ = some (.slice memA memN memC) := bA.cell 4
  have e_Zmem : w2.cell? ⟨w.heap.size + 1, 4, none⟩ = some (.slice ZmemA ZmemN ZmemC) := bC.cell 4
  cases hf : movesEq 100 flat Zflat
  case false =>
    go_wp2_with fail
    go_ret
    exact ⟨ret_bool (by rw [HG.out, hf]; rfl), hB2⟩
  go_wp2_with fail
  clear e_mem e_Zmem
  refine (implSameMoves_any 100 (Nat.le_refl _) mem Zmem B _ _ w2 (Nat.le_trans hB hB2.size) (R_mem.out.below (hB2.mono hB)) (R_Zmem.out.below (hB2.mono hB))).mono ?_
  rintro e w3 ⟨rfl, hb3⟩
  go_wp2_with fail
  go_ret
  exact ⟨ret_bool (by rw [HG.out, hf]; rfl), hB2.trans (hb3.mono hB2.size)⟩
set_option maxHeartbeats 3200000 in
theorem specSamePlan_any (x y : Plan) {B : Nat} {cs ds : List Value} {w : World} (hB : B ≤ w.heap.size) (h : RepC w B (Plan.pd x) cs) (k : RepC w B (Plan.pd y) ds) :
    Calls Try.prog 12 #[.agg cs.toArray, .agg ds.toArray] w fun e w' => e = .returned (.bool (planEq x y)) ∧ Below w.heap.size w w' := by
  obtain ⟨types, from_, to_, flat, mem⟩ := x
  obtain ⟨typesV, flatV, memV, rfl, r_types, r_flat, r_mem⟩ := Plan.open_ h
  obtain ⟨typesA, typesN, typesC, rfl⟩ := r_types.form
  have R_types := Lib.hid r_types
  clear r_types
  obtain ⟨flatA, flatN, flatC, rfl⟩ := r_flat.form
  have R_flat := Lib.hid r_flat
  clear r_flat
  obtain ⟨memA, memN, memC, rfl⟩ := r_mem.form
  have R_mem := Lib.hid r_mem
  clear r_mem
  obtain ⟨Ztypes, Zfrom_, Zto_, Zflat, Zmem⟩ := y
  obtain ⟨ZtypesV, ZflatV, ZmemV, rfl, r_Ztypes, r_Zflat, r_Zmem⟩ := Plan.open_ k
  obtain ⟨ZtypesA, ZtypesN, ZtypesC, rfl⟩ := r_Ztypes.form
  have R_Ztypes := Lib.hid r_Ztypes
  clear r_Ztypes
  obtain ⟨ZflatA, ZflatN, ZflatC, rfl⟩ := r_Zflat.form
  have R_Zflat := Lib.hid r_Zflat
  clear r_Zflat
  obtain ⟨ZmemA, ZmemN, ZmemC, rfl⟩ := r_Zmem.form
  have R_Zmem := Lib.hid r_Zmem
  clear r_Zmem
  clear h k
  have HF : Hid (planEq (⟨types, from_, to_, flat, mem⟩ : Plan) (⟨Ztypes, Zfrom_, Zto_, Zflat, Zmem⟩ : Plan) = (same2 (tyEq 100) types Ztypes && decide (from_ = Zfrom_) && decide (to_ = Zto_) && movesEq 100 flat Zflat && movesEq 100 mem Zmem)) := Lib.hid rfl
  obtain ⟨R, hR⟩ : ∃ R, R = planEq (⟨types, from_, to_, flat, mem⟩ : Plan) (⟨Ztypes, Zfrom_, Zto_, Zflat, Zmem⟩ : Plan) := ⟨_, rfl⟩
  rw [← hR] at HF ⊢
  clear hR
  obtain ⟨_, _, _, he, hn_types, hm_types, hat_types⟩ := rep_row Ty.pd_length (by decide) R_types.out
  injection he with e1 e2 e3
  subst e1 e2 e3
  unfold maxLen at hm_types
  have HN_types := Lib.hid hn_types
  clear hn_types
  obtain ⟨_, _, _, he, hn_Ztypes, hm_Ztypes, hat_Ztypes⟩ := rep_row Ty.pd_length (by decide) R_Ztypes.out
  injection he with e1 e2 e3
  subst e1 e2 e3
  unfold maxLen at hm_Ztypes
  have HN_Ztypes := Lib.hid hn_Ztypes
  clear hn_Ztypes
  by_cases hl : typesN = ZtypesN
  case neg =>
    have HQ : Hid (R = false) := by show _ = _; rw [HF.out]; rw [same2_ne (p := tyEq 100) (by have := HN_types.out; have := HN_Ztypes.out; omega)]; simp
    have hs : ((typesN : Int) != (ZtypesN : Int)) = true := by simp; omega
    clear hat_types hat_Ztypes
    go_enter Try.func12, Try.ntmps12
    go_wp2_with fail
    go_ret
    exact ⟨ret_bool HQ.out.symm, ((Below.refl _ _).alloc (Nat.le_refl _) _).alloc (by simp) _⟩
  subst hl
  by_cases h_from_ : from_ = Zfrom_
  case neg =>
    have HQ : Hid (R = false) := by show _ = _; rw [HF.out]; simp [h_from_]
    have hs : (from_ != Zfrom_) = true := by simpa using h_from_
    clear hat_types hat_Ztypes
    go_enter Try.func12, Try.ntmps12
    go_wp2_with fail
    go_ret
    exact ⟨ret_bool HQ.out.symm, ((Below.refl _ _).alloc (Nat.le_refl _) _).alloc (by simp) _⟩
  subst h_from_
  by_cases h_to_ : to_ = Zto_
  case neg =>
    have HQ : Hid (R = false) := by show _ = _; rw [HF.out]; simp [h_to_]
    have hs : (to_ != Zto_) = true := by simpa using h_to_
    clear hat_types hat_Ztypes
    go_enter Try.func12, Try.ntmps12
    go_wp2_with fail
    go_ret
    exact ⟨ret_bool HQ.out.symm, ((Below.refl _ _).alloc (Nat.le_refl _) _).alloc (by simp) _⟩
  subst h_to_
  have HG : Hid (R = (same2 (tyEq 100) types Ztypes && movesEq 100 flat Zflat && movesEq 100 mem Zmem)) := by show _ = _; rw [HF.out]; simp
  obtain ⟨w0, hw0⟩ : ∃ W, W = (w.alloc (.cells #[.slice typesA typesN typesC, .int .i64 from_, .int .i64 to_, .slice flatA flatN flatC, .slice memA memN memC] 43)).alloc (.cells #[.slice ZtypesA typesN ZtypesC, .int .i64 from_, .int .i64 to_, .slice ZflatA ZflatN ZflatC, .slice ZmemA ZmemN ZmemC] 43) := ⟨_, rfl⟩
  have bA : Blk w0 w.heap.size 43 #[.slice typesA typesN typesC, .int .i64 from_, .int .i64 to_, .slice flatA flatN flatC, .slice memA memN memC] := by rw [hw0]; exact (Blk.new w _ _).alloc _
  have bC : Blk w0 (w.heap.size + 1) 43 #[.slice ZtypesA typesN ZtypesC, .int .i64 from_, .int .i64 to_, .slice ZflatA ZflatN ZflatC, .slice ZmemA ZmemN ZmemC] := by rw [hw0]; have := Blk.new (w.alloc (.cells #[.slice typesA typesN typesC, .int .i64 from_, .int .i64 to_, .slice flatA flatN flatC, .slice memA memN memC] 43)) 43 #[.slice ZtypesA typesN ZtypesC, .int .i64 from_, .int .i64 to_, .slice ZflatA ZflatN ZflatC, .slice ZmemA ZmemN ZmemC]; simpa using this
  have hB0 : Below w.heap.size w w0 := by rw [hw0]; exact ((Below.refl _ _).alloc (Nat.le_refl _) _).alloc (by simp) _
  have hs0 := hB0.size
  go_enter Try.func12, Try.ntmps12
  have e0 : w0.cell? ⟨w.heap.size, 0, none⟩ = some (.slice typesA typesN typesC) := bA.cell 0
  have e1 : w0.cell? ⟨w.heap.size + 1, 0, none⟩ = some (.slice ZtypesA typesN ZtypesC) := bC.cell 0
  go_wp2_with fail
  rw [← hw0]
  clear hw0 e0 e1
  go_loopw [5] (fun i wr => ∃ k : Nat, k ≤ typesN ∧ i = .int .i64 k ∧ Hid (∀ (j : Nat) (a b : Ty), j < k → types[j]? = some a → Ztypes[j]? = some b → tyEq 100 a b = true) ∧ Below w0.heap.size w0 wr) (fun i _ => typesN - (intOf i).toNat)
  case atStart => exact ⟨0, Nat.zero_le _, rfl, Lib.hid fun j a b h => absurd h (by omega), Below.refl _ _⟩
  case round =>
    obtain ⟨k, hk, rfl, HP2, hbr⟩ := hrel
    have hBr := hB0.trans (hbr.mono hs0)
    have hsz := hbr.size
    have hA := bA.lt
    have hC := bC.lt
    have a3 : wr.cell? ⟨w.heap.size, 0, none⟩ = some (.slice typesA typesN typesC) := (bA.step hbr).cell 0
    have a4 : wr.cell? ⟨w.heap.size + 1, 0, none⟩ = some (.slice ZtypesA typesN ZtypesC) := (bC.step hbr).cell 0
    by_cases hlt : k < typesN
    · obtain ⟨g, off, rfl, hg, hcell⟩ := hat_types (by omega)
      obtain ⟨g', off', rfl, hg', hcell'⟩ := hat_Ztypes (by omega)
      obtain ⟨x, hx, _⟩ := at_lt HN_types.out hlt
      obtain ⟨y, hy, _⟩ := at_lt HN_Ztypes.out hlt
      have hlt' : (k : Int) < (typesN : Int) := by omega
      obtain ⟨x_kind, x_name, x_labels, x_kids⟩ := x
      obtain ⟨y_kind, y_name, y_labels, y_kids⟩ := y
      have c_x_kind : wr.cell? ⟨g, off + k * 4, none⟩ = some (.int .i64 x_kind) := cell_lit hBr (by omega) (hcell k 0 _ _ hx (by rw [Ty.pd_mk]; rfl))
      have c_y_kind : wr.cell? ⟨g', off' + k * 4, none⟩ = some (.int .i64 y_kind) := cell_lit hBr (by omega) (hcell' k 0 _ _ hy (by rw [Ty.pd_mk]; rfl))
      have c_x_name : wr.cell? ⟨g, off + k * 4 + 1, none⟩ = some (.string x_name) := cell_lit hBr (by omega) (hcell k 1 _ _ hx (by rw [Ty.pd_mk]; rfl))
      have c_y_name : wr.cell? ⟨g', off' + k * 4 + 1, none⟩ = some (.string y_name) := cell_lit hBr (by omega) (hcell' k 1 _ _ hy (by rw [Ty.pd_mk]; rfl))
      obtain ⟨x_labelsV, c_x_labels, r_x_labels⟩ : ∃ u, wr.cell? ⟨g, off + k * 4 + 2, none⟩ = some u ∧ Rep wr B (.row 1 (x_labels.flatMap strC)) u := cell_rep hBr (by omega) hB (hcell k 2 _ _ hx (by rw [Ty.pd_mk]; rfl))
      have R_x_labels := Lib.hid r_x_labels
      clear r_x_labels
      obtain ⟨y_labelsV, c_y_labels, r_y_labels⟩ : ∃ u, wr.cell? ⟨g', off' + k * 4 + 2, none⟩ = some u ∧ Rep wr B (.row 1 (y_labels.flatMap strC)) u := cell_rep hBr (by omega) hB (hcell' k 2 _ _ hy (by rw [Ty.pd_mk]; rfl))
      have R_y_labels := Lib.hid r_y_labels
      clear r_y_labels
      obtain ⟨x_kidsV, c_x_kids, r_x_kids⟩ : ∃ u, wr.cell? ⟨g, off + k * 4 + 3, none⟩ = some u ∧ Rep wr B (.row 4 (x_kids.flatMap Ty.pd)) u := cell_rep hBr (by omega) hB (hcell k 3 _ _ hx (by rw [Ty.pd_mk]; rfl))
      have R_x_kids := Lib.hid r_x_kids
      clear r_x_kids
      obtain ⟨y_kidsV, c_y_kids, r_y_kids⟩ : ∃ u, wr.cell? ⟨g', off' + k * 4 + 3, none⟩ = some u ∧ Rep wr B (.row 4 (y_kids.flatMap Ty.pd)) u := cell_rep hBr (by omega) hB (hcell' k 3 _ _ hy (by rw [Ty.pd_mk]; rfl))
      have R_y_kids := Lib.hid r_y_kids
      clear r_y_kids
      have CC := Lib.hid (specSameTypeT_any ⟨x_kind, x_name, x_labels, x_kids⟩ ⟨y_kind, y_name, y_labels, y_kids⟩ (B := B) (cs := [.int .i64 x_kind, .string x_name, x_labelsV, x_kidsV]) (ds := [.int .i64 y_kind, .string y_name, y_labelsV, y_kidsV]) (w := wr.drew) (Nat.le_trans hB hBr.size) ((Ty.close_ R_x_labels.out R_x_kids.out).below (Below.refl _ _).drew) ((Ty.close_ R_y_labels.out R_y_kids.out).below (Below.refl _ _).drew))
      have HX := Lib.hid hx
      have HY := Lib.hid hy
      clear hx hy hcell hcell' hat_types hat_Ztypes bA bC
      go_wp2_with fail
      go_region_held3 (fun w' => w'.cell? ⟨w.heap.size, 0, none⟩ = some (.slice (some ⟨g, off, none⟩) typesN typesC) ∧ w'.cell? ⟨w.heap.size + 1, 0, none⟩ = some (.slice (some ⟨g', off', none⟩) typesN ZtypesC) ∧ w'.cell? ⟨g, off + k * 4, none⟩ = some (.int .i64 x_kind) ∧ w'.cell? ⟨g', off' + k * 4, none⟩ = some (.int .i64 y_kind) ∧ w'.cell? ⟨g, off + k * 4 + 1, none⟩ = some (.string x_name) ∧ w'.cell? ⟨g', off' + k * 4 + 1, none⟩ = some (.string y_name) ∧ w'.cell? ⟨g, off + k * 4 + 2, none⟩ = some (x_labelsV) ∧ w'.cell? ⟨g', off' + k * 4 + 2, none⟩ = some (y_labelsV) ∧ w'.cell? ⟨g, off + k * 4 + 3, none⟩ = some (x_kidsV) ∧ w'.cell? ⟨g', off' + k * 4 + 3, none⟩ = some (y_kidsV))
        (first | go_keep | exact ⟨(hb9.cell (p := ⟨w.heap.size, 0, none⟩) (by show w.heap.size < wr.heap.size; omega)).trans a3, (hb9.cell (p := ⟨w.heap.size + 1, 0, none⟩) (by show w.heap.size + 1 < wr.heap.size; omega)).trans a4, (hb9.cell (p := ⟨g, off + k * 4, none⟩) (by show g < wr.heap.size; omega)).trans c_x_kind, (hb9.cell (p := ⟨g', off' + k * 4, none⟩) (by show g' < wr.heap.size; omega)).trans c_y_kind, (hb9.cell (p := ⟨g, off + k * 4 + 1, none⟩) (by show g < wr.heap.size; omega)).trans c_x_name, (hb9.cell (p := ⟨g', off' + k * 4 + 1, none⟩) (by show g' < wr.heap.size; omega)).trans c_y_name, (hb9.cell (p := ⟨g, off + k * 4 + 2, none⟩) (by show g < wr.heap.size; omega)).trans c_x_labels, (hb9.cell (p := ⟨g', off' + k * 4 + 2, none⟩) (by show g' < wr.heap.size; omega)).trans c_y_labels, (hb9.cell (p := ⟨g, off + k * 4 + 3, none⟩) (by show g < wr.heap.size; omega)).trans c_x_kids, (hb9.cell (p := ⟨g', off' + k * 4 + 3, none⟩) (by show g' < wr.heap.size; omega)).trans c_y_kids⟩)
        (first | (go_at_call 37; refine CC.out.mono ?_; rintro e w9 ⟨rfl, hb9'⟩; have hb9 : Below wr.heap.size wr w9 := (Below.refl _ _).drew.trans hb9'))
      clear a3 a4
      have hB9 := hBr.trans (hb9.mono hBr.size)
      have hb9w := hbr.trans (hb9.mono hsz)
      cases hbq : tyEq 100 ⟨x_kind, x_name, x_labels, x_kids⟩ ⟨y_kind, y_name, y_labels, y_kids⟩
      · have HQ2 : Hid (same2 (tyEq 100) types Ztypes = false) := same2_stop HX.out HY.out hbq
        go_wp2_with fail
        go_ret
        exact ⟨ret_bool (by rw [HG.out, HQ2.out]; rfl), hB9⟩
      · have HQ2 := Lib.hid (same2_next HP2.out HX.out HY.out hbq)
        go_wp2_with fail
        go_roundw
        case rel => exact ⟨k + 1, by omega, by go_num, HQ2, hb9w⟩
        case measure => simp [intOf]; omega
    · have HQ2 : Hid (same2 (tyEq 100) types Ztypes = true) := same2_end hlt HN_types.out HN_Ztypes.out HP2.out
      clear hat_types hat_Ztypes
      replace bA := bA.step hbr
      replace bC := bC.step hbr
      have e_flat : wr.cell? ⟨w.heap.size, 3, none⟩ = some (.slice flatA flatN flatC) := bA.cell 3
      have e_Zflat : wr.cell? ⟨w.heap.size + 1, 3, none⟩ = some (.slice ZflatA ZflatN ZflatC) := bC.cell 3
      go_wp2_with fail
      clear e_flat e_Zflat a3 a4
      refine (specSameMoves_any 100 (Nat.le_refl _) flat Zflat B _ _ wr (Nat.le_trans hB hBr.size) (R_flat.out.below (hBr.mono hB)) (R_Zflat.out.below (hBr.mono hB))).mono ?_
      rintro e w2 ⟨rfl, hb2⟩
      have hB2 := hBr.trans (hb2.mono hBr.size)
      replace bA := bA.step hb2
      replace bC := bC.step hb2
      have e_mem : w2.cell? ⟨w.heap.size, 4, none⟩ = some (.slice memA memN memC) := bA.cell 4
      have e_Zmem : w2.cell? ⟨w.heap.size + 1, 4, none⟩ = some (.slice ZmemA ZmemN ZmemC) := bC.cell 4
      cases hf : movesEq 100 flat Zflat
      case false =>
        go_wp2_with fail
        go_ret
        exact ⟨ret_bool (by rw [HG.out, HQ2.out, hf]; rfl), hB2⟩
      go_wp2_with fail
      clear e_mem e_Zmem
      refine (specSameMoves_any 100 (Nat.le_refl _) mem Zmem B _ _ w2 (Nat.le_trans hB hB2.size) (R_mem.out.below (hB2.mono hB)) (R_Zmem.out.below (hB2.mono hB))).mono ?_
      rintro e w3 ⟨rfl, hb3⟩
      go_wp2_with fail
      go_ret
      exact ⟨ret_bool (by rw [HG.out, HQ2.out, hf]; rfl), hB2.trans (hb3.mono hB2.size)⟩
theorem specSamePlan_ok (x y : Plan) (_ : PD.wfL (Plan.pd x)) (_ : PD.szL (Plan.pd x) ≤ 1048576) (_ : PD.wfL (Plan.pd y)) (_ : PD.szL (Plan.pd y) ≤ 1048576) : ∀ (B : Nat) (cs ds : List Value) (w : World), B ≤ w.heap.size → RepC w B (Plan.pd x) cs → RepC w B (Plan.pd y) ds →
    Calls Try.prog 12 #[.agg cs.toArray, .agg ds.toArray] w fun e w' => e = .returned (.bool (planEq x y)) ∧ Below w.heap.size w w' := fun B cs ds w hB h k => specSamePlan_any x y hB h k
theorem implSamePlan_ok (x y : Plan) (_ : PD.wfL (Plan.pd x)) (_ : PD.szL (Plan.pd x) ≤ 1048576) (_ : PD.wfL (Plan.pd y)) (_ : PD.szL (Plan.pd y) ≤ 1048576) : ∀ (B : Nat) (cs ds : List Value) (w : World), B ≤ w.heap.size → RepC w B (Plan.pd x) cs → RepC w B (Plan.pd y) ds →
    Calls Try.prog 14 #[.agg cs.toArray, .agg ds.toArray] w fun e w' => e = .returned (.bool (planEq x y)) ∧ Below w.heap.size w w' := fun B cs ds w hB h k => implSamePlan_any x y hB h k
end Go.Proofs.Ytnedcpoengcbaaa
