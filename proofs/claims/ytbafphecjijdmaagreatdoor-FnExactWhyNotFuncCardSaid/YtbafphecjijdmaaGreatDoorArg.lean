/-
  From the laws' parameters to the structs (by program: tygen2.py).
-/
import Derived.Test.YtbafphecjijdmaaGreatDoorTy
namespace Go.Proofs.YtbafphecjijdmaaGreatDoor
open Go.RowKit
set_option linter.unusedVariables false
set_option linter.unusedSimpArgs false
set_option linter.unnecessarySimpa false
set_option maxRecDepth 100000

open Go.ChangeShapes Go.WideShapes Go.ChangeAt
/-- the laws' parameter types, cell by cell -/
def lawDom : Dom :=
  (2, [.int]) ::
  (9, [.str]) ::
  (4, [.bool]) ::
  (140, [.sl 2]) ::
  (22, [.sl 9]) ::
  (50, [.sl 52]) ::
  (52, [.int, .str, .sl 9, .sl 52]) ::
  (49, [.sl 112]) ::
  (112, [.str, .int, .str, .sl 9, .sl 52]) ::
  (54, [.sl 112, .int, .str, .sl 9, .sl 52, .bool]) ::
  (23, [.sl 92]) ::
  (92, [.str, .sl 112, .int, .str, .sl 9, .sl 52, .bool]) ::
  (38, [.sl 25]) ::
  (25, [.str, .str, .str, .sl 9, .sl 92]) ::
  (40, [.str, .str, .str, .sl 25, .sl 25]) ::
  []
theorem lawLay : layB Tryz.prog lawDom = true := by kernel_rfl
abbrev lawEnv : Nat → List TyC := lawDom.env
theorem int_conf {ds : List PD} (h : ConfC lawEnv ds [.int]) : ∃ t, ds = intC t := by
  obtain ⟨h1, h2⟩ := h
  match ds, h1 with
  | [d], _ => obtain ⟨n, rfl, _⟩ := conf_int (h2 0 _ _ rfl rfl); exact ⟨n, rfl⟩
theorem str_conf {ds : List PD} (h : ConfC lawEnv ds [.str]) : ∃ t, ds = strC t := by
  obtain ⟨h1, h2⟩ := h
  match ds, h1 with
  | [d], _ => obtain ⟨n, rfl, _⟩ := conf_str (h2 0 _ _ rfl rfl); exact ⟨n, rfl⟩
theorem Ty.of_conf : ∀ (N : Nat) (ds : List PD), (∀ d ∈ ds, SizeOf.sizeOf d < N ∧ d.whole) → ConfC lawEnv ds [.int, .str, .sl 9, .sl 52] → ∃ t : Ty, ds = Ty.pd t := by
  intro N
  induction N with
  | zero =>
    intro ds hs h
    obtain ⟨h1, _⟩ := h
    match ds, h1 with
    | d :: _, _ => exact absurd (hs d (by simp)).1 (by omega)
  | succ N ih =>
    intro ds hs h
    obtain ⟨h1, h2⟩ := h
    match ds, h1 with
    | [d0, d1, d2, d3], _ =>
      obtain ⟨kind, rfl, _⟩ := conf_int (h2 0 _ _ rfl rfl)
      obtain ⟨name, rfl, _⟩ := conf_str (h2 1 _ _ rfl rfl)
      obtain ⟨xs2, rfl, hx2⟩ := conf_sl (h2 2 _ _ rfl rfl)
      obtain ⟨hz2, hw2⟩ := hs (.row (lawEnv 9).length xs2) (by simp)
      rw [PD.whole] at hw2
      obtain ⟨⟨n2, hn2⟩, hw2'⟩ := hw2
      obtain ⟨xs3, rfl, hx3⟩ := conf_sl (h2 3 _ _ rfl rfl)
      obtain ⟨hz3, hw3⟩ := hs (.row (lawEnv 52).length xs3) (by simp)
      rw [PD.whole] at hw3
      obtain ⟨⟨n3, hn3⟩, hw3'⟩ := hw3
      obtain ⟨labels, rfl⟩ : ∃ ts, xs2 = List.flatMap strC ts := by
        exact rows_confM (pd := strC) (cells := [.str]) (by decide) n2 xs2 (fun ds _ h => str_conf h) hn2 hx2
      obtain ⟨kids, rfl⟩ : ∃ ts, xs3 = List.flatMap Ty.pd ts := by
        exact rows_confM (pd := Ty.pd) (cells := [.int, .str, .sl 9, .sl 52]) (by decide) n3 xs3 (fun ds hds h => ih ds (fun d hd => ⟨(by have := row_size_lt (n := (lawEnv 52).length) (hds d hd); omega), wholeL_mem hw3' _ (hds d hd)⟩) h) hn3 hx3
      exact ⟨⟨kind, name, labels, kids⟩, by rw [Ty.pd_mk] <;> rfl⟩
def ArgType (w : World) (v : Value) : Prop := ∃ (t : Ty) (cs : List Value), v = .agg cs.toArray ∧ PD.wfL (Ty.pd t) ∧ RepC w w.heap.size (Ty.pd t) cs
theorem argType {H : Type} {enc : TypeId × Value → H} {w : World} {base b0 : Nat} {spare : Nat → Bool} {held : Bool} {r : Reach} {v : Value} {d : DataW H} {ps : List MemPlace} (hv : Value.okWide Tryz.prog w r b0 52 v) (h : DataW.Trod enc Tryz.prog w base spare held 52 v d ps) : ArgType w v := by
  obtain ⟨cs, rfl, ds, hc, hr⟩ := open_struct (dom := lawDom) Tryz.underlying52 lawLay rfl hv h
  obtain ⟨t, rfl⟩ := Ty.of_conf _ ds (fun d hd => ⟨Nat.lt_succ_of_lt (List.sizeOf_lt_of_mem hd), hr.whole d hd⟩) hc
  exact ⟨t, cs, rfl, hc.wf, hr⟩
def ArgTypeS (w : World) (v : Value) : Prop := ∃ ts : List Ty, (PD.row 4 (ts.flatMap Ty.pd)).wf ∧ Rep w w.heap.size (.row 4 (ts.flatMap Ty.pd)) v
theorem argTypeS {H : Type} {enc : TypeId × Value → H} {w : World} {base b0 : Nat} {spare : Nat → Bool} {held : Bool} {r : Reach} {v : Value} {d : DataW H} {ps : List MemPlace} (hv : Value.okWide Tryz.prog w r b0 50 v) (h : DataW.Trod enc Tryz.prog w base spare held 50 v d ps) : ArgTypeS w v := by
  obtain ⟨d, hr, hwf, hwh, hcf⟩ := (open_slice (dom := lawDom) Tryz.underlying50 lawLay rfl hv h).sl
  obtain ⟨xs, rfl, hx⟩ := conf_sl hcf
  rw [PD.whole] at hwh
  obtain ⟨⟨n, hn⟩, hw'⟩ := hwh
  obtain ⟨ts, rfl⟩ : ∃ ts, xs = List.flatMap Ty.pd ts := rows_confM (pd := Ty.pd) (cells := [.int, .str, .sl 9, .sl 52]) (by decide) n xs (fun ds hds h => Ty.of_conf _ ds (fun d hd => ⟨Nat.lt_succ_of_lt (List.sizeOf_lt_of_mem (hds d hd)), wholeL_mem hw' _ (hds d hd)⟩) h) hn hx
  exact ⟨ts, hwf, hr⟩
theorem Param.of_conf : ∀ (N : Nat) (ds : List PD), (∀ d ∈ ds, SizeOf.sizeOf d < N ∧ d.whole) → ConfC lawEnv ds [.str, .int, .str, .sl 9, .sl 52] → ∃ t : Param, ds = Param.pd t := by
  intro N
  induction N with
  | zero =>
    intro ds hs h
    obtain ⟨h1, _⟩ := h
    match ds, h1 with
    | d :: _, _ => exact absurd (hs d (by simp)).1 (by omega)
  | succ N ih =>
    intro ds hs h
    obtain ⟨h1, h2⟩ := h
    match ds, h1 with
    | [d0, d1, d2, d3, d4], _ =>
      obtain ⟨name, rfl, _⟩ := conf_str (h2 0 _ _ rfl rfl)
      obtain ⟨typ_kind, rfl, _⟩ := conf_int (h2 1 _ _ rfl rfl)
      obtain ⟨typ_name, rfl, _⟩ := conf_str (h2 2 _ _ rfl rfl)
      obtain ⟨xs3, rfl, hx3⟩ := conf_sl (h2 3 _ _ rfl rfl)
      obtain ⟨hz3, hw3⟩ := hs (.row (lawEnv 9).length xs3) (by simp)
      rw [PD.whole] at hw3
      obtain ⟨⟨n3, hn3⟩, hw3'⟩ := hw3
      obtain ⟨xs4, rfl, hx4⟩ := conf_sl (h2 4 _ _ rfl rfl)
      obtain ⟨hz4, hw4⟩ := hs (.row (lawEnv 52).length xs4) (by simp)
      rw [PD.whole] at hw4
      obtain ⟨⟨n4, hn4⟩, hw4'⟩ := hw4
      obtain ⟨typ_labels, rfl⟩ : ∃ ts, xs3 = List.flatMap strC ts := by
        exact rows_confM (pd := strC) (cells := [.str]) (by decide) n3 xs3 (fun ds _ h => str_conf h) hn3 hx3
      obtain ⟨typ_kids, rfl⟩ : ∃ ts, xs4 = List.flatMap Ty.pd ts := by
        exact rows_confM (pd := Ty.pd) (cells := [.int, .str, .sl 9, .sl 52]) (by decide) n4 xs4 (fun ds hds h => Ty.of_conf _ ds (fun d hd => ⟨Nat.lt_succ_of_lt (List.sizeOf_lt_of_mem (hds d hd)), wholeL_mem hw4' _ (hds d hd)⟩) h) hn4 hx4
      exact ⟨⟨name, ⟨typ_kind, typ_name, typ_labels, typ_kids⟩⟩, by rw [Param.pd_mk] <;> rfl⟩
def ArgParam (w : World) (v : Value) : Prop := ∃ (t : Param) (cs : List Value), v = .agg cs.toArray ∧ PD.wfL (Param.pd t) ∧ RepC w w.heap.size (Param.pd t) cs
theorem argParam {H : Type} {enc : TypeId × Value → H} {w : World} {base b0 : Nat} {spare : Nat → Bool} {held : Bool} {r : Reach} {v : Value} {d : DataW H} {ps : List MemPlace} (hv : Value.okWide Tryz.prog w r b0 112 v) (h : DataW.Trod enc Tryz.prog w base spare held 112 v d ps) : ArgParam w v := by
  obtain ⟨cs, rfl, ds, hc, hr⟩ := open_struct (dom := lawDom) Tryz.underlying112 lawLay rfl hv h
  obtain ⟨t, rfl⟩ := Param.of_conf _ ds (fun d hd => ⟨Nat.lt_succ_of_lt (List.sizeOf_lt_of_mem hd), hr.whole d hd⟩) hc
  exact ⟨t, cs, rfl, hc.wf, hr⟩
def ArgParamS (w : World) (v : Value) : Prop := ∃ ts : List Param, (PD.row 5 (ts.flatMap Param.pd)).wf ∧ Rep w w.heap.size (.row 5 (ts.flatMap Param.pd)) v
theorem argParamS {H : Type} {enc : TypeId × Value → H} {w : World} {base b0 : Nat} {spare : Nat → Bool} {held : Bool} {r : Reach} {v : Value} {d : DataW H} {ps : List MemPlace} (hv : Value.okWide Tryz.prog w r b0 49 v) (h : DataW.Trod enc Tryz.prog w base spare held 49 v d ps) : ArgParamS w v := by
  obtain ⟨d, hr, hwf, hwh, hcf⟩ := (open_slice (dom := lawDom) Tryz.underlying49 lawLay rfl hv h).sl
  obtain ⟨xs, rfl, hx⟩ := conf_sl hcf
  rw [PD.whole] at hwh
  obtain ⟨⟨n, hn⟩, hw'⟩ := hwh
  obtain ⟨ts, rfl⟩ : ∃ ts, xs = List.flatMap Param.pd ts := rows_confM (pd := Param.pd) (cells := [.str, .int, .str, .sl 9, .sl 52]) (by decide) n xs (fun ds hds h => Param.of_conf _ ds (fun d hd => ⟨Nat.lt_succ_of_lt (List.sizeOf_lt_of_mem (hds d hd)), wholeL_mem hw' _ (hds d hd)⟩) h) hn hx
  exact ⟨ts, hwf, hr⟩
theorem FuncType.of_conf : ∀ (N : Nat) (ds : List PD), (∀ d ∈ ds, SizeOf.sizeOf d < N ∧ d.whole) → ConfC lawEnv ds [.sl 112, .int, .str, .sl 9, .sl 52, .bool] → ∃ t : FuncType, ds = FuncType.pd t := by
  intro N
  induction N with
  | zero =>
    intro ds hs h
    obtain ⟨h1, _⟩ := h
    match ds, h1 with
    | d :: _, _ => exact absurd (hs d (by simp)).1 (by omega)
  | succ N ih =>
    intro ds hs h
    obtain ⟨h1, h2⟩ := h
    match ds, h1 with
    | [d0, d1, d2, d3, d4, d5], _ =>
      obtain ⟨xs0, rfl, hx0⟩ := conf_sl (h2 0 _ _ rfl rfl)
      obtain ⟨hz0, hw0⟩ := hs (.row (lawEnv 112).length xs0) (by simp)
      rw [PD.whole] at hw0
      obtain ⟨⟨n0, hn0⟩, hw0'⟩ := hw0
      obtain ⟨result_kind, rfl, _⟩ := conf_int (h2 1 _ _ rfl rfl)
      obtain ⟨result_name, rfl, _⟩ := conf_str (h2 2 _ _ rfl rfl)
      obtain ⟨xs3, rfl, hx3⟩ := conf_sl (h2 3 _ _ rfl rfl)
      obtain ⟨hz3, hw3⟩ := hs (.row (lawEnv 9).length xs3) (by simp)
      rw [PD.whole] at hw3
      obtain ⟨⟨n3, hn3⟩, hw3'⟩ := hw3
      obtain ⟨xs4, rfl, hx4⟩ := conf_sl (h2 4 _ _ rfl rfl)
      obtain ⟨hz4, hw4⟩ := hs (.row (lawEnv 52).length xs4) (by simp)
      rw [PD.whole] at hw4
      obtain ⟨⟨n4, hn4⟩, hw4'⟩ := hw4
      obtain ⟨async, rfl⟩ := conf_bool (h2 5 _ _ rfl rfl)
      obtain ⟨params, rfl⟩ : ∃ ts, xs0 = List.flatMap Param.pd ts := by
        exact rows_confM (pd := Param.pd) (cells := [.str, .int, .str, .sl 9, .sl 52]) (by decide) n0 xs0 (fun ds hds h => Param.of_conf _ ds (fun d hd => ⟨Nat.lt_succ_of_lt (List.sizeOf_lt_of_mem (hds d hd)), wholeL_mem hw0' _ (hds d hd)⟩) h) hn0 hx0
      obtain ⟨result_labels, rfl⟩ : ∃ ts, xs3 = List.flatMap strC ts := by
        exact rows_confM (pd := strC) (cells := [.str]) (by decide) n3 xs3 (fun ds _ h => str_conf h) hn3 hx3
      obtain ⟨result_kids, rfl⟩ : ∃ ts, xs4 = List.flatMap Ty.pd ts := by
        exact rows_confM (pd := Ty.pd) (cells := [.int, .str, .sl 9, .sl 52]) (by decide) n4 xs4 (fun ds hds h => Ty.of_conf _ ds (fun d hd => ⟨Nat.lt_succ_of_lt (List.sizeOf_lt_of_mem (hds d hd)), wholeL_mem hw4' _ (hds d hd)⟩) h) hn4 hx4
      exact ⟨⟨params, ⟨result_kind, result_name, result_labels, result_kids⟩, async⟩, by rw [FuncType.pd_mk] <;> rfl⟩
def ArgFuncType (w : World) (v : Value) : Prop := ∃ (t : FuncType) (cs : List Value), v = .agg cs.toArray ∧ PD.wfL (FuncType.pd t) ∧ RepC w w.heap.size (FuncType.pd t) cs
theorem argFuncType {H : Type} {enc : TypeId × Value → H} {w : World} {base b0 : Nat} {spare : Nat → Bool} {held : Bool} {r : Reach} {v : Value} {d : DataW H} {ps : List MemPlace} (hv : Value.okWide Tryz.prog w r b0 54 v) (h : DataW.Trod enc Tryz.prog w base spare held 54 v d ps) : ArgFuncType w v := by
  obtain ⟨cs, rfl, ds, hc, hr⟩ := open_struct (dom := lawDom) Tryz.underlying54 lawLay rfl hv h
  obtain ⟨t, rfl⟩ := FuncType.of_conf _ ds (fun d hd => ⟨Nat.lt_succ_of_lt (List.sizeOf_lt_of_mem hd), hr.whole d hd⟩) hc
  exact ⟨t, cs, rfl, hc.wf, hr⟩
theorem Fun.of_conf : ∀ (N : Nat) (ds : List PD), (∀ d ∈ ds, SizeOf.sizeOf d < N ∧ d.whole) → ConfC lawEnv ds [.str, .sl 112, .int, .str, .sl 9, .sl 52, .bool] → ∃ t : Fun, ds = Fun.pd t := by
  intro N
  induction N with
  | zero =>
    intro ds hs h
    obtain ⟨h1, _⟩ := h
    match ds, h1 with
    | d :: _, _ => exact absurd (hs d (by simp)).1 (by omega)
  | succ N ih =>
    intro ds hs h
    obtain ⟨h1, h2⟩ := h
    match ds, h1 with
    | [d0, d1, d2, d3, d4, d5, d6], _ =>
      obtain ⟨name, rfl, _⟩ := conf_str (h2 0 _ _ rfl rfl)
      obtain ⟨xs1, rfl, hx1⟩ := conf_sl (h2 1 _ _ rfl rfl)
      obtain ⟨hz1, hw1⟩ := hs (.row (lawEnv 112).length xs1) (by simp)
      rw [PD.whole] at hw1
      obtain ⟨⟨n1, hn1⟩, hw1'⟩ := hw1
      obtain ⟨typ_result_kind, rfl, _⟩ := conf_int (h2 2 _ _ rfl rfl)
      obtain ⟨typ_result_name, rfl, _⟩ := conf_str (h2 3 _ _ rfl rfl)
      obtain ⟨xs4, rfl, hx4⟩ := conf_sl (h2 4 _ _ rfl rfl)
      obtain ⟨hz4, hw4⟩ := hs (.row (lawEnv 9).length xs4) (by simp)
      rw [PD.whole] at hw4
      obtain ⟨⟨n4, hn4⟩, hw4'⟩ := hw4
      obtain ⟨xs5, rfl, hx5⟩ := conf_sl (h2 5 _ _ rfl rfl)
      obtain ⟨hz5, hw5⟩ := hs (.row (lawEnv 52).length xs5) (by simp)
      rw [PD.whole] at hw5
      obtain ⟨⟨n5, hn5⟩, hw5'⟩ := hw5
      obtain ⟨typ_async, rfl⟩ := conf_bool (h2 6 _ _ rfl rfl)
      obtain ⟨typ_params, rfl⟩ : ∃ ts, xs1 = List.flatMap Param.pd ts := by
        exact rows_confM (pd := Param.pd) (cells := [.str, .int, .str, .sl 9, .sl 52]) (by decide) n1 xs1 (fun ds hds h => Param.of_conf _ ds (fun d hd => ⟨Nat.lt_succ_of_lt (List.sizeOf_lt_of_mem (hds d hd)), wholeL_mem hw1' _ (hds d hd)⟩) h) hn1 hx1
      obtain ⟨typ_result_labels, rfl⟩ : ∃ ts, xs4 = List.flatMap strC ts := by
        exact rows_confM (pd := strC) (cells := [.str]) (by decide) n4 xs4 (fun ds _ h => str_conf h) hn4 hx4
      obtain ⟨typ_result_kids, rfl⟩ : ∃ ts, xs5 = List.flatMap Ty.pd ts := by
        exact rows_confM (pd := Ty.pd) (cells := [.int, .str, .sl 9, .sl 52]) (by decide) n5 xs5 (fun ds hds h => Ty.of_conf _ ds (fun d hd => ⟨Nat.lt_succ_of_lt (List.sizeOf_lt_of_mem (hds d hd)), wholeL_mem hw5' _ (hds d hd)⟩) h) hn5 hx5
      exact ⟨⟨name, ⟨typ_params, ⟨typ_result_kind, typ_result_name, typ_result_labels, typ_result_kids⟩, typ_async⟩⟩, by rw [Fun.pd_mk] <;> rfl⟩
def ArgFunc (w : World) (v : Value) : Prop := ∃ (t : Fun) (cs : List Value), v = .agg cs.toArray ∧ PD.wfL (Fun.pd t) ∧ RepC w w.heap.size (Fun.pd t) cs
theorem argFunc {H : Type} {enc : TypeId × Value → H} {w : World} {base b0 : Nat} {spare : Nat → Bool} {held : Bool} {r : Reach} {v : Value} {d : DataW H} {ps : List MemPlace} (hv : Value.okWide Tryz.prog w r b0 92 v) (h : DataW.Trod enc Tryz.prog w base spare held 92 v d ps) : ArgFunc w v := by
  obtain ⟨cs, rfl, ds, hc, hr⟩ := open_struct (dom := lawDom) Tryz.underlying92 lawLay rfl hv h
  obtain ⟨t, rfl⟩ := Fun.of_conf _ ds (fun d hd => ⟨Nat.lt_succ_of_lt (List.sizeOf_lt_of_mem hd), hr.whole d hd⟩) hc
  exact ⟨t, cs, rfl, hc.wf, hr⟩
def ArgFuncS (w : World) (v : Value) : Prop := ∃ ts : List Fun, (PD.row 7 (ts.flatMap Fun.pd)).wf ∧ Rep w w.heap.size (.row 7 (ts.flatMap Fun.pd)) v
theorem argFuncS {H : Type} {enc : TypeId × Value → H} {w : World} {base b0 : Nat} {spare : Nat → Bool} {held : Bool} {r : Reach} {v : Value} {d : DataW H} {ps : List MemPlace} (hv : Value.okWide Tryz.prog w r b0 23 v) (h : DataW.Trod enc Tryz.prog w base spare held 23 v d ps) : ArgFuncS w v := by
  obtain ⟨d, hr, hwf, hwh, hcf⟩ := (open_slice (dom := lawDom) Tryz.underlying23 lawLay rfl hv h).sl
  obtain ⟨xs, rfl, hx⟩ := conf_sl hcf
  rw [PD.whole] at hwh
  obtain ⟨⟨n, hn⟩, hw'⟩ := hwh
  obtain ⟨ts, rfl⟩ : ∃ ts, xs = List.flatMap Fun.pd ts := rows_confM (pd := Fun.pd) (cells := [.str, .sl 112, .int, .str, .sl 9, .sl 52, .bool]) (by decide) n xs (fun ds hds h => Fun.of_conf _ ds (fun d hd => ⟨Nat.lt_succ_of_lt (List.sizeOf_lt_of_mem (hds d hd)), wholeL_mem hw' _ (hds d hd)⟩) h) hn hx
  exact ⟨ts, hwf, hr⟩
theorem Face.of_conf : ∀ (N : Nat) (ds : List PD), (∀ d ∈ ds, SizeOf.sizeOf d < N ∧ d.whole) → ConfC lawEnv ds [.str, .str, .str, .sl 9, .sl 92] → ∃ t : Face, ds = Face.pd t := by
  intro N
  induction N with
  | zero =>
    intro ds hs h
    obtain ⟨h1, _⟩ := h
    match ds, h1 with
    | d :: _, _ => exact absurd (hs d (by simp)).1 (by omega)
  | succ N ih =>
    intro ds hs h
    obtain ⟨h1, h2⟩ := h
    match ds, h1 with
    | [d0, d1, d2, d3, d4], _ =>
      obtain ⟨package, rfl, _⟩ := conf_str (h2 0 _ _ rfl rfl)
      obtain ⟨name, rfl, _⟩ := conf_str (h2 1 _ _ rfl rfl)
      obtain ⟨version, rfl, _⟩ := conf_str (h2 2 _ _ rfl rfl)
      obtain ⟨xs3, rfl, hx3⟩ := conf_sl (h2 3 _ _ rfl rfl)
      obtain ⟨hz3, hw3⟩ := hs (.row (lawEnv 9).length xs3) (by simp)
      rw [PD.whole] at hw3
      obtain ⟨⟨n3, hn3⟩, hw3'⟩ := hw3
      obtain ⟨xs4, rfl, hx4⟩ := conf_sl (h2 4 _ _ rfl rfl)
      obtain ⟨hz4, hw4⟩ := hs (.row (lawEnv 92).length xs4) (by simp)
      rw [PD.whole] at hw4
      obtain ⟨⟨n4, hn4⟩, hw4'⟩ := hw4
      obtain ⟨resources, rfl⟩ : ∃ ts, xs3 = List.flatMap strC ts := by
        exact rows_confM (pd := strC) (cells := [.str]) (by decide) n3 xs3 (fun ds _ h => str_conf h) hn3 hx3
      obtain ⟨funcs, rfl⟩ : ∃ ts, xs4 = List.flatMap Fun.pd ts := by
        exact rows_confM (pd := Fun.pd) (cells := [.str, .sl 112, .int, .str, .sl 9, .sl 52, .bool]) (by decide) n4 xs4 (fun ds hds h => Fun.of_conf _ ds (fun d hd => ⟨Nat.lt_succ_of_lt (List.sizeOf_lt_of_mem (hds d hd)), wholeL_mem hw4' _ (hds d hd)⟩) h) hn4 hx4
      exact ⟨⟨package, name, version, resources, funcs⟩, by rw [Face.pd_mk] <;> rfl⟩
def ArgFace (w : World) (v : Value) : Prop := ∃ (t : Face) (cs : List Value), v = .agg cs.toArray ∧ PD.wfL (Face.pd t) ∧ RepC w w.heap.size (Face.pd t) cs
theorem argFace {H : Type} {enc : TypeId × Value → H} {w : World} {base b0 : Nat} {spare : Nat → Bool} {held : Bool} {r : Reach} {v : Value} {d : DataW H} {ps : List MemPlace} (hv : Value.okWide Tryz.prog w r b0 25 v) (h : DataW.Trod enc Tryz.prog w base spare held 25 v d ps) : ArgFace w v := by
  obtain ⟨cs, rfl, ds, hc, hr⟩ := open_struct (dom := lawDom) Tryz.underlying25 lawLay rfl hv h
  obtain ⟨t, rfl⟩ := Face.of_conf _ ds (fun d hd => ⟨Nat.lt_succ_of_lt (List.sizeOf_lt_of_mem hd), hr.whole d hd⟩) hc
  exact ⟨t, cs, rfl, hc.wf, hr⟩
def ArgFaceS (w : World) (v : Value) : Prop := ∃ ts : List Face, (PD.row 5 (ts.flatMap Face.pd)).wf ∧ Rep w w.heap.size (.row 5 (ts.flatMap Face.pd)) v
theorem argFaceS {H : Type} {enc : TypeId × Value → H} {w : World} {base b0 : Nat} {spare : Nat → Bool} {held : Bool} {r : Reach} {v : Value} {d : DataW H} {ps : List MemPlace} (hv : Value.okWide Tryz.prog w r b0 38 v) (h : DataW.Trod enc Tryz.prog w base spare held 38 v d ps) : ArgFaceS w v := by
  obtain ⟨d, hr, hwf, hwh, hcf⟩ := (open_slice (dom := lawDom) Tryz.underlying38 lawLay rfl hv h).sl
  obtain ⟨xs, rfl, hx⟩ := conf_sl hcf
  rw [PD.whole] at hwh
  obtain ⟨⟨n, hn⟩, hw'⟩ := hwh
  obtain ⟨ts, rfl⟩ : ∃ ts, xs = List.flatMap Face.pd ts := rows_confM (pd := Face.pd) (cells := [.str, .str, .str, .sl 9, .sl 92]) (by decide) n xs (fun ds hds h => Face.of_conf _ ds (fun d hd => ⟨Nat.lt_succ_of_lt (List.sizeOf_lt_of_mem (hds d hd)), wholeL_mem hw' _ (hds d hd)⟩) h) hn hx
  exact ⟨ts, hwf, hr⟩
theorem Wld.of_conf : ∀ (N : Nat) (ds : List PD), (∀ d ∈ ds, SizeOf.sizeOf d < N ∧ d.whole) → ConfC lawEnv ds [.str, .str, .str, .sl 25, .sl 25] → ∃ t : Wld, ds = Wld.pd t := by
  intro N
  induction N with
  | zero =>
    intro ds hs h
    obtain ⟨h1, _⟩ := h
    match ds, h1 with
    | d :: _, _ => exact absurd (hs d (by simp)).1 (by omega)
  | succ N ih =>
    intro ds hs h
    obtain ⟨h1, h2⟩ := h
    match ds, h1 with
    | [d0, d1, d2, d3, d4], _ =>
      obtain ⟨package, rfl, _⟩ := conf_str (h2 0 _ _ rfl rfl)
      obtain ⟨name, rfl, _⟩ := conf_str (h2 1 _ _ rfl rfl)
      obtain ⟨version, rfl, _⟩ := conf_str (h2 2 _ _ rfl rfl)
      obtain ⟨xs3, rfl, hx3⟩ := conf_sl (h2 3 _ _ rfl rfl)
      obtain ⟨hz3, hw3⟩ := hs (.row (lawEnv 25).length xs3) (by simp)
      rw [PD.whole] at hw3
      obtain ⟨⟨n3, hn3⟩, hw3'⟩ := hw3
      obtain ⟨xs4, rfl, hx4⟩ := conf_sl (h2 4 _ _ rfl rfl)
      obtain ⟨hz4, hw4⟩ := hs (.row (lawEnv 25).length xs4) (by simp)
      rw [PD.whole] at hw4
      obtain ⟨⟨n4, hn4⟩, hw4'⟩ := hw4
      obtain ⟨imports, rfl⟩ : ∃ ts, xs3 = List.flatMap Face.pd ts := by
        exact rows_confM (pd := Face.pd) (cells := [.str, .str, .str, .sl 9, .sl 92]) (by decide) n3 xs3 (fun ds hds h => Face.of_conf _ ds (fun d hd => ⟨Nat.lt_succ_of_lt (List.sizeOf_lt_of_mem (hds d hd)), wholeL_mem hw3' _ (hds d hd)⟩) h) hn3 hx3
      obtain ⟨exports, rfl⟩ : ∃ ts, xs4 = List.flatMap Face.pd ts := by
        exact rows_confM (pd := Face.pd) (cells := [.str, .str, .str, .sl 9, .sl 92]) (by decide) n4 xs4 (fun ds hds h => Face.of_conf _ ds (fun d hd => ⟨Nat.lt_succ_of_lt (List.sizeOf_lt_of_mem (hds d hd)), wholeL_mem hw4' _ (hds d hd)⟩) h) hn4 hx4
      exact ⟨⟨package, name, version, imports, exports⟩, by rw [Wld.pd_mk] <;> rfl⟩
def ArgWorld (w : World) (v : Value) : Prop := ∃ (t : Wld) (cs : List Value), v = .agg cs.toArray ∧ PD.wfL (Wld.pd t) ∧ RepC w w.heap.size (Wld.pd t) cs
theorem argWorld {H : Type} {enc : TypeId × Value → H} {w : World} {base b0 : Nat} {spare : Nat → Bool} {held : Bool} {r : Reach} {v : Value} {d : DataW H} {ps : List MemPlace} (hv : Value.okWide Tryz.prog w r b0 40 v) (h : DataW.Trod enc Tryz.prog w base spare held 40 v d ps) : ArgWorld w v := by
  obtain ⟨cs, rfl, ds, hc, hr⟩ := open_struct (dom := lawDom) Tryz.underlying40 lawLay rfl hv h
  obtain ⟨t, rfl⟩ := Wld.of_conf _ ds (fun d hd => ⟨Nat.lt_succ_of_lt (List.sizeOf_lt_of_mem hd), hr.whole d hd⟩) hc
  exact ⟨t, cs, rfl, hc.wf, hr⟩
end Go.Proofs.YtbafphecjijdmaaGreatDoor
