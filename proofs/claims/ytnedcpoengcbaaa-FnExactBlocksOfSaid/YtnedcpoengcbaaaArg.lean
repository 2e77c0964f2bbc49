/-
  From the laws' parameters to the structs (by program: tygen2.py).
-/
import Derived.Test.YtnedcpoengcbaaaTy
namespace Go.Proofs.Ytnedcpoengcbaaa
open Go.RowKit
set_option linter.unusedVariables false
set_option linter.unusedSimpArgs false
set_option linter.unnecessarySimpa false
set_option maxRecDepth 100000

open Go.ChangeShapes Go.WideShapes Go.ChangeAt
/-- the laws' parameter types, cell by cell -/
def lawDom : Dom :=
  (2, [.int]) ::
  (9, [.str]) ::
  (4, [.bool]) ::
  (74, [.sl 9]) ::
  (34, [.sl 100]) ::
  (100, [.int, .str, .sl 9, .sl 100]) ::
  (46, [.sl 120]) ::
  (120, [.int, .int]) ::
  (22, [.sl 93]) ::
  (93, [.str, .int, .bool]) ::
  (23, [.sl 48]) ::
  (48, [.str, .int, .int, .bool, .sl 120]) ::
  (25, [.int, .sl 93, .sl 48]) ::
  (35, [.sl 104]) ::
  (102, [.sl 35]) ::
  (104, [.int, .int, .int, .int, .int, .int, .str, .sl 35]) ::
  (37, [.sl 100, .int, .int, .sl 104, .sl 104]) ::
  []
theorem lawLay : layB Try.prog lawDom = true := by kernel_rfl
abbrev lawEnv : Nat → List TyC := lawDom.env
theorem int_conf {ds : List PD} (h : ConfC lawEnv ds [.int]) : ∃ t, ds = intC t := by
  obtain ⟨h1, h2⟩ := h
  match ds, h1 with
  | [d], _ => obtain ⟨n, rfl, _⟩ := conf_int (h2 0 _ _ rfl rfl); exact ⟨n, rfl⟩
theorem str_conf {ds : List PD} (h : ConfC lawEnv ds [.str]) : ∃ t, ds = strC t := by
  obtain ⟨h1, h2⟩ := h
  match ds, h1 with
  | [d], _ => obtain ⟨n, rfl, _⟩ := conf_str (h2 0 _ _ rfl rfl); exact ⟨n, rfl⟩
theorem Ty.of_conf : ∀ (N : Nat) (ds : List PD), (∀ d ∈ ds, SizeOf.sizeOf d < N ∧ d.whole) → ConfC lawEnv ds [.int, .str, .sl 9, .sl 100] → ∃ t : Ty, ds = Ty.pd t := by
  intro N
  induction N with
  | zero =>
    intro ds hs h
    obtain ⟨h1, _⟩ := h
    match ds, h1 with
    | d :: _, _ => exact absurd (hs d (by simp)).1 (by omega)
  | succ N ih =>
    intro ds hs h
    obtain ⟨h1, h2⟩ := h
    match ds, h1 with
    | [d0, d1, d2, d3], _ =>
      obtain ⟨kind, rfl, _⟩ := conf_int (h2 0 _ _ rfl rfl)
      obtain ⟨name, rfl, _⟩ := conf_str (h2 1 _ _ rfl rfl)
      obtain ⟨xs2, rfl, hx2⟩ := conf_sl (h2 2 _ _ rfl rfl)
      obtain ⟨hz2, hw2⟩ := hs (.row (lawEnv 9).length xs2) (by simp)
      rw [PD.whole] at hw2
      obtain ⟨⟨n2, hn2⟩, hw2'⟩ := hw2
      obtain ⟨xs3, rfl, hx3⟩ := conf_sl (h2 3 _ _ rfl rfl)
      obtain ⟨hz3, hw3⟩ := hs (.row (lawEnv 100).length xs3) (by simp)
      rw [PD.whole] at hw3
      obtain ⟨⟨n3, hn3⟩, hw3'⟩ := hw3
      obtain ⟨labels, rfl⟩ : ∃ ts, xs2 = List.flatMap strC ts := by
        exact rows_confM (pd := strC) (cells := [.str]) (by decide) n2 xs2 (fun ds _ h => str_conf h) hn2 hx2
      obtain ⟨kids, rfl⟩ : ∃ ts, xs3 = List.flatMap Ty.pd ts := by
        exact rows_confM (pd := Ty.pd) (cells := [.int, .str, .sl 9, .sl 100]) (by decide) n3 xs3 (fun ds hds h => ih ds (fun d hd => ⟨(by have := row_size_lt (n := (lawEnv 100).length) (hds d hd); omega), wholeL_mem hw3' _ (hds d hd)⟩) h) hn3 hx3
      exact ⟨⟨kind, name, labels, kids⟩, by rw [Ty.pd_mk] <;> rfl⟩
def ArgType (w : World) (v : Value) : Prop := ∃ (t : Ty) (cs : List Value), v = .agg cs.toArray ∧ PD.wfL (Ty.pd t) ∧ RepC w w.heap.size (Ty.pd t) cs
theorem argType {H : Type} {enc : TypeId × Value → H} {w : World} {base b0 : Nat} {spare : Nat → Bool} {held : Bool} {r : Reach} {v : Value} {d : DataW H} {ps : List MemPlace} (hv : Value.okWide Try.prog w r b0 100 v) (h : DataW.Trod enc Try.prog w base spare held 100 v d ps) : ArgType w v := by
  obtain ⟨cs, rfl, ds, hc, hr⟩ := open_struct (dom := lawDom) Try.underlying100 lawLay rfl hv h
  obtain ⟨t, rfl⟩ := Ty.of_conf _ ds (fun d hd => ⟨Nat.lt_succ_of_lt (List.sizeOf_lt_of_mem hd), hr.whole d hd⟩) hc
  exact ⟨t, cs, rfl, hc.wf, hr⟩
def ArgTypeS (w : World) (v : Value) : Prop := ∃ ts : List Ty, (PD.row 4 (ts.flatMap Ty.pd)).wf ∧ Rep w w.heap.size (.row 4 (ts.flatMap Ty.pd)) v
theorem argTypeS {H : Type} {enc : TypeId × Value → H} {w : World} {base b0 : Nat} {spare : Nat → Bool} {held : Bool} {r : Reach} {v : Value} {d : DataW H} {ps : List MemPlace} (hv : Value.okWide Try.prog w r b0 34 v) (h : DataW.Trod enc Try.prog w base spare held 34 v d ps) : ArgTypeS w v := by
  obtain ⟨d, hr, hwf, hwh, hcf⟩ := (open_slice (dom := lawDom) Try.underlying34 lawLay rfl hv h).sl
  obtain ⟨xs, rfl, hx⟩ := conf_sl hcf
  rw [PD.whole] at hwh
  obtain ⟨⟨n, hn⟩, hw'⟩ := hwh
  obtain ⟨ts, rfl⟩ : ∃ ts, xs = List.flatMap Ty.pd ts := rows_confM (pd := Ty.pd) (cells := [.int, .str, .sl 9, .sl 100]) (by decide) n xs (fun ds hds h => Ty.of_conf _ ds (fun d hd => ⟨Nat.lt_succ_of_lt (List.sizeOf_lt_of_mem (hds d hd)), wholeL_mem hw' _ (hds d hd)⟩) h) hn hx
  exact ⟨ts, hwf, hr⟩
theorem Ins.of_conf : ∀ (N : Nat) (ds : List PD), (∀ d ∈ ds, SizeOf.sizeOf d < N ∧ d.whole) → ConfC lawEnv ds [.int, .int] → ∃ t : Ins, ds = Ins.pd t := by
  intro N
  induction N with
  | zero =>
    intro ds hs h
    obtain ⟨h1, _⟩ := h
    match ds, h1 with
    | d :: _, _ => exact absurd (hs d (by simp)).1 (by omega)
  | succ N ih =>
    intro ds hs h
    obtain ⟨h1, h2⟩ := h
    match ds, h1 with
    | [d0, d1], _ =>
      obtain ⟨op, rfl, _⟩ := conf_int (h2 0 _ _ rfl rfl)
      obtain ⟨a, rfl, _⟩ := conf_int (h2 1 _ _ rfl rfl)
      exact ⟨⟨op, a⟩, by rw [Ins.pd_mk] <;> rfl⟩
def ArgIns (w : World) (v : Value) : Prop := ∃ (t : Ins) (cs : List Value), v = .agg cs.toArray ∧ PD.wfL (Ins.pd t) ∧ RepC w w.heap.size (Ins.pd t) cs
theorem argIns {H : Type} {enc : TypeId × Value → H} {w : World} {base b0 : Nat} {spare : Nat → Bool} {held : Bool} {r : Reach} {v : Value} {d : DataW H} {ps : List MemPlace} (hv : Value.okWide Try.prog w r b0 120 v) (h : DataW.Trod enc Try.prog w base spare held 120 v d ps) : ArgIns w v := by
  obtain ⟨cs, rfl, ds, hc, hr⟩ := open_struct (dom := lawDom) Try.underlying120 lawLay rfl hv h
  obtain ⟨t, rfl⟩ := Ins.of_conf _ ds (fun d hd => ⟨Nat.lt_succ_of_lt (List.sizeOf_lt_of_mem hd), hr.whole d hd⟩) hc
  exact ⟨t, cs, rfl, hc.wf, hr⟩
def ArgInsS (w : World) (v : Value) : Prop := ∃ ts : List Ins, (PD.row 2 (ts.flatMap Ins.pd)).wf ∧ Rep w w.heap.size (.row 2 (ts.flatMap Ins.pd)) v
theorem argInsS {H : Type} {enc : TypeId × Value → H} {w : World} {base b0 : Nat} {spare : Nat → Bool} {held : Bool} {r : Reach} {v : Value} {d : DataW H} {ps : List MemPlace} (hv : Value.okWide Try.prog w r b0 46 v) (h : DataW.Trod enc Try.prog w base spare held 46 v d ps) : ArgInsS w v := by
  obtain ⟨d, hr, hwf, hwh, hcf⟩ := (open_slice (dom := lawDom) Try.underlying46 lawLay rfl hv h).sl
  obtain ⟨xs, rfl, hx⟩ := conf_sl hcf
  rw [PD.whole] at hwh
  obtain ⟨⟨n, hn⟩, hw'⟩ := hwh
  obtain ⟨ts, rfl⟩ : ∃ ts, xs = List.flatMap Ins.pd ts := rows_confM (pd := Ins.pd) (cells := [.int, .int]) (by decide) n xs (fun ds hds h => Ins.of_conf _ ds (fun d hd => ⟨Nat.lt_succ_of_lt (List.sizeOf_lt_of_mem (hds d hd)), wholeL_mem hw' _ (hds d hd)⟩) h) hn hx
  exact ⟨ts, hwf, hr⟩
theorem Imp.of_conf : ∀ (N : Nat) (ds : List PD), (∀ d ∈ ds, SizeOf.sizeOf d < N ∧ d.whole) → ConfC lawEnv ds [.str, .int, .bool] → ∃ t : Imp, ds = Imp.pd t := by
  intro N
  induction N with
  | zero =>
    intro ds hs h
    obtain ⟨h1, _⟩ := h
    match ds, h1 with
    | d :: _, _ => exact absurd (hs d (by simp)).1 (by omega)
  | succ N ih =>
    intro ds hs h
    obtain ⟨h1, h2⟩ := h
    match ds, h1 with
    | [d0, d1, d2], _ =>
      obtain ⟨name, rfl, _⟩ := conf_str (h2 0 _ _ rfl rfl)
      obtain ⟨params, rfl, _⟩ := conf_int (h2 1 _ _ rfl rfl)
      obtain ⟨result, rfl⟩ := conf_bool (h2 2 _ _ rfl rfl)
      exact ⟨⟨name, params, result⟩, by rw [Imp.pd_mk] <;> rfl⟩
def ArgImport (w : World) (v : Value) : Prop := ∃ (t : Imp) (cs : List Value), v = .agg cs.toArray ∧ PD.wfL (Imp.pd t) ∧ RepC w w.heap.size (Imp.pd t) cs
theorem argImport {H : Type} {enc : TypeId × Value → H} {w : World} {base b0 : Nat} {spare : Nat → Bool} {held : Bool} {r : Reach} {v : Value} {d : DataW H} {ps : List MemPlace} (hv : Value.okWide Try.prog w r b0 93 v) (h : DataW.Trod enc Try.prog w base spare held 93 v d ps) : ArgImport w v := by
  obtain ⟨cs, rfl, ds, hc, hr⟩ := open_struct (dom := lawDom) Try.underlying93 lawLay rfl hv h
  obtain ⟨t, rfl⟩ := Imp.of_conf _ ds (fun d hd => ⟨Nat.lt_succ_of_lt (List.sizeOf_lt_of_mem hd), hr.whole d hd⟩) hc
  exact ⟨t, cs, rfl, hc.wf, hr⟩
def ArgImportS (w : World) (v : Value) : Prop := ∃ ts : List Imp, (PD.row 3 (ts.flatMap Imp.pd)).wf ∧ Rep w w.heap.size (.row 3 (ts.flatMap Imp.pd)) v
theorem argImportS {H : Type} {enc : TypeId × Value → H} {w : World} {base b0 : Nat} {spare : Nat → Bool} {held : Bool} {r : Reach} {v : Value} {d : DataW H} {ps : List MemPlace} (hv : Value.okWide Try.prog w r b0 22 v) (h : DataW.Trod enc Try.prog w base spare held 22 v d ps) : ArgImportS w v := by
  obtain ⟨d, hr, hwf, hwh, hcf⟩ := (open_slice (dom := lawDom) Try.underlying22 lawLay rfl hv h).sl
  obtain ⟨xs, rfl, hx⟩ := conf_sl hcf
  rw [PD.whole] at hwh
  obtain ⟨⟨n, hn⟩, hw'⟩ := hwh
  obtain ⟨ts, rfl⟩ : ∃ ts, xs = List.flatMap Imp.pd ts := rows_confM (pd := Imp.pd) (cells := [.str, .int, .bool]) (by decide) n xs (fun ds hds h => Imp.of_conf _ ds (fun d hd => ⟨Nat.lt_succ_of_lt (List.sizeOf_lt_of_mem (hds d hd)), wholeL_mem hw' _ (hds d hd)⟩) h) hn hx
  exact ⟨ts, hwf, hr⟩
theorem Core.of_conf : ∀ (N : Nat) (ds : List PD), (∀ d ∈ ds, SizeOf.sizeOf d < N ∧ d.whole) → ConfC lawEnv ds [.str, .int, .int, .bool, .sl 120] → ∃ t : Core, ds = Core.pd t := by
  intro N
  induction N with
  | zero =>
    intro ds hs h
    obtain ⟨h1, _⟩ := h
    match ds, h1 with
    | d :: _, _ => exact absurd (hs d (by simp)).1 (by omega)
  | succ N ih =>
    intro ds hs h
    obtain ⟨h1, h2⟩ := h
    match ds, h1 with
    | [d0, d1, d2, d3, d4], _ =>
      obtain ⟨name, rfl, _⟩ := conf_str (h2 0 _ _ rfl rfl)
      obtain ⟨params, rfl, _⟩ := conf_int (h2 1 _ _ rfl rfl)
      obtain ⟨locals, rfl, _⟩ := conf_int (h2 2 _ _ rfl rfl)
      obtain ⟨result, rfl⟩ := conf_bool (h2 3 _ _ rfl rfl)
      obtain ⟨xs4, rfl, hx4⟩ := conf_sl (h2 4 _ _ rfl rfl)
      obtain ⟨hz4, hw4⟩ := hs (.row (lawEnv 120).length xs4) (by simp)
      rw [PD.whole] at hw4
      obtain ⟨⟨n4, hn4⟩, hw4'⟩ := hw4
      obtain ⟨code, rfl⟩ : ∃ ts, xs4 = List.flatMap Ins.pd ts := by
        exact rows_confM (pd := Ins.pd) (cells := [.int, .int]) (by decide) n4 xs4 (fun ds hds h => Ins.of_conf _ ds (fun d hd => ⟨Nat.lt_succ_of_lt (List.sizeOf_lt_of_mem (hds d hd)), wholeL_mem hw4' _ (hds d hd)⟩) h) hn4 hx4
      exact ⟨⟨name, params, locals, result, code⟩, by rw [Core.pd_mk] <;> rfl⟩
def ArgCore (w : World) (v : Value) : Prop := ∃ (t : Core) (cs : List Value), v = .agg cs.toArray ∧ PD.wfL (Core.pd t) ∧ RepC w w.heap.size (Core.pd t) cs
theorem argCore {H : Type} {enc : TypeId × Value → H} {w : World} {base b0 : Nat} {spare : Nat → Bool} {held : Bool} {r : Reach} {v : Value} {d : DataW H} {ps : List MemPlace} (hv : Value.okWide Try.prog w r b0 48 v) (h : DataW.Trod enc Try.prog w base spare held 48 v d ps) : ArgCore w v := by
  obtain ⟨cs, rfl, ds, hc, hr⟩ := open_struct (dom := lawDom) Try.underlying48 lawLay rfl hv h
  obtain ⟨t, rfl⟩ := Core.of_conf _ ds (fun d hd => ⟨Nat.lt_succ_of_lt (List.sizeOf_lt_of_mem hd), hr.whole d hd⟩) hc
  exact ⟨t, cs, rfl, hc.wf, hr⟩
def ArgCoreS (w : World) (v : Value) : Prop := ∃ ts : List Core, (PD.row 5 (ts.flatMap Core.pd)).wf ∧ Rep w w.heap.size (.row 5 (ts.flatMap Core.pd)) v
theorem argCoreS {H : Type} {enc : TypeId × Value → H} {w : World} {base b0 : Nat} {spare : Nat → Bool} {held : Bool} {r : Reach} {v : Value} {d : DataW H} {ps : List MemPlace} (hv : Value.okWide Try.prog w r b0 23 v) (h : DataW.Trod enc Try.prog w base spare held 23 v d ps) : ArgCoreS w v := by
  obtain ⟨d, hr, hwf, hwh, hcf⟩ := (open_slice (dom := lawDom) Try.underlying23 lawLay rfl hv h).sl
  obtain ⟨xs, rfl, hx⟩ := conf_sl hcf
  rw [PD.whole] at hwh
  obtain ⟨⟨n, hn⟩, hw'⟩ := hwh
  obtain ⟨ts, rfl⟩ : ∃ ts, xs = List.flatMap Core.pd ts := rows_confM (pd := Core.pd) (cells := [.str, .int, .int, .bool, .sl 120]) (by decide) n xs (fun ds hds h => Core.of_conf _ ds (fun d hd => ⟨Nat.lt_succ_of_lt (List.sizeOf_lt_of_mem (hds d hd)), wholeL_mem hw' _ (hds d hd)⟩) h) hn hx
  exact ⟨ts, hwf, hr⟩
theorem Mod.of_conf : ∀ (N : Nat) (ds : List PD), (∀ d ∈ ds, SizeOf.sizeOf d < N ∧ d.whole) → ConfC lawEnv ds [.int, .sl 93, .sl 48] → ∃ t : Mod, ds = Mod.pd t := by
  intro N
  induction N with
  | zero =>
    intro ds hs h
    obtain ⟨h1, _⟩ := h
    match ds, h1 with
    | d :: _, _ => exact absurd (hs d (by simp)).1 (by omega)
  | succ N ih =>
    intro ds hs h
    obtain ⟨h1, h2⟩ := h
    match ds, h1 with
    | [d0, d1, d2], _ =>
      obtain ⟨pages, rfl, _⟩ := conf_int (h2 0 _ _ rfl rfl)
      obtain ⟨xs1, rfl, hx1⟩ := conf_sl (h2 1 _ _ rfl rfl)
      obtain ⟨hz1, hw1⟩ := hs (.row (lawEnv 93).length xs1) (by simp)
      rw [PD.whole] at hw1
      obtain ⟨⟨n1, hn1⟩, hw1'⟩ := hw1
      obtain ⟨xs2, rfl, hx2⟩ := conf_sl (h2 2 _ _ rfl rfl)
      obtain ⟨hz2, hw2⟩ := hs (.row (lawEnv 48).length xs2) (by simp)
      rw [PD.whole] at hw2
      obtain ⟨⟨n2, hn2⟩, hw2'⟩ := hw2
      obtain ⟨imports, rfl⟩ : ∃ ts, xs1 = List.flatMap Imp.pd ts := by
        exact rows_confM (pd := Imp.pd) (cells := [.str, .int, .bool]) (by decide) n1 xs1 (fun ds hds h => Imp.of_conf _ ds (fun d hd => ⟨Nat.lt_succ_of_lt (List.sizeOf_lt_of_mem (hds d hd)), wholeL_mem hw1' _ (hds d hd)⟩) h) hn1 hx1
      obtain ⟨cores, rfl⟩ : ∃ ts, xs2 = List.flatMap Core.pd ts := by
        exact rows_confM (pd := Core.pd) (cells := [.str, .int, .int, .bool, .sl 120]) (by decide) n2 xs2 (fun ds hds h => Core.of_conf _ ds (fun d hd => ⟨Nat.lt_succ_of_lt (List.sizeOf_lt_of_mem (hds d hd)), wholeL_mem hw2' _ (hds d hd)⟩) h) hn2 hx2
      exact ⟨⟨pages, imports, cores⟩, by rw [Mod.pd_mk] <;> rfl⟩
def ArgModule (w : World) (v : Value) : Prop := ∃ (t : Mod) (cs : List Value), v = .agg cs.toArray ∧ PD.wfL (Mod.pd t) ∧ RepC w w.heap.size (Mod.pd t) cs
theorem argModule {H : Type} {enc : TypeId × Value → H} {w : World} {base b0 : Nat} {spare : Nat → Bool} {held : Bool} {r : Reach} {v : Value} {d : DataW H} {ps : List MemPlace} (hv : Value.okWide Try.prog w r b0 25 v) (h : DataW.Trod enc Try.prog w base spare held 25 v d ps) : ArgModule w v := by
  obtain ⟨cs, rfl, ds, hc, hr⟩ := open_struct (dom := lawDom) Try.underlying25 lawLay rfl hv h
  obtain ⟨t, rfl⟩ := Mod.of_conf _ ds (fun d hd => ⟨Nat.lt_succ_of_lt (List.sizeOf_lt_of_mem hd), hr.whole d hd⟩) hc
  exact ⟨t, cs, rfl, hc.wf, hr⟩
theorem Move.of_conf : ∀ (N : Nat) (ds : List PD), (∀ d ∈ ds, SizeOf.sizeOf d < N ∧ d.whole) → ConfC lawEnv ds [.int, .int, .int, .int, .int, .int, .str, .sl 35] → ∃ t : Move, ds = Move.pd t := by
  intro N
  induction N with
  | zero =>
    intro ds hs h
    obtain ⟨h1, _⟩ := h
    match ds, h1 with
    | d :: _, _ => exact absurd (hs d (by simp)).1 (by omega)
  | succ N ih =>
    intro ds hs h
    obtain ⟨h1, h2⟩ := h
    match ds, h1 with
    | [d0, d1, d2, d3, d4, d5, d6, d7], _ =>
      obtain ⟨kind, rfl, _⟩ := conf_int (h2 0 _ _ rfl rfl)
      obtain ⟨at_, rfl, _⟩ := conf_int (h2 1 _ _ rfl rfl)
      obtain ⟨size, rfl, _⟩ := conf_int (h2 2 _ _ rfl rfl)
      obtain ⟨align, rfl, _⟩ := conf_int (h2 3 _ _ rfl rfl)
      obtain ⟨typ, rfl, _⟩ := conf_int (h2 4 _ _ rfl rfl)
      obtain ⟨most, rfl, _⟩ := conf_int (h2 5 _ _ rfl rfl)
      obtain ⟨name, rfl, _⟩ := conf_str (h2 6 _ _ rfl rfl)
      obtain ⟨xs7, rfl, hx7⟩ := conf_sl (h2 7 _ _ rfl rfl)
      obtain ⟨hz7, hw7⟩ := hs (.row (lawEnv 35).length xs7) (by simp)
      rw [PD.whole] at hw7
      obtain ⟨⟨n7, hn7⟩, hw7'⟩ := hw7
      obtain ⟨kids, rfl⟩ : ∃ ts, xs7 = List.flatMap rowCMoveS ts := by
        refine rows_confM (pd := rowCMoveS) (cells := [.sl 104]) (by decide) n7 xs7 (fun ds hds h => ?_) hn7 hx7
        obtain ⟨g1, g2⟩ := h
        match ds, g1 with
        | [d], _ =>
          have hdm := hds d (by simp)
          obtain ⟨ys, rfl, hy⟩ := conf_sl (g2 0 _ _ rfl rfl)
          have hwd := wholeL_mem hw7' _ (hdm)
          rw [PD.whole] at hwd
          obtain ⟨⟨m, hm⟩, hwy⟩ := hwd
          obtain ⟨us, rfl⟩ : ∃ us, ys = List.flatMap Move.pd us := by
            exact rows_confM (pd := Move.pd) (cells := [.int, .int, .int, .int, .int, .int, .str, .sl 35]) (by decide) m ys (fun ds hds h => ih ds (fun d hd => ⟨(by have := row_size_lt (n := (lawEnv 104).length) (hds d hd); have h3 := (by have := row_size_lt (n := (lawEnv 35).length) (hdm); omega); omega), wholeL_mem hwy _ (hds d hd)⟩) h) hm hy
          exact ⟨us, rfl⟩
      exact ⟨⟨kind, at_, size, align, typ, most, name, kids⟩, by rw [Move.pd_mk] <;> rfl⟩
def ArgMove (w : World) (v : Value) : Prop := ∃ (t : Move) (cs : List Value), v = .agg cs.toArray ∧ PD.wfL (Move.pd t) ∧ RepC w w.heap.size (Move.pd t) cs
theorem argMove {H : Type} {enc : TypeId × Value → H} {w : World} {base b0 : Nat} {spare : Nat → Bool} {held : Bool} {r : Reach} {v : Value} {d : DataW H} {ps : List MemPlace} (hv : Value.okWide Try.prog w r b0 104 v) (h : DataW.Trod enc Try.prog w base spare held 104 v d ps) : ArgMove w v := by
  obtain ⟨cs, rfl, ds, hc, hr⟩ := open_struct (dom := lawDom) Try.underlying104 lawLay rfl hv h
  obtain ⟨t, rfl⟩ := Move.of_conf _ ds (fun d hd => ⟨Nat.lt_succ_of_lt (List.sizeOf_lt_of_mem hd), hr.whole d hd⟩) hc
  exact ⟨t, cs, rfl, hc.wf, hr⟩
def ArgMoveS (w : World) (v : Value) : Prop := ∃ ts : List Move, (PD.row 8 (ts.flatMap Move.pd)).wf ∧ Rep w w.heap.size (.row 8 (ts.flatMap Move.pd)) v
theorem argMoveS {H : Type} {enc : TypeId × Value → H} {w : World} {base b0 : Nat} {spare : Nat → Bool} {held : Bool} {r : Reach} {v : Value} {d : DataW H} {ps : List MemPlace} (hv : Value.okWide Try.prog w r b0 35 v) (h : DataW.Trod enc Try.prog w base spare held 35 v d ps) : ArgMoveS w v := by
  obtain ⟨d, hr, hwf, hwh, hcf⟩ := (open_slice (dom := lawDom) Try.underlying35 lawLay rfl hv h).sl
  obtain ⟨xs, rfl, hx⟩ := conf_sl hcf
  rw [PD.whole] at hwh
  obtain ⟨⟨n, hn⟩, hw'⟩ := hwh
  obtain ⟨ts, rfl⟩ : ∃ ts, xs = List.flatMap Move.pd ts := rows_confM (pd := Move.pd) (cells := [.int, .int, .int, .int, .int, .int, .str, .sl 35]) (by decide) n xs (fun ds hds h => Move.of_conf _ ds (fun d hd => ⟨Nat.lt_succ_of_lt (List.sizeOf_lt_of_mem (hds d hd)), wholeL_mem hw' _ (hds d hd)⟩) h) hn hx
  exact ⟨ts, hwf, hr⟩
theorem Plan.of_conf : ∀ (N : Nat) (ds : List PD), (∀ d ∈ ds, SizeOf.sizeOf d < N ∧ d.whole) → ConfC lawEnv ds [.sl 100, .int, .int, .sl 104, .sl 104] → ∃ t : Plan, ds = Plan.pd t := by
  intro N
  induction N with
  | zero =>
    intro ds hs h
    obtain ⟨h1, _⟩ := h
    match ds, h1 with
    | d :: _, _ => exact absurd (hs d (by simp)).1 (by omega)
  | succ N ih =>
    intro ds hs h
    obtain ⟨h1, h2⟩ := h
    match ds, h1 with
    | [d0, d1, d2, d3, d4], _ =>
      obtain ⟨xs0, rfl, hx0⟩ := conf_sl (h2 0 _ _ rfl rfl)
      obtain ⟨hz0, hw0⟩ := hs (.row (lawEnv 100).length xs0) (by simp)
      rw [PD.whole] at hw0
      obtain ⟨⟨n0, hn0⟩, hw0'⟩ := hw0
      obtain ⟨from_, rfl, _⟩ := conf_int (h2 1 _ _ rfl rfl)
      obtain ⟨to_, rfl, _⟩ := conf_int (h2 2 _ _ rfl rfl)
      obtain ⟨xs3, rfl, hx3⟩ := conf_sl (h2 3 _ _ rfl rfl)
      obtain ⟨hz3, hw3⟩ := hs (.row (lawEnv 104).length xs3) (by simp)
      rw [PD.whole] at hw3
      obtain ⟨⟨n3, hn3⟩, hw3'⟩ := hw3
      obtain ⟨xs4, rfl, hx4⟩ := conf_sl (h2 4 _ _ rfl rfl)
      obtain ⟨hz4, hw4⟩ := hs (.row (lawEnv 104).length xs4) (by simp)
      rw [PD.whole] at hw4
      obtain ⟨⟨n4, hn4⟩, hw4'⟩ := hw4
      obtain ⟨types, rfl⟩ : ∃ ts, xs0 = List.flatMap Ty.pd ts := by
        exact rows_confM (pd := Ty.pd) (cells := [.int, .str, .sl 9, .sl 100]) (by decide) n0 xs0 (fun ds hds h => Ty.of_conf _ ds (fun d hd => ⟨Nat.lt_succ_of_lt (List.sizeOf_lt_of_mem (hds d hd)), wholeL_mem hw0' _ (hds d hd)⟩) h) hn0 hx0
      obtain ⟨flat, rfl⟩ : ∃ ts, xs3 = List.flatMap Move.pd ts := by
        exact rows_confM (pd := Move.pd) (cells := [.int, .int, .int, .int, .int, .int, .str, .sl 35]) (by decide) n3 xs3 (fun ds hds h => Move.of_conf _ ds (fun d hd => ⟨Nat.lt_succ_of_lt (List.sizeOf_lt_of_mem (hds d hd)), wholeL_mem hw3' _ (hds d hd)⟩) h) hn3 hx3
      obtain ⟨mem, rfl⟩ : ∃ ts, xs4 = List.flatMap Move.pd ts := by
        exact rows_confM (pd := Move.pd) (cells := [.int, .int, .int, .int, .int, .int, .str, .sl 35]) (by decide) n4 xs4 (fun ds hds h => Move.of_conf _ ds (fun d hd => ⟨Nat.lt_succ_of_lt (List.sizeOf_lt_of_mem (hds d hd)), wholeL_mem hw4' _ (hds d hd)⟩) h) hn4 hx4
      exact ⟨⟨types, from_, to_, flat, mem⟩, by rw [Plan.pd_mk] <;> rfl⟩
def ArgPlan (w : World) (v : Value) : Prop := ∃ (t : Plan) (cs : List Value), v = .agg cs.toArray ∧ PD.wfL (Plan.pd t) ∧ RepC w w.heap.size (Plan.pd t) cs
theorem argPlan {H : Type} {enc : TypeId × Value → H} {w : World} {base b0 : Nat} {spare : Nat → Bool} {held : Bool} {r : Reach} {v : Value} {d : DataW H} {ps : List MemPlace} (hv : Value.okWide Try.prog w r b0 37 v) (h : DataW.Trod enc Try.prog w base spare held 37 v d ps) : ArgPlan w v := by
  obtain ⟨cs, rfl, ds, hc, hr⟩ := open_struct (dom := lawDom) Try.underlying37 lawLay rfl hv h
  obtain ⟨t, rfl⟩ := Plan.of_conf _ ds (fun d hd => ⟨Nat.lt_succ_of_lt (List.sizeOf_lt_of_mem hd), hr.whole d hd⟩) hc
  exact ⟨t, cs, rfl, hc.wf, hr⟩
end Go.Proofs.Ytnedcpoengcbaaa
