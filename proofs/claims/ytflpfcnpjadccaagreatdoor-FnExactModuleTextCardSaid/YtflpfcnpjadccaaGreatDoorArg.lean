/-
  From the laws' parameters to the structs (by program: tygen2.py).
-/
import Derived.Test.YtflpfcnpjadccaaGreatDoorTy
namespace Go.Proofs.YtflpfcnpjadccaaGreatDoor
open Go.RowKit
set_option linter.unusedVariables false
set_option linter.unusedSimpArgs false
set_option linter.unnecessarySimpa false
set_option maxRecDepth 100000

open Go.ChangeShapes Go.WideShapes Go.ChangeAt
/-- the laws' parameter types, cell by cell -/
def lawDom : Dom :=
  (2, [.int]) ::
  (9, [.str]) ::
  (4, [.bool]) ::
  (47, [.sl 9]) ::
  (64, [.sl 122]) ::
  (122, [.int, .int]) ::
  (22, [.sl 62]) ::
  (62, [.str, .int, .bool]) ::
  (23, [.sl 66]) ::
  (66, [.str, .int, .int, .bool, .sl 122]) ::
  (25, [.int, .sl 62, .sl 66]) ::
  []
theorem lawLay : layB Tryz.prog lawDom = true := by kernel_rfl
abbrev lawEnv : Nat → List TyC := lawDom.env
theorem int_conf {ds : List PD} (h : ConfC lawEnv ds [.int]) : ∃ t, ds = intC t := by
  obtain ⟨h1, h2⟩ := h
  match ds, h1 with
  | [d], _ => obtain ⟨n, rfl, _⟩ := conf_int (h2 0 _ _ rfl rfl); exact ⟨n, rfl⟩
theorem str_conf {ds : List PD} (h : ConfC lawEnv ds [.str]) : ∃ t, ds = strC t := by
  obtain ⟨h1, h2⟩ := h
  match ds, h1 with
  | [d], _ => obtain ⟨n, rfl, _⟩ := conf_str (h2 0 _ _ rfl rfl); exact ⟨n, rfl⟩
theorem Ins.of_conf : ∀ (N : Nat) (ds : List PD), (∀ d ∈ ds, SizeOf.sizeOf d < N ∧ d.whole) → ConfC lawEnv ds [.int, .int] → ∃ t : Ins, ds = Ins.pd t := by
  intro N
  induction N with
  | zero =>
    intro ds hs h
    obtain ⟨h1, _⟩ := h
    match ds, h1 with
    | d :: _, _ => exact absurd (hs d (by simp)).1 (by omega)
  | succ N ih =>
    intro ds hs h
    obtain ⟨h1, h2⟩ := h
    match ds, h1 with
    | [d0, d1], _ =>
      obtain ⟨op, rfl, _⟩ := conf_int (h2 0 _ _ rfl rfl)
      obtain ⟨a, rfl, _⟩ := conf_int (h2 1 _ _ rfl rfl)
      exact ⟨⟨op, a⟩, by rw [Ins.pd_mk] <;> rfl⟩
def ArgIns (w : World) (v : Value) : Prop := ∃ (t : Ins) (cs : List Value), v = .agg cs.toArray ∧ PD.wfL (Ins.pd t) ∧ RepC w w.heap.size (Ins.pd t) cs
theorem argIns {H : Type} {enc : TypeId × Value → H} {w : World} {base b0 : Nat} {spare : Nat → Bool} {held : Bool} {r : Reach} {v : Value} {d : DataW H} {ps : List MemPlace} (hv : Value.okWide Tryz.prog w r b0 122 v) (h : DataW.Trod enc Tryz.prog w base spare held 122 v d ps) : ArgIns w v := by
  obtain ⟨cs, rfl, ds, hc, hr⟩ := open_struct (dom := lawDom) Tryz.underlying122 lawLay rfl hv h
  obtain ⟨t, rfl⟩ := Ins.of_conf _ ds (fun d hd => ⟨Nat.lt_succ_of_lt (List.sizeOf_lt_of_mem hd), hr.whole d hd⟩) hc
  exact ⟨t, cs, rfl, hc.wf, hr⟩
def ArgInsS (w : World) (v : Value) : Prop := ∃ ts : List Ins, (PD.row 2 (ts.flatMap Ins.pd)).wf ∧ Rep w w.heap.size (.row 2 (ts.flatMap Ins.pd)) v
theorem argInsS {H : Type} {enc : TypeId × Value → H} {w : World} {base b0 : Nat} {spare : Nat → Bool} {held : Bool} {r : Reach} {v : Value} {d : DataW H} {ps : List MemPlace} (hv : Value.okWide Tryz.prog w r b0 64 v) (h : DataW.Trod enc Tryz.prog w base spare held 64 v d ps) : ArgInsS w v := by
  obtain ⟨d, hr, hwf, hwh, hcf⟩ := (open_slice (dom := lawDom) Tryz.underlying64 lawLay rfl hv h).sl
  obtain ⟨xs, rfl, hx⟩ := conf_sl hcf
  rw [PD.whole] at hwh
  obtain ⟨⟨n, hn⟩, hw'⟩ := hwh
  obtain ⟨ts, rfl⟩ : ∃ ts, xs = List.flatMap Ins.pd ts := rows_confM (pd := Ins.pd) (cells := [.int, .int]) (by decide) n xs (fun ds hds h => Ins.of_conf _ ds (fun d hd => ⟨Nat.lt_succ_of_lt (List.sizeOf_lt_of_mem (hds d hd)), wholeL_mem hw' _ (hds d hd)⟩) h) hn hx
  exact ⟨ts, hwf, hr⟩
theorem Imp.of_conf : ∀ (N : Nat) (ds : List PD), (∀ d ∈ ds, SizeOf.sizeOf d < N ∧ d.whole) → ConfC lawEnv ds [.str, .int, .bool] → ∃ t : Imp, ds = Imp.pd t := by
  intro N
  induction N with
  | zero =>
    intro ds hs h
    obtain ⟨h1, _⟩ := h
    match ds, h1 with
    | d :: _, _ => exact absurd (hs d (by simp)).1 (by omega)
  | succ N ih =>
    intro ds hs h
    obtain ⟨h1, h2⟩ := h
    match ds, h1 with
    | [d0, d1, d2], _ =>
      obtain ⟨name, rfl, _⟩ := conf_str (h2 0 _ _ rfl rfl)
      obtain ⟨params, rfl, _⟩ := conf_int (h2 1 _ _ rfl rfl)
      obtain ⟨result, rfl⟩ := conf_bool (h2 2 _ _ rfl rfl)
      exact ⟨⟨name, params, result⟩, by rw [Imp.pd_mk] <;> rfl⟩
def ArgImport (w : World) (v : Value) : Prop := ∃ (t : Imp) (cs : List Value), v = .agg cs.toArray ∧ PD.wfL (Imp.pd t) ∧ RepC w w.heap.size (Imp.pd t) cs
theorem argImport {H : Type} {enc : TypeId × Value → H} {w : World} {base b0 : Nat} {spare : Nat → Bool} {held : Bool} {r : Reach} {v : Value} {d : DataW H} {ps : List MemPlace} (hv : Value.okWide Tryz.prog w r b0 62 v) (h : DataW.Trod enc Tryz.prog w base spare held 62 v d ps) : ArgImport w v := by
  obtain ⟨cs, rfl, ds, hc, hr⟩ := open_struct (dom := lawDom) Tryz.underlying62 lawLay rfl hv h
  obtain ⟨t, rfl⟩ := Imp.of_conf _ ds (fun d hd => ⟨Nat.lt_succ_of_lt (List.sizeOf_lt_of_mem hd), hr.whole d hd⟩) hc
  exact ⟨t, cs, rfl, hc.wf, hr⟩
def ArgImportS (w : World) (v : Value) : Prop := ∃ ts : List Imp, (PD.row 3 (ts.flatMap Imp.pd)).wf ∧ Rep w w.heap.size (.row 3 (ts.flatMap Imp.pd)) v
theorem argImportS {H : Type} {enc : TypeId × Value → H} {w : World} {base b0 : Nat} {spare : Nat → Bool} {held : Bool} {r : Reach} {v : Value} {d : DataW H} {ps : List MemPlace} (hv : Value.okWide Tryz.prog w r b0 22 v) (h : DataW.Trod enc Tryz.prog w base spare held 22 v d ps) : ArgImportS w v := by
  obtain ⟨d, hr, hwf, hwh, hcf⟩ := (open_slice (dom := lawDom) Tryz.underlying22 lawLay rfl hv h).sl
  obtain ⟨xs, rfl, hx⟩ := conf_sl hcf
  rw [PD.whole] at hwh
  obtain ⟨⟨n, hn⟩, hw'⟩ := hwh
  obtain ⟨ts, rfl⟩ : ∃ ts, xs = List.flatMap Imp.pd ts := rows_confM (pd := Imp.pd) (cells := [.str, .int, .bool]) (by decide) n xs (fun ds hds h => Imp.of_conf _ ds (fun d hd => ⟨Nat.lt_succ_of_lt (List.sizeOf_lt_of_mem (hds d hd)), wholeL_mem hw' _ (hds d hd)⟩) h) hn hx
  exact ⟨ts, hwf, hr⟩
theorem Core.of_conf : ∀ (N : Nat) (ds : List PD), (∀ d ∈ ds, SizeOf.sizeOf d < N ∧ d.whole) → ConfC lawEnv ds [.str, .int, .int, .bool, .sl 122] → ∃ t : Core, ds = Core.pd t := by
  intro N
  induction N with
  | zero =>
    intro ds hs h
    obtain ⟨h1, _⟩ := h
    match ds, h1 with
    | d :: _, _ => exact absurd (hs d (by simp)).1 (by omega)
  | succ N ih =>
    intro ds hs h
    obtain ⟨h1, h2⟩ := h
    match ds, h1 with
    | [d0, d1, d2, d3, d4], _ =>
      obtain ⟨name, rfl, _⟩ := conf_str (h2 0 _ _ rfl rfl)
      obtain ⟨params, rfl, _⟩ := conf_int (h2 1 _ _ rfl rfl)
      obtain ⟨locals, rfl, _⟩ := conf_int (h2 2 _ _ rfl rfl)
      obtain ⟨result, rfl⟩ := conf_bool (h2 3 _ _ rfl rfl)
      obtain ⟨xs4, rfl, hx4⟩ := conf_sl (h2 4 _ _ rfl rfl)
      obtain ⟨hz4, hw4⟩ := hs (.row (lawEnv 122).length xs4) (by simp)
      rw [PD.whole] at hw4
      obtain ⟨⟨n4, hn4⟩, hw4'⟩ := hw4
      obtain ⟨code, rfl⟩ : ∃ ts, xs4 = List.flatMap Ins.pd ts := by
        exact rows_confM (pd := Ins.pd) (cells := [.int, .int]) (by decide) n4 xs4 (fun ds hds h => Ins.of_conf _ ds (fun d hd => ⟨Nat.lt_succ_of_lt (List.sizeOf_lt_of_mem (hds d hd)), wholeL_mem hw4' _ (hds d hd)⟩) h) hn4 hx4
      exact ⟨⟨name, params, locals, result, code⟩, by rw [Core.pd_mk] <;> rfl⟩
def ArgCore (w : World) (v : Value) : Prop := ∃ (t : Core) (cs : List Value), v = .agg cs.toArray ∧ PD.wfL (Core.pd t) ∧ RepC w w.heap.size (Core.pd t) cs
theorem argCore {H : Type} {enc : TypeId × Value → H} {w : World} {base b0 : Nat} {spare : Nat → Bool} {held : Bool} {r : Reach} {v : Value} {d : DataW H} {ps : List MemPlace} (hv : Value.okWide Tryz.prog w r b0 66 v) (h : DataW.Trod enc Tryz.prog w base spare held 66 v d ps) : ArgCore w v := by
  obtain ⟨cs, rfl, ds, hc, hr⟩ := open_struct (dom := lawDom) Tryz.underlying66 lawLay rfl hv h
  obtain ⟨t, rfl⟩ := Core.of_conf _ ds (fun d hd => ⟨Nat.lt_succ_of_lt (List.sizeOf_lt_of_mem hd), hr.whole d hd⟩) hc
  exact ⟨t, cs, rfl, hc.wf, hr⟩
def ArgCoreS (w : World) (v : Value) : Prop := ∃ ts : List Core, (PD.row 5 (ts.flatMap Core.pd)).wf ∧ Rep w w.heap.size (.row 5 (ts.flatMap Core.pd)) v
theorem argCoreS {H : Type} {enc : TypeId × Value → H} {w : World} {base b0 : Nat} {spare : Nat → Bool} {held : Bool} {r : Reach} {v : Value} {d : DataW H} {ps : List MemPlace} (hv : Value.okWide Tryz.prog w r b0 23 v) (h : DataW.Trod enc Tryz.prog w base spare held 23 v d ps) : ArgCoreS w v := by
  obtain ⟨d, hr, hwf, hwh, hcf⟩ := (open_slice (dom := lawDom) Tryz.underlying23 lawLay rfl hv h).sl
  obtain ⟨xs, rfl, hx⟩ := conf_sl hcf
  rw [PD.whole] at hwh
  obtain ⟨⟨n, hn⟩, hw'⟩ := hwh
  obtain ⟨ts, rfl⟩ : ∃ ts, xs = List.flatMap Core.pd ts := rows_confM (pd := Core.pd) (cells := [.str, .int, .int, .bool, .sl 122]) (by decide) n xs (fun ds hds h => Core.of_conf _ ds (fun d hd => ⟨Nat.lt_succ_of_lt (List.sizeOf_lt_of_mem (hds d hd)), wholeL_mem hw' _ (hds d hd)⟩) h) hn hx
  exact ⟨ts, hwf, hr⟩
theorem Mod.of_conf : ∀ (N : Nat) (ds : List PD), (∀ d ∈ ds, SizeOf.sizeOf d < N ∧ d.whole) → ConfC lawEnv ds [.int, .sl 62, .sl 66] → ∃ t : Mod, ds = Mod.pd t := by
  intro N
  induction N with
  | zero =>
    intro ds hs h
    obtain ⟨h1, _⟩ := h
    match ds, h1 with
    | d :: _, _ => exact absurd (hs d (by simp)).1 (by omega)
  | succ N ih =>
    intro ds hs h
    obtain ⟨h1, h2⟩ := h
    match ds, h1 with
    | [d0, d1, d2], _ =>
      obtain ⟨pages, rfl, _⟩ := conf_int (h2 0 _ _ rfl rfl)
      obtain ⟨xs1, rfl, hx1⟩ := conf_sl (h2 1 _ _ rfl rfl)
      obtain ⟨hz1, hw1⟩ := hs (.row (lawEnv 62).length xs1) (by simp)
      rw [PD.whole] at hw1
      obtain ⟨⟨n1, hn1⟩, hw1'⟩ := hw1
      obtain ⟨xs2, rfl, hx2⟩ := conf_sl (h2 2 _ _ rfl rfl)
      obtain ⟨hz2, hw2⟩ := hs (.row (lawEnv 66).length xs2) (by simp)
      rw [PD.whole] at hw2
      obtain ⟨⟨n2, hn2⟩, hw2'⟩ := hw2
      obtain ⟨imports, rfl⟩ : ∃ ts, xs1 = List.flatMap Imp.pd ts := by
        exact rows_confM (pd := Imp.pd) (cells := [.str, .int, .bool]) (by decide) n1 xs1 (fun ds hds h => Imp.of_conf _ ds (fun d hd => ⟨Nat.lt_succ_of_lt (List.sizeOf_lt_of_mem (hds d hd)), wholeL_mem hw1' _ (hds d hd)⟩) h) hn1 hx1
      obtain ⟨cores, rfl⟩ : ∃ ts, xs2 = List.flatMap Core.pd ts := by
        exact rows_confM (pd := Core.pd) (cells := [.str, .int, .int, .bool, .sl 122]) (by decide) n2 xs2 (fun ds hds h => Core.of_conf _ ds (fun d hd => ⟨Nat.lt_succ_of_lt (List.sizeOf_lt_of_mem (hds d hd)), wholeL_mem hw2' _ (hds d hd)⟩) h) hn2 hx2
      exact ⟨⟨pages, imports, cores⟩, by rw [Mod.pd_mk] <;> rfl⟩
def ArgModule (w : World) (v : Value) : Prop := ∃ (t : Mod) (cs : List Value), v = .agg cs.toArray ∧ PD.wfL (Mod.pd t) ∧ RepC w w.heap.size (Mod.pd t) cs
theorem argModule {H : Type} {enc : TypeId × Value → H} {w : World} {base b0 : Nat} {spare : Nat → Bool} {held : Bool} {r : Reach} {v : Value} {d : DataW H} {ps : List MemPlace} (hv : Value.okWide Tryz.prog w r b0 25 v) (h : DataW.Trod enc Tryz.prog w base spare held 25 v d ps) : ArgModule w v := by
  obtain ⟨cs, rfl, ds, hc, hr⟩ := open_struct (dom := lawDom) Tryz.underlying25 lawLay rfl hv h
  obtain ⟨t, rfl⟩ := Mod.of_conf _ ds (fun d hd => ⟨Nat.lt_succ_of_lt (List.sizeOf_lt_of_mem hd), hr.whole d hd⟩) hc
  exact ⟨t, cs, rfl, hc.wf, hr⟩
end Go.Proofs.YtflpfcnpjadccaaGreatDoor
