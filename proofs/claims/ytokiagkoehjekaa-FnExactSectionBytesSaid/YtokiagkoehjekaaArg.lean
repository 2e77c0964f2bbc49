/-
  From the laws' parameters to the structs (by program: tygen2.py).
-/
import Derived.Test.YtokiagkoehjekaaTy
namespace Go.Proofs.Ytokiagkoehjekaa
open Go.RowKit
set_option linter.unusedVariables false
set_option linter.unusedSimpArgs false
set_option linter.unnecessarySimpa false
set_option maxRecDepth 100000

open Go.ChangeShapes Go.WideShapes Go.ChangeAt
/-- the laws' parameter types, cell by cell -/
def lawDom : Dom :=
  (2, [.int]) ::
  (9, [.str]) ::
  (4, [.bool]) ::
  (35, [.sl 23]) ::
  (23, [.int, .int]) ::
  (28, [.sl 49]) ::
  (49, [.int, .str, .str]) ::
  []
theorem lawLay : layB Try.prog lawDom = true := by kernel_rfl
abbrev lawEnv : Nat → List TyC := lawDom.env
theorem int_conf {ds : List PD} (h : ConfC lawEnv ds [.int]) : ∃ t, ds = intC t := by
  obtain ⟨h1, h2⟩ := h
  match ds, h1 with
  | [d], _ => obtain ⟨n, rfl, _⟩ := conf_int (h2 0 _ _ rfl rfl); exact ⟨n, rfl⟩
theorem str_conf {ds : List PD} (h : ConfC lawEnv ds [.str]) : ∃ t, ds = strC t := by
  obtain ⟨h1, h2⟩ := h
  match ds, h1 with
  | [d], _ => obtain ⟨n, rfl, _⟩ := conf_str (h2 0 _ _ rfl rfl); exact ⟨n, rfl⟩
theorem Ins.of_conf : ∀ (N : Nat) (ds : List PD), (∀ d ∈ ds, SizeOf.sizeOf d < N ∧ d.whole) → ConfC lawEnv ds [.int, .int] → ∃ t : Ins, ds = Ins.pd t := by
  intro N
  induction N with
  | zero =>
    intro ds hs h
    obtain ⟨h1, _⟩ := h
    match ds, h1 with
    | d :: _, _ => exact absurd (hs d (by simp)).1 (by omega)
  | succ N ih =>
    intro ds hs h
    obtain ⟨h1, h2⟩ := h
    match ds, h1 with
    | [d0, d1], _ =>
      obtain ⟨op, rfl, _⟩ := conf_int (h2 0 _ _ rfl rfl)
      obtain ⟨a, rfl, _⟩ := conf_int (h2 1 _ _ rfl rfl)
      exact ⟨⟨op, a⟩, by rw [Ins.pd_mk] <;> rfl⟩
def ArgIns (w : World) (v : Value) : Prop := ∃ (t : Ins) (cs : List Value), v = .agg cs.toArray ∧ PD.wfL (Ins.pd t) ∧ RepC w w.heap.size (Ins.pd t) cs
theorem argIns {H : Type} {enc : TypeId × Value → H} {w : World} {base b0 : Nat} {spare : Nat → Bool} {held : Bool} {r : Reach} {v : Value} {d : DataW H} {ps : List MemPlace} (hv : Value.okWide Try.prog w r b0 23 v) (h : DataW.Trod enc Try.prog w base spare held 23 v d ps) : ArgIns w v := by
  obtain ⟨cs, rfl, ds, hc, hr⟩ := open_struct (dom := lawDom) Try.underlying23 lawLay rfl hv h
  obtain ⟨t, rfl⟩ := Ins.of_conf _ ds (fun d hd => ⟨Nat.lt_succ_of_lt (List.sizeOf_lt_of_mem hd), hr.whole d hd⟩) hc
  exact ⟨t, cs, rfl, hc.wf, hr⟩
def ArgInsS (w : World) (v : Value) : Prop := ∃ ts : List Ins, (PD.row 2 (ts.flatMap Ins.pd)).wf ∧ Rep w w.heap.size (.row 2 (ts.flatMap Ins.pd)) v
theorem argInsS {H : Type} {enc : TypeId × Value → H} {w : World} {base b0 : Nat} {spare : Nat → Bool} {held : Bool} {r : Reach} {v : Value} {d : DataW H} {ps : List MemPlace} (hv : Value.okWide Try.prog w r b0 35 v) (h : DataW.Trod enc Try.prog w base spare held 35 v d ps) : ArgInsS w v := by
  obtain ⟨d, hr, hwf, hwh, hcf⟩ := (open_slice (dom := lawDom) Try.underlying35 lawLay rfl hv h).sl
  obtain ⟨xs, rfl, hx⟩ := conf_sl hcf
  rw [PD.whole] at hwh
  obtain ⟨⟨n, hn⟩, hw'⟩ := hwh
  obtain ⟨ts, rfl⟩ : ∃ ts, xs = List.flatMap Ins.pd ts := rows_confM (pd := Ins.pd) (cells := [.int, .int]) (by decide) n xs (fun ds hds h => Ins.of_conf _ ds (fun d hd => ⟨Nat.lt_succ_of_lt (List.sizeOf_lt_of_mem (hds d hd)), wholeL_mem hw' _ (hds d hd)⟩) h) hn hx
  exact ⟨ts, hwf, hr⟩
theorem Section.of_conf : ∀ (N : Nat) (ds : List PD), (∀ d ∈ ds, SizeOf.sizeOf d < N ∧ d.whole) → ConfC lawEnv ds [.int, .str, .str] → ∃ t : Section, ds = Section.pd t := by
  intro N
  induction N with
  | zero =>
    intro ds hs h
    obtain ⟨h1, _⟩ := h
    match ds, h1 with
    | d :: _, _ => exact absurd (hs d (by simp)).1 (by omega)
  | succ N ih =>
    intro ds hs h
    obtain ⟨h1, h2⟩ := h
    match ds, h1 with
    | [d0, d1, d2], _ =>
      obtain ⟨id, rfl, _⟩ := conf_int (h2 0 _ _ rfl rfl)
      obtain ⟨name, rfl, _⟩ := conf_str (h2 1 _ _ rfl rfl)
      obtain ⟨bytes, rfl, _⟩ := conf_str (h2 2 _ _ rfl rfl)
      exact ⟨⟨id, name, bytes⟩, by rw [Section.pd_mk] <;> rfl⟩
def ArgSection (w : World) (v : Value) : Prop := ∃ (t : Section) (cs : List Value), v = .agg cs.toArray ∧ PD.wfL (Section.pd t) ∧ RepC w w.heap.size (Section.pd t) cs
theorem argSection {H : Type} {enc : TypeId × Value → H} {w : World} {base b0 : Nat} {spare : Nat → Bool} {held : Bool} {r : Reach} {v : Value} {d : DataW H} {ps : List MemPlace} (hv : Value.okWide Try.prog w r b0 49 v) (h : DataW.Trod enc Try.prog w base spare held 49 v d ps) : ArgSection w v := by
  obtain ⟨cs, rfl, ds, hc, hr⟩ := open_struct (dom := lawDom) Try.underlying49 lawLay rfl hv h
  obtain ⟨t, rfl⟩ := Section.of_conf _ ds (fun d hd => ⟨Nat.lt_succ_of_lt (List.sizeOf_lt_of_mem hd), hr.whole d hd⟩) hc
  exact ⟨t, cs, rfl, hc.wf, hr⟩
def ArgSectionS (w : World) (v : Value) : Prop := ∃ ts : List Section, (PD.row 3 (ts.flatMap Section.pd)).wf ∧ Rep w w.heap.size (.row 3 (ts.flatMap Section.pd)) v
theorem argSectionS {H : Type} {enc : TypeId × Value → H} {w : World} {base b0 : Nat} {spare : Nat → Bool} {held : Bool} {r : Reach} {v : Value} {d : DataW H} {ps : List MemPlace} (hv : Value.okWide Try.prog w r b0 28 v) (h : DataW.Trod enc Try.prog w base spare held 28 v d ps) : ArgSectionS w v := by
  obtain ⟨d, hr, hwf, hwh, hcf⟩ := (open_slice (dom := lawDom) Try.underlying28 lawLay rfl hv h).sl
  obtain ⟨xs, rfl, hx⟩ := conf_sl hcf
  rw [PD.whole] at hwh
  obtain ⟨⟨n, hn⟩, hw'⟩ := hwh
  obtain ⟨ts, rfl⟩ : ∃ ts, xs = List.flatMap Section.pd ts := rows_confM (pd := Section.pd) (cells := [.int, .str, .str]) (by decide) n xs (fun ds hds h => Section.of_conf _ ds (fun d hd => ⟨Nat.lt_succ_of_lt (List.sizeOf_lt_of_mem (hds d hd)), wholeL_mem hw' _ (hds d hd)⟩) h) hn hx
  exact ⟨ts, hwf, hr⟩
end Go.Proofs.Ytokiagkoehjekaa
