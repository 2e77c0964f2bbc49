/-
  From the laws' parameters to the structs (by program: tygen2.py).
-/
import Derived.Test.YtlppngpafjfjeaaTy
namespace Go.Proofs.Ytlppngpafjfjeaa
open Go.RowKit
set_option linter.unusedVariables false
set_option linter.unusedSimpArgs false
set_option linter.unnecessarySimpa false
set_option maxRecDepth 100000

open Go.ChangeShapes Go.WideShapes Go.ChangeAt
/-- the laws' parameter types, cell by cell -/
def lawDom : Dom :=
  (2, [.int]) ::
  (9, [.str]) ::
  (4, [.bool]) ::
  (50, [.sl 2]) ::
  (22, [.sl 79]) ::
  (79, [.int, .int]) ::
  (24, [.str, .sl 79]) ::
  []
theorem lawLay : layB Try.prog lawDom = true := by kernel_rfl
abbrev lawEnv : Nat → List TyC := lawDom.env
theorem int_conf {ds : List PD} (h : ConfC lawEnv ds [.int]) : ∃ t, ds = intC t := by
  obtain ⟨h1, h2⟩ := h
  match ds, h1 with
  | [d], _ => obtain ⟨n, rfl, _⟩ := conf_int (h2 0 _ _ rfl rfl); exact ⟨n, rfl⟩
theorem str_conf {ds : List PD} (h : ConfC lawEnv ds [.str]) : ∃ t, ds = strC t := by
  obtain ⟨h1, h2⟩ := h
  match ds, h1 with
  | [d], _ => obtain ⟨n, rfl, _⟩ := conf_str (h2 0 _ _ rfl rfl); exact ⟨n, rfl⟩
theorem Block.of_conf : ∀ (N : Nat) (ds : List PD), (∀ d ∈ ds, SizeOf.sizeOf d < N ∧ d.whole) → ConfC lawEnv ds [.int, .int] → ∃ t : Block, ds = Block.pd t := by
  intro N
  induction N with
  | zero =>
    intro ds hs h
    obtain ⟨h1, _⟩ := h
    match ds, h1 with
    | d :: _, _ => exact absurd (hs d (by simp)).1 (by omega)
  | succ N ih =>
    intro ds hs h
    obtain ⟨h1, h2⟩ := h
    match ds, h1 with
    | [d0, d1], _ =>
      obtain ⟨at_, rfl, _⟩ := conf_int (h2 0 _ _ rfl rfl)
      obtain ⟨size, rfl, _⟩ := conf_int (h2 1 _ _ rfl rfl)
      exact ⟨⟨at_, size⟩, by rw [Block.pd_mk] <;> rfl⟩
def ArgBlock (w : World) (v : Value) : Prop := ∃ (t : Block) (cs : List Value), v = .agg cs.toArray ∧ PD.wfL (Block.pd t) ∧ RepC w w.heap.size (Block.pd t) cs
theorem argBlock {H : Type} {enc : TypeId × Value → H} {w : World} {base b0 : Nat} {spare : Nat → Bool} {held : Bool} {r : Reach} {v : Value} {d : DataW H} {ps : List MemPlace} (hv : Value.okWide Try.prog w r b0 79 v) (h : DataW.Trod enc Try.prog w base spare held 79 v d ps) : ArgBlock w v := by
  obtain ⟨cs, rfl, ds, hc, hr⟩ := open_struct (dom := lawDom) Try.underlying79 lawLay rfl hv h
  obtain ⟨t, rfl⟩ := Block.of_conf _ ds (fun d hd => ⟨Nat.lt_succ_of_lt (List.sizeOf_lt_of_mem hd), hr.whole d hd⟩) hc
  exact ⟨t, cs, rfl, hc.wf, hr⟩
def ArgBlockS (w : World) (v : Value) : Prop := ∃ ts : List Block, (PD.row 2 (ts.flatMap Block.pd)).wf ∧ Rep w w.heap.size (.row 2 (ts.flatMap Block.pd)) v
theorem argBlockS {H : Type} {enc : TypeId × Value → H} {w : World} {base b0 : Nat} {spare : Nat → Bool} {held : Bool} {r : Reach} {v : Value} {d : DataW H} {ps : List MemPlace} (hv : Value.okWide Try.prog w r b0 22 v) (h : DataW.Trod enc Try.prog w base spare held 22 v d ps) : ArgBlockS w v := by
  obtain ⟨d, hr, hwf, hwh, hcf⟩ := (open_slice (dom := lawDom) Try.underlying22 lawLay rfl hv h).sl
  obtain ⟨xs, rfl, hx⟩ := conf_sl hcf
  rw [PD.whole] at hwh
  obtain ⟨⟨n, hn⟩, hw'⟩ := hwh
  obtain ⟨ts, rfl⟩ : ∃ ts, xs = List.flatMap Block.pd ts := rows_confM (pd := Block.pd) (cells := [.int, .int]) (by decide) n xs (fun ds hds h => Block.of_conf _ ds (fun d hd => ⟨Nat.lt_succ_of_lt (List.sizeOf_lt_of_mem (hds d hd)), wholeL_mem hw' _ (hds d hd)⟩) h) hn hx
  exact ⟨ts, hwf, hr⟩
theorem Memory.of_conf : ∀ (N : Nat) (ds : List PD), (∀ d ∈ ds, SizeOf.sizeOf d < N ∧ d.whole) → ConfC lawEnv ds [.str, .sl 79] → ∃ t : Memory, ds = Memory.pd t := by
  intro N
  induction N with
  | zero =>
    intro ds hs h
    obtain ⟨h1, _⟩ := h
    match ds, h1 with
    | d :: _, _ => exact absurd (hs d (by simp)).1 (by omega)
  | succ N ih =>
    intro ds hs h
    obtain ⟨h1, h2⟩ := h
    match ds, h1 with
    | [d0, d1], _ =>
      obtain ⟨bytes, rfl, _⟩ := conf_str (h2 0 _ _ rfl rfl)
      obtain ⟨xs1, rfl, hx1⟩ := conf_sl (h2 1 _ _ rfl rfl)
      obtain ⟨hz1, hw1⟩ := hs (.row (lawEnv 79).length xs1) (by simp)
      rw [PD.whole] at hw1
      obtain ⟨⟨n1, hn1⟩, hw1'⟩ := hw1
      obtain ⟨free, rfl⟩ : ∃ ts, xs1 = List.flatMap Block.pd ts := by
        exact rows_confM (pd := Block.pd) (cells := [.int, .int]) (by decide) n1 xs1 (fun ds hds h => Block.of_conf _ ds (fun d hd => ⟨Nat.lt_succ_of_lt (List.sizeOf_lt_of_mem (hds d hd)), wholeL_mem hw1' _ (hds d hd)⟩) h) hn1 hx1
      exact ⟨⟨bytes, free⟩, by rw [Memory.pd_mk] <;> rfl⟩
def ArgMemory (w : World) (v : Value) : Prop := ∃ (t : Memory) (cs : List Value), v = .agg cs.toArray ∧ PD.wfL (Memory.pd t) ∧ RepC w w.heap.size (Memory.pd t) cs
theorem argMemory {H : Type} {enc : TypeId × Value → H} {w : World} {base b0 : Nat} {spare : Nat → Bool} {held : Bool} {r : Reach} {v : Value} {d : DataW H} {ps : List MemPlace} (hv : Value.okWide Try.prog w r b0 24 v) (h : DataW.Trod enc Try.prog w base spare held 24 v d ps) : ArgMemory w v := by
  obtain ⟨cs, rfl, ds, hc, hr⟩ := open_struct (dom := lawDom) Try.underlying24 lawLay rfl hv h
  obtain ⟨t, rfl⟩ := Memory.of_conf _ ds (fun d hd => ⟨Nat.lt_succ_of_lt (List.sizeOf_lt_of_mem hd), hr.whole d hd⟩) hc
  exact ⟨t, cs, rfl, hc.wf, hr⟩
end Go.Proofs.Ytlppngpafjfjeaa
