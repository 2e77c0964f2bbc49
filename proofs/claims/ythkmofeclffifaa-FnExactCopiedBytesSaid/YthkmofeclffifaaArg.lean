/-
  From the laws' parameters to the structs (by program: tygen2.py).
-/
import Derived.Test.YthkmofeclffifaaTy
namespace Go.Proofs.Ythkmofeclffifaa
open Go.RowKit
set_option linter.unusedVariables false
set_option linter.unusedSimpArgs false
set_option linter.unnecessarySimpa false
set_option maxRecDepth 100000

open Go.ChangeShapes Go.WideShapes Go.ChangeAt
/-- the laws' parameter types, cell by cell -/
def lawDom : Dom :=
  (2, [.int]) ::
  (9, [.str]) ::
  (4, [.bool]) ::
  (22, [.sl 32]) ::
  (30, [.sl 22]) ::
  (32, [.int, .int, .int, .int, .int, .int, .str, .sl 22]) ::
  []
theorem lawLay : layB Try.prog lawDom = true := by kernel_rfl
abbrev lawEnv : Nat → List TyC := lawDom.env
theorem int_conf {ds : List PD} (h : ConfC lawEnv ds [.int]) : ∃ t, ds = intC t := by
  obtain ⟨h1, h2⟩ := h
  match ds, h1 with
  | [d], _ => obtain ⟨n, rfl, _⟩ := conf_int (h2 0 _ _ rfl rfl); exact ⟨n, rfl⟩
theorem str_conf {ds : List PD} (h : ConfC lawEnv ds [.str]) : ∃ t, ds = strC t := by
  obtain ⟨h1, h2⟩ := h
  match ds, h1 with
  | [d], _ => obtain ⟨n, rfl, _⟩ := conf_str (h2 0 _ _ rfl rfl); exact ⟨n, rfl⟩
theorem Move.of_conf : ∀ (N : Nat) (ds : List PD), (∀ d ∈ ds, SizeOf.sizeOf d < N ∧ d.whole) → ConfC lawEnv ds [.int, .int, .int, .int, .int, .int, .str, .sl 22] → ∃ t : Move, ds = Move.pd t := by
  intro N
  induction N with
  | zero =>
    intro ds hs h
    obtain ⟨h1, _⟩ := h
    match ds, h1 with
    | d :: _, _ => exact absurd (hs d (by simp)).1 (by omega)
  | succ N ih =>
    intro ds hs h
    obtain ⟨h1, h2⟩ := h
    match ds, h1 with
    | [d0, d1, d2, d3, d4, d5, d6, d7], _ =>
      obtain ⟨kind, rfl, _⟩ := conf_int (h2 0 _ _ rfl rfl)
      obtain ⟨at_, rfl, _⟩ := conf_int (h2 1 _ _ rfl rfl)
      obtain ⟨size, rfl, _⟩ := conf_int (h2 2 _ _ rfl rfl)
      obtain ⟨align, rfl, _⟩ := conf_int (h2 3 _ _ rfl rfl)
      obtain ⟨typ, rfl, _⟩ := conf_int (h2 4 _ _ rfl rfl)
      obtain ⟨most, rfl, _⟩ := conf_int (h2 5 _ _ rfl rfl)
      obtain ⟨name, rfl, _⟩ := conf_str (h2 6 _ _ rfl rfl)
      obtain ⟨xs7, rfl, hx7⟩ := conf_sl (h2 7 _ _ rfl rfl)
      obtain ⟨hz7, hw7⟩ := hs (.row (lawEnv 22).length xs7) (by simp)
      rw [PD.whole] at hw7
      obtain ⟨⟨n7, hn7⟩, hw7'⟩ := hw7
      obtain ⟨kids, rfl⟩ : ∃ ts, xs7 = List.flatMap rowCMoveS ts := by
        refine rows_confM (pd := rowCMoveS) (cells := [.sl 32]) (by decide) n7 xs7 (fun ds hds h => ?_) hn7 hx7
        obtain ⟨g1, g2⟩ := h
        match ds, g1 with
        | [d], _ =>
          have hdm := hds d (by simp)
          obtain ⟨ys, rfl, hy⟩ := conf_sl (g2 0 _ _ rfl rfl)
          have hwd := wholeL_mem hw7' _ (hdm)
          rw [PD.whole] at hwd
          obtain ⟨⟨m, hm⟩, hwy⟩ := hwd
          obtain ⟨us, rfl⟩ : ∃ us, ys = List.flatMap Move.pd us := by
            exact rows_confM (pd := Move.pd) (cells := [.int, .int, .int, .int, .int, .int, .str, .sl 22]) (by decide) m ys (fun ds hds h => ih ds (fun d hd => ⟨(by have := row_size_lt (n := (lawEnv 32).length) (hds d hd); have h3 := (by have := row_size_lt (n := (lawEnv 22).length) (hdm); omega); omega), wholeL_mem hwy _ (hds d hd)⟩) h) hm hy
          exact ⟨us, rfl⟩
      exact ⟨⟨kind, at_, size, align, typ, most, name, kids⟩, by rw [Move.pd_mk] <;> rfl⟩
def ArgMove (w : World) (v : Value) : Prop := ∃ (t : Move) (cs : List Value), v = .agg cs.toArray ∧ PD.wfL (Move.pd t) ∧ RepC w w.heap.size (Move.pd t) cs
theorem argMove {H : Type} {enc : TypeId × Value → H} {w : World} {base b0 : Nat} {spare : Nat → Bool} {held : Bool} {r : Reach} {v : Value} {d : DataW H} {ps : List MemPlace} (hv : Value.okWide Try.prog w r b0 32 v) (h : DataW.Trod enc Try.prog w base spare held 32 v d ps) : ArgMove w v := by
  obtain ⟨cs, rfl, ds, hc, hr⟩ := open_struct (dom := lawDom) Try.underlying32 lawLay rfl hv h
  obtain ⟨t, rfl⟩ := Move.of_conf _ ds (fun d hd => ⟨Nat.lt_succ_of_lt (List.sizeOf_lt_of_mem hd), hr.whole d hd⟩) hc
  exact ⟨t, cs, rfl, hc.wf, hr⟩
def ArgMoveS (w : World) (v : Value) : Prop := ∃ ts : List Move, (PD.row 8 (ts.flatMap Move.pd)).wf ∧ Rep w w.heap.size (.row 8 (ts.flatMap Move.pd)) v
theorem argMoveS {H : Type} {enc : TypeId × Value → H} {w : World} {base b0 : Nat} {spare : Nat → Bool} {held : Bool} {r : Reach} {v : Value} {d : DataW H} {ps : List MemPlace} (hv : Value.okWide Try.prog w r b0 22 v) (h : DataW.Trod enc Try.prog w base spare held 22 v d ps) : ArgMoveS w v := by
  obtain ⟨d, hr, hwf, hwh, hcf⟩ := (open_slice (dom := lawDom) Try.underlying22 lawLay rfl hv h).sl
  obtain ⟨xs, rfl, hx⟩ := conf_sl hcf
  rw [PD.whole] at hwh
  obtain ⟨⟨n, hn⟩, hw'⟩ := hwh
  obtain ⟨ts, rfl⟩ : ∃ ts, xs = List.flatMap Move.pd ts := rows_confM (pd := Move.pd) (cells := [.int, .int, .int, .int, .int, .int, .str, .sl 22]) (by decide) n xs (fun ds hds h => Move.of_conf _ ds (fun d hd => ⟨Nat.lt_succ_of_lt (List.sizeOf_lt_of_mem (hds d hd)), wholeL_mem hw' _ (hds d hd)⟩) h) hn hx
  exact ⟨ts, hwf, hr⟩
end Go.Proofs.Ythkmofeclffifaa
