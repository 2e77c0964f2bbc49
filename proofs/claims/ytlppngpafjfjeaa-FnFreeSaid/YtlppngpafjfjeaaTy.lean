/-
  The program's structs and their plain data (by program: tygen2.py). No program in sight.
-/
import Derived.Test.YtlppngpafjfjeaaFam
namespace Go.Proofs.Ytlppngpafjfjeaa
open Go.RowKit
set_option linter.unusedVariables false
set_option linter.unusedSimpArgs false
set_option linter.unnecessarySimpa false
set_option maxRecDepth 100000

structure Block where
  at_ : Int
  size : Int
def Block.pd (t : Block) : List PD := [.lit (.int .i64 t.at_), .lit (.int .i64 t.size)]
theorem Block.pd_mk (at_ : Int) (size : Int) : Block.pd ⟨at_, size⟩ = [.lit (.int .i64 at_), .lit (.int .i64 size)] := rfl
theorem Block.pd_length (t : Block) : (Block.pd t).length = 2 := by obtain ⟨at_, size⟩ := t; rw [Block.pd_mk]; rfl
theorem Block.open_ {w : World} {B : Nat} {cs : List Value} {at_ : Int} {size : Int} (h : RepC w B (Block.pd ⟨at_, size⟩) cs) : cs = [.int .i64 at_, .int .i64 size] := by
  rw [Block.pd_mk] at h
  obtain ⟨cs1, rfl, h1⟩ := h.of_lit
  obtain ⟨cs2, rfl, h2⟩ := h1.of_lit
  obtain rfl := h2.of_nil
  exact rfl
theorem Block.close_ {w : World} {B : Nat} {at_ : Int} {size : Int} : RepC w B (Block.pd ⟨at_, size⟩) [.int .i64 at_, .int .i64 size] := by
  rw [Block.pd_mk]
  exact ((RepC.nil_).lit _).lit _
theorem Block.lopen {w : World} {lo hi : Nat} {us : List Value} {at_ : Int} {size : Int} (h : LvC w lo hi (Block.pd ⟨at_, size⟩) us) : us = [.int .i64 at_, .int .i64 size] := by
  rw [Block.pd_mk] at h
  obtain ⟨us1, rfl, h1⟩ := h.hd_lit
  obtain ⟨us2, rfl, h2⟩ := h1.hd_lit
  obtain rfl := h2.nil_
  exact rfl
theorem Block.fit (t : Block) : PD.fitL (Block.pd t) := by obtain ⟨at_, size⟩ := t; exact by rw [Block.pd_mk]; simp only [PD.fitL]; exact ⟨by rw [PD.fit]; trivial, by rw [PD.fit]; trivial, trivial⟩

structure Memory where
  bytes : ByteArray
  free : List Block
def Memory.pd (t : Memory) : List PD := [.lit (.string t.bytes), .row 2 (t.free.flatMap Block.pd)]
theorem Memory.pd_mk (bytes : ByteArray) (free : List Block) : Memory.pd ⟨bytes, free⟩ = [.lit (.string bytes), .row 2 (free.flatMap Block.pd)] := rfl
theorem Memory.pd_length (t : Memory) : (Memory.pd t).length = 2 := by obtain ⟨bytes, free⟩ := t; rw [Memory.pd_mk]; rfl
theorem Memory.open_ {w : World} {B : Nat} {cs : List Value} {bytes : ByteArray} {free : List Block} (h : RepC w B (Memory.pd ⟨bytes, free⟩) cs) : ∃ freeV, cs = [.string bytes, freeV] ∧ Rep w B (.row 2 (free.flatMap Block.pd)) freeV := by
  rw [Memory.pd_mk] at h
  obtain ⟨cs1, rfl, h1⟩ := h.of_lit
  obtain ⟨freeV, cs2, rfl, r_free, h2⟩ := h1.of_cons
  obtain rfl := h2.of_nil
  exact ⟨_, rfl, r_free⟩
theorem Memory.close_ {w : World} {B : Nat} {bytes : ByteArray} {free : List Block} {freeV : Value} (r_free : Rep w B (.row 2 (free.flatMap Block.pd)) freeV) : RepC w B (Memory.pd ⟨bytes, free⟩) [.string bytes, freeV] := by
  rw [Memory.pd_mk]
  exact (RepC.cons r_free (RepC.nil_)).lit _
theorem Memory.lopen {w : World} {lo hi : Nat} {us : List Value} {bytes : ByteArray} {free : List Block} (h : LvC w lo hi (Memory.pd ⟨bytes, free⟩) us) : ∃ freeA freeN freeC, us = [.string bytes, .slice freeA freeN freeC] := by
  rw [Memory.pd_mk] at h
  obtain ⟨us1, rfl, h1⟩ := h.hd_lit
  obtain ⟨freeA, freeN, freeC, us2, rfl, h2⟩ := h1.hd_row
  obtain rfl := h2.nil_
  exact ⟨_, _, _, rfl⟩
theorem Memory.fit (t : Memory) : PD.fitL (Memory.pd t) := by obtain ⟨bytes, free⟩ := t; exact by rw [Memory.pd_mk]; simp only [PD.fitL]; exact ⟨by rw [PD.fit]; trivial, row_fit Block.pd_length (by decide) (by decide) (fun t _ => Block.fit t), trivial⟩

inductive Ty where
  | mk (kind : Int) (name : ByteArray) (labels : List ByteArray) (kids : List Ty)
mutual
def Ty.pd : Ty → List PD
  | .mk kind name labels kids => [.lit (.int .i64 kind), .lit (.string name), .row 1 (labels.flatMap strC), .row 4 (Ty.pdS kids)]
def Ty.pdS : List Ty → List PD
  | [] => []
  | t :: r => Ty.pd t ++ Ty.pdS r
end
theorem Ty.pdS_eq : ∀ ts : List Ty, Ty.pdS ts = ts.flatMap Ty.pd
  | [] => by rw [Ty.pdS]; rfl
  | t :: r => by rw [Ty.pdS, Ty.pdS_eq r, List.flatMap_cons]
theorem Ty.pd_mk (kind : Int) (name : ByteArray) (labels : List ByteArray) (kids : List Ty) : Ty.pd ⟨kind, name, labels, kids⟩ = [.lit (.int .i64 kind), .lit (.string name), .row 1 (labels.flatMap strC), .row 4 (kids.flatMap Ty.pd)] := by rw [Ty.pd, Ty.pdS_eq]
theorem Ty.pd_length (t : Ty) : (Ty.pd t).length = 4 := by obtain ⟨kind, name, labels, kids⟩ := t; rw [Ty.pd_mk]; rfl
theorem Ty.open_ {w : World} {B : Nat} {cs : List Value} {kind : Int} {name : ByteArray} {labels : List ByteArray} {kids : List Ty} (h : RepC w B (Ty.pd ⟨kind, name, labels, kids⟩) cs) : ∃ labelsV kidsV, cs = [.int .i64 kind, .string name, labelsV, kidsV] ∧ Rep w B (.row 1 (labels.flatMap strC)) labelsV ∧ Rep w B (.row 4 (kids.flatMap Ty.pd)) kidsV := by
  rw [Ty.pd_mk] at h
  obtain ⟨cs1, rfl, h1⟩ := h.of_lit
  obtain ⟨cs2, rfl, h2⟩ := h1.of_lit
  obtain ⟨labelsV, cs3, rfl, r_labels, h3⟩ := h2.of_cons
  obtain ⟨kidsV, cs4, rfl, r_kids, h4⟩ := h3.of_cons
  obtain rfl := h4.of_nil
  exact ⟨_, _, rfl, r_labels, r_kids⟩
theorem Ty.close_ {w : World} {B : Nat} {kind : Int} {name : ByteArray} {labels : List ByteArray} {kids : List Ty} {labelsV : Value} {kidsV : Value} (r_labels : Rep w B (.row 1 (labels.flatMap strC)) labelsV) (r_kids : Rep w B (.row 4 (kids.flatMap Ty.pd)) kidsV) : RepC w B (Ty.pd ⟨kind, name, labels, kids⟩) [.int .i64 kind, .string name, labelsV, kidsV] := by
  rw [Ty.pd_mk]
  exact ((RepC.cons r_labels (RepC.cons r_kids (RepC.nil_))).lit _).lit _
theorem Ty.lopen {w : World} {lo hi : Nat} {us : List Value} {kind : Int} {name : ByteArray} {labels : List ByteArray} {kids : List Ty} (h : LvC w lo hi (Ty.pd ⟨kind, name, labels, kids⟩) us) : ∃ labelsA labelsN labelsC kidsA kidsN kidsC, us = [.int .i64 kind, .string name, .slice labelsA labelsN labelsC, .slice kidsA kidsN kidsC] := by
  rw [Ty.pd_mk] at h
  obtain ⟨us1, rfl, h1⟩ := h.hd_lit
  obtain ⟨us2, rfl, h2⟩ := h1.hd_lit
  obtain ⟨labelsA, labelsN, labelsC, us3, rfl, h3⟩ := h2.hd_row
  obtain ⟨kidsA, kidsN, kidsC, us4, rfl, h4⟩ := h3.hd_row
  obtain rfl := h4.nil_
  exact ⟨_, _, _, _, _, _, rfl⟩
mutual
theorem Ty.fit : ∀ t : Ty, PD.fitL (Ty.pd t)
  | .mk kind name labels kids => by rw [Ty.pd_mk]; simp only [PD.fitL]; exact ⟨by rw [PD.fit]; trivial, by rw [PD.fit]; trivial, row_fit strC_length (by decide) (by decide) (fun t _ => strC_fit t), row_fit Ty.pd_length (by decide) (by decide) (Ty.fit_mem kids), trivial⟩
theorem Ty.fit_mem : ∀ ts : List Ty, ∀ t ∈ ts, PD.fitL (Ty.pd t)
  | [], x, hx => absurd hx (by simp)
  | t :: r, x, hx => (List.mem_cons.1 hx).elim (fun e => e ▸ Ty.fit t) (fun h => Ty.fit_mem r x h)
end

structure Param where
  name : ByteArray
  typ : Ty
def Param.pd (t : Param) : List PD := [.lit (.string t.name)] ++ Ty.pd t.typ
theorem Param.pd_mk (name : ByteArray) (typ_kind : Int) (typ_name : ByteArray) (typ_labels : List ByteArray) (typ_kids : List Ty) : Param.pd ⟨name, ⟨typ_kind, typ_name, typ_labels, typ_kids⟩⟩ = [.lit (.string name), .lit (.int .i64 typ_kind), .lit (.string typ_name), .row 1 (typ_labels.flatMap strC), .row 4 (typ_kids.flatMap Ty.pd)] := by simp only [Param.pd, Ty.pd_mk]; rfl
theorem Param.pd_length (t : Param) : (Param.pd t).length = 5 := by obtain ⟨name, ⟨typ_kind, typ_name, typ_labels, typ_kids⟩⟩ := t; rw [Param.pd_mk]; rfl
theorem Param.open_ {w : World} {B : Nat} {cs : List Value} {name : ByteArray} {typ_kind : Int} {typ_name : ByteArray} {typ_labels : List ByteArray} {typ_kids : List Ty} (h : RepC w B (Param.pd ⟨name, ⟨typ_kind, typ_name, typ_labels, typ_kids⟩⟩) cs) : ∃ typ_labelsV typ_kidsV, cs = [.string name, .int .i64 typ_kind, .string typ_name, typ_labelsV, typ_kidsV] ∧ Rep w B (.row 1 (typ_labels.flatMap strC)) typ_labelsV ∧ Rep w B (.row 4 (typ_kids.flatMap Ty.pd)) typ_kidsV := by
  rw [Param.pd_mk] at h
  obtain ⟨cs1, rfl, h1⟩ := h.of_lit
  obtain ⟨cs2, rfl, h2⟩ := h1.of_lit
  obtain ⟨cs3, rfl, h3⟩ := h2.of_lit
  obtain ⟨typ_labelsV, cs4, rfl, r_typ_labels, h4⟩ := h3.of_cons
  obtain ⟨typ_kidsV, cs5, rfl, r_typ_kids, h5⟩ := h4.of_cons
  obtain rfl := h5.of_nil
  exact ⟨_, _, rfl, r_typ_labels, r_typ_kids⟩
theorem Param.close_ {w : World} {B : Nat} {name : ByteArray} {typ_kind : Int} {typ_name : ByteArray} {typ_labels : List ByteArray} {typ_kids : List Ty} {typ_labelsV : Value} {typ_kidsV : Value} (r_typ_labels : Rep w B (.row 1 (typ_labels.flatMap strC)) typ_labelsV) (r_typ_kids : Rep w B (.row 4 (typ_kids.flatMap Ty.pd)) typ_kidsV) : RepC w B (Param.pd ⟨name, ⟨typ_kind, typ_name, typ_labels, typ_kids⟩⟩) [.string name, .int .i64 typ_kind, .string typ_name, typ_labelsV, typ_kidsV] := by
  rw [Param.pd_mk]
  exact (((RepC.cons r_typ_labels (RepC.cons r_typ_kids (RepC.nil_))).lit _).lit _).lit _
theorem Param.lopen {w : World} {lo hi : Nat} {us : List Value} {name : ByteArray} {typ_kind : Int} {typ_name : ByteArray} {typ_labels : List ByteArray} {typ_kids : List Ty} (h : LvC w lo hi (Param.pd ⟨name, ⟨typ_kind, typ_name, typ_labels, typ_kids⟩⟩) us) : ∃ typ_labelsA typ_labelsN typ_labelsC typ_kidsA typ_kidsN typ_kidsC, us = [.string name, .int .i64 typ_kind, .string typ_name, .slice typ_labelsA typ_labelsN typ_labelsC, .slice typ_kidsA typ_kidsN typ_kidsC] := by
  rw [Param.pd_mk] at h
  obtain ⟨us1, rfl, h1⟩ := h.hd_lit
  obtain ⟨us2, rfl, h2⟩ := h1.hd_lit
  obtain ⟨us3, rfl, h3⟩ := h2.hd_lit
  obtain ⟨typ_labelsA, typ_labelsN, typ_labelsC, us4, rfl, h4⟩ := h3.hd_row
  obtain ⟨typ_kidsA, typ_kidsN, typ_kidsC, us5, rfl, h5⟩ := h4.hd_row
  obtain rfl := h5.nil_
  exact ⟨_, _, _, _, _, _, rfl⟩
theorem Param.fit (t : Param) : PD.fitL (Param.pd t) := by obtain ⟨name, ⟨typ_kind, typ_name, typ_labels, typ_kids⟩⟩ := t; exact by rw [Param.pd_mk]; simp only [PD.fitL]; exact ⟨by rw [PD.fit]; trivial, by rw [PD.fit]; trivial, by rw [PD.fit]; trivial, row_fit strC_length (by decide) (by decide) (fun t _ => strC_fit t), row_fit Ty.pd_length (by decide) (by decide) (fun t _ => Ty.fit t), trivial⟩

structure FuncType where
  params : List Param
  result : Ty
  async : Bool
def FuncType.pd (t : FuncType) : List PD := [.row 5 (t.params.flatMap Param.pd)] ++ Ty.pd t.result ++ [.lit (.bool t.async)]
theorem FuncType.pd_mk (params : List Param) (result_kind : Int) (result_name : ByteArray) (result_labels : List ByteArray) (result_kids : List Ty) (async : Bool) : FuncType.pd ⟨params, ⟨result_kind, result_name, result_labels, result_kids⟩, async⟩ = [.row 5 (params.flatMap Param.pd), .lit (.int .i64 result_kind), .lit (.string result_name), .row 1 (result_labels.flatMap strC), .row 4 (result_kids.flatMap Ty.pd), .lit (.bool async)] := by simp only [FuncType.pd, Ty.pd_mk]; rfl
theorem FuncType.pd_length (t : FuncType) : (FuncType.pd t).length = 6 := by obtain ⟨params, ⟨result_kind, result_name, result_labels, result_kids⟩, async⟩ := t; rw [FuncType.pd_mk]; rfl
theorem FuncType.open_ {w : World} {B : Nat} {cs : List Value} {params : List Param} {result_kind : Int} {result_name : ByteArray} {result_labels : List ByteArray} {result_kids : List Ty} {async : Bool} (h : RepC w B (FuncType.pd ⟨params, ⟨result_kind, result_name, result_labels, result_kids⟩, async⟩) cs) : ∃ paramsV result_labelsV result_kidsV, cs = [paramsV, .int .i64 result_kind, .string result_name, result_labelsV, result_kidsV, .bool async] ∧ Rep w B (.row 5 (params.flatMap Param.pd)) paramsV ∧ Rep w B (.row 1 (result_labels.flatMap strC)) result_labelsV ∧ Rep w B (.row 4 (result_kids.flatMap Ty.pd)) result_kidsV := by
  rw [FuncType.pd_mk] at h
  obtain ⟨paramsV, cs1, rfl, r_params, h1⟩ := h.of_cons
  obtain ⟨cs2, rfl, h2⟩ := h1.of_lit
  obtain ⟨cs3, rfl, h3⟩ := h2.of_lit
  obtain ⟨result_labelsV, cs4, rfl, r_result_labels, h4⟩ := h3.of_cons
  obtain ⟨result_kidsV, cs5, rfl, r_result_kids, h5⟩ := h4.of_cons
  obtain ⟨cs6, rfl, h6⟩ := h5.of_lit
  obtain rfl := h6.of_nil
  exact ⟨_, _, _, rfl, r_params, r_result_labels, r_result_kids⟩
theorem FuncType.close_ {w : World} {B : Nat} {params : List Param} {result_kind : Int} {result_name : ByteArray} {result_labels : List ByteArray} {result_kids : List Ty} {async : Bool} {paramsV : Value} {result_labelsV : Value} {result_kidsV : Value} (r_params : Rep w B (.row 5 (params.flatMap Param.pd)) paramsV) (r_result_labels : Rep w B (.row 1 (result_labels.flatMap strC)) result_labelsV) (r_result_kids : Rep w B (.row 4 (result_kids.flatMap Ty.pd)) result_kidsV) : RepC w B (FuncType.pd ⟨params, ⟨result_kind, result_name, result_labels, result_kids⟩, async⟩) [paramsV, .int .i64 result_kind, .string result_name, result_labelsV, result_kidsV, .bool async] := by
  rw [FuncType.pd_mk]
  exact RepC.cons r_params (((RepC.cons r_result_labels (RepC.cons r_result_kids ((RepC.nil_).lit _))).lit _).lit _)
theorem FuncType.lopen {w : World} {lo hi : Nat} {us : List Value} {params : List Param} {result_kind : Int} {result_name : ByteArray} {result_labels : List ByteArray} {result_kids : List Ty} {async : Bool} (h : LvC w lo hi (FuncType.pd ⟨params, ⟨result_kind, result_name, result_labels, result_kids⟩, async⟩) us) : ∃ paramsA paramsN paramsC result_labelsA result_labelsN result_labelsC result_kidsA result_kidsN result_kidsC, us = [.slice paramsA paramsN paramsC, .int .i64 result_kind, .string result_name, .slice result_labelsA result_labelsN result_labelsC, .slice result_kidsA result_kidsN result_kidsC, .bool async] := by
  rw [FuncType.pd_mk] at h
  obtain ⟨paramsA, paramsN, paramsC, us1, rfl, h1⟩ := h.hd_row
  obtain ⟨us2, rfl, h2⟩ := h1.hd_lit
  obtain ⟨us3, rfl, h3⟩ := h2.hd_lit
  obtain ⟨result_labelsA, result_labelsN, result_labelsC, us4, rfl, h4⟩ := h3.hd_row
  obtain ⟨result_kidsA, result_kidsN, result_kidsC, us5, rfl, h5⟩ := h4.hd_row
  obtain ⟨us6, rfl, h6⟩ := h5.hd_lit
  obtain rfl := h6.nil_
  exact ⟨_, _, _, _, _, _, _, _, _, rfl⟩
theorem FuncType.fit (t : FuncType) : PD.fitL (FuncType.pd t) := by obtain ⟨params, ⟨result_kind, result_name, result_labels, result_kids⟩, async⟩ := t; exact by rw [FuncType.pd_mk]; simp only [PD.fitL]; exact ⟨row_fit Param.pd_length (by decide) (by decide) (fun t _ => Param.fit t), by rw [PD.fit]; trivial, by rw [PD.fit]; trivial, row_fit strC_length (by decide) (by decide) (fun t _ => strC_fit t), row_fit Ty.pd_length (by decide) (by decide) (fun t _ => Ty.fit t), by rw [PD.fit]; trivial, trivial⟩

structure Fun where
  name : ByteArray
  typ : FuncType
def Fun.pd (t : Fun) : List PD := [.lit (.string t.name)] ++ FuncType.pd t.typ
theorem Fun.pd_mk (name : ByteArray) (typ_params : List Param) (typ_result_kind : Int) (typ_result_name : ByteArray) (typ_result_labels : List ByteArray) (typ_result_kids : List Ty) (typ_async : Bool) : Fun.pd ⟨name, ⟨typ_params, ⟨typ_result_kind, typ_result_name, typ_result_labels, typ_result_kids⟩, typ_async⟩⟩ = [.lit (.string name), .row 5 (typ_params.flatMap Param.pd), .lit (.int .i64 typ_result_kind), .lit (.string typ_result_name), .row 1 (typ_result_labels.flatMap strC), .row 4 (typ_result_kids.flatMap Ty.pd), .lit (.bool typ_async)] := by simp only [Fun.pd, FuncType.pd_mk]; rfl
theorem Fun.pd_length (t : Fun) : (Fun.pd t).length = 7 := by obtain ⟨name, ⟨typ_params, ⟨typ_result_kind, typ_result_name, typ_result_labels, typ_result_kids⟩, typ_async⟩⟩ := t; rw [Fun.pd_mk]; rfl
theorem Fun.open_ {w : World} {B : Nat} {cs : List Value} {name : ByteArray} {typ_params : List Param} {typ_result_kind : Int} {typ_result_name : ByteArray} {typ_result_labels : List ByteArray} {typ_result_kids : List Ty} {typ_async : Bool} (h : RepC w B (Fun.pd ⟨name, ⟨typ_params, ⟨typ_result_kind, typ_result_name, typ_result_labels, typ_result_kids⟩, typ_async⟩⟩) cs) : ∃ typ_paramsV typ_result_labelsV typ_result_kidsV, cs = [.string name, typ_paramsV, .int .i64 typ_result_kind, .string typ_result_name, typ_result_labelsV, typ_result_kidsV, .bool typ_async] ∧ Rep w B (.row 5 (typ_params.flatMap Param.pd)) typ_paramsV ∧ Rep w B (.row 1 (typ_result_labels.flatMap strC)) typ_result_labelsV ∧ Rep w B (.row 4 (typ_result_kids.flatMap Ty.pd)) typ_result_kidsV := by
  rw [Fun.pd_mk] at h
  obtain ⟨cs1, rfl, h1⟩ := h.of_lit
  obtain ⟨typ_paramsV, cs2, rfl, r_typ_params, h2⟩ := h1.of_cons
  obtain ⟨cs3, rfl, h3⟩ := h2.of_lit
  obtain ⟨cs4, rfl, h4⟩ := h3.of_lit
  obtain ⟨typ_result_labelsV, cs5, rfl, r_typ_result_labels, h5⟩ := h4.of_cons
  obtain ⟨typ_result_kidsV, cs6, rfl, r_typ_result_kids, h6⟩ := h5.of_cons
  obtain ⟨cs7, rfl, h7⟩ := h6.of_lit
  obtain rfl := h7.of_nil
  exact ⟨_, _, _, rfl, r_typ_params, r_typ_result_labels, r_typ_result_kids⟩
theorem Fun.close_ {w : World} {B : Nat} {name : ByteArray} {typ_params : List Param} {typ_result_kind : Int} {typ_result_name : ByteArray} {typ_result_labels : List ByteArray} {typ_result_kids : List Ty} {typ_async : Bool} {typ_paramsV : Value} {typ_result_labelsV : Value} {typ_result_kidsV : Value} (r_typ_params : Rep w B (.row 5 (typ_params.flatMap Param.pd)) typ_paramsV) (r_typ_result_labels : Rep w B (.row 1 (typ_result_labels.flatMap strC)) typ_result_labelsV) (r_typ_result_kids : Rep w B (.row 4 (typ_result_kids.flatMap Ty.pd)) typ_result_kidsV) : RepC w B (Fun.pd ⟨name, ⟨typ_params, ⟨typ_result_kind, typ_result_name, typ_result_labels, typ_result_kids⟩, typ_async⟩⟩) [.string name, typ_paramsV, .int .i64 typ_result_kind, .string typ_result_name, typ_result_labelsV, typ_result_kidsV, .bool typ_async] := by
  rw [Fun.pd_mk]
  exact (RepC.cons r_typ_params (((RepC.cons r_typ_result_labels (RepC.cons r_typ_result_kids ((RepC.nil_).lit _))).lit _).lit _)).lit _
theorem Fun.lopen {w : World} {lo hi : Nat} {us : List Value} {name : ByteArray} {typ_params : List Param} {typ_result_kind : Int} {typ_result_name : ByteArray} {typ_result_labels : List ByteArray} {typ_result_kids : List Ty} {typ_async : Bool} (h : LvC w lo hi (Fun.pd ⟨name, ⟨typ_params, ⟨typ_result_kind, typ_result_name, typ_result_labels, typ_result_kids⟩, typ_async⟩⟩) us) : ∃ typ_paramsA typ_paramsN typ_paramsC typ_result_labelsA typ_result_labelsN typ_result_labelsC typ_result_kidsA typ_result_kidsN typ_result_kidsC, us = [.string name, .slice typ_paramsA typ_paramsN typ_paramsC, .int .i64 typ_result_kind, .string typ_result_name, .slice typ_result_labelsA typ_result_labelsN typ_result_labelsC, .slice typ_result_kidsA typ_result_kidsN typ_result_kidsC, .bool typ_async] := by
  rw [Fun.pd_mk] at h
  obtain ⟨us1, rfl, h1⟩ := h.hd_lit
  obtain ⟨typ_paramsA, typ_paramsN, typ_paramsC, us2, rfl, h2⟩ := h1.hd_row
  obtain ⟨us3, rfl, h3⟩ := h2.hd_lit
  obtain ⟨us4, rfl, h4⟩ := h3.hd_lit
  obtain ⟨typ_result_labelsA, typ_result_labelsN, typ_result_labelsC, us5, rfl, h5⟩ := h4.hd_row
  obtain ⟨typ_result_kidsA, typ_result_kidsN, typ_result_kidsC, us6, rfl, h6⟩ := h5.hd_row
  obtain ⟨us7, rfl, h7⟩ := h6.hd_lit
  obtain rfl := h7.nil_
  exact ⟨_, _, _, _, _, _, _, _, _, rfl⟩
theorem Fun.fit (t : Fun) : PD.fitL (Fun.pd t) := by obtain ⟨name, ⟨typ_params, ⟨typ_result_kind, typ_result_name, typ_result_labels, typ_result_kids⟩, typ_async⟩⟩ := t; exact by rw [Fun.pd_mk]; simp only [PD.fitL]; exact ⟨by rw [PD.fit]; trivial, row_fit Param.pd_length (by decide) (by decide) (fun t _ => Param.fit t), by rw [PD.fit]; trivial, by rw [PD.fit]; trivial, row_fit strC_length (by decide) (by decide) (fun t _ => strC_fit t), row_fit Ty.pd_length (by decide) (by decide) (fun t _ => Ty.fit t), by rw [PD.fit]; trivial, trivial⟩

structure Face where
  package : ByteArray
  name : ByteArray
  version : ByteArray
  resources : List ByteArray
  funcs : List Fun
def Face.pd (t : Face) : List PD := [.lit (.string t.package), .lit (.string t.name), .lit (.string t.version), .row 1 (t.resources.flatMap strC), .row 7 (t.funcs.flatMap Fun.pd)]
theorem Face.pd_mk (package : ByteArray) (name : ByteArray) (version : ByteArray) (resources : List ByteArray) (funcs : List Fun) : Face.pd ⟨package, name, version, resources, funcs⟩ = [.lit (.string package), .lit (.string name), .lit (.string version), .row 1 (resources.flatMap strC), .row 7 (funcs.flatMap Fun.pd)] := rfl
theorem Face.pd_length (t : Face) : (Face.pd t).length = 5 := by obtain ⟨package, name, version, resources, funcs⟩ := t; rw [Face.pd_mk]; rfl
theorem Face.open_ {w : World} {B : Nat} {cs : List Value} {package : ByteArray} {name : ByteArray} {version : ByteArray} {resources : List ByteArray} {funcs : List Fun} (h : RepC w B (Face.pd ⟨package, name, version, resources, funcs⟩) cs) : ∃ resourcesV funcsV, cs = [.string package, .string name, .string version, resourcesV, funcsV] ∧ Rep w B (.row 1 (resources.flatMap strC)) resourcesV ∧ Rep w B (.row 7 (funcs.flatMap Fun.pd)) funcsV := by
  rw [Face.pd_mk] at h
  obtain ⟨cs1, rfl, h1⟩ := h.of_lit
  obtain ⟨cs2, rfl, h2⟩ := h1.of_lit
  obtain ⟨cs3, rfl, h3⟩ := h2.of_lit
  obtain ⟨resourcesV, cs4, rfl, r_resources, h4⟩ := h3.of_cons
  obtain ⟨funcsV, cs5, rfl, r_funcs, h5⟩ := h4.of_cons
  obtain rfl := h5.of_nil
  exact ⟨_, _, rfl, r_resources, r_funcs⟩
theorem Face.close_ {w : World} {B : Nat} {package : ByteArray} {name : ByteArray} {version : ByteArray} {resources : List ByteArray} {funcs : List Fun} {resourcesV : Value} {funcsV : Value} (r_resources : Rep w B (.row 1 (resources.flatMap strC)) resourcesV) (r_funcs : Rep w B (.row 7 (funcs.flatMap Fun.pd)) funcsV) : RepC w B (Face.pd ⟨package, name, version, resources, funcs⟩) [.string package, .string name, .string version, resourcesV, funcsV] := by
  rw [Face.pd_mk]
  exact (((RepC.cons r_resources (RepC.cons r_funcs (RepC.nil_))).lit _).lit _).lit _
theorem Face.lopen {w : World} {lo hi : Nat} {us : List Value} {package : ByteArray} {name : ByteArray} {version : ByteArray} {resources : List ByteArray} {funcs : List Fun} (h : LvC w lo hi (Face.pd ⟨package, name, version, resources, funcs⟩) us) : ∃ resourcesA resourcesN resourcesC funcsA funcsN funcsC, us = [.string package, .string name, .string version, .slice resourcesA resourcesN resourcesC, .slice funcsA funcsN funcsC] := by
  rw [Face.pd_mk] at h
  obtain ⟨us1, rfl, h1⟩ := h.hd_lit
  obtain ⟨us2, rfl, h2⟩ := h1.hd_lit
  obtain ⟨us3, rfl, h3⟩ := h2.hd_lit
  obtain ⟨resourcesA, resourcesN, resourcesC, us4, rfl, h4⟩ := h3.hd_row
  obtain ⟨funcsA, funcsN, funcsC, us5, rfl, h5⟩ := h4.hd_row
  obtain rfl := h5.nil_
  exact ⟨_, _, _, _, _, _, rfl⟩
theorem Face.fit (t : Face) : PD.fitL (Face.pd t) := by obtain ⟨package, name, version, resources, funcs⟩ := t; exact by rw [Face.pd_mk]; simp only [PD.fitL]; exact ⟨by rw [PD.fit]; trivial, by rw [PD.fit]; trivial, by rw [PD.fit]; trivial, row_fit strC_length (by decide) (by decide) (fun t _ => strC_fit t), row_fit Fun.pd_length (by decide) (by decide) (fun t _ => Fun.fit t), trivial⟩

structure Wld where
  package : ByteArray
  name : ByteArray
  version : ByteArray
  imports : List Face
  exports : List Face
def Wld.pd (t : Wld) : List PD := [.lit (.string t.package), .lit (.string t.name), .lit (.string t.version), .row 5 (t.imports.flatMap Face.pd), .row 5 (t.exports.flatMap Face.pd)]
theorem Wld.pd_mk (package : ByteArray) (name : ByteArray) (version : ByteArray) (imports : List Face) (exports : List Face) : Wld.pd ⟨package, name, version, imports, exports⟩ = [.lit (.string package), .lit (.string name), .lit (.string version), .row 5 (imports.flatMap Face.pd), .row 5 (exports.flatMap Face.pd)] := rfl
theorem Wld.pd_length (t : Wld) : (Wld.pd t).length = 5 := by obtain ⟨package, name, version, imports, exports⟩ := t; rw [Wld.pd_mk]; rfl
theorem Wld.open_ {w : World} {B : Nat} {cs : List Value} {package : ByteArray} {name : ByteArray} {version : ByteArray} {imports : List Face} {exports : List Face} (h : RepC w B (Wld.pd ⟨package, name, version, imports, exports⟩) cs) : ∃ importsV exportsV, cs = [.string package, .string name, .string version, importsV, exportsV] ∧ Rep w B (.row 5 (imports.flatMap Face.pd)) importsV ∧ Rep w B (.row 5 (exports.flatMap Face.pd)) exportsV := by
  rw [Wld.pd_mk] at h
  obtain ⟨cs1, rfl, h1⟩ := h.of_lit
  obtain ⟨cs2, rfl, h2⟩ := h1.of_lit
  obtain ⟨cs3, rfl, h3⟩ := h2.of_lit
  obtain ⟨importsV, cs4, rfl, r_imports, h4⟩ := h3.of_cons
  obtain ⟨exportsV, cs5, rfl, r_exports, h5⟩ := h4.of_cons
  obtain rfl := h5.of_nil
  exact ⟨_, _, rfl, r_imports, r_exports⟩
theorem Wld.close_ {w : World} {B : Nat} {package : ByteArray} {name : ByteArray} {version : ByteArray} {imports : List Face} {exports : List Face} {importsV : Value} {exportsV : Value} (r_imports : Rep w B (.row 5 (imports.flatMap Face.pd)) importsV) (r_exports : Rep w B (.row 5 (exports.flatMap Face.pd)) exportsV) : RepC w B (Wld.pd ⟨package, name, version, imports, exports⟩) [.string package, .string name, .string version, importsV, exportsV] := by
  rw [Wld.pd_mk]
  exact (((RepC.cons r_imports (RepC.cons r_exports (RepC.nil_))).lit _).lit _).lit _
theorem Wld.lopen {w : World} {lo hi : Nat} {us : List Value} {package : ByteArray} {name : ByteArray} {version : ByteArray} {imports : List Face} {exports : List Face} (h : LvC w lo hi (Wld.pd ⟨package, name, version, imports, exports⟩) us) : ∃ importsA importsN importsC exportsA exportsN exportsC, us = [.string package, .string name, .string version, .slice importsA importsN importsC, .slice exportsA exportsN exportsC] := by
  rw [Wld.pd_mk] at h
  obtain ⟨us1, rfl, h1⟩ := h.hd_lit
  obtain ⟨us2, rfl, h2⟩ := h1.hd_lit
  obtain ⟨us3, rfl, h3⟩ := h2.hd_lit
  obtain ⟨importsA, importsN, importsC, us4, rfl, h4⟩ := h3.hd_row
  obtain ⟨exportsA, exportsN, exportsC, us5, rfl, h5⟩ := h4.hd_row
  obtain rfl := h5.nil_
  exact ⟨_, _, _, _, _, _, rfl⟩
theorem Wld.fit (t : Wld) : PD.fitL (Wld.pd t) := by obtain ⟨package, name, version, imports, exports⟩ := t; exact by rw [Wld.pd_mk]; simp only [PD.fitL]; exact ⟨by rw [PD.fit]; trivial, by rw [PD.fit]; trivial, by rw [PD.fit]; trivial, row_fit Face.pd_length (by decide) (by decide) (fun t _ => Face.fit t), row_fit Face.pd_length (by decide) (by decide) (fun t _ => Face.fit t), trivial⟩

structure Ins where
  op : Int
  a : Int
def Ins.pd (t : Ins) : List PD := [.lit (.int .i64 t.op), .lit (.int .i64 t.a)]
theorem Ins.pd_mk (op : Int) (a : Int) : Ins.pd ⟨op, a⟩ = [.lit (.int .i64 op), .lit (.int .i64 a)] := rfl
theorem Ins.pd_length (t : Ins) : (Ins.pd t).length = 2 := by obtain ⟨op, a⟩ := t; rw [Ins.pd_mk]; rfl
theorem Ins.open_ {w : World} {B : Nat} {cs : List Value} {op : Int} {a : Int} (h : RepC w B (Ins.pd ⟨op, a⟩) cs) : cs = [.int .i64 op, .int .i64 a] := by
  rw [Ins.pd_mk] at h
  obtain ⟨cs1, rfl, h1⟩ := h.of_lit
  obtain ⟨cs2, rfl, h2⟩ := h1.of_lit
  obtain rfl := h2.of_nil
  exact rfl
theorem Ins.close_ {w : World} {B : Nat} {op : Int} {a : Int} : RepC w B (Ins.pd ⟨op, a⟩) [.int .i64 op, .int .i64 a] := by
  rw [Ins.pd_mk]
  exact ((RepC.nil_).lit _).lit _
theorem Ins.lopen {w : World} {lo hi : Nat} {us : List Value} {op : Int} {a : Int} (h : LvC w lo hi (Ins.pd ⟨op, a⟩) us) : us = [.int .i64 op, .int .i64 a] := by
  rw [Ins.pd_mk] at h
  obtain ⟨us1, rfl, h1⟩ := h.hd_lit
  obtain ⟨us2, rfl, h2⟩ := h1.hd_lit
  obtain rfl := h2.nil_
  exact rfl
theorem Ins.fit (t : Ins) : PD.fitL (Ins.pd t) := by obtain ⟨op, a⟩ := t; exact by rw [Ins.pd_mk]; simp only [PD.fitL]; exact ⟨by rw [PD.fit]; trivial, by rw [PD.fit]; trivial, trivial⟩

structure Imp where
  name : ByteArray
  params : Int
  result : Bool
def Imp.pd (t : Imp) : List PD := [.lit (.string t.name), .lit (.int .i64 t.params), .lit (.bool t.result)]
theorem Imp.pd_mk (name : ByteArray) (params : Int) (result : Bool) : Imp.pd ⟨name, params, result⟩ = [.lit (.string name), .lit (.int .i64 params), .lit (.bool result)] := rfl
theorem Imp.pd_length (t : Imp) : (Imp.pd t).length = 3 := by obtain ⟨name, params, result⟩ := t; rw [Imp.pd_mk]; rfl
theorem Imp.open_ {w : World} {B : Nat} {cs : List Value} {name : ByteArray} {params : Int} {result : Bool} (h : RepC w B (Imp.pd ⟨name, params, result⟩) cs) : cs = [.string name, .int .i64 params, .bool result] := by
  rw [Imp.pd_mk] at h
  obtain ⟨cs1, rfl, h1⟩ := h.of_lit
  obtain ⟨cs2, rfl, h2⟩ := h1.of_lit
  obtain ⟨cs3, rfl, h3⟩ := h2.of_lit
  obtain rfl := h3.of_nil
  exact rfl
theorem Imp.close_ {w : World} {B : Nat} {name : ByteArray} {params : Int} {result : Bool} : RepC w B (Imp.pd ⟨name, params, result⟩) [.string name, .int .i64 params, .bool result] := by
  rw [Imp.pd_mk]
  exact (((RepC.nil_).lit _).lit _).lit _
theorem Imp.lopen {w : World} {lo hi : Nat} {us : List Value} {name : ByteArray} {params : Int} {result : Bool} (h : LvC w lo hi (Imp.pd ⟨name, params, result⟩) us) : us = [.string name, .int .i64 params, .bool result] := by
  rw [Imp.pd_mk] at h
  obtain ⟨us1, rfl, h1⟩ := h.hd_lit
  obtain ⟨us2, rfl, h2⟩ := h1.hd_lit
  obtain ⟨us3, rfl, h3⟩ := h2.hd_lit
  obtain rfl := h3.nil_
  exact rfl
theorem Imp.fit (t : Imp) : PD.fitL (Imp.pd t) := by obtain ⟨name, params, result⟩ := t; exact by rw [Imp.pd_mk]; simp only [PD.fitL]; exact ⟨by rw [PD.fit]; trivial, by rw [PD.fit]; trivial, by rw [PD.fit]; trivial, trivial⟩

structure Core where
  name : ByteArray
  params : Int
  locals : Int
  result : Bool
  code : List Ins
def Core.pd (t : Core) : List PD := [.lit (.string t.name), .lit (.int .i64 t.params), .lit (.int .i64 t.locals), .lit (.bool t.result), .row 2 (t.code.flatMap Ins.pd)]
theorem Core.pd_mk (name : ByteArray) (params : Int) (locals : Int) (result : Bool) (code : List Ins) : Core.pd ⟨name, params, locals, result, code⟩ = [.lit (.string name), .lit (.int .i64 params), .lit (.int .i64 locals), .lit (.bool result), .row 2 (code.flatMap Ins.pd)] := rfl
theorem Core.pd_length (t : Core) : (Core.pd t).length = 5 := by obtain ⟨name, params, locals, result, code⟩ := t; rw [Core.pd_mk]; rfl
theorem Core.open_ {w : World} {B : Nat} {cs : List Value} {name : ByteArray} {params : Int} {locals : Int} {result : Bool} {code : List Ins} (h : RepC w B (Core.pd ⟨name, params, locals, result, code⟩) cs) : ∃ codeV, cs = [.string name, .int .i64 params, .int .i64 locals, .bool result, codeV] ∧ Rep w B (.row 2 (code.flatMap Ins.pd)) codeV := by
  rw [Core.pd_mk] at h
  obtain ⟨cs1, rfl, h1⟩ := h.of_lit
  obtain ⟨cs2, rfl, h2⟩ := h1.of_lit
  obtain ⟨cs3, rfl, h3⟩ := h2.of_lit
  obtain ⟨cs4, rfl, h4⟩ := h3.of_lit
  obtain ⟨codeV, cs5, rfl, r_code, h5⟩ := h4.of_cons
  obtain rfl := h5.of_nil
  exact ⟨_, rfl, r_code⟩
theorem Core.close_ {w : World} {B : Nat} {name : ByteArray} {params : Int} {locals : Int} {result : Bool} {code : List Ins} {codeV : Value} (r_code : Rep w B (.row 2 (code.flatMap Ins.pd)) codeV) : RepC w B (Core.pd ⟨name, params, locals, result, code⟩) [.string name, .int .i64 params, .int .i64 locals, .bool result, codeV] := by
  rw [Core.pd_mk]
  exact ((((RepC.cons r_code (RepC.nil_)).lit _).lit _).lit _).lit _
theorem Core.lopen {w : World} {lo hi : Nat} {us : List Value} {name : ByteArray} {params : Int} {locals : Int} {result : Bool} {code : List Ins} (h : LvC w lo hi (Core.pd ⟨name, params, locals, result, code⟩) us) : ∃ codeA codeN codeC, us = [.string name, .int .i64 params, .int .i64 locals, .bool result, .slice codeA codeN codeC] := by
  rw [Core.pd_mk] at h
  obtain ⟨us1, rfl, h1⟩ := h.hd_lit
  obtain ⟨us2, rfl, h2⟩ := h1.hd_lit
  obtain ⟨us3, rfl, h3⟩ := h2.hd_lit
  obtain ⟨us4, rfl, h4⟩ := h3.hd_lit
  obtain ⟨codeA, codeN, codeC, us5, rfl, h5⟩ := h4.hd_row
  obtain rfl := h5.nil_
  exact ⟨_, _, _, rfl⟩
theorem Core.fit (t : Core) : PD.fitL (Core.pd t) := by obtain ⟨name, params, locals, result, code⟩ := t; exact by rw [Core.pd_mk]; simp only [PD.fitL]; exact ⟨by rw [PD.fit]; trivial, by rw [PD.fit]; trivial, by rw [PD.fit]; trivial, by rw [PD.fit]; trivial, row_fit Ins.pd_length (by decide) (by decide) (fun t _ => Ins.fit t), trivial⟩

structure Mod where
  pages : Int
  imports : List Imp
  cores : List Core
def Mod.pd (t : Mod) : List PD := [.lit (.int .i64 t.pages), .row 3 (t.imports.flatMap Imp.pd), .row 5 (t.cores.flatMap Core.pd)]
theorem Mod.pd_mk (pages : Int) (imports : List Imp) (cores : List Core) : Mod.pd ⟨pages, imports, cores⟩ = [.lit (.int .i64 pages), .row 3 (imports.flatMap Imp.pd), .row 5 (cores.flatMap Core.pd)] := rfl
theorem Mod.pd_length (t : Mod) : (Mod.pd t).length = 3 := by obtain ⟨pages, imports, cores⟩ := t; rw [Mod.pd_mk]; rfl
theorem Mod.open_ {w : World} {B : Nat} {cs : List Value} {pages : Int} {imports : List Imp} {cores : List Core} (h : RepC w B (Mod.pd ⟨pages, imports, cores⟩) cs) : ∃ importsV coresV, cs = [.int .i64 pages, importsV, coresV] ∧ Rep w B (.row 3 (imports.flatMap Imp.pd)) importsV ∧ Rep w B (.row 5 (cores.flatMap Core.pd)) coresV := by
  rw [Mod.pd_mk] at h
  obtain ⟨cs1, rfl, h1⟩ := h.of_lit
  obtain ⟨importsV, cs2, rfl, r_imports, h2⟩ := h1.of_cons
  obtain ⟨coresV, cs3, rfl, r_cores, h3⟩ := h2.of_cons
  obtain rfl := h3.of_nil
  exact ⟨_, _, rfl, r_imports, r_cores⟩
theorem Mod.close_ {w : World} {B : Nat} {pages : Int} {imports : List Imp} {cores : List Core} {importsV : Value} {coresV : Value} (r_imports : Rep w B (.row 3 (imports.flatMap Imp.pd)) importsV) (r_cores : Rep w B (.row 5 (cores.flatMap Core.pd)) coresV) : RepC w B (Mod.pd ⟨pages, imports, cores⟩) [.int .i64 pages, importsV, coresV] := by
  rw [Mod.pd_mk]
  exact (RepC.cons r_imports (RepC.cons r_cores (RepC.nil_))).lit _
theorem Mod.lopen {w : World} {lo hi : Nat} {us : List Value} {pages : Int} {imports : List Imp} {cores : List Core} (h : LvC w lo hi (Mod.pd ⟨pages, imports, cores⟩) us) : ∃ importsA importsN importsC coresA coresN coresC, us = [.int .i64 pages, .slice importsA importsN importsC, .slice coresA coresN coresC] := by
  rw [Mod.pd_mk] at h
  obtain ⟨us1, rfl, h1⟩ := h.hd_lit
  obtain ⟨importsA, importsN, importsC, us2, rfl, h2⟩ := h1.hd_row
  obtain ⟨coresA, coresN, coresC, us3, rfl, h3⟩ := h2.hd_row
  obtain rfl := h3.nil_
  exact ⟨_, _, _, _, _, _, rfl⟩
theorem Mod.fit (t : Mod) : PD.fitL (Mod.pd t) := by obtain ⟨pages, imports, cores⟩ := t; exact by rw [Mod.pd_mk]; simp only [PD.fitL]; exact ⟨by rw [PD.fit]; trivial, row_fit Imp.pd_length (by decide) (by decide) (fun t _ => Imp.fit t), row_fit Core.pd_length (by decide) (by decide) (fun t _ => Core.fit t), trivial⟩

inductive Val where
  | mk (kind : Int) (num : Int) (text : ByteArray) (kids : List Val)
mutual
def Val.pd : Val → List PD
  | .mk kind num text kids => [.lit (.int .i64 kind), .lit (.int .i64 num), .lit (.string text), .row 4 (Val.pdS kids)]
def Val.pdS : List Val → List PD
  | [] => []
  | t :: r => Val.pd t ++ Val.pdS r
end
theorem Val.pdS_eq : ∀ ts : List Val, Val.pdS ts = ts.flatMap Val.pd
  | [] => by rw [Val.pdS]; rfl
  | t :: r => by rw [Val.pdS, Val.pdS_eq r, List.flatMap_cons]
theorem Val.pd_mk (kind : Int) (num : Int) (text : ByteArray) (kids : List Val) : Val.pd ⟨kind, num, text, kids⟩ = [.lit (.int .i64 kind), .lit (.int .i64 num), .lit (.string text), .row 4 (kids.flatMap Val.pd)] := by rw [Val.pd, Val.pdS_eq]
theorem Val.pd_length (t : Val) : (Val.pd t).length = 4 := by obtain ⟨kind, num, text, kids⟩ := t; rw [Val.pd_mk]; rfl
theorem Val.open_ {w : World} {B : Nat} {cs : List Value} {kind : Int} {num : Int} {text : ByteArray} {kids : List Val} (h : RepC w B (Val.pd ⟨kind, num, text, kids⟩) cs) : ∃ kidsV, cs = [.int .i64 kind, .int .i64 num, .string text, kidsV] ∧ Rep w B (.row 4 (kids.flatMap Val.pd)) kidsV := by
  rw [Val.pd_mk] at h
  obtain ⟨cs1, rfl, h1⟩ := h.of_lit
  obtain ⟨cs2, rfl, h2⟩ := h1.of_lit
  obtain ⟨cs3, rfl, h3⟩ := h2.of_lit
  obtain ⟨kidsV, cs4, rfl, r_kids, h4⟩ := h3.of_cons
  obtain rfl := h4.of_nil
  exact ⟨_, rfl, r_kids⟩
theorem Val.close_ {w : World} {B : Nat} {kind : Int} {num : Int} {text : ByteArray} {kids : List Val} {kidsV : Value} (r_kids : Rep w B (.row 4 (kids.flatMap Val.pd)) kidsV) : RepC w B (Val.pd ⟨kind, num, text, kids⟩) [.int .i64 kind, .int .i64 num, .string text, kidsV] := by
  rw [Val.pd_mk]
  exact (((RepC.cons r_kids (RepC.nil_)).lit _).lit _).lit _
theorem Val.lopen {w : World} {lo hi : Nat} {us : List Value} {kind : Int} {num : Int} {text : ByteArray} {kids : List Val} (h : LvC w lo hi (Val.pd ⟨kind, num, text, kids⟩) us) : ∃ kidsA kidsN kidsC, us = [.int .i64 kind, .int .i64 num, .string text, .slice kidsA kidsN kidsC] := by
  rw [Val.pd_mk] at h
  obtain ⟨us1, rfl, h1⟩ := h.hd_lit
  obtain ⟨us2, rfl, h2⟩ := h1.hd_lit
  obtain ⟨us3, rfl, h3⟩ := h2.hd_lit
  obtain ⟨kidsA, kidsN, kidsC, us4, rfl, h4⟩ := h3.hd_row
  obtain rfl := h4.nil_
  exact ⟨_, _, _, rfl⟩
mutual
theorem Val.fit : ∀ t : Val, PD.fitL (Val.pd t)
  | .mk kind num text kids => by rw [Val.pd_mk]; simp only [PD.fitL]; exact ⟨by rw [PD.fit]; trivial, by rw [PD.fit]; trivial, by rw [PD.fit]; trivial, row_fit Val.pd_length (by decide) (by decide) (Val.fit_mem kids), trivial⟩
theorem Val.fit_mem : ∀ ts : List Val, ∀ t ∈ ts, PD.fitL (Val.pd t)
  | [], x, hx => absurd hx (by simp)
  | t :: r, x, hx => (List.mem_cons.1 hx).elim (fun e => e ▸ Val.fit t) (fun h => Val.fit_mem r x h)
end

inductive Move where
  | mk (kind : Int) (at_ : Int) (size : Int) (align : Int) (typ : Int) (most : Int) (name : ByteArray) (kids : List (List Move))
mutual
def Move.pd : Move → List PD
  | .mk kind at_ size align typ most name kids => [.lit (.int .i64 kind), .lit (.int .i64 at_), .lit (.int .i64 size), .lit (.int .i64 align), .lit (.int .i64 typ), .lit (.int .i64 most), .lit (.string name), .row 1 (Move.pdSS kids)]
def Move.pdS : List Move → List PD
  | [] => []
  | t :: r => Move.pd t ++ Move.pdS r
def Move.pdSS : List (List Move) → List PD
  | [] => []
  | t :: r => .row 8 (Move.pdS t) :: Move.pdSS r
end
theorem Move.pdS_eq : ∀ ts : List Move, Move.pdS ts = ts.flatMap Move.pd
  | [] => by rw [Move.pdS]; rfl
  | t :: r => by rw [Move.pdS, Move.pdS_eq r, List.flatMap_cons]
def rowCMoveS (ts : List Move) : List PD := [.row 8 (ts.flatMap Move.pd)]
theorem rowCMoveS_length (ts : List Move) : (rowCMoveS ts).length = 1 := rfl
theorem Move.pdSS_eq : ∀ ts : List (List Move), Move.pdSS ts = ts.flatMap rowCMoveS
  | [] => by rw [Move.pdSS]; rfl
  | t :: r => by rw [Move.pdSS, Move.pdSS_eq r, List.flatMap_cons]; rw [rowCMoveS, Move.pdS_eq]; rfl
theorem Move.pd_mk (kind : Int) (at_ : Int) (size : Int) (align : Int) (typ : Int) (most : Int) (name : ByteArray) (kids : List (List Move)) : Move.pd ⟨kind, at_, size, align, typ, most, name, kids⟩ = [.lit (.int .i64 kind), .lit (.int .i64 at_), .lit (.int .i64 size), .lit (.int .i64 align), .lit (.int .i64 typ), .lit (.int .i64 most), .lit (.string name), .row 1 (kids.flatMap rowCMoveS)] := by rw [Move.pd, Move.pdSS_eq]
theorem Move.pd_length (t : Move) : (Move.pd t).length = 8 := by obtain ⟨kind, at_, size, align, typ, most, name, kids⟩ := t; rw [Move.pd_mk]; rfl
theorem Move.open_ {w : World} {B : Nat} {cs : List Value} {kind : Int} {at_ : Int} {size : Int} {align : Int} {typ : Int} {most : Int} {name : ByteArray} {kids : List (List Move)} (h : RepC w B (Move.pd ⟨kind, at_, size, align, typ, most, name, kids⟩) cs) : ∃ kidsV, cs = [.int .i64 kind, .int .i64 at_, .int .i64 size, .int .i64 align, .int .i64 typ, .int .i64 most, .string name, kidsV] ∧ Rep w B (.row 1 (kids.flatMap rowCMoveS)) kidsV := by
  rw [Move.pd_mk] at h
  obtain ⟨cs1, rfl, h1⟩ := h.of_lit
  obtain ⟨cs2, rfl, h2⟩ := h1.of_lit
  obtain ⟨cs3, rfl, h3⟩ := h2.of_lit
  obtain ⟨cs4, rfl, h4⟩ := h3.of_lit
  obtain ⟨cs5, rfl, h5⟩ := h4.of_lit
  obtain ⟨cs6, rfl, h6⟩ := h5.of_lit
  obtain ⟨cs7, rfl, h7⟩ := h6.of_lit
  obtain ⟨kidsV, cs8, rfl, r_kids, h8⟩ := h7.of_cons
  obtain rfl := h8.of_nil
  exact ⟨_, rfl, r_kids⟩
theorem Move.close_ {w : World} {B : Nat} {kind : Int} {at_ : Int} {size : Int} {align : Int} {typ : Int} {most : Int} {name : ByteArray} {kids : List (List Move)} {kidsV : Value} (r_kids : Rep w B (.row 1 (kids.flatMap rowCMoveS)) kidsV) : RepC w B (Move.pd ⟨kind, at_, size, align, typ, most, name, kids⟩) [.int .i64 kind, .int .i64 at_, .int .i64 size, .int .i64 align, .int .i64 typ, .int .i64 most, .string name, kidsV] := by
  rw [Move.pd_mk]
  exact (((((((RepC.cons r_kids (RepC.nil_)).lit _).lit _).lit _).lit _).lit _).lit _).lit _
theorem Move.lopen {w : World} {lo hi : Nat} {us : List Value} {kind : Int} {at_ : Int} {size : Int} {align : Int} {typ : Int} {most : Int} {name : ByteArray} {kids : List (List Move)} (h : LvC w lo hi (Move.pd ⟨kind, at_, size, align, typ, most, name, kids⟩) us) : ∃ kidsA kidsN kidsC, us = [.int .i64 kind, .int .i64 at_, .int .i64 size, .int .i64 align, .int .i64 typ, .int .i64 most, .string name, .slice kidsA kidsN kidsC] := by
  rw [Move.pd_mk] at h
  obtain ⟨us1, rfl, h1⟩ := h.hd_lit
  obtain ⟨us2, rfl, h2⟩ := h1.hd_lit
  obtain ⟨us3, rfl, h3⟩ := h2.hd_lit
  obtain ⟨us4, rfl, h4⟩ := h3.hd_lit
  obtain ⟨us5, rfl, h5⟩ := h4.hd_lit
  obtain ⟨us6, rfl, h6⟩ := h5.hd_lit
  obtain ⟨us7, rfl, h7⟩ := h6.hd_lit
  obtain ⟨kidsA, kidsN, kidsC, us8, rfl, h8⟩ := h7.hd_row
  obtain rfl := h8.nil_
  exact ⟨_, _, _, rfl⟩
mutual
theorem Move.fit : ∀ t : Move, PD.fitL (Move.pd t)
  | .mk kind at_ size align typ most name kids => by rw [Move.pd_mk]; simp only [PD.fitL]; exact ⟨by rw [PD.fit]; trivial, by rw [PD.fit]; trivial, by rw [PD.fit]; trivial, by rw [PD.fit]; trivial, by rw [PD.fit]; trivial, by rw [PD.fit]; trivial, by rw [PD.fit]; trivial, row_fit rowCMoveS_length (by decide) (by decide) (Move.fit_memS kids), trivial⟩
theorem Move.fit_mem : ∀ ts : List Move, ∀ t ∈ ts, PD.fitL (Move.pd t)
  | [], x, hx => absurd hx (by simp)
  | t :: r, x, hx => (List.mem_cons.1 hx).elim (fun e => e ▸ Move.fit t) (fun h => Move.fit_mem r x h)
theorem Move.fit_memS : ∀ ts : List (List Move), ∀ t ∈ ts, PD.fitL (rowCMoveS t)
  | [], x, hx => absurd hx (by simp)
  | t :: r, x, hx => (List.mem_cons.1 hx).elim (fun e => by rw [e]; simp only [rowCMoveS, PD.fitL]; exact ⟨row_fit Move.pd_length (by decide) (by decide) (Move.fit_mem t), trivial⟩) (fun h => Move.fit_memS r x h)
end

structure Plan where
  types : List Ty
  from_ : Int
  to_ : Int
  flat : List Move
  mem : List Move
def Plan.pd (t : Plan) : List PD := [.row 4 (t.types.flatMap Ty.pd), .lit (.int .i64 t.from_), .lit (.int .i64 t.to_), .row 8 (t.flat.flatMap Move.pd), .row 8 (t.mem.flatMap Move.pd)]
theorem Plan.pd_mk (types : List Ty) (from_ : Int) (to_ : Int) (flat : List Move) (mem : List Move) : Plan.pd ⟨types, from_, to_, flat, mem⟩ = [.row 4 (types.flatMap Ty.pd), .lit (.int .i64 from_), .lit (.int .i64 to_), .row 8 (flat.flatMap Move.pd), .row 8 (mem.flatMap Move.pd)] := rfl
theorem Plan.pd_length (t : Plan) : (Plan.pd t).length = 5 := by obtain ⟨types, from_, to_, flat, mem⟩ := t; rw [Plan.pd_mk]; rfl
theorem Plan.open_ {w : World} {B : Nat} {cs : List Value} {types : List Ty} {from_ : Int} {to_ : Int} {flat : List Move} {mem : List Move} (h : RepC w B (Plan.pd ⟨types, from_, to_, flat, mem⟩) cs) : ∃ typesV flatV memV, cs = [typesV, .int .i64 from_, .int .i64 to_, flatV, memV] ∧ Rep w B (.row 4 (types.flatMap Ty.pd)) typesV ∧ Rep w B (.row 8 (flat.flatMap Move.pd)) flatV ∧ Rep w B (.row 8 (mem.flatMap Move.pd)) memV := by
  rw [Plan.pd_mk] at h
  obtain ⟨typesV, cs1, rfl, r_types, h1⟩ := h.of_cons
  obtain ⟨cs2, rfl, h2⟩ := h1.of_lit
  obtain ⟨cs3, rfl, h3⟩ := h2.of_lit
  obtain ⟨flatV, cs4, rfl, r_flat, h4⟩ := h3.of_cons
  obtain ⟨memV, cs5, rfl, r_mem, h5⟩ := h4.of_cons
  obtain rfl := h5.of_nil
  exact ⟨_, _, _, rfl, r_types, r_flat, r_mem⟩
theorem Plan.close_ {w : World} {B : Nat} {types : List Ty} {from_ : Int} {to_ : Int} {flat : List Move} {mem : List Move} {typesV : Value} {flatV : Value} {memV : Value} (r_types : Rep w B (.row 4 (types.flatMap Ty.pd)) typesV) (r_flat : Rep w B (.row 8 (flat.flatMap Move.pd)) flatV) (r_mem : Rep w B (.row 8 (mem.flatMap Move.pd)) memV) : RepC w B (Plan.pd ⟨types, from_, to_, flat, mem⟩) [typesV, .int .i64 from_, .int .i64 to_, flatV, memV] := by
  rw [Plan.pd_mk]
  exact RepC.cons r_types (((RepC.cons r_flat (RepC.cons r_mem (RepC.nil_))).lit _).lit _)
theorem Plan.lopen {w : World} {lo hi : Nat} {us : List Value} {types : List Ty} {from_ : Int} {to_ : Int} {flat : List Move} {mem : List Move} (h : LvC w lo hi (Plan.pd ⟨types, from_, to_, flat, mem⟩) us) : ∃ typesA typesN typesC flatA flatN flatC memA memN memC, us = [.slice typesA typesN typesC, .int .i64 from_, .int .i64 to_, .slice flatA flatN flatC, .slice memA memN memC] := by
  rw [Plan.pd_mk] at h
  obtain ⟨typesA, typesN, typesC, us1, rfl, h1⟩ := h.hd_row
  obtain ⟨us2, rfl, h2⟩ := h1.hd_lit
  obtain ⟨us3, rfl, h3⟩ := h2.hd_lit
  obtain ⟨flatA, flatN, flatC, us4, rfl, h4⟩ := h3.hd_row
  obtain ⟨memA, memN, memC, us5, rfl, h5⟩ := h4.hd_row
  obtain rfl := h5.nil_
  exact ⟨_, _, _, _, _, _, _, _, _, rfl⟩
theorem Plan.fit (t : Plan) : PD.fitL (Plan.pd t) := by obtain ⟨types, from_, to_, flat, mem⟩ := t; exact by rw [Plan.pd_mk]; simp only [PD.fitL]; exact ⟨row_fit Ty.pd_length (by decide) (by decide) (fun t _ => Ty.fit t), by rw [PD.fit]; trivial, by rw [PD.fit]; trivial, row_fit Move.pd_length (by decide) (by decide) (fun t _ => Move.fit t), row_fit Move.pd_length (by decide) (by decide) (fun t _ => Move.fit t), trivial⟩

structure Section where
  id : Int
  name : ByteArray
  bytes : ByteArray
def Section.pd (t : Section) : List PD := [.lit (.int .i64 t.id), .lit (.string t.name), .lit (.string t.bytes)]
theorem Section.pd_mk (id : Int) (name : ByteArray) (bytes : ByteArray) : Section.pd ⟨id, name, bytes⟩ = [.lit (.int .i64 id), .lit (.string name), .lit (.string bytes)] := rfl
theorem Section.pd_length (t : Section) : (Section.pd t).length = 3 := by obtain ⟨id, name, bytes⟩ := t; rw [Section.pd_mk]; rfl
theorem Section.open_ {w : World} {B : Nat} {cs : List Value} {id : Int} {name : ByteArray} {bytes : ByteArray} (h : RepC w B (Section.pd ⟨id, name, bytes⟩) cs) : cs = [.int .i64 id, .string name, .string bytes] := by
  rw [Section.pd_mk] at h
  obtain ⟨cs1, rfl, h1⟩ := h.of_lit
  obtain ⟨cs2, rfl, h2⟩ := h1.of_lit
  obtain ⟨cs3, rfl, h3⟩ := h2.of_lit
  obtain rfl := h3.of_nil
  exact rfl
theorem Section.close_ {w : World} {B : Nat} {id : Int} {name : ByteArray} {bytes : ByteArray} : RepC w B (Section.pd ⟨id, name, bytes⟩) [.int .i64 id, .string name, .string bytes] := by
  rw [Section.pd_mk]
  exact (((RepC.nil_).lit _).lit _).lit _
theorem Section.lopen {w : World} {lo hi : Nat} {us : List Value} {id : Int} {name : ByteArray} {bytes : ByteArray} (h : LvC w lo hi (Section.pd ⟨id, name, bytes⟩) us) : us = [.int .i64 id, .string name, .string bytes] := by
  rw [Section.pd_mk] at h
  obtain ⟨us1, rfl, h1⟩ := h.hd_lit
  obtain ⟨us2, rfl, h2⟩ := h1.hd_lit
  obtain ⟨us3, rfl, h3⟩ := h2.hd_lit
  obtain rfl := h3.nil_
  exact rfl
theorem Section.fit (t : Section) : PD.fitL (Section.pd t) := by obtain ⟨id, name, bytes⟩ := t; exact by rw [Section.pd_mk]; simp only [PD.fitL]; exact ⟨by rw [PD.fit]; trivial, by rw [PD.fit]; trivial, by rw [PD.fit]; trivial, trivial⟩

structure Reason where
  kind : Int
  at_ : ByteArray
def Reason.pd (t : Reason) : List PD := [.lit (.int .i64 t.kind), .lit (.string t.at_)]
theorem Reason.pd_mk (kind : Int) (at_ : ByteArray) : Reason.pd ⟨kind, at_⟩ = [.lit (.int .i64 kind), .lit (.string at_)] := rfl
theorem Reason.pd_length (t : Reason) : (Reason.pd t).length = 2 := by obtain ⟨kind, at_⟩ := t; rw [Reason.pd_mk]; rfl
theorem Reason.open_ {w : World} {B : Nat} {cs : List Value} {kind : Int} {at_ : ByteArray} (h : RepC w B (Reason.pd ⟨kind, at_⟩) cs) : cs = [.int .i64 kind, .string at_] := by
  rw [Reason.pd_mk] at h
  obtain ⟨cs1, rfl, h1⟩ := h.of_lit
  obtain ⟨cs2, rfl, h2⟩ := h1.of_lit
  obtain rfl := h2.of_nil
  exact rfl
theorem Reason.close_ {w : World} {B : Nat} {kind : Int} {at_ : ByteArray} : RepC w B (Reason.pd ⟨kind, at_⟩) [.int .i64 kind, .string at_] := by
  rw [Reason.pd_mk]
  exact ((RepC.nil_).lit _).lit _
theorem Reason.lopen {w : World} {lo hi : Nat} {us : List Value} {kind : Int} {at_ : ByteArray} (h : LvC w lo hi (Reason.pd ⟨kind, at_⟩) us) : us = [.int .i64 kind, .string at_] := by
  rw [Reason.pd_mk] at h
  obtain ⟨us1, rfl, h1⟩ := h.hd_lit
  obtain ⟨us2, rfl, h2⟩ := h1.hd_lit
  obtain rfl := h2.nil_
  exact rfl
theorem Reason.fit (t : Reason) : PD.fitL (Reason.pd t) := by obtain ⟨kind, at_⟩ := t; exact by rw [Reason.pd_mk]; simp only [PD.fitL]; exact ⟨by rw [PD.fit]; trivial, by rw [PD.fit]; trivial, trivial⟩

structure CodeBlock where
  at_ : Int
  els : Int
  end_ : Int
  height : Int
  result : Bool
def CodeBlock.pd (t : CodeBlock) : List PD := [.lit (.int .i64 t.at_), .lit (.int .i64 t.els), .lit (.int .i64 t.end_), .lit (.int .i64 t.height), .lit (.bool t.result)]
theorem CodeBlock.pd_mk (at_ : Int) (els : Int) (end_ : Int) (height : Int) (result : Bool) : CodeBlock.pd ⟨at_, els, end_, height, result⟩ = [.lit (.int .i64 at_), .lit (.int .i64 els), .lit (.int .i64 end_), .lit (.int .i64 height), .lit (.bool result)] := rfl
theorem CodeBlock.pd_length (t : CodeBlock) : (CodeBlock.pd t).length = 5 := by obtain ⟨at_, els, end_, height, result⟩ := t; rw [CodeBlock.pd_mk]; rfl
theorem CodeBlock.open_ {w : World} {B : Nat} {cs : List Value} {at_ : Int} {els : Int} {end_ : Int} {height : Int} {result : Bool} (h : RepC w B (CodeBlock.pd ⟨at_, els, end_, height, result⟩) cs) : cs = [.int .i64 at_, .int .i64 els, .int .i64 end_, .int .i64 height, .bool result] := by
  rw [CodeBlock.pd_mk] at h
  obtain ⟨cs1, rfl, h1⟩ := h.of_lit
  obtain ⟨cs2, rfl, h2⟩ := h1.of_lit
  obtain ⟨cs3, rfl, h3⟩ := h2.of_lit
  obtain ⟨cs4, rfl, h4⟩ := h3.of_lit
  obtain ⟨cs5, rfl, h5⟩ := h4.of_lit
  obtain rfl := h5.of_nil
  exact rfl
theorem CodeBlock.close_ {w : World} {B : Nat} {at_ : Int} {els : Int} {end_ : Int} {height : Int} {result : Bool} : RepC w B (CodeBlock.pd ⟨at_, els, end_, height, result⟩) [.int .i64 at_, .int .i64 els, .int .i64 end_, .int .i64 height, .bool result] := by
  rw [CodeBlock.pd_mk]
  exact (((((RepC.nil_).lit _).lit _).lit _).lit _).lit _
theorem CodeBlock.lopen {w : World} {lo hi : Nat} {us : List Value} {at_ : Int} {els : Int} {end_ : Int} {height : Int} {result : Bool} (h : LvC w lo hi (CodeBlock.pd ⟨at_, els, end_, height, result⟩) us) : us = [.int .i64 at_, .int .i64 els, .int .i64 end_, .int .i64 height, .bool result] := by
  rw [CodeBlock.pd_mk] at h
  obtain ⟨us1, rfl, h1⟩ := h.hd_lit
  obtain ⟨us2, rfl, h2⟩ := h1.hd_lit
  obtain ⟨us3, rfl, h3⟩ := h2.hd_lit
  obtain ⟨us4, rfl, h4⟩ := h3.hd_lit
  obtain ⟨us5, rfl, h5⟩ := h4.hd_lit
  obtain rfl := h5.nil_
  exact rfl
theorem CodeBlock.fit (t : CodeBlock) : PD.fitL (CodeBlock.pd t) := by obtain ⟨at_, els, end_, height, result⟩ := t; exact by rw [CodeBlock.pd_mk]; simp only [PD.fitL]; exact ⟨by rw [PD.fit]; trivial, by rw [PD.fit]; trivial, by rw [PD.fit]; trivial, by rw [PD.fit]; trivial, by rw [PD.fit]; trivial, trivial⟩

structure Token where
  kind : Int
  text : ByteArray
  line : Int
def Token.pd (t : Token) : List PD := [.lit (.int .i64 t.kind), .lit (.string t.text), .lit (.int .i64 t.line)]
theorem Token.pd_mk (kind : Int) (text : ByteArray) (line : Int) : Token.pd ⟨kind, text, line⟩ = [.lit (.int .i64 kind), .lit (.string text), .lit (.int .i64 line)] := rfl
theorem Token.pd_length (t : Token) : (Token.pd t).length = 3 := by obtain ⟨kind, text, line⟩ := t; rw [Token.pd_mk]; rfl
theorem Token.open_ {w : World} {B : Nat} {cs : List Value} {kind : Int} {text : ByteArray} {line : Int} (h : RepC w B (Token.pd ⟨kind, text, line⟩) cs) : cs = [.int .i64 kind, .string text, .int .i64 line] := by
  rw [Token.pd_mk] at h
  obtain ⟨cs1, rfl, h1⟩ := h.of_lit
  obtain ⟨cs2, rfl, h2⟩ := h1.of_lit
  obtain ⟨cs3, rfl, h3⟩ := h2.of_lit
  obtain rfl := h3.of_nil
  exact rfl
theorem Token.close_ {w : World} {B : Nat} {kind : Int} {text : ByteArray} {line : Int} : RepC w B (Token.pd ⟨kind, text, line⟩) [.int .i64 kind, .string text, .int .i64 line] := by
  rw [Token.pd_mk]
  exact (((RepC.nil_).lit _).lit _).lit _
theorem Token.lopen {w : World} {lo hi : Nat} {us : List Value} {kind : Int} {text : ByteArray} {line : Int} (h : LvC w lo hi (Token.pd ⟨kind, text, line⟩) us) : us = [.int .i64 kind, .string text, .int .i64 line] := by
  rw [Token.pd_mk] at h
  obtain ⟨us1, rfl, h1⟩ := h.hd_lit
  obtain ⟨us2, rfl, h2⟩ := h1.hd_lit
  obtain ⟨us3, rfl, h3⟩ := h2.hd_lit
  obtain rfl := h3.nil_
  exact rfl
theorem Token.fit (t : Token) : PD.fitL (Token.pd t) := by obtain ⟨kind, text, line⟩ := t; exact by rw [Token.pd_mk]; simp only [PD.fitL]; exact ⟨by rw [PD.fit]; trivial, by rw [PD.fit]; trivial, by rw [PD.fit]; trivial, trivial⟩

end Go.Proofs.Ytlppngpafjfjeaa
