/-
  spec.l14Same, impl.sameMoves: the same bool (by program: gen_samepl.py).
-/
import Derived.Test.YtnedcpoengcbaaaSameTy
import Derived.Deep.RegionHeld3
import Derived.Deep.Cut
import Derived.Deep.CutRange
namespace Go.Proofs.Ytnedcpoengcbaaa
open Go.RowKit
set_option linter.unusedVariables false
set_option linter.unusedSimpArgs false
set_option linter.unnecessarySimpa false
set_option maxRecDepth 100000

def mvEq (q : List Move → List Move → Bool) : Move → Move → Bool | ⟨kind, at_, size, align, typ, most, name, kids⟩, ⟨Zkind, Zat_, Zsize, Zalign, Ztyp, Zmost, Zname, Zkids⟩ => decide (kind = Zkind) && decide (at_ = Zat_) && decide (size = Zsize) && decide (align = Zalign) && decide (typ = Ztyp) && decide (most = Zmost) && decide (name = Zname) && same2 q kids Zkids
def movesEq : Nat → List Move → List Move → Bool
  | 0, _, _ => false
  | n + 1, a, b => same2 (mvEq (movesEq n)) a b
theorem sameMoves1_enter (a : Array Value) (W : World) : Sem.run Try.prog (callFunc 67 a) W = .ok (.enter 67 a) W := by kernel_rfl
theorem sameMoves11_enter (a : Array Value) (W : World) : Sem.run Try.prog (callFunc 69 a) W = .ok (.enter 69 a) W := by kernel_rfl
theorem sameMoves11_any {n : Nat} (hn : n ≤ 100) (ih : ∀ (x y : List Move) (B : Nat) (v u : Value) (w : World), B ≤ w.heap.size → Rep w B (.row 8 (x.flatMap Move.pd)) v → Rep w B (.row 8 (y.flatMap Move.pd)) u → Calls Try.prog 43 #[v, u, .int .i64 n] w fun e w' => e = .returned (.bool (movesEq n x y)) ∧ Below w.heap.size w w')
    (x y : List Move) {B L : Nat} {v u : Value} {w : World} (hB : B ≤ w.heap.size) (hL : w.cell? ⟨L, 0, none⟩ = some (.int .i64 ((n + 1 : Nat) : Int))) (h : Rep w B (.row 8 (x.flatMap Move.pd)) v) (k : Rep w B (.row 8 (y.flatMap Move.pd)) u) :
    Calls Try.prog 69 (#[v, u] ++ #[.pointer (some ⟨L, 0, none⟩)]) w fun e w' => e = .returned (.bool (movesEq n x y)) ∧ Below w.heap.size w w' := by
  have IH := Lib.hid (ih x y B v u w hB h k)
  clear ih h k
  rw [Int.natCast_add] at hL
  have hsub : ((n : Int) + ((1 : Nat) : Int)) - 1 = n := by omega
  go_enter Try.func69, Try.ntmps69
  go_wp2_with fail
  refine IH.out.mono ?_
  rintro e w1 ⟨rfl, hb1⟩
  go_wp2_with fail
  go_ret
  exact ⟨rfl, hb1⟩
set_option maxHeartbeats 3200000 in
theorem sameMoves1_any {n : Nat} (hn : n ≤ 99) (ih : ∀ (x y : List Move) (B : Nat) (v u : Value) (w : World), B ≤ w.heap.size → Rep w B (.row 8 (x.flatMap Move.pd)) v → Rep w B (.row 8 (y.flatMap Move.pd)) u → Calls Try.prog 43 #[v, u, .int .i64 n] w fun e w' => e = .returned (.bool (movesEq n x y)) ∧ Below w.heap.size w w')
    (x y : Move) {B L : Nat} {cs ds : List Value} {w : World} (hB : B ≤ w.heap.size) (hL : w.cell? ⟨L, 0, none⟩ = some (.int .i64 ((n + 1 : Nat) : Int))) (hLt : L < w.heap.size) (h : RepC w B (Move.pd x) cs) (k : RepC w B (Move.pd y) ds) :
    Calls Try.prog 67 (#[.agg cs.toArray, .agg ds.toArray] ++ #[.pointer (some ⟨L, 0, none⟩)]) w fun e w' => e = .returned (.bool (mvEq (movesEq n) x y)) ∧ Below w.heap.size w w' := by
  have IH := Lib.hid ih
  clear ih
  obtain ⟨kind, at_, size, align, typ, most, name, kids⟩ := x
  obtain ⟨kidsV, rfl, r_kids⟩ := Move.open_ h
  obtain ⟨kidsA, kidsN, kidsC, rfl⟩ := r_kids.form
  have R_kids := Lib.hid r_kids
  clear r_kids
  obtain ⟨Zkind, Zat_, Zsize, Zalign, Ztyp, Zmost, Zname, Zkids⟩ := y
  obtain ⟨ZkidsV, rfl, r_Zkids⟩ := Move.open_ k
  obtain ⟨ZkidsA, ZkidsN, ZkidsC, rfl⟩ := r_Zkids.form
  have R_Zkids := Lib.hid r_Zkids
  clear r_Zkids
  clear h k
  by_cases h_kind : kind = Zkind
  case neg =>
    have HF : Hid (mvEq (movesEq n) (⟨kind, at_, size, align, typ, most, name, kids⟩ : Move) (⟨Zkind, Zat_, Zsize, Zalign, Ztyp, Zmost, Zname, Zkids⟩ : Move) = false) := by show _ = _; simp [mvEq, h_kind]
    have hs : (kind == Zkind) = false := by simpa using h_kind
    have hs2 : (kind != Zkind) = true := by simpa using h_kind
    go_enter Try.func67, Try.ntmps67
    go_wp2_with fail
    go_ret
    exact ⟨ret_bool HF.out.symm, ((Below.refl _ _).alloc (Nat.le_refl _) _).alloc (by simp) _⟩
  subst h_kind
  by_cases h_at_ : at_ = Zat_
  case neg =>
    have HF : Hid (mvEq (movesEq n) (⟨kind, at_, size, align, typ, most, name, kids⟩ : Move) (⟨kind, Zat_, Zsize, Zalign, Ztyp, Zmost, Zname, Zkids⟩ : Move) = false) := by show _ = _; simp [mvEq, h_at_]
    have hs : (at_ == Zat_) = false := by simpa using h_at_
    have hs2 : (at_ != Zat_) = true := by simpa using h_at_
    go_enter Try.func67, Try.ntmps67
    go_wp2_with fail
    go_ret
    exact ⟨ret_bool HF.out.symm, ((Below.refl _ _).alloc (Nat.le_refl _) _).alloc (by simp) _⟩
  subst h_at_
  by_cases h_size : size = Zsize
  case neg =>
    have HF : Hid (mvEq (movesEq n) (⟨kind, at_, size, align, typ, most, name, kids⟩ : Move) (⟨kind, at_, Zsize, Zalign, Ztyp, Zmost, Zname, Zkids⟩ : Move) = false) := by show _ = _; simp [mvEq, h_size]
    have hs : (size == Zsize) = false := by simpa using h_size
    have hs2 : (size != Zsize) = true := by simpa using h_size
    go_enter Try.func67, Try.ntmps67
    go_wp2_with fail
    go_ret
    exact ⟨ret_bool HF.out.symm, ((Below.refl _ _).alloc (Nat.le_refl _) _).alloc (by simp) _⟩
  subst h_size
  by_cases h_align : align = Zalign
  case neg =>
    have HF : Hid (mvEq (movesEq n) (⟨kind, at_, size, align, typ, most, name, kids⟩ : Move) (⟨kind, at_, size, Zalign, Ztyp, Zmost, Zname, Zkids⟩ : Move) = false) := by show _ = _; simp [mvEq, h_align]
    have hs : (align == Zalign) = false := by simpa using h_align
    have hs2 : (align != Zalign) = true := by simpa using h_align
    go_enter Try.func67, Try.ntmps67
    go_wp2_with fail
    go_ret
    exact ⟨ret_bool HF.out.symm, ((Below.refl _ _).alloc (Nat.le_refl _) _).alloc (by simp) _⟩
  subst h_align
  by_cases h_typ : typ = Ztyp
  case neg =>
    have HF : Hid (mvEq (movesEq n) (⟨kind, at_, size, align, typ, most, name, kids⟩ : Move) (⟨kind, at_, size, align, Ztyp, Zmost, Zname, Zkids⟩ : Move) = false) := by show _ = _; simp [mvEq, h_typ]
    have hs : (typ == Ztyp) = false := by simpa using h_typ
    have hs2 : (typ != Ztyp) = true := by simpa using h_typ
    go_enter Try.func67, Try.ntmps67
    go_wp2_with fail
    go_ret
    exact ⟨ret_bool HF.out.symm, ((Below.refl _ _).alloc (Nat.le_refl _) _).alloc (by simp) _⟩
  subst h_typ
  by_cases h_most : most = Zmost
  case neg =>
    have HF : Hid (mvEq (movesEq n) (⟨kind, at_, size, align, typ, most, name, kids⟩ : Move) (⟨kind, at_, size, align, typ, Zmost, Zname, Zkids⟩ : Move) = false) := by show _ = _; simp [mvEq, h_most]
    have hs : (most == Zmost) = false := by simpa using h_most
    have hs2 : (most != Zmost) = true := by simpa using h_most
    go_enter Try.func67, Try.ntmps67
    go_wp2_with fail
    go_ret
    exact ⟨ret_bool HF.out.symm, ((Below.refl _ _).alloc (Nat.le_refl _) _).alloc (by simp) _⟩
  subst h_most
  by_cases h_name : name = Zname
  case neg =>
    have HF : Hid (mvEq (movesEq n) (⟨kind, at_, size, align, typ, most, name, kids⟩ : Move) (⟨kind, at_, size, align, typ, most, Zname, Zkids⟩ : Move) = false) := by show _ = _; simp [mvEq, h_name]
    have hs : (name.toList == Zname.toList) = false := str_ne2 h_name
    have hs2 : (name.toList != Zname.toList) = true := by simpa using hs
    go_enter Try.func67, Try.ntmps67
    go_wp2_with fail
    go_ret
    exact ⟨ret_bool HF.out.symm, ((Below.refl _ _).alloc (Nat.le_refl _) _).alloc (by simp) _⟩
  subst h_name
  have HF : Hid (mvEq (movesEq n) (⟨kind, at_, size, align, typ, most, name, kids⟩ : Move) (⟨kind, at_, size, align, typ, most, name, Zkids⟩ : Move) = same2 (movesEq n) kids Zkids) := by show _ = _; simp [mvEq]
  obtain ⟨w0, hw0⟩ : ∃ W, W = (w.alloc (.cells #[.int .i64 kind, .int .i64 at_, .int .i64 size, .int .i64 align, .int .i64 typ, .int .i64 most, .string name, .slice kidsA kidsN kidsC] 108)).alloc (.cells #[.int .i64 kind, .int .i64 at_, .int .i64 size, .int .i64 align, .int .i64 typ, .int .i64 most, .string name, .slice ZkidsA ZkidsN ZkidsC] 108) := ⟨_, rfl⟩
  have hB0 : Below w.heap.size w w0 := by rw [hw0]; exact ((Below.refl _ _).alloc (Nat.le_refl _) _).alloc (by simp) _
  have hs0 := hB0.size
  have hL0 := (hB0.cell (p := ⟨L, 0, none⟩) hLt).trans hL
  clear hL
  go_enter Try.func67, Try.ntmps67
  go_wp2_with fail
  rw [← hw0]
  clear hw0
  refine (eqfMoveSS_any 69 #[.pointer (some ⟨L, 0, none⟩)] (movesEq n) (Nat.le_trans hB hs0) (R_kids.out.below (hB0.mono hB)) (R_Zkids.out.below (hB0.mono hB)) sameMoves11_enter (fun x _ y _ cs ds W hW hr1 hr2 => sameMoves11_any (by omega) IH.out x y (Nat.le_trans (Nat.le_trans hB hs0) hW.size) ((hW.cell (p := ⟨L, 0, none⟩) (Nat.lt_of_lt_of_le hLt hs0)).trans hL0) hr1 hr2)).mono ?_
  rintro e w1 ⟨rfl, hb1⟩
  go_wp2_with fail
  go_ret
  exact ⟨ret_bool HF.out.symm, hB0.trans (hb1.mono hs0)⟩
theorem implSameMoves_any : ∀ (n : Nat), n ≤ 100 → ∀ (x y : List Move) (B : Nat) (v u : Value) (w : World), B ≤ w.heap.size → Rep w B (.row 8 (x.flatMap Move.pd)) v → Rep w B (.row 8 (y.flatMap Move.pd)) u → Calls Try.prog 43 #[v, u, .int .i64 n] w fun e w' => e = .returned (.bool (movesEq n x y)) ∧ Below w.heap.size w w'
  | 0, _, x, y, B, v, u, w, hB, h, k => by
    have HF : Hid (movesEq 0 x y = false) := Lib.hid rfl
    obtain ⟨A, n, c, rfl⟩ := h.form
    obtain ⟨A', n', c', rfl⟩ := k.form
    go_enter Try.func43, Try.ntmps43
    go_wp2_with fail
    go_ret
    exact ⟨ret_bool HF.out.symm, (Below.refl _ _).alloc (Nat.le_refl _) _⟩
  | n + 1, hn, x, y, B, v, u, w, hB, h, k => by
    have IH := Lib.hid (implSameMoves_any n (by omega))
    have HF : Hid (movesEq (n + 1) x y = same2 (mvEq (movesEq n)) x y) := Lib.hid rfl
    have hn0 : (((n + 1 : Nat) : Int) == 0) = false := by simp; omega
    obtain ⟨N, hN⟩ : ∃ N : Int, N = ((n + 1 : Nat) : Int) := ⟨_, rfl⟩
    rw [← hN] at hn0 ⊢
    have HN := Lib.hid hN
    clear hN
    obtain ⟨w0, hw0⟩ : ∃ W, W = w.alloc (.cells #[.int .i64 N] 3) := ⟨_, rfl⟩
    have bL : Blk w0 w.heap.size 3 #[.int .i64 N] := by rw [hw0]; exact Blk.new w _ _
    have hB0 : Below w.heap.size w w0 := by rw [hw0]; exact (Below.refl _ _).alloc (Nat.le_refl _) _
    have hlt := bL.lt
    have H := Lib.hid (h.below (hB0.mono hB))
    have K := Lib.hid (k.below (hB0.mono hB))
    obtain ⟨A, m, c, rfl⟩ := h.form
    obtain ⟨A', m', c', rfl⟩ := k.form
    clear h k
    go_enter Try.func43, Try.ntmps43
    go_wp2_with fail
    rw [← hw0]
    clear hw0
    refine (eqfMoveS_any 67 #[.pointer (some ⟨w.heap.size, 0, none⟩)] (mvEq (movesEq n)) (Nat.le_trans hB hB0.size) H.out K.out sameMoves1_enter (fun x _ y _ cs ds W hW hr1 hr2 => sameMoves1_any (by omega) IH.out x y (Nat.le_trans (Nat.le_trans hB hB0.size) hW.size) (by rw [← HN.out]; exact (bL.step hW).cell 0) (Nat.lt_of_lt_of_le hlt hW.size) hr1 hr2)).mono ?_
    rintro e w2 ⟨rfl, hb2⟩
    go_wp2_with fail
    go_ret
    exact ⟨ret_bool HF.out.symm, hB0.trans (hb2.mono hB0.size)⟩
set_option maxHeartbeats 12800000 in
theorem specSameMoves_any : ∀ (n : Nat), n ≤ 100 → ∀ (x y : List Move) (B : Nat) (v u : Value) (w : World), B ≤ w.heap.size → Rep w B (.row 8 (x.flatMap Move.pd)) v → Rep w B (.row 8 (y.flatMap Move.pd)) u → Calls Try.prog 38 #[v, u, .int .i64 (101 - (n : Int))] w fun e w' => e = .returned (.bool (movesEq n x y)) ∧ Below w.heap.size w w'
  | 0, _, x, y, B, v, u, w, hB, h, k => by
    have HF : Hid (movesEq 0 x y = false) := Lib.hid rfl
    obtain ⟨A, n, c, rfl, hnl, hm, hat⟩ := rep_row Move.pd_length (by decide) h
    obtain ⟨A', n', c', rfl, hnl', hm', hat'⟩ := rep_row Move.pd_length (by decide) k
    unfold maxLen at hm hm'
    clear h k hat hat' hnl hnl'
    by_cases hnm : n = n'
    · subst hnm
      go_enter Try.func38, Try.ntmps38
      go_wp2_with fail
      go_ret
      exact ⟨ret_bool HF.out.symm, Below.refl _ _⟩
    · have hb : ((n : Int) != (n' : Int)) = true := by simp; omega
      go_enter Try.func38, Try.ntmps38
      go_wp2_with fail
      go_ret
      exact ⟨ret_bool HF.out.symm, Below.refl _ _⟩
  | n + 1, hn, x, y, B, v, u, w, hB, h, k => by
    have IH := Lib.hid (specSameMoves_any n (by omega))
    have HF : Hid (movesEq (n + 1) x y = same2 (mvEq (movesEq n)) x y) := Lib.hid rfl
    obtain ⟨R, hR⟩ : ∃ R, R = movesEq (n + 1) x y := ⟨_, rfl⟩
    rw [← hR] at HF ⊢
    clear hR
    obtain ⟨N, hN⟩ : ∃ N : Int, N = 101 - ((n + 1 : Nat) : Int) := ⟨_, rfl⟩
    have hN1 : N + 1 = 101 - (n : Int) := by omega
    have hN2 : N ≤ 100 := by omega
    have hN3 : 0 ≤ N := by omega
    have hwr : IntKind.i64.wrap (N + 1) = N + 1 := IntWalk.i64_in _ (by omega)
    rw [← hN]
    rw [← hN1] at IH
    clear hN hN1
    obtain ⟨A, m, c, rfl, hnl, hm, hat⟩ := rep_row Move.pd_length (by decide) h
    obtain ⟨A', m', c', rfl, hnl', hm', hat'⟩ := rep_row Move.pd_length (by decide) k
    unfold maxLen at hm hm'
    have HN := Lib.hid hnl
    have HM := Lib.hid hnl'
    clear h k hnl hnl'
    by_cases hnm : m = m'
    case neg =>
      have hb : ((m : Int) != (m' : Int)) = true := by simp; omega
      have HQ : Hid (R = false) := by show _ = _; rw [HF.out]; exact same2_ne (by have := HN.out; have := HM.out; omega)
      clear hat hat'
      go_enter Try.func38, Try.ntmps38
      go_wp2_with fail
      go_ret
      exact ⟨ret_bool HQ.out.symm, Below.refl _ _⟩
    subst hnm
    go_enter Try.func38, Try.ntmps38
    go_wp2_with fail
    go_loopw [7] (fun i wr => ∃ k : Nat, k ≤ m ∧ i = .int .i64 k ∧ Hid (∀ (j : Nat) (a b : Move), j < k → x[j]? = some a → y[j]? = some b → mvEq (movesEq n) a b = true) ∧ Below w.heap.size w wr) (fun i _ => m - (intOf i).toNat)
    case atStart => exact ⟨0, Nat.zero_le _, rfl, Lib.hid fun j a b h => absurd h (by omega), Below.refl _ _⟩
    case round =>
      obtain ⟨k, hk, rfl, HP, hbr⟩ := hrel
      have hsz := hbr.size
      by_cases hlt : k < m
      case neg =>
        have HQ : Hid (R = true) := by show _ = _; rw [HF.out]; exact same2_end hlt HN.out HM.out HP.out
        have hkn : k = m := by omega
        subst hkn
        clear hat hat'
        go_wp2_with fail
        go_ret
        exact ⟨ret_bool HQ.out.symm, hbr⟩
      obtain ⟨g, off, rfl, hg, hcell⟩ := hat (by omega)
      obtain ⟨g', off', rfl, hg', hcell'⟩ := hat' (by omega)
      obtain ⟨a, hx, _⟩ := at_lt HN.out hlt
      obtain ⟨b, hy, _⟩ := at_lt HM.out hlt
      have hlt' : (k : Int) < (m : Int) := by omega
      obtain ⟨kind, at_, size, align, typ, most, name, kids⟩ := a
      obtain ⟨Zkind, Zat_, Zsize, Zalign, Ztyp, Zmost, Zname, Zkids⟩ := b
      have c_kind : wr.cell? ⟨g, off + k * 8, none⟩ = some (.int .i64 kind) := cell_lit hbr (by omega) (hcell k 0 _ _ hx (by rw [Move.pd_mk]; rfl))
      have c_Zkind : wr.cell? ⟨g', off' + k * 8, none⟩ = some (.int .i64 Zkind) := cell_lit hbr (by omega) (hcell' k 0 _ _ hy (by rw [Move.pd_mk]; rfl))
      have c_at_ : wr.cell? ⟨g, off + k * 8 + 1, none⟩ = some (.int .i64 at_) := cell_lit hbr (by omega) (hcell k 1 _ _ hx (by rw [Move.pd_mk]; rfl))
      have c_Zat_ : wr.cell? ⟨g', off' + k * 8 + 1, none⟩ = some (.int .i64 Zat_) := cell_lit hbr (by omega) (hcell' k 1 _ _ hy (by rw [Move.pd_mk]; rfl))
      have c_size : wr.cell? ⟨g, off + k * 8 + 2, none⟩ = some (.int .i64 size) := cell_lit hbr (by omega) (hcell k 2 _ _ hx (by rw [Move.pd_mk]; rfl))
      have c_Zsize : wr.cell? ⟨g', off' + k * 8 + 2, none⟩ = some (.int .i64 Zsize) := cell_lit hbr (by omega) (hcell' k 2 _ _ hy (by rw [Move.pd_mk]; rfl))
      have c_align : wr.cell? ⟨g, off + k * 8 + 3, none⟩ = some (.int .i64 align) := cell_lit hbr (by omega) (hcell k 3 _ _ hx (by rw [Move.pd_mk]; rfl))
      have c_Zalign : wr.cell? ⟨g', off' + k * 8 + 3, none⟩ = some (.int .i64 Zalign) := cell_lit hbr (by omega) (hcell' k 3 _ _ hy (by rw [Move.pd_mk]; rfl))
      have c_typ : wr.cell? ⟨g, off + k * 8 + 4, none⟩ = some (.int .i64 typ) := cell_lit hbr (by omega) (hcell k 4 _ _ hx (by rw [Move.pd_mk]; rfl))
      have c_Ztyp : wr.cell? ⟨g', off' + k * 8 + 4, none⟩ = some (.int .i64 Ztyp) := cell_lit hbr (by omega) (hcell' k 4 _ _ hy (by rw [Move.pd_mk]; rfl))
      have c_most : wr.cell? ⟨g, off + k * 8 + 5, none⟩ = some (.int .i64 most) := cell_lit hbr (by omega) (hcell k 5 _ _ hx (by rw [Move.pd_mk]; rfl))
      have c_Zmost : wr.cell? ⟨g', off' + k * 8 + 5, none⟩ = some (.int .i64 Zmost) := cell_lit hbr (by omega) (hcell' k 5 _ _ hy (by rw [Move.pd_mk]; rfl))
      have c_name : wr.cell? ⟨g, off + k * 8 + 6, none⟩ = some (.string name) := cell_lit hbr (by omega) (hcell k 6 _ _ hx (by rw [Move.pd_mk]; rfl))
      have c_Zname : wr.cell? ⟨g', off' + k * 8 + 6, none⟩ = some (.string Zname) := cell_lit hbr (by omega) (hcell' k 6 _ _ hy (by rw [Move.pd_mk]; rfl))
      obtain ⟨kidsV, c_kids, r_kids⟩ : ∃ u, wr.cell? ⟨g, off + k * 8 + 7, none⟩ = some u ∧ Rep wr B (.row 1 (kids.flatMap rowCMoveS)) u := cell_rep hbr (by omega) hB (hcell k 7 _ _ hx (by rw [Move.pd_mk]; rfl))
      obtain ⟨kidsA, kidsN, kidsC, rfl⟩ := r_kids.form
      have R_kids := Lib.hid r_kids
      clear r_kids
      obtain ⟨ZkidsV, c_Zkids, r_Zkids⟩ : ∃ u, wr.cell? ⟨g', off' + k * 8 + 7, none⟩ = some u ∧ Rep wr B (.row 1 (Zkids.flatMap rowCMoveS)) u := cell_rep hbr (by omega) hB (hcell' k 7 _ _ hy (by rw [Move.pd_mk]; rfl))
      obtain ⟨ZkidsA, ZkidsN, ZkidsC, rfl⟩ := r_Zkids.form
      have R_Zkids := Lib.hid r_Zkids
      clear r_Zkids
      have HX := Lib.hid hx
      have HY := Lib.hid hy
      clear hx hy hcell hcell' hat hat'
      go_wp2_with fail
      go_cut [8, 9] from 26 to 33 (fun v8 v9 wx => ∃ b1 b2 : Nat, v8 = .pointer (some ⟨b1, 0, none⟩) ∧ v9 = .pointer (some ⟨b2, 0, none⟩) ∧ wr.heap.size ≤ b1 ∧ wr.heap.size ≤ b2 ∧ Blk wx b1 108 #[.int .i64 kind, .int .i64 at_, .int .i64 size, .int .i64 align, .int .i64 typ, .int .i64 most, .string name, .slice kidsA kidsN kidsC] ∧ Blk wx b2 108 #[.int .i64 Zkind, .int .i64 Zat_, .int .i64 Zsize, .int .i64 Zalign, .int .i64 Ztyp, .int .i64 Zmost, .string Zname, .slice ZkidsA ZkidsN ZkidsC] ∧ Below wr.heap.size wr wx)
      case first =>
        go_region_held3 (fun w' => w'.cell? ⟨g, off + k * 8, none⟩ = some (.int .i64 kind) ∧ w'.cell? ⟨g', off' + k * 8, none⟩ = some (.int .i64 Zkind) ∧ w'.cell? ⟨g, off + k * 8 + 1, none⟩ = some (.int .i64 at_) ∧ w'.cell? ⟨g', off' + k * 8 + 1, none⟩ = some (.int .i64 Zat_) ∧ w'.cell? ⟨g, off + k * 8 + 2, none⟩ = some (.int .i64 size) ∧ w'.cell? ⟨g', off' + k * 8 + 2, none⟩ = some (.int .i64 Zsize) ∧ w'.cell? ⟨g, off + k * 8 + 3, none⟩ = some (.int .i64 align) ∧ w'.cell? ⟨g', off' + k * 8 + 3, none⟩ = some (.int .i64 Zalign) ∧ w'.cell? ⟨g, off + k * 8 + 4, none⟩ = some (.int .i64 typ) ∧ w'.cell? ⟨g', off' + k * 8 + 4, none⟩ = some (.int .i64 Ztyp) ∧ w'.cell? ⟨g, off + k * 8 + 5, none⟩ = some (.int .i64 most) ∧ w'.cell? ⟨g', off' + k * 8 + 5, none⟩ = some (.int .i64 Zmost) ∧ w'.cell? ⟨g, off + k * 8 + 6, none⟩ = some (.string name) ∧ w'.cell? ⟨g', off' + k * 8 + 6, none⟩ = some (.string Zname) ∧ w'.cell? ⟨g, off + k * 8 + 7, none⟩ = some (.slice kidsA kidsN kidsC) ∧ w'.cell? ⟨g', off' + k * 8 + 7, none⟩ = some (.slice ZkidsA ZkidsN ZkidsC))
          (first | exact ⟨c_kind, c_Zkind, c_at_, c_Zat_, c_size, c_Zsize, c_align, c_Zalign, c_typ, c_Ztyp, c_most, c_Zmost, c_name, c_Zname, c_kids, c_Zkids⟩ | go_keep)
          (fail)
        all_goals go_wp2_with fail
        all_goals go_meet
        · exact ⟨wr.heap.size, wr.heap.size + 1, rfl, rfl, Nat.le_refl _, by omega, ((Blk.new wr _ _).alloc _).drew, by have := (Blk.new (wr.alloc (.cells #[.int .i64 kind, .int .i64 at_, .int .i64 size, .int .i64 align, .int .i64 typ, .int .i64 most, .string name, .slice kidsA kidsN kidsC] 108)) 108 #[.int .i64 Zkind, .int .i64 Zat_, .int .i64 Zsize, .int .i64 Zalign, .int .i64 Ztyp, .int .i64 Zmost, .string Zname, .slice ZkidsA ZkidsN ZkidsC]).drew; simpa using this, (((Below.refl _ _).alloc (Nat.le_refl _) _).alloc (by simp) _).drew⟩
        · exact ⟨wr.heap.size + 1, wr.heap.size, rfl, rfl, by omega, Nat.le_refl _, by have := (Blk.new (wr.alloc (.cells #[.int .i64 Zkind, .int .i64 Zat_, .int .i64 Zsize, .int .i64 Zalign, .int .i64 Ztyp, .int .i64 Zmost, .string Zname, .slice ZkidsA ZkidsN ZkidsC] 108)) 108 #[.int .i64 kind, .int .i64 at_, .int .i64 size, .int .i64 align, .int .i64 typ, .int .i64 most, .string name, .slice kidsA kidsN kidsC]).drew; simpa using this, ((Blk.new wr _ _).alloc _).drew, (((Below.refl _ _).alloc (Nat.le_refl _) _).alloc (by simp) _).drew⟩
      case rest =>
        obtain ⟨b1, b2, rfl, rfl, hb1, hb2, bX, bY, hBc⟩ := hcut
        clear c_kind c_Zkind c_at_ c_Zat_ c_size c_Zsize c_align c_Zalign c_typ c_Ztyp c_most c_Zmost c_name c_Zname c_kids c_Zkids
        have hBw := hbr.trans (hBc.mono hsz)
        have hX := bX.lt
        have hY := bY.lt
        have e_kind : wc.cell? ⟨b1, 0, none⟩ = some (.int .i64 kind) := bX.cell 0
        have e_Zkind : wc.cell? ⟨b2, 0, none⟩ = some (.int .i64 Zkind) := bY.cell 0
        have e_at_ : wc.cell? ⟨b1, 1, none⟩ = some (.int .i64 at_) := bX.cell 1
        have e_Zat_ : wc.cell? ⟨b2, 1, none⟩ = some (.int .i64 Zat_) := bY.cell 1
        have e_size : wc.cell? ⟨b1, 2, none⟩ = some (.int .i64 size) := bX.cell 2
        have e_Zsize : wc.cell? ⟨b2, 2, none⟩ = some (.int .i64 Zsize) := bY.cell 2
        have e_align : wc.cell? ⟨b1, 3, none⟩ = some (.int .i64 align) := bX.cell 3
        have e_Zalign : wc.cell? ⟨b2, 3, none⟩ = some (.int .i64 Zalign) := bY.cell 3
        have e_typ : wc.cell? ⟨b1, 4, none⟩ = some (.int .i64 typ) := bX.cell 4
        have e_Ztyp : wc.cell? ⟨b2, 4, none⟩ = some (.int .i64 Ztyp) := bY.cell 4
        have e_most : wc.cell? ⟨b1, 5, none⟩ = some (.int .i64 most) := bX.cell 5
        have e_Zmost : wc.cell? ⟨b2, 5, none⟩ = some (.int .i64 Zmost) := bY.cell 5
        have e_name : wc.cell? ⟨b1, 6, none⟩ = some (.string name) := bX.cell 6
        have e_Zname : wc.cell? ⟨b2, 6, none⟩ = some (.string Zname) := bY.cell 6
        have e_kids : wc.cell? ⟨b1, 7, none⟩ = some (.slice kidsA kidsN kidsC) := bX.cell 7
        have e_Zkids : wc.cell? ⟨b2, 7, none⟩ = some (.slice ZkidsA ZkidsN ZkidsC) := bY.cell 7
        by_cases h_kind : kind = Zkind
        case neg =>
          have HQ : Hid (R = false) := by show _ = _; rw [HF.out]; exact same2_stop HX.out HY.out (by simp [mvEq, h_kind])
          have hs : (kind == Zkind) = false := by simpa using h_kind
          have hs2 : (kind != Zkind) = true := by simpa using h_kind
          clear e_at_ e_Zat_ e_size e_Zsize e_align e_Zalign e_typ e_Ztyp e_most e_Zmost e_name e_Zname e_kids e_Zkids
          have HBW := Lib.hid hBw
          clear hBw hBc hbr bX bY hX hY hb1 hb2 h_kind
          go_wp2_with fail
          go_ret
          exact ⟨ret_bool HQ.out.symm, HBW.out⟩
        subst h_kind
        by_cases h_at_ : at_ = Zat_
        case neg =>
          have HQ : Hid (R = false) := by show _ = _; rw [HF.out]; exact same2_stop HX.out HY.out (by simp [mvEq, h_at_])
          have hs : (at_ == Zat_) = false := by simpa using h_at_
          have hs2 : (at_ != Zat_) = true := by simpa using h_at_
          clear e_size e_Zsize e_align e_Zalign e_typ e_Ztyp e_most e_Zmost e_name e_Zname e_kids e_Zkids
          have HBW := Lib.hid hBw
          clear hBw hBc hbr bX bY hX hY hb1 hb2 h_at_
          go_wp2_with fail
          go_ret
          exact ⟨ret_bool HQ.out.symm, HBW.out⟩
        subst h_at_
        by_cases h_size : size = Zsize
        case neg =>
          have HQ : Hid (R = false) := by show _ = _; rw [HF.out]; exact same2_stop HX.out HY.out (by simp [mvEq, h_size])
          have hs : (size == Zsize) = false := by simpa using h_size
          have hs2 : (size != Zsize) = true := by simpa using h_size
          clear e_align e_Zalign e_typ e_Ztyp e_most e_Zmost e_name e_Zname e_kids e_Zkids
          have HBW := Lib.hid hBw
          clear hBw hBc hbr bX bY hX hY hb1 hb2 h_size
          go_wp2_with fail
          go_ret
          exact ⟨ret_bool HQ.out.symm, HBW.out⟩
        subst h_size
        by_cases h_align : align = Zalign
        case neg =>
          have HQ : Hid (R = false) := by show _ = _; rw [HF.out]; exact same2_stop HX.out HY.out (by simp [mvEq, h_align])
          have hs : (align == Zalign) = false := by simpa using h_align
          have hs2 : (align != Zalign) = true := by simpa using h_align
          clear e_typ e_Ztyp e_most e_Zmost e_name e_Zname e_kids e_Zkids
          have HBW := Lib.hid hBw
          clear hBw hBc hbr bX bY hX hY hb1 hb2 h_align
          go_wp2_with fail
          go_ret
          exact ⟨ret_bool HQ.out.symm, HBW.out⟩
        subst h_align
        by_cases h_typ : typ = Ztyp
        case neg =>
          have HQ : Hid (R = false) := by show _ = _; rw [HF.out]; exact same2_stop HX.out HY.out (by simp [mvEq, h_typ])
          have hs : (typ == Ztyp) = false := by simpa using h_typ
          have hs2 : (typ != Ztyp) = true := by simpa using h_typ
          clear e_most e_Zmost e_name e_Zname e_kids e_Zkids
          have HBW := Lib.hid hBw
          clear hBw hBc hbr bX bY hX hY hb1 hb2 h_typ
          go_wp2_with fail
          go_ret
          exact ⟨ret_bool HQ.out.symm, HBW.out⟩
        subst h_typ
        by_cases h_most : most = Zmost
        case neg =>
          have HQ : Hid (R = false) := by show _ = _; rw [HF.out]; exact same2_stop HX.out HY.out (by simp [mvEq, h_most])
          have hs : (most == Zmost) = false := by simpa using h_most
          have hs2 : (most != Zmost) = true := by simpa using h_most
          clear e_name e_Zname e_kids e_Zkids
          have HBW := Lib.hid hBw
          clear hBw hBc hbr bX bY hX hY hb1 hb2 h_most
          go_wp2_with fail
          go_ret
          exact ⟨ret_bool HQ.out.symm, HBW.out⟩
        subst h_most
        by_cases h_name : name = Zname
        case neg =>
          have HQ : Hid (R = false) := by show _ = _; rw [HF.out]; exact same2_stop HX.out HY.out (by simp [mvEq, h_name])
          have hs : (name.toList == Zname.toList) = false := str_ne2 h_name
          have hs2 : (name.toList != Zname.toList) = true := by simpa using hs
          clear e_kids e_Zkids
          have HBW := Lib.hid hBw
          clear hBw hBc hbr bX bY hX hY hb1 hb2 h_name
          go_wp2_with fail
          go_ret
          exact ⟨ret_bool HQ.out.symm, HBW.out⟩
        subst h_name
        obtain ⟨_, _, _, he, hn_kids, hm_kids, hat_kids⟩ := rep_row rowCMoveS_length (by decide) R_kids.out
        injection he with e1 e2 e3
        subst e1 e2 e3
        unfold maxLen at hm_kids
        have HN_kids := Lib.hid hn_kids
        clear hn_kids
        obtain ⟨_, _, _, he, hn_Zkids, hm_Zkids, hat_Zkids⟩ := rep_row rowCMoveS_length (by decide) R_Zkids.out
        injection he with e1 e2 e3
        subst e1 e2 e3
        unfold maxLen at hm_Zkids
        have HN_Zkids := Lib.hid hn_Zkids
        clear hn_Zkids
        by_cases hl : kidsN = ZkidsN
        case neg =>
          have hs : ((kidsN : Int) != (ZkidsN : Int)) = true := by simp; omega
          have HQ : Hid (R = false) := by show _ = _; rw [HF.out]; exact same2_stop HX.out HY.out (by rw [mvEq, same2_ne (p := movesEq n) (by have := HN_kids.out; have := HN_Zkids.out; omega), Bool.and_false])
          go_wp2_with fail
          go_ret
          exact ⟨ret_bool HQ.out.symm, hBw⟩
        subst hl
        have HE : Hid (mvEq (movesEq n) (⟨kind, at_, size, align, typ, most, name, kids⟩ : Move) (⟨kind, at_, size, align, typ, most, name, Zkids⟩ : Move) = same2 (movesEq n) kids Zkids) := by show _ = _; simp [mvEq]
        go_wp2_with fail
        clear e_kind e_Zkind e_at_ e_Zat_ e_size e_Zsize e_align e_Zalign e_typ e_Ztyp e_most e_Zmost e_name e_Zname e_kids e_Zkids
        go_loopw [10] (fun i ws => ∃ q : Nat, q ≤ kidsN ∧ i = .int .i64 q ∧ Hid (∀ (j : Nat) (a b : List Move), j < q → kids[j]? = some a → Zkids[j]? = some b → movesEq n a b = true) ∧ Below wc.heap.size wc ws) (fun i _ => kidsN - (intOf i).toNat)
        case atStart => exact ⟨0, Nat.zero_le _, rfl, Lib.hid fun j a b h => absurd h (by omega), Below.refl _ _⟩
        case round =>
          rename World => ws
          obtain ⟨q, hq, rfl, HP2, hbs⟩ := hrel
          have hBs := hBw.trans (hbs.mono hBw.size)
          have hss := hbs.size
          have a3 : ws.cell? ⟨b1, 7, none⟩ = some (.slice kidsA kidsN kidsC) := (bX.step hbs).cell 7
          have a4 : ws.cell? ⟨b2, 7, none⟩ = some (.slice ZkidsA kidsN ZkidsC) := (bY.step hbs).cell 7
          by_cases hlq : q < kidsN
          · obtain ⟨g1, off1, rfl, hg1, hcell1⟩ := hat_kids (by omega)
            obtain ⟨g2, off2, rfl, hg2, hcell2⟩ := hat_Zkids (by omega)
            obtain ⟨x1, hx1, _⟩ := at_lt HN_kids.out hlq
            obtain ⟨y1, hy1, _⟩ := at_lt HN_Zkids.out hlq
            have hlq' : (q : Int) < (kidsN : Int) := by omega
            have hws := hBc.trans (hbs.mono hBc.size)
            have hwB : B ≤ wr.heap.size := Nat.le_trans hB hsz
            obtain ⟨u1, d1, r1⟩ : ∃ u, ws.cell? ⟨g1, off1 + q, none⟩ = some u ∧ Rep ws B (.row 8 (x1.flatMap Move.pd)) u := cell_rep hws (by omega) hwB (by have := hcell1 q 0 _ _ hx1 rfl; simpa using this)
            obtain ⟨u2, d2, r2⟩ : ∃ u, ws.cell? ⟨g2, off2 + q, none⟩ = some u ∧ Rep ws B (.row 8 (y1.flatMap Move.pd)) u := cell_rep hws (by omega) hwB (by have := hcell2 q 0 _ _ hy1 rfl; simpa using this)
            have CC := Lib.hid (IH.out x1 y1 B u1 u2 ws.drew (Nat.le_trans hB hBs.size) (r1.below (Below.refl _ _).drew) (r2.below (Below.refl _ _).drew))
            have HX1 := Lib.hid hx1
            have HY1 := Lib.hid hy1
            clear hx1 hy1 hcell1 hcell2 hat_kids hat_Zkids r1 r2
            have hbz := hbr.size
            have hcz := hBc.size
            go_wp2_with fail
            go_region_held3 (fun w' => w'.cell? ⟨b1, 7, none⟩ = some (.slice (some ⟨g1, off1, none⟩) kidsN kidsC) ∧ w'.cell? ⟨b2, 7, none⟩ = some (.slice (some ⟨g2, off2, none⟩) kidsN ZkidsC) ∧ w'.cell? ⟨g1, off1 + q, none⟩ = some u1 ∧ w'.cell? ⟨g2, off2 + q, none⟩ = some u2)
              (first | go_keep | exact ⟨(hb9.cell (p := ⟨b1, 7, none⟩) (by show b1 < ws.heap.size; omega)).trans a3, (hb9.cell (p := ⟨b2, 7, none⟩) (by show b2 < ws.heap.size; omega)).trans a4, (hb9.cell (p := ⟨g1, off1 + q, none⟩) (by show g1 < ws.heap.size; omega)).trans d1, (hb9.cell (p := ⟨g2, off2 + q, none⟩) (by show g2 < ws.heap.size; omega)).trans d2⟩)
              (first | (go_at_call 38; refine CC.out.mono ?_; rintro e w9 ⟨rfl, hb9'⟩; have hb9 : Below ws.heap.size ws w9 := (Below.refl _ _).drew.trans hb9'))
            clear a3 a4 d1 d2
            have hB9 := hBs.trans (hb9.mono hBs.size)
            have hb9w := hbs.trans (hb9.mono hss)
            cases hbq : movesEq n x1 y1
            · have HQ : Hid (R = false) := by show _ = _; rw [HF.out]; exact same2_stop HX.out HY.out (by rw [HE.out]; exact same2_stop HX1.out HY1.out hbq)
              go_wp2_with fail
              go_ret
              exact ⟨ret_bool HQ.out.symm, hB9⟩
            · have HQ2 := Lib.hid (same2_next HP2.out HX1.out HY1.out hbq)
              go_wp2_with fail
              go_roundw
              case rel => exact ⟨q + 1, by omega, by go_num, HQ2, hb9w⟩
              case measure => simp [intOf]; omega
          · have HQ2 := Lib.hid (same2_next HP.out HX.out HY.out (by rw [HE.out]; exact same2_end hlq HN_kids.out HN_Zkids.out HP2.out))
            clear hat_kids hat_Zkids
            go_wp2_with fail
            go_roundw
            case rel => exact ⟨k + 1, by omega, by go_num, HQ2, hBs⟩
            case measure => simp [intOf]; omega
end Go.Proofs.Ytnedcpoengcbaaa
