/-
  slices.Equal and slices.EqualFunc at the program's types; '!=' of structs (by program: gen_cmp.py).
-/
import Derived.Test.YtbafphecjijdmaaGreatDoorFam
import Derived.Test.YtbafphecjijdmaaGreatDoorTy
import Derived.Test.YtbafphecjijdmaaGreatDoorIdx
import Derived.Laws.StructEq
namespace Go.Proofs.YtbafphecjijdmaaGreatDoor
open Go.RowKit
set_option linter.unusedVariables false
set_option linter.unusedSimpArgs false
set_option linter.unnecessarySimpa false
set_option maxRecDepth 100000

section
variable {α β : Type}
def same2 (p : α → β → Bool) : List α → List β → Bool
  | [], [] => true
  | x :: xs, y :: ys => p x y && same2 p xs ys
  | _, _ => false
theorem same2_len {p : α → β → Bool} : ∀ {xs : List α} {ys : List β}, same2 p xs ys = true → xs.length = ys.length
  | [], [], _ => rfl
  | x :: xs, y :: ys, h => by rw [same2, Bool.and_eq_true] at h; simp [same2_len h.2]
  | [], y :: ys, h => by simp [same2] at h
  | x :: xs, [], h => by simp [same2] at h
theorem same2_ne {p : α → β → Bool} {xs : List α} {ys : List β} (h : xs.length ≠ ys.length) : same2 p xs ys = false := Bool.eq_false_iff.2 fun e => h (same2_len e)
theorem same2_at {p : α → β → Bool} : ∀ {xs : List α} {ys : List β} {k : Nat} {x : α} {y : β}, xs[k]? = some x → ys[k]? = some y → same2 p xs ys = true → p x y = true
  | x :: xs, y :: ys, 0, _, _, hx, hy, h => by simp at hx hy; subst hx hy; rw [same2, Bool.and_eq_true] at h; exact h.1
  | x :: xs, y :: ys, k + 1, _, _, hx, hy, h => by rw [same2, Bool.and_eq_true] at h; exact same2_at (k := k) (by simpa using hx) (by simpa using hy) h.2
  | [], _, _, _, _, hx, _, _ => by simp at hx
  | x :: xs, [], _, _, _, _, hy, _ => by simp at hy
theorem same2_stop {p : α → β → Bool} {xs : List α} {ys : List β} {k : Nat} {x : α} {y : β} (hx : xs[k]? = some x) (hy : ys[k]? = some y) (h : p x y = false) : same2 p xs ys = false :=
  Bool.eq_false_iff.2 fun e => by have := same2_at hx hy e; rw [h] at this; cases this
theorem same2_all {p : α → β → Bool} : ∀ {xs : List α} {ys : List β}, xs.length = ys.length → (∀ (j : Nat) (x : α) (y : β), xs[j]? = some x → ys[j]? = some y → p x y = true) → same2 p xs ys = true
  | [], [], _, _ => rfl
  | x :: xs, y :: ys, hl, h => by
    rw [same2, h 0 x y (by simp) (by simp), same2_all (by simpa using hl) fun j a b ha hb => h (j + 1) a b (by simpa using ha) (by simpa using hb)]
    rfl
  | [], y :: ys, hl, _ => by simp at hl
  | x :: xs, [], hl, _ => by simp at hl
theorem same2_next {p : α → β → Bool} {xs : List α} {ys : List β} {k : Nat} {x : α} {y : β} (hp : ∀ (j : Nat) (a : α) (b : β), j < k → xs[j]? = some a → ys[j]? = some b → p a b = true) (hx : xs[k]? = some x) (hy : ys[k]? = some y) (h : p x y = true) :
    ∀ (j : Nat) (a : α) (b : β), j < k + 1 → xs[j]? = some a → ys[j]? = some b → p a b = true := by
  intro j a b hj ha hb
  by_cases e : j = k
  · subst e
    rw [hx] at ha
    rw [hy] at hb
    injection ha with ha
    injection hb with hb
    rw [← ha, ← hb]; exact h
  · exact hp j a b (by omega) ha hb
theorem same2_end {p : α → β → Bool} {xs : List α} {ys : List β} {k n : Nat} (hk : ¬ k < n) (h1 : n = xs.length) (h2 : n = ys.length) (hp : ∀ (j : Nat) (a : α) (b : β), j < k → xs[j]? = some a → ys[j]? = some b → p a b = true) : same2 p xs ys = true :=
  same2_all (by omega) fun j a b ha hb => hp j a b (by have := (List.getElem?_eq_some_iff.1 ha).1; omega) ha hb
end
def intEq (x y : Int) : Bool := decide (x = y)
def strEq (x y : ByteArray) : Bool := decide (x = y)

set_option maxHeartbeats 1600000 in
theorem equalStringS_any {B : Nat} {v u : Value} {xs ys : List ByteArray} {w : World} (h : Rep w B (.row 1 (xs.flatMap strC)) v) (k : Rep w B (.row 1 (ys.flatMap strC)) u) :
    Calls Tryz.prog 161 #[v, u] w fun e w' => e = .returned (.bool (same2 strEq xs ys)) ∧ Below w.heap.size w w' := by
  obtain ⟨A, n, c, rfl, hnl, hm, hat⟩ := rep_row strC_length (by decide) h
  obtain ⟨A', n', c', rfl, hnl', hm', hat'⟩ := rep_row strC_length (by decide) k
  unfold maxLen at hm hm'
  have HN := Lib.hid hnl
  have HM := Lib.hid hnl'
  clear h k hnl hnl'
  by_cases hnm : n = n'
  · subst hnm
    go_enter Tryz.func161, Tryz.ntmps161
    go_wp2_with fail
    go_loopw [13] (fun i wr => ∃ k : Nat, k ≤ n ∧ i = .int .i64 k ∧ Hid (∀ (j : Nat) (a b : ByteArray), j < k → xs[j]? = some a → ys[j]? = some b → strEq a b = true) ∧ ∃ q, wr = w.drewN q) (fun i _ => n - (intOf i).toNat)
    case atStart => exact ⟨0, Nat.zero_le _, rfl, Lib.hid fun j a b h => absurd h (by omega), 0, rfl⟩
    case round =>
      obtain ⟨k, hk, rfl, HP, q, rfl⟩ := hrel
      by_cases hlt : k < n
      · obtain ⟨g, off, rfl, hg, hcell⟩ := hat (by omega)
        obtain ⟨g', off', rfl, hg', hcell'⟩ := hat' (by omega)
        obtain ⟨x, hx, _⟩ := at_lt HN.out hlt
        obtain ⟨y, hy, _⟩ := at_lt HM.out hlt
        have hlt' : (k : Int) < (n : Int) := by omega
        have c_x : w.cell? ⟨g, off + k, none⟩ = some (.string x) := by
          obtain ⟨u, hu, hr⟩ := hcell k 0 _ _ hx rfl
          rw [hr.of_lit] at hu
          simpa using hu
        have c_y : w.cell? ⟨g', off' + k, none⟩ = some (.string y) := by
          obtain ⟨u, hu, hr⟩ := hcell' k 0 _ _ hy rfl
          rw [hr.of_lit] at hu
          simpa using hu
        have HX := Lib.hid hx
        have HY := Lib.hid hy
        clear hx hy hcell hcell' hat hat'
        by_cases hb : x = y
        · have HQ := Lib.hid (same2_next (p := strEq) HP.out HX.out HY.out (by simp [strEq, hb]))
          subst hb
          go_wp2_with fail
          go_quiet (fail)
          go_wp2_with fail
          go_roundw
          case rel => exact ⟨k + 1, by omega, by go_num, HQ, _, rfl⟩
          case measure => simp [intOf]; omega
        · have HF : Hid (same2 strEq xs ys = false) := same2_stop HX.out HY.out (by simp [strEq, hb])
          have hs : (x.toList == y.toList) = false := str_ne2 hb
          clear hb
          go_wp2_with fail
          go_quiet (fail)
          go_wp2_with fail
          go_ret
          exact ⟨ret_bool HF.out.symm, by rw [World.drewN_drewN]; exact below_drewN (Below.refl _ _) _⟩
      · have HF : Hid (same2 strEq xs ys = true) := same2_end hlt HN.out HM.out HP.out
        have hkn : k = n := by omega
        subst hkn
        go_wp2_with fail
        go_ret
        exact ⟨ret_bool HF.out.symm, below_drewN (Below.refl _ _) _⟩
  · have HF : Hid (same2 strEq xs ys = false) := same2_ne (by have := HN.out; have := HM.out; omega)
    have hb : ((n : Int) != (n' : Int)) = true := by simp; omega
    clear hat hat'
    go_enter Tryz.func161, Tryz.ntmps161
    go_wp2_with fail
    go_ret
    exact ⟨ret_bool HF.out.symm, Below.refl _ _⟩
set_option maxHeartbeats 1600000 in
theorem eqfTypeS_any (fid : Nat) (caps : Array Value) (p : Ty → Ty → Bool) {B : Nat} {v u : Value} {xs ys : List Ty} {w : World} (hB : B ≤ w.heap.size) (h : Rep w B (.row 4 (xs.flatMap Ty.pd)) v) (k : Rep w B (.row 4 (ys.flatMap Ty.pd)) u)
    (hcf : ∀ a W, Sem.run Tryz.prog (callFunc fid a) W = .ok (.enter fid a) W)
    (hp : ∀ x ∈ xs, ∀ y ∈ ys, ∀ (cs ds : List Value) (W : World), Below w.heap.size w W → RepC W B (Ty.pd x) cs → RepC W B (Ty.pd y) ds → Calls Tryz.prog fid (#[.agg cs.toArray, .agg ds.toArray] ++ caps) W fun e w' => e = .returned (.bool (p x y)) ∧ Below W.heap.size W w') :
    Calls Tryz.prog 162 #[v, u, .func (.func fid) #[] caps] w fun e w' => e = .returned (.bool (same2 p xs ys)) ∧ Below w.heap.size w w' := by
  obtain ⟨A, n, c, rfl, hnl, hm, hat⟩ := rep_row Ty.pd_length (by decide) h
  obtain ⟨A', n', c', rfl, hnl', hm', hat'⟩ := rep_row Ty.pd_length (by decide) k
  unfold maxLen at hm hm'
  have HN := Lib.hid hnl
  have HM := Lib.hid hnl'
  have HC := Lib.hid hp
  clear h k hnl hnl' hp
  by_cases hnm : n = n'
  · subst hnm
    go_enter Tryz.func162, Tryz.ntmps162
    go_wp2_with fail
    go_loopw [17] (fun i wr => ∃ k : Nat, k ≤ n ∧ i = .int .i64 k ∧ Hid (∀ (j : Nat) (a b : Ty), j < k → xs[j]? = some a → ys[j]? = some b → p a b = true) ∧ Below w.heap.size w wr) (fun i _ => n - (intOf i).toNat)
    case atStart => exact ⟨0, Nat.zero_le _, rfl, Lib.hid fun j a b h => absurd h (by omega), Below.refl _ _⟩
    case round =>
      obtain ⟨k, hk, rfl, HP, hbr⟩ := hrel
      have hsz := hbr.size
      by_cases hlt : k < n
      · obtain ⟨g, off, rfl, hg, hcell⟩ := hat (by omega)
        obtain ⟨g', off', rfl, hg', hcell'⟩ := hat' (by omega)
        obtain ⟨x, hx, hmx⟩ := at_lt HN.out hlt
        obtain ⟨y, hy, hmy⟩ := at_lt HM.out hlt
        have hlt' : (k : Int) < (n : Int) := by omega
        obtain ⟨kind, name, labels, kids⟩ := x
        obtain ⟨Zkind, Zname, Zlabels, Zkids⟩ := y
        have c0 : wr.cell? ⟨g, off + k * 4, none⟩ = some (.int .i64 kind) := cell_lit hbr (by omega) (hcell k 0 _ _ hx (by rw [Ty.pd_mk]; rfl))
        have c1 : wr.cell? ⟨g, off + k * 4 + 1, none⟩ = some (.string name) := cell_lit hbr (by omega) (hcell k 1 _ _ hx (by rw [Ty.pd_mk]; rfl))
        obtain ⟨labelsV, c2, rc2⟩ : ∃ u, wr.cell? ⟨g, off + k * 4 + 2, none⟩ = some u ∧ Rep wr B (.row 1 (labels.flatMap strC)) u := cell_rep hbr (by omega) hB (hcell k 2 _ _ hx (by rw [Ty.pd_mk]; rfl))
        have Rc2 := Lib.hid rc2
        clear rc2
        obtain ⟨labelsA, labelsN, labelsC, rfl⟩ := Rc2.out.form
        obtain ⟨kidsV, c3, rc3⟩ : ∃ u, wr.cell? ⟨g, off + k * 4 + 3, none⟩ = some u ∧ Rep wr B (.row 4 (kids.flatMap Ty.pd)) u := cell_rep hbr (by omega) hB (hcell k 3 _ _ hx (by rw [Ty.pd_mk]; rfl))
        have Rc3 := Lib.hid rc3
        clear rc3
        obtain ⟨kidsA, kidsN, kidsC, rfl⟩ := Rc3.out.form
        have d0 : wr.cell? ⟨g', off' + k * 4, none⟩ = some (.int .i64 Zkind) := cell_lit hbr (by omega) (hcell' k 0 _ _ hy (by rw [Ty.pd_mk]; rfl))
        have d1 : wr.cell? ⟨g', off' + k * 4 + 1, none⟩ = some (.string Zname) := cell_lit hbr (by omega) (hcell' k 1 _ _ hy (by rw [Ty.pd_mk]; rfl))
        obtain ⟨ZlabelsV, d2, rd2⟩ : ∃ u, wr.cell? ⟨g', off' + k * 4 + 2, none⟩ = some u ∧ Rep wr B (.row 1 (Zlabels.flatMap strC)) u := cell_rep hbr (by omega) hB (hcell' k 2 _ _ hy (by rw [Ty.pd_mk]; rfl))
        have Rd2 := Lib.hid rd2
        clear rd2
        obtain ⟨ZlabelsA, ZlabelsN, ZlabelsC, rfl⟩ := Rd2.out.form
        obtain ⟨ZkidsV, d3, rd3⟩ : ∃ u, wr.cell? ⟨g', off' + k * 4 + 3, none⟩ = some u ∧ Rep wr B (.row 4 (Zkids.flatMap Ty.pd)) u := cell_rep hbr (by omega) hB (hcell' k 3 _ _ hy (by rw [Ty.pd_mk]; rfl))
        have Rd3 := Lib.hid rd3
        clear rd3
        obtain ⟨ZkidsA, ZkidsN, ZkidsC, rfl⟩ := Rd3.out.form
        have e0 : (wr.alloc (.cells #[.int .i64 kind, .string name, .slice labelsA labelsN labelsC, .slice kidsA kidsN kidsC] 60)).cell? ⟨g', off' + k * 4, none⟩ = some (.int .i64 Zkind) := (World.cell?_alloc_lt wr _ ⟨g', off' + k * 4, none⟩ (by show g' < _; omega)).trans d0
        have e1 : (wr.alloc (.cells #[.int .i64 kind, .string name, .slice labelsA labelsN labelsC, .slice kidsA kidsN kidsC] 60)).cell? ⟨g', off' + k * 4 + 1, none⟩ = some (.string Zname) := (World.cell?_alloc_lt wr _ ⟨g', off' + k * 4 + 1, none⟩ (by show g' < _; omega)).trans d1
        have e2 : (wr.alloc (.cells #[.int .i64 kind, .string name, .slice labelsA labelsN labelsC, .slice kidsA kidsN kidsC] 60)).cell? ⟨g', off' + k * 4 + 2, none⟩ = some (.slice ZlabelsA ZlabelsN ZlabelsC) := (World.cell?_alloc_lt wr _ ⟨g', off' + k * 4 + 2, none⟩ (by show g' < _; omega)).trans d2
        have e3 : (wr.alloc (.cells #[.int .i64 kind, .string name, .slice labelsA labelsN labelsC, .slice kidsA kidsN kidsC] 60)).cell? ⟨g', off' + k * 4 + 3, none⟩ = some (.slice ZkidsA ZkidsN ZkidsC) := (World.cell?_alloc_lt wr _ ⟨g', off' + k * 4 + 3, none⟩ (by show g' < _; omega)).trans d3
        have hb1 : Below wr.heap.size wr ((wr.alloc (.cells #[.int .i64 kind, .string name, .slice labelsA labelsN labelsC, .slice kidsA kidsN kidsC] 60)).alloc (.cells #[.int .i64 Zkind, .string Zname, .slice ZlabelsA ZlabelsN ZlabelsC, .slice ZkidsA ZkidsN ZkidsC] 60)) := ((Below.refl _ _).alloc (Nat.le_refl _) _).alloc (by simp) _
        obtain ⟨w2, hw2⟩ : ∃ W, W = (wr.alloc (.cells #[.int .i64 kind, .string name, .slice labelsA labelsN labelsC, .slice kidsA kidsN kidsC] 60)).alloc (.cells #[.int .i64 Zkind, .string Zname, .slice ZlabelsA ZlabelsN ZlabelsC, .slice ZkidsA ZkidsN ZkidsC] 60) := ⟨_, rfl⟩
        rw [← hw2] at hb1
        have HW := Lib.hid hw2
        clear hw2
        have hB2 := hbr.trans (hb1.mono hbr.size)
        have hc := HC.out _ hmx _ hmy [.int .i64 kind, .string name, .slice labelsA labelsN labelsC, .slice kidsA kidsN kidsC] [.int .i64 Zkind, .string Zname, .slice ZlabelsA ZlabelsN ZlabelsC, .slice ZkidsA ZkidsN ZkidsC] w2 hB2 (Ty.close_ (Rc2.out.below (hb1.mono (Nat.le_trans hB hbr.size))) (Rc3.out.below (hb1.mono (Nat.le_trans hB hbr.size)))) (Ty.close_ (Rd2.out.below (hb1.mono (Nat.le_trans hB hbr.size))) (Rd3.out.below (hb1.mono (Nat.le_trans hB hbr.size))))
        obtain ⟨x, hxx⟩ : ∃ x : Ty, x = ⟨kind, name, labels, kids⟩ := ⟨_, rfl⟩
        obtain ⟨y, hyy⟩ : ∃ y : Ty, y = ⟨Zkind, Zname, Zlabels, Zkids⟩ := ⟨_, rfl⟩
        rw [← hxx] at hc hx
        rw [← hyy] at hc hy
        clear hxx hyy
        have HK := Lib.hid hc
        have HX := Lib.hid hx
        have HY := Lib.hid hy
        clear hc hx hy hmx hmy hcell hcell' hat hat'
        go_wp2_with fail
        rw [← HW.out]
        refine HK.out.mono ?_
        rintro e w3 ⟨rfl, hb3⟩
        have hB3 := hB2.trans (hb3.mono hB2.size)
        cases hb : p x y
        · have HF : Hid (same2 p xs ys = false) := same2_stop HX.out HY.out hb
          go_wp2_with fail
          go_ret
          exact ⟨ret_bool HF.out.symm, hB3⟩
        · have HQ := Lib.hid (same2_next HP.out HX.out HY.out hb)
          go_wp2_with fail
          go_roundw
          case rel => exact ⟨k + 1, by omega, by go_num, HQ, hB3⟩
          case measure => simp [intOf]; omega
      · have HF : Hid (same2 p xs ys = true) := same2_end hlt HN.out HM.out HP.out
        have hkn : k = n := by omega
        subst hkn
        go_wp2_with fail
        go_ret
        exact ⟨ret_bool HF.out.symm, hbr⟩
  · have HF : Hid (same2 p xs ys = false) := same2_ne (by have := HN.out; have := HM.out; omega)
    have hb : ((n : Int) != (n' : Int)) = true := by simp; omega
    clear hat hat'
    go_enter Tryz.func162, Tryz.ntmps162
    go_wp2_with fail
    go_ret
    exact ⟨ret_bool HF.out.symm, Below.refl _ _⟩
end Go.Proofs.YtbafphecjijdmaaGreatDoor
