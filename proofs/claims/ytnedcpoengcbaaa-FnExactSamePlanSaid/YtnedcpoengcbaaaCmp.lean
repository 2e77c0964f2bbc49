/-
  slices.Equal and slices.EqualFunc at the program's types; '!=' of structs (by program: gen_cmp.py).
-/
import Derived.Test.YtnedcpoengcbaaaFam
import Derived.Test.YtnedcpoengcbaaaTy
import Derived.Test.YtnedcpoengcbaaaIdx
import Derived.Laws.StructEq
namespace Go.Proofs.Ytnedcpoengcbaaa
open Go.RowKit
set_option linter.unusedVariables false
set_option linter.unusedSimpArgs false
set_option linter.unnecessarySimpa false
set_option maxRecDepth 100000

section
variable {α β : Type}
def same2 (p : α → β → Bool) : List α → List β → Bool
  | [], [] => true
  | x :: xs, y :: ys => p x y && same2 p xs ys
  | _, _ => false
theorem same2_len {p : α → β → Bool} : ∀ {xs : List α} {ys : List β}, same2 p xs ys = true → xs.length = ys.length
  | [], [], _ => rfl
  | x :: xs, y :: ys, h => by rw [same2, Bool.and_eq_true] at h; simp [same2_len h.2]
  | [], y :: ys, h => by simp [same2] at h
  | x :: xs, [], h => by simp [same2] at h
theorem same2_ne {p : α → β → Bool} {xs : List α} {ys : List β} (h : xs.length ≠ ys.length) : same2 p xs ys = false := Bool.eq_false_iff.2 fun e => h (same2_len e)
theorem same2_at {p : α → β → Bool} : ∀ {xs : List α} {ys : List β} {k : Nat} {x : α} {y : β}, xs[k]? = some x → ys[k]? = some y → same2 p xs ys = true → p x y = true
  | x :: xs, y :: ys, 0, _, _, hx, hy, h => by simp at hx hy; subst hx hy; rw [same2, Bool.and_eq_true] at h; exact h.1
  | x :: xs, y :: ys, k + 1, _, _, hx, hy, h => by rw [same2, Bool.and_eq_true] at h; exact same2_at (k := k) (by simpa using hx) (by simpa using hy) h.2
  | [], _, _, _, _, hx, _, _ => by simp at hx
  | x :: xs, [], _, _, _, _, hy, _ => by simp at hy
theorem same2_stop {p : α → β → Bool} {xs : List α} {ys : List β} {k : Nat} {x : α} {y : β} (hx : xs[k]? = some x) (hy : ys[k]? = some y) (h : p x y = false) : same2 p xs ys = false :=
  Bool.eq_false_iff.2 fun e => by have := same2_at hx hy e; rw [h] at this; cases this
theorem same2_all {p : α → β → Bool} : ∀ {xs : List α} {ys : List β}, xs.length = ys.length → (∀ (j : Nat) (x : α) (y : β), xs[j]? = some x → ys[j]? = some y → p x y = true) → same2 p xs ys = true
  | [], [], _, _ => rfl
  | x :: xs, y :: ys, hl, h => by
    rw [same2, h 0 x y (by simp) (by simp), same2_all (by simpa using hl) fun j a b ha hb => h (j + 1) a b (by simpa using ha) (by simpa using hb)]
    rfl
  | [], y :: ys, hl, _ => by simp at hl
  | x :: xs, [], hl, _ => by simp at hl
theorem same2_next {p : α → β → Bool} {xs : List α} {ys : List β} {k : Nat} {x : α} {y : β} (hp : ∀ (j : Nat) (a : α) (b : β), j < k → xs[j]? = some a → ys[j]? = some b → p a b = true) (hx : xs[k]? = some x) (hy : ys[k]? = some y) (h : p x y = true) :
    ∀ (j : Nat) (a : α) (b : β), j < k + 1 → xs[j]? = some a → ys[j]? = some b → p a b = true := by
  intro j a b hj ha hb
  by_cases e : j = k
  · subst e
    rw [hx] at ha
    rw [hy] at hb
    injection ha with ha
    injection hb with hb
    rw [← ha, ← hb]; exact h
  · exact hp j a b (by omega) ha hb
theorem same2_end {p : α → β → Bool} {xs : List α} {ys : List β} {k n : Nat} (hk : ¬ k < n) (h1 : n = xs.length) (h2 : n = ys.length) (hp : ∀ (j : Nat) (a : α) (b : β), j < k → xs[j]? = some a → ys[j]? = some b → p a b = true) : same2 p xs ys = true :=
  same2_all (by omega) fun j a b ha hb => hp j a b (by have := (List.getElem?_eq_some_iff.1 ha).1; omega) ha hb
end
def intEq (x y : Int) : Bool := decide (x = y)
def strEq (x y : ByteArray) : Bool := decide (x = y)

def Ins.eqb : Ins → Ins → Bool | ⟨op, a⟩, ⟨op2, a2⟩ => decide (op = op2) && decide (a = a2)
theorem Ins_S1 : Try.prog.underlying 95 = some (.struct (Try.prog.fieldsOf 95)) := by kernel_rfl
theorem Ins_S2 : Try.prog.stoodInHeld 95 = false := by kernel_rfl
theorem Ins_S3 : Try.prog.eqGuardType Try.prog.depth 95 = false := by kernel_rfl
theorem neqIns (op op2 : Int) (a a2 : Int) (W : World) : (binOp .neq 95 (.agg #[.int .i64 op, .int .i64 a]) (.agg #[.int .i64 op2, .int .i64 a2])).run Try.prog W = .ok (.bool (!(Ins.eqb ⟨op, a⟩ ⟨op2, a2⟩))) W := by
  rw [run_neq_struct, run_equalIn_struct _ _ _ _ _ Ins_S1 Ins_S2]
  have hs : ∀ s t : ByteArray, ¬ s = t → ¬ s.toList = t.toList := fun s t h => by simpa using str_ne2 h
  by_cases h0 : op = op2
  all_goals by_cases h1 : a = a2
  all_goals simp [go_sem, Try.underlying2, Op.eqFields, Ins.eqb, *]
theorem eqGuardIns (x y : Operand) (xs ys : Array Value) (W : World) : (eqGuard .neq 95 x y (.agg xs) (.agg ys)).run Try.prog W = .ok () W := run_eqGuard_agg W _ _ _ _ _ _ Ins_S3
def Imp.eqb : Imp → Imp → Bool | ⟨name, params, result⟩, ⟨name2, params2, result2⟩ => decide (name = name2) && decide (params = params2) && decide (result = result2)
theorem Import_S1 : Try.prog.underlying 65 = some (.struct (Try.prog.fieldsOf 65)) := by kernel_rfl
theorem Import_S2 : Try.prog.stoodInHeld 65 = false := by kernel_rfl
theorem Import_S3 : Try.prog.eqGuardType Try.prog.depth 65 = false := by kernel_rfl
theorem neqImport (name name2 : ByteArray) (params params2 : Int) (result result2 : Bool) (W : World) : (binOp .neq 65 (.agg #[.string name, .int .i64 params, .bool result]) (.agg #[.string name2, .int .i64 params2, .bool result2])).run Try.prog W = .ok (.bool (!(Imp.eqb ⟨name, params, result⟩ ⟨name2, params2, result2⟩))) W := by
  rw [run_neq_struct, run_equalIn_struct _ _ _ _ _ Import_S1 Import_S2]
  have hs : ∀ s t : ByteArray, ¬ s = t → ¬ s.toList = t.toList := fun s t h => by simpa using str_ne2 h
  by_cases h0 : name = name2
  all_goals by_cases h1 : params = params2
  all_goals by_cases h2 : result = result2
  all_goals simp [go_sem, Try.underlying4, Try.underlying2, Try.underlying9, Op.eqFields, Imp.eqb, *]
theorem eqGuardImport (x y : Operand) (xs ys : Array Value) (W : World) : (eqGuard .neq 65 x y (.agg xs) (.agg ys)).run Try.prog W = .ok () W := run_eqGuard_agg W _ _ _ _ _ _ Import_S3
set_option maxHeartbeats 1600000 in
theorem equalInsS_any {B : Nat} {v u : Value} {xs ys : List Ins} {w : World} (h : Rep w B (.row 2 (xs.flatMap Ins.pd)) v) (k : Rep w B (.row 2 (ys.flatMap Ins.pd)) u) :
    Calls Try.prog 58 #[v, u] w fun e w' => e = .returned (.bool (same2 Ins.eqb xs ys)) ∧ Below w.heap.size w w' := by
  obtain ⟨A, n, c, rfl, hnl, hm, hat⟩ := rep_row Ins.pd_length (by decide) h
  obtain ⟨A', n', c', rfl, hnl', hm', hat'⟩ := rep_row Ins.pd_length (by decide) k
  unfold maxLen at hm hm'
  have HN := Lib.hid hnl
  have HM := Lib.hid hnl'
  clear h k hnl hnl'
  by_cases hnm : n = n'
  · subst hnm
    go_enter Try.func58, Try.ntmps58
    go_wp2_with fail
    go_loopw [13] (fun i wr => ∃ k : Nat, k ≤ n ∧ i = .int .i64 k ∧ Hid (∀ (j : Nat) (a b : Ins), j < k → xs[j]? = some a → ys[j]? = some b → Ins.eqb a b = true) ∧ ∃ q, wr = w.drewN q) (fun i _ => n - (intOf i).toNat)
    case atStart => exact ⟨0, Nat.zero_le _, rfl, Lib.hid fun j a b h => absurd h (by omega), 0, rfl⟩
    case round =>
      obtain ⟨k, hk, rfl, HP, q, rfl⟩ := hrel
      by_cases hlt : k < n
      · obtain ⟨g, off, rfl, hg, hcell⟩ := hat (by omega)
        obtain ⟨g', off', rfl, hg', hcell'⟩ := hat' (by omega)
        obtain ⟨x, hx, _⟩ := at_lt HN.out hlt
        obtain ⟨y, hy, _⟩ := at_lt HM.out hlt
        have hlt' : (k : Int) < (n : Int) := by omega
        obtain ⟨op, a⟩ := x
        obtain ⟨op2, a2⟩ := y
        have c_op : w.cell? ⟨g, off + k * 2, none⟩ = some (.int .i64 op) := by
          obtain ⟨u, hu, hr⟩ := hcell k 0 _ _ hx (by rw [Ins.pd_mk]; rfl)
          rwa [hr.of_lit] at hu
        have c_op2 : w.cell? ⟨g', off' + k * 2, none⟩ = some (.int .i64 op2) := by
          obtain ⟨u, hu, hr⟩ := hcell' k 0 _ _ hy (by rw [Ins.pd_mk]; rfl)
          rwa [hr.of_lit] at hu
        have c_a : w.cell? ⟨g, off + k * 2 + 1, none⟩ = some (.int .i64 a) := by
          obtain ⟨u, hu, hr⟩ := hcell k 1 _ _ hx (by rw [Ins.pd_mk]; rfl)
          rwa [hr.of_lit] at hu
        have c_a2 : w.cell? ⟨g', off' + k * 2 + 1, none⟩ = some (.int .i64 a2) := by
          obtain ⟨u, hu, hr⟩ := hcell' k 1 _ _ hy (by rw [Ins.pd_mk]; rfl)
          rwa [hr.of_lit] at hu
        have q1 := eqGuardIns
        have q2 := fun W => neqIns op op2 a a2 W
        obtain ⟨b, hb⟩ : ∃ b, b = Ins.eqb ⟨op, a⟩ ⟨op2, a2⟩ := ⟨_, rfl⟩
        rw [← hb] at q2
        have HB := Lib.hid hb
        have HX := Lib.hid hx
        have HY := Lib.hid hy
        clear hx hy hcell hcell' hat hat' hb
        cases b
        · have HF : Hid (same2 Ins.eqb xs ys = false) := same2_stop HX.out HY.out HB.out.symm
          go_wp2_with fail
          go_quiet (fail)
          go_wp2_with fail
          go_ret
          exact ⟨ret_bool HF.out.symm, by rw [World.drewN_drewN]; exact below_drewN (Below.refl _ _) _⟩
        · have HQ := Lib.hid (same2_next HP.out HX.out HY.out HB.out.symm)
          go_wp2_with fail
          go_quiet (fail)
          go_wp2_with fail
          go_roundw
          case rel => exact ⟨k + 1, by omega, by go_num, HQ, _, rfl⟩
          case measure => simp [intOf]; omega
      · have HF : Hid (same2 Ins.eqb xs ys = true) := same2_end hlt HN.out HM.out HP.out
        have hkn : k = n := by omega
        subst hkn
        go_wp2_with fail
        go_ret
        exact ⟨ret_bool HF.out.symm, below_drewN (Below.refl _ _) _⟩
  · have HF : Hid (same2 Ins.eqb xs ys = false) := same2_ne (by have := HN.out; have := HM.out; omega)
    have hb : ((n : Int) != (n' : Int)) = true := by simp; omega
    clear hat hat'
    go_enter Try.func58, Try.ntmps58
    go_wp2_with fail
    go_ret
    exact ⟨ret_bool HF.out.symm, Below.refl _ _⟩
set_option maxHeartbeats 1600000 in
theorem equalImportS_any {B : Nat} {v u : Value} {xs ys : List Imp} {w : World} (h : Rep w B (.row 3 (xs.flatMap Imp.pd)) v) (k : Rep w B (.row 3 (ys.flatMap Imp.pd)) u) :
    Calls Try.prog 30 #[v, u] w fun e w' => e = .returned (.bool (same2 Imp.eqb xs ys)) ∧ Below w.heap.size w w' := by
  obtain ⟨A, n, c, rfl, hnl, hm, hat⟩ := rep_row Imp.pd_length (by decide) h
  obtain ⟨A', n', c', rfl, hnl', hm', hat'⟩ := rep_row Imp.pd_length (by decide) k
  unfold maxLen at hm hm'
  have HN := Lib.hid hnl
  have HM := Lib.hid hnl'
  clear h k hnl hnl'
  by_cases hnm : n = n'
  · subst hnm
    go_enter Try.func30, Try.ntmps30
    go_wp2_with fail
    go_loopw [13] (fun i wr => ∃ k : Nat, k ≤ n ∧ i = .int .i64 k ∧ Hid (∀ (j : Nat) (a b : Imp), j < k → xs[j]? = some a → ys[j]? = some b → Imp.eqb a b = true) ∧ ∃ q, wr = w.drewN q) (fun i _ => n - (intOf i).toNat)
    case atStart => exact ⟨0, Nat.zero_le _, rfl, Lib.hid fun j a b h => absurd h (by omega), 0, rfl⟩
    case round =>
      obtain ⟨k, hk, rfl, HP, q, rfl⟩ := hrel
      by_cases hlt : k < n
      · obtain ⟨g, off, rfl, hg, hcell⟩ := hat (by omega)
        obtain ⟨g', off', rfl, hg', hcell'⟩ := hat' (by omega)
        obtain ⟨x, hx, _⟩ := at_lt HN.out hlt
        obtain ⟨y, hy, _⟩ := at_lt HM.out hlt
        have hlt' : (k : Int) < (n : Int) := by omega
        obtain ⟨name, params, result⟩ := x
        obtain ⟨name2, params2, result2⟩ := y
        have c_name : w.cell? ⟨g, off + k * 3, none⟩ = some (.string name) := by
          obtain ⟨u, hu, hr⟩ := hcell k 0 _ _ hx (by rw [Imp.pd_mk]; rfl)
          rwa [hr.of_lit] at hu
        have c_name2 : w.cell? ⟨g', off' + k * 3, none⟩ = some (.string name2) := by
          obtain ⟨u, hu, hr⟩ := hcell' k 0 _ _ hy (by rw [Imp.pd_mk]; rfl)
          rwa [hr.of_lit] at hu
        have c_params : w.cell? ⟨g, off + k * 3 + 1, none⟩ = some (.int .i64 params) := by
          obtain ⟨u, hu, hr⟩ := hcell k 1 _ _ hx (by rw [Imp.pd_mk]; rfl)
          rwa [hr.of_lit] at hu
        have c_params2 : w.cell? ⟨g', off' + k * 3 + 1, none⟩ = some (.int .i64 params2) := by
          obtain ⟨u, hu, hr⟩ := hcell' k 1 _ _ hy (by rw [Imp.pd_mk]; rfl)
          rwa [hr.of_lit] at hu
        have c_result : w.cell? ⟨g, off + k * 3 + 2, none⟩ = some (.bool result) := by
          obtain ⟨u, hu, hr⟩ := hcell k 2 _ _ hx (by rw [Imp.pd_mk]; rfl)
          rwa [hr.of_lit] at hu
        have c_result2 : w.cell? ⟨g', off' + k * 3 + 2, none⟩ = some (.bool result2) := by
          obtain ⟨u, hu, hr⟩ := hcell' k 2 _ _ hy (by rw [Imp.pd_mk]; rfl)
          rwa [hr.of_lit] at hu
        have q1 := eqGuardImport
        have q2 := fun W => neqImport name name2 params params2 result result2 W
        obtain ⟨b, hb⟩ : ∃ b, b = Imp.eqb ⟨name, params, result⟩ ⟨name2, params2, result2⟩ := ⟨_, rfl⟩
        rw [← hb] at q2
        have HB := Lib.hid hb
        have HX := Lib.hid hx
        have HY := Lib.hid hy
        clear hx hy hcell hcell' hat hat' hb
        cases b
        · have HF : Hid (same2 Imp.eqb xs ys = false) := same2_stop HX.out HY.out HB.out.symm
          go_wp2_with fail
          go_quiet (fail)
          go_wp2_with fail
          go_ret
          exact ⟨ret_bool HF.out.symm, by rw [World.drewN_drewN]; exact below_drewN (Below.refl _ _) _⟩
        · have HQ := Lib.hid (same2_next HP.out HX.out HY.out HB.out.symm)
          go_wp2_with fail
          go_quiet (fail)
          go_wp2_with fail
          go_roundw
          case rel => exact ⟨k + 1, by omega, by go_num, HQ, _, rfl⟩
          case measure => simp [intOf]; omega
      · have HF : Hid (same2 Imp.eqb xs ys = true) := same2_end hlt HN.out HM.out HP.out
        have hkn : k = n := by omega
        subst hkn
        go_wp2_with fail
        go_ret
        exact ⟨ret_bool HF.out.symm, below_drewN (Below.refl _ _) _⟩
  · have HF : Hid (same2 Imp.eqb xs ys = false) := same2_ne (by have := HN.out; have := HM.out; omega)
    have hb : ((n : Int) != (n' : Int)) = true := by simp; omega
    clear hat hat'
    go_enter Try.func30, Try.ntmps30
    go_wp2_with fail
    go_ret
    exact ⟨ret_bool HF.out.symm, Below.refl _ _⟩
set_option maxHeartbeats 1600000 in
theorem equalStringS_any {B : Nat} {v u : Value} {xs ys : List ByteArray} {w : World} (h : Rep w B (.row 1 (xs.flatMap strC)) v) (k : Rep w B (.row 1 (ys.flatMap strC)) u) :
    Calls Try.prog 93 #[v, u] w fun e w' => e = .returned (.bool (same2 strEq xs ys)) ∧ Below w.heap.size w w' := by
  obtain ⟨A, n, c, rfl, hnl, hm, hat⟩ := rep_row strC_length (by decide) h
  obtain ⟨A', n', c', rfl, hnl', hm', hat'⟩ := rep_row strC_length (by decide) k
  unfold maxLen at hm hm'
  have HN := Lib.hid hnl
  have HM := Lib.hid hnl'
  clear h k hnl hnl'
  by_cases hnm : n = n'
  · subst hnm
    go_enter Try.func93, Try.ntmps93
    go_wp2_with fail
    go_loopw [13] (fun i wr => ∃ k : Nat, k ≤ n ∧ i = .int .i64 k ∧ Hid (∀ (j : Nat) (a b : ByteArray), j < k → xs[j]? = some a → ys[j]? = some b → strEq a b = true) ∧ ∃ q, wr = w.drewN q) (fun i _ => n - (intOf i).toNat)
    case atStart => exact ⟨0, Nat.zero_le _, rfl, Lib.hid fun j a b h => absurd h (by omega), 0, rfl⟩
    case round =>
      obtain ⟨k, hk, rfl, HP, q, rfl⟩ := hrel
      by_cases hlt : k < n
      · obtain ⟨g, off, rfl, hg, hcell⟩ := hat (by omega)
        obtain ⟨g', off', rfl, hg', hcell'⟩ := hat' (by omega)
        obtain ⟨x, hx, _⟩ := at_lt HN.out hlt
        obtain ⟨y, hy, _⟩ := at_lt HM.out hlt
        have hlt' : (k : Int) < (n : Int) := by omega
        have c_x : w.cell? ⟨g, off + k, none⟩ = some (.string x) := by
          obtain ⟨u, hu, hr⟩ := hcell k 0 _ _ hx rfl
          rw [hr.of_lit] at hu
          simpa using hu
        have c_y : w.cell? ⟨g', off' + k, none⟩ = some (.string y) := by
          obtain ⟨u, hu, hr⟩ := hcell' k 0 _ _ hy rfl
          rw [hr.of_lit] at hu
          simpa using hu
        have HX := Lib.hid hx
        have HY := Lib.hid hy
        clear hx hy hcell hcell' hat hat'
        by_cases hb : x = y
        · have HQ := Lib.hid (same2_next (p := strEq) HP.out HX.out HY.out (by simp [strEq, hb]))
          subst hb
          go_wp2_with fail
          go_quiet (fail)
          go_wp2_with fail
          go_roundw
          case rel => exact ⟨k + 1, by omega, by go_num, HQ, _, rfl⟩
          case measure => simp [intOf]; omega
        · have HF : Hid (same2 strEq xs ys = false) := same2_stop HX.out HY.out (by simp [strEq, hb])
          have hs : (x.toList == y.toList) = false := str_ne2 hb
          clear hb
          go_wp2_with fail
          go_quiet (fail)
          go_wp2_with fail
          go_ret
          exact ⟨ret_bool HF.out.symm, by rw [World.drewN_drewN]; exact below_drewN (Below.refl _ _) _⟩
      · have HF : Hid (same2 strEq xs ys = true) := same2_end hlt HN.out HM.out HP.out
        have hkn : k = n := by omega
        subst hkn
        go_wp2_with fail
        go_ret
        exact ⟨ret_bool HF.out.symm, below_drewN (Below.refl _ _) _⟩
  · have HF : Hid (same2 strEq xs ys = false) := same2_ne (by have := HN.out; have := HM.out; omega)
    have hb : ((n : Int) != (n' : Int)) = true := by simp; omega
    clear hat hat'
    go_enter Try.func93, Try.ntmps93
    go_wp2_with fail
    go_ret
    exact ⟨ret_bool HF.out.symm, Below.refl _ _⟩
set_option maxHeartbeats 1600000 in
theorem eqfCoreS_any (fid : Nat) (caps : Array Value) (p : Core → Core → Bool) {B : Nat} {v u : Value} {xs ys : List Core} {w : World} (hB : B ≤ w.heap.size) (h : Rep w B (.row 5 (xs.flatMap Core.pd)) v) (k : Rep w B (.row 5 (ys.flatMap Core.pd)) u)
    (hcf : ∀ a W, Sem.run Try.prog (callFunc fid a) W = .ok (.enter fid a) W)
    (hp : ∀ x ∈ xs, ∀ y ∈ ys, ∀ (cs ds : List Value) (W : World), Below w.heap.size w W → RepC W B (Core.pd x) cs → RepC W B (Core.pd y) ds → Calls Try.prog fid (#[.agg cs.toArray, .agg ds.toArray] ++ caps) W fun e w' => e = .returned (.bool (p x y)) ∧ Below W.heap.size W w') :
    Calls Try.prog 31 #[v, u, .func (.func fid) #[] caps] w fun e w' => e = .returned (.bool (same2 p xs ys)) ∧ Below w.heap.size w w' := by
  obtain ⟨A, n, c, rfl, hnl, hm, hat⟩ := rep_row Core.pd_length (by decide) h
  obtain ⟨A', n', c', rfl, hnl', hm', hat'⟩ := rep_row Core.pd_length (by decide) k
  unfold maxLen at hm hm'
  have HN := Lib.hid hnl
  have HM := Lib.hid hnl'
  have HC := Lib.hid hp
  clear h k hnl hnl' hp
  by_cases hnm : n = n'
  · subst hnm
    go_enter Try.func31, Try.ntmps31
    go_wp2_with fail
    go_loopw [17] (fun i wr => ∃ k : Nat, k ≤ n ∧ i = .int .i64 k ∧ Hid (∀ (j : Nat) (a b : Core), j < k → xs[j]? = some a → ys[j]? = some b → p a b = true) ∧ Below w.heap.size w wr) (fun i _ => n - (intOf i).toNat)
    case atStart => exact ⟨0, Nat.zero_le _, rfl, Lib.hid fun j a b h => absurd h (by omega), Below.refl _ _⟩
    case round =>
      obtain ⟨k, hk, rfl, HP, hbr⟩ := hrel
      have hsz := hbr.size
      by_cases hlt : k < n
      · obtain ⟨g, off, rfl, hg, hcell⟩ := hat (by omega)
        obtain ⟨g', off', rfl, hg', hcell'⟩ := hat' (by omega)
        obtain ⟨x, hx, hmx⟩ := at_lt HN.out hlt
        obtain ⟨y, hy, hmy⟩ := at_lt HM.out hlt
        have hlt' : (k : Int) < (n : Int) := by omega
        obtain ⟨name, params, locals, result, code⟩ := x
        obtain ⟨Zname, Zparams, Zlocals, Zresult, Zcode⟩ := y
        have c0 : wr.cell? ⟨g, off + k * 5, none⟩ = some (.string name) := cell_lit hbr (by omega) (hcell k 0 _ _ hx (by rw [Core.pd_mk]; rfl))
        have c1 : wr.cell? ⟨g, off + k * 5 + 1, none⟩ = some (.int .i64 params) := cell_lit hbr (by omega) (hcell k 1 _ _ hx (by rw [Core.pd_mk]; rfl))
        have c2 : wr.cell? ⟨g, off + k * 5 + 2, none⟩ = some (.int .i64 locals) := cell_lit hbr (by omega) (hcell k 2 _ _ hx (by rw [Core.pd_mk]; rfl))
        have c3 : wr.cell? ⟨g, off + k * 5 + 3, none⟩ = some (.bool result) := cell_lit hbr (by omega) (hcell k 3 _ _ hx (by rw [Core.pd_mk]; rfl))
        obtain ⟨codeV, c4, rc4⟩ : ∃ u, wr.cell? ⟨g, off + k * 5 + 4, none⟩ = some u ∧ Rep wr B (.row 2 (code.flatMap Ins.pd)) u := cell_rep hbr (by omega) hB (hcell k 4 _ _ hx (by rw [Core.pd_mk]; rfl))
        have Rc4 := Lib.hid rc4
        clear rc4
        obtain ⟨codeA, codeN, codeC, rfl⟩ := Rc4.out.form
        have d0 : wr.cell? ⟨g', off' + k * 5, none⟩ = some (.string Zname) := cell_lit hbr (by omega) (hcell' k 0 _ _ hy (by rw [Core.pd_mk]; rfl))
        have d1 : wr.cell? ⟨g', off' + k * 5 + 1, none⟩ = some (.int .i64 Zparams) := cell_lit hbr (by omega) (hcell' k 1 _ _ hy (by rw [Core.pd_mk]; rfl))
        have d2 : wr.cell? ⟨g', off' + k * 5 + 2, none⟩ = some (.int .i64 Zlocals) := cell_lit hbr (by omega) (hcell' k 2 _ _ hy (by rw [Core.pd_mk]; rfl))
        have d3 : wr.cell? ⟨g', off' + k * 5 + 3, none⟩ = some (.bool Zresult) := cell_lit hbr (by omega) (hcell' k 3 _ _ hy (by rw [Core.pd_mk]; rfl))
        obtain ⟨ZcodeV, d4, rd4⟩ : ∃ u, wr.cell? ⟨g', off' + k * 5 + 4, none⟩ = some u ∧ Rep wr B (.row 2 (Zcode.flatMap Ins.pd)) u := cell_rep hbr (by omega) hB (hcell' k 4 _ _ hy (by rw [Core.pd_mk]; rfl))
        have Rd4 := Lib.hid rd4
        clear rd4
        obtain ⟨ZcodeA, ZcodeN, ZcodeC, rfl⟩ := Rd4.out.form
        have e0 : (wr.alloc (.cells #[.string name, .int .i64 params, .int .i64 locals, .bool result, .slice codeA codeN codeC] 55)).cell? ⟨g', off' + k * 5, none⟩ = some (.string Zname) := (World.cell?_alloc_lt wr _ ⟨g', off' + k * 5, none⟩ (by show g' < _; omega)).trans d0
        have e1 : (wr.alloc (.cells #[.string name, .int .i64 params, .int .i64 locals, .bool result, .slice codeA codeN codeC] 55)).cell? ⟨g', off' + k * 5 + 1, none⟩ = some (.int .i64 Zparams) := (World.cell?_alloc_lt wr _ ⟨g', off' + k * 5 + 1, none⟩ (by show g' < _; omega)).trans d1
        have e2 : (wr.alloc (.cells #[.string name, .int .i64 params, .int .i64 locals, .bool result, .slice codeA codeN codeC] 55)).cell? ⟨g', off' + k * 5 + 2, none⟩ = some (.int .i64 Zlocals) := (World.cell?_alloc_lt wr _ ⟨g', off' + k * 5 + 2, none⟩ (by show g' < _; omega)).trans d2
        have e3 : (wr.alloc (.cells #[.string name, .int .i64 params, .int .i64 locals, .bool result, .slice codeA codeN codeC] 55)).cell? ⟨g', off' + k * 5 + 3, none⟩ = some (.bool Zresult) := (World.cell?_alloc_lt wr _ ⟨g', off' + k * 5 + 3, none⟩ (by show g' < _; omega)).trans d3
        have e4 : (wr.alloc (.cells #[.string name, .int .i64 params, .int .i64 locals, .bool result, .slice codeA codeN codeC] 55)).cell? ⟨g', off' + k * 5 + 4, none⟩ = some (.slice ZcodeA ZcodeN ZcodeC) := (World.cell?_alloc_lt wr _ ⟨g', off' + k * 5 + 4, none⟩ (by show g' < _; omega)).trans d4
        have hb1 : Below wr.heap.size wr ((wr.alloc (.cells #[.string name, .int .i64 params, .int .i64 locals, .bool result, .slice codeA codeN codeC] 55)).alloc (.cells #[.string Zname, .int .i64 Zparams, .int .i64 Zlocals, .bool Zresult, .slice ZcodeA ZcodeN ZcodeC] 55)) := ((Below.refl _ _).alloc (Nat.le_refl _) _).alloc (by simp) _
        obtain ⟨w2, hw2⟩ : ∃ W, W = (wr.alloc (.cells #[.string name, .int .i64 params, .int .i64 locals, .bool result, .slice codeA codeN codeC] 55)).alloc (.cells #[.string Zname, .int .i64 Zparams, .int .i64 Zlocals, .bool Zresult, .slice ZcodeA ZcodeN ZcodeC] 55) := ⟨_, rfl⟩
        rw [← hw2] at hb1
        have HW := Lib.hid hw2
        clear hw2
        have hB2 := hbr.trans (hb1.mono hbr.size)
        have hc := HC.out _ hmx _ hmy [.string name, .int .i64 params, .int .i64 locals, .bool result, .slice codeA codeN codeC] [.string Zname, .int .i64 Zparams, .int .i64 Zlocals, .bool Zresult, .slice ZcodeA ZcodeN ZcodeC] w2 hB2 (Core.close_ (Rc4.out.below (hb1.mono (Nat.le_trans hB hbr.size)))) (Core.close_ (Rd4.out.below (hb1.mono (Nat.le_trans hB hbr.size))))
        obtain ⟨x, hxx⟩ : ∃ x : Core, x = ⟨name, params, locals, result, code⟩ := ⟨_, rfl⟩
        obtain ⟨y, hyy⟩ : ∃ y : Core, y = ⟨Zname, Zparams, Zlocals, Zresult, Zcode⟩ := ⟨_, rfl⟩
        rw [← hxx] at hc hx
        rw [← hyy] at hc hy
        clear hxx hyy
        have HK := Lib.hid hc
        have HX := Lib.hid hx
        have HY := Lib.hid hy
        clear hc hx hy hmx hmy hcell hcell' hat hat'
        go_wp2_with fail
        rw [← HW.out]
        refine HK.out.mono ?_
        rintro e w3 ⟨rfl, hb3⟩
        have hB3 := hB2.trans (hb3.mono hB2.size)
        cases hb : p x y
        · have HF : Hid (same2 p xs ys = false) := same2_stop HX.out HY.out hb
          go_wp2_with fail
          go_ret
          exact ⟨ret_bool HF.out.symm, hB3⟩
        · have HQ := Lib.hid (same2_next HP.out HX.out HY.out hb)
          go_wp2_with fail
          go_roundw
          case rel => exact ⟨k + 1, by omega, by go_num, HQ, hB3⟩
          case measure => simp [intOf]; omega
      · have HF : Hid (same2 p xs ys = true) := same2_end hlt HN.out HM.out HP.out
        have hkn : k = n := by omega
        subst hkn
        go_wp2_with fail
        go_ret
        exact ⟨ret_bool HF.out.symm, hbr⟩
  · have HF : Hid (same2 p xs ys = false) := same2_ne (by have := HN.out; have := HM.out; omega)
    have hb : ((n : Int) != (n' : Int)) = true := by simp; omega
    clear hat hat'
    go_enter Try.func31, Try.ntmps31
    go_wp2_with fail
    go_ret
    exact ⟨ret_bool HF.out.symm, Below.refl _ _⟩
set_option maxHeartbeats 1600000 in
theorem eqfTypeS_any (fid : Nat) (caps : Array Value) (p : Ty → Ty → Bool) {B : Nat} {v u : Value} {xs ys : List Ty} {w : World} (hB : B ≤ w.heap.size) (h : Rep w B (.row 4 (xs.flatMap Ty.pd)) v) (k : Rep w B (.row 4 (ys.flatMap Ty.pd)) u)
    (hcf : ∀ a W, Sem.run Try.prog (callFunc fid a) W = .ok (.enter fid a) W)
    (hp : ∀ x ∈ xs, ∀ y ∈ ys, ∀ (cs ds : List Value) (W : World), Below w.heap.size w W → RepC W B (Ty.pd x) cs → RepC W B (Ty.pd y) ds → Calls Try.prog fid (#[.agg cs.toArray, .agg ds.toArray] ++ caps) W fun e w' => e = .returned (.bool (p x y)) ∧ Below W.heap.size W w') :
    Calls Try.prog 41 #[v, u, .func (.func fid) #[] caps] w fun e w' => e = .returned (.bool (same2 p xs ys)) ∧ Below w.heap.size w w' := by
  obtain ⟨A, n, c, rfl, hnl, hm, hat⟩ := rep_row Ty.pd_length (by decide) h
  obtain ⟨A', n', c', rfl, hnl', hm', hat'⟩ := rep_row Ty.pd_length (by decide) k
  unfold maxLen at hm hm'
  have HN := Lib.hid hnl
  have HM := Lib.hid hnl'
  have HC := Lib.hid hp
  clear h k hnl hnl' hp
  by_cases hnm : n = n'
  · subst hnm
    go_enter Try.func41, Try.ntmps41
    go_wp2_with fail
    go_loopw [17] (fun i wr => ∃ k : Nat, k ≤ n ∧ i = .int .i64 k ∧ Hid (∀ (j : Nat) (a b : Ty), j < k → xs[j]? = some a → ys[j]? = some b → p a b = true) ∧ Below w.heap.size w wr) (fun i _ => n - (intOf i).toNat)
    case atStart => exact ⟨0, Nat.zero_le _, rfl, Lib.hid fun j a b h => absurd h (by omega), Below.refl _ _⟩
    case round =>
      obtain ⟨k, hk, rfl, HP, hbr⟩ := hrel
      have hsz := hbr.size
      by_cases hlt : k < n
      · obtain ⟨g, off, rfl, hg, hcell⟩ := hat (by omega)
        obtain ⟨g', off', rfl, hg', hcell'⟩ := hat' (by omega)
        obtain ⟨x, hx, hmx⟩ := at_lt HN.out hlt
        obtain ⟨y, hy, hmy⟩ := at_lt HM.out hlt
        have hlt' : (k : Int) < (n : Int) := by omega
        obtain ⟨kind, name, labels, kids⟩ := x
        obtain ⟨Zkind, Zname, Zlabels, Zkids⟩ := y
        have c0 : wr.cell? ⟨g, off + k * 4, none⟩ = some (.int .i64 kind) := cell_lit hbr (by omega) (hcell k 0 _ _ hx (by rw [Ty.pd_mk]; rfl))
        have c1 : wr.cell? ⟨g, off + k * 4 + 1, none⟩ = some (.string name) := cell_lit hbr (by omega) (hcell k 1 _ _ hx (by rw [Ty.pd_mk]; rfl))
        obtain ⟨labelsV, c2, rc2⟩ : ∃ u, wr.cell? ⟨g, off + k * 4 + 2, none⟩ = some u ∧ Rep wr B (.row 1 (labels.flatMap strC)) u := cell_rep hbr (by omega) hB (hcell k 2 _ _ hx (by rw [Ty.pd_mk]; rfl))
        have Rc2 := Lib.hid rc2
        clear rc2
        obtain ⟨labelsA, labelsN, labelsC, rfl⟩ := Rc2.out.form
        obtain ⟨kidsV, c3, rc3⟩ : ∃ u, wr.cell? ⟨g, off + k * 4 + 3, none⟩ = some u ∧ Rep wr B (.row 4 (kids.flatMap Ty.pd)) u := cell_rep hbr (by omega) hB (hcell k 3 _ _ hx (by rw [Ty.pd_mk]; rfl))
        have Rc3 := Lib.hid rc3
        clear rc3
        obtain ⟨kidsA, kidsN, kidsC, rfl⟩ := Rc3.out.form
        have d0 : wr.cell? ⟨g', off' + k * 4, none⟩ = some (.int .i64 Zkind) := cell_lit hbr (by omega) (hcell' k 0 _ _ hy (by rw [Ty.pd_mk]; rfl))
        have d1 : wr.cell? ⟨g', off' + k * 4 + 1, none⟩ = some (.string Zname) := cell_lit hbr (by omega) (hcell' k 1 _ _ hy (by rw [Ty.pd_mk]; rfl))
        obtain ⟨ZlabelsV, d2, rd2⟩ : ∃ u, wr.cell? ⟨g', off' + k * 4 + 2, none⟩ = some u ∧ Rep wr B (.row 1 (Zlabels.flatMap strC)) u := cell_rep hbr (by omega) hB (hcell' k 2 _ _ hy (by rw [Ty.pd_mk]; rfl))
        have Rd2 := Lib.hid rd2
        clear rd2
        obtain ⟨ZlabelsA, ZlabelsN, ZlabelsC, rfl⟩ := Rd2.out.form
        obtain ⟨ZkidsV, d3, rd3⟩ : ∃ u, wr.cell? ⟨g', off' + k * 4 + 3, none⟩ = some u ∧ Rep wr B (.row 4 (Zkids.flatMap Ty.pd)) u := cell_rep hbr (by omega) hB (hcell' k 3 _ _ hy (by rw [Ty.pd_mk]; rfl))
        have Rd3 := Lib.hid rd3
        clear rd3
        obtain ⟨ZkidsA, ZkidsN, ZkidsC, rfl⟩ := Rd3.out.form
        have e0 : (wr.alloc (.cells #[.int .i64 kind, .string name, .slice labelsA labelsN labelsC, .slice kidsA kidsN kidsC] 76)).cell? ⟨g', off' + k * 4, none⟩ = some (.int .i64 Zkind) := (World.cell?_alloc_lt wr _ ⟨g', off' + k * 4, none⟩ (by show g' < _; omega)).trans d0
        have e1 : (wr.alloc (.cells #[.int .i64 kind, .string name, .slice labelsA labelsN labelsC, .slice kidsA kidsN kidsC] 76)).cell? ⟨g', off' + k * 4 + 1, none⟩ = some (.string Zname) := (World.cell?_alloc_lt wr _ ⟨g', off' + k * 4 + 1, none⟩ (by show g' < _; omega)).trans d1
        have e2 : (wr.alloc (.cells #[.int .i64 kind, .string name, .slice labelsA labelsN labelsC, .slice kidsA kidsN kidsC] 76)).cell? ⟨g', off' + k * 4 + 2, none⟩ = some (.slice ZlabelsA ZlabelsN ZlabelsC) := (World.cell?_alloc_lt wr _ ⟨g', off' + k * 4 + 2, none⟩ (by show g' < _; omega)).trans d2
        have e3 : (wr.alloc (.cells #[.int .i64 kind, .string name, .slice labelsA labelsN labelsC, .slice kidsA kidsN kidsC] 76)).cell? ⟨g', off' + k * 4 + 3, none⟩ = some (.slice ZkidsA ZkidsN ZkidsC) := (World.cell?_alloc_lt wr _ ⟨g', off' + k * 4 + 3, none⟩ (by show g' < _; omega)).trans d3
        have hb1 : Below wr.heap.size wr ((wr.alloc (.cells #[.int .i64 kind, .string name, .slice labelsA labelsN labelsC, .slice kidsA kidsN kidsC] 76)).alloc (.cells #[.int .i64 Zkind, .string Zname, .slice ZlabelsA ZlabelsN ZlabelsC, .slice ZkidsA ZkidsN ZkidsC] 76)) := ((Below.refl _ _).alloc (Nat.le_refl _) _).alloc (by simp) _
        obtain ⟨w2, hw2⟩ : ∃ W, W = (wr.alloc (.cells #[.int .i64 kind, .string name, .slice labelsA labelsN labelsC, .slice kidsA kidsN kidsC] 76)).alloc (.cells #[.int .i64 Zkind, .string Zname, .slice ZlabelsA ZlabelsN ZlabelsC, .slice ZkidsA ZkidsN ZkidsC] 76) := ⟨_, rfl⟩
        rw [← hw2] at hb1
        have HW := Lib.hid hw2
        clear hw2
        have hB2 := hbr.trans (hb1.mono hbr.size)
        have hc := HC.out _ hmx _ hmy [.int .i64 kind, .string name, .slice labelsA labelsN labelsC, .slice kidsA kidsN kidsC] [.int .i64 Zkind, .string Zname, .slice ZlabelsA ZlabelsN ZlabelsC, .slice ZkidsA ZkidsN ZkidsC] w2 hB2 (Ty.close_ (Rc2.out.below (hb1.mono (Nat.le_trans hB hbr.size))) (Rc3.out.below (hb1.mono (Nat.le_trans hB hbr.size)))) (Ty.close_ (Rd2.out.below (hb1.mono (Nat.le_trans hB hbr.size))) (Rd3.out.below (hb1.mono (Nat.le_trans hB hbr.size))))
        obtain ⟨x, hxx⟩ : ∃ x : Ty, x = ⟨kind, name, labels, kids⟩ := ⟨_, rfl⟩
        obtain ⟨y, hyy⟩ : ∃ y : Ty, y = ⟨Zkind, Zname, Zlabels, Zkids⟩ := ⟨_, rfl⟩
        rw [← hxx] at hc hx
        rw [← hyy] at hc hy
        clear hxx hyy
        have HK := Lib.hid hc
        have HX := Lib.hid hx
        have HY := Lib.hid hy
        clear hc hx hy hmx hmy hcell hcell' hat hat'
        go_wp2_with fail
        rw [← HW.out]
        refine HK.out.mono ?_
        rintro e w3 ⟨rfl, hb3⟩
        have hB3 := hB2.trans (hb3.mono hB2.size)
        cases hb : p x y
        · have HF : Hid (same2 p xs ys = false) := same2_stop HX.out HY.out hb
          go_wp2_with fail
          go_ret
          exact ⟨ret_bool HF.out.symm, hB3⟩
        · have HQ := Lib.hid (same2_next HP.out HX.out HY.out hb)
          go_wp2_with fail
          go_roundw
          case rel => exact ⟨k + 1, by omega, by go_num, HQ, hB3⟩
          case measure => simp [intOf]; omega
      · have HF : Hid (same2 p xs ys = true) := same2_end hlt HN.out HM.out HP.out
        have hkn : k = n := by omega
        subst hkn
        go_wp2_with fail
        go_ret
        exact ⟨ret_bool HF.out.symm, hbr⟩
  · have HF : Hid (same2 p xs ys = false) := same2_ne (by have := HN.out; have := HM.out; omega)
    have hb : ((n : Int) != (n' : Int)) = true := by simp; omega
    clear hat hat'
    go_enter Try.func41, Try.ntmps41
    go_wp2_with fail
    go_ret
    exact ⟨ret_bool HF.out.symm, Below.refl _ _⟩
set_option maxHeartbeats 1600000 in
theorem eqfMoveS_any (fid : Nat) (caps : Array Value) (p : Move → Move → Bool) {B : Nat} {v u : Value} {xs ys : List Move} {w : World} (hB : B ≤ w.heap.size) (h : Rep w B (.row 8 (xs.flatMap Move.pd)) v) (k : Rep w B (.row 8 (ys.flatMap Move.pd)) u)
    (hcf : ∀ a W, Sem.run Try.prog (callFunc fid a) W = .ok (.enter fid a) W)
    (hp : ∀ x ∈ xs, ∀ y ∈ ys, ∀ (cs ds : List Value) (W : World), Below w.heap.size w W → RepC W B (Move.pd x) cs → RepC W B (Move.pd y) ds → Calls Try.prog fid (#[.agg cs.toArray, .agg ds.toArray] ++ caps) W fun e w' => e = .returned (.bool (p x y)) ∧ Below W.heap.size W w') :
    Calls Try.prog 66 #[v, u, .func (.func fid) #[] caps] w fun e w' => e = .returned (.bool (same2 p xs ys)) ∧ Below w.heap.size w w' := by
  obtain ⟨A, n, c, rfl, hnl, hm, hat⟩ := rep_row Move.pd_length (by decide) h
  obtain ⟨A', n', c', rfl, hnl', hm', hat'⟩ := rep_row Move.pd_length (by decide) k
  unfold maxLen at hm hm'
  have HN := Lib.hid hnl
  have HM := Lib.hid hnl'
  have HC := Lib.hid hp
  clear h k hnl hnl' hp
  by_cases hnm : n = n'
  · subst hnm
    go_enter Try.func66, Try.ntmps66
    go_wp2_with fail
    go_loopw [17] (fun i wr => ∃ k : Nat, k ≤ n ∧ i = .int .i64 k ∧ Hid (∀ (j : Nat) (a b : Move), j < k → xs[j]? = some a → ys[j]? = some b → p a b = true) ∧ Below w.heap.size w wr) (fun i _ => n - (intOf i).toNat)
    case atStart => exact ⟨0, Nat.zero_le _, rfl, Lib.hid fun j a b h => absurd h (by omega), Below.refl _ _⟩
    case round =>
      obtain ⟨k, hk, rfl, HP, hbr⟩ := hrel
      have hsz := hbr.size
      by_cases hlt : k < n
      · obtain ⟨g, off, rfl, hg, hcell⟩ := hat (by omega)
        obtain ⟨g', off', rfl, hg', hcell'⟩ := hat' (by omega)
        obtain ⟨x, hx, hmx⟩ := at_lt HN.out hlt
        obtain ⟨y, hy, hmy⟩ := at_lt HM.out hlt
        have hlt' : (k : Int) < (n : Int) := by omega
        obtain ⟨kind, at_, size, align, typ, most, name, kids⟩ := x
        obtain ⟨Zkind, Zat_, Zsize, Zalign, Ztyp, Zmost, Zname, Zkids⟩ := y
        have c0 : wr.cell? ⟨g, off + k * 8, none⟩ = some (.int .i64 kind) := cell_lit hbr (by omega) (hcell k 0 _ _ hx (by rw [Move.pd_mk]; rfl))
        have c1 : wr.cell? ⟨g, off + k * 8 + 1, none⟩ = some (.int .i64 at_) := cell_lit hbr (by omega) (hcell k 1 _ _ hx (by rw [Move.pd_mk]; rfl))
        have c2 : wr.cell? ⟨g, off + k * 8 + 2, none⟩ = some (.int .i64 size) := cell_lit hbr (by omega) (hcell k 2 _ _ hx (by rw [Move.pd_mk]; rfl))
        have c3 : wr.cell? ⟨g, off + k * 8 + 3, none⟩ = some (.int .i64 align) := cell_lit hbr (by omega) (hcell k 3 _ _ hx (by rw [Move.pd_mk]; rfl))
        have c4 : wr.cell? ⟨g, off + k * 8 + 4, none⟩ = some (.int .i64 typ) := cell_lit hbr (by omega) (hcell k 4 _ _ hx (by rw [Move.pd_mk]; rfl))
        have c5 : wr.cell? ⟨g, off + k * 8 + 5, none⟩ = some (.int .i64 most) := cell_lit hbr (by omega) (hcell k 5 _ _ hx (by rw [Move.pd_mk]; rfl))
        have c6 : wr.cell? ⟨g, off + k * 8 + 6, none⟩ = some (.string name) := cell_lit hbr (by omega) (hcell k 6 _ _ hx (by rw [Move.pd_mk]; rfl))
        obtain ⟨kidsV, c7, rc7⟩ : ∃ u, wr.cell? ⟨g, off + k * 8 + 7, none⟩ = some u ∧ Rep wr B (.row 1 (kids.flatMap rowCMoveS)) u := cell_rep hbr (by omega) hB (hcell k 7 _ _ hx (by rw [Move.pd_mk]; rfl))
        have Rc7 := Lib.hid rc7
        clear rc7
        obtain ⟨kidsA, kidsN, kidsC, rfl⟩ := Rc7.out.form
        have d0 : wr.cell? ⟨g', off' + k * 8, none⟩ = some (.int .i64 Zkind) := cell_lit hbr (by omega) (hcell' k 0 _ _ hy (by rw [Move.pd_mk]; rfl))
        have d1 : wr.cell? ⟨g', off' + k * 8 + 1, none⟩ = some (.int .i64 Zat_) := cell_lit hbr (by omega) (hcell' k 1 _ _ hy (by rw [Move.pd_mk]; rfl))
        have d2 : wr.cell? ⟨g', off' + k * 8 + 2, none⟩ = some (.int .i64 Zsize) := cell_lit hbr (by omega) (hcell' k 2 _ _ hy (by rw [Move.pd_mk]; rfl))
        have d3 : wr.cell? ⟨g', off' + k * 8 + 3, none⟩ = some (.int .i64 Zalign) := cell_lit hbr (by omega) (hcell' k 3 _ _ hy (by rw [Move.pd_mk]; rfl))
        have d4 : wr.cell? ⟨g', off' + k * 8 + 4, none⟩ = some (.int .i64 Ztyp) := cell_lit hbr (by omega) (hcell' k 4 _ _ hy (by rw [Move.pd_mk]; rfl))
        have d5 : wr.cell? ⟨g', off' + k * 8 + 5, none⟩ = some (.int .i64 Zmost) := cell_lit hbr (by omega) (hcell' k 5 _ _ hy (by rw [Move.pd_mk]; rfl))
        have d6 : wr.cell? ⟨g', off' + k * 8 + 6, none⟩ = some (.string Zname) := cell_lit hbr (by omega) (hcell' k 6 _ _ hy (by rw [Move.pd_mk]; rfl))
        obtain ⟨ZkidsV, d7, rd7⟩ : ∃ u, wr.cell? ⟨g', off' + k * 8 + 7, none⟩ = some u ∧ Rep wr B (.row 1 (Zkids.flatMap rowCMoveS)) u := cell_rep hbr (by omega) hB (hcell' k 7 _ _ hy (by rw [Move.pd_mk]; rfl))
        have Rd7 := Lib.hid rd7
        clear rd7
        obtain ⟨ZkidsA, ZkidsN, ZkidsC, rfl⟩ := Rd7.out.form
        have e0 : (wr.alloc (.cells #[.int .i64 kind, .int .i64 at_, .int .i64 size, .int .i64 align, .int .i64 typ, .int .i64 most, .string name, .slice kidsA kidsN kidsC] 108)).cell? ⟨g', off' + k * 8, none⟩ = some (.int .i64 Zkind) := (World.cell?_alloc_lt wr _ ⟨g', off' + k * 8, none⟩ (by show g' < _; omega)).trans d0
        have e1 : (wr.alloc (.cells #[.int .i64 kind, .int .i64 at_, .int .i64 size, .int .i64 align, .int .i64 typ, .int .i64 most, .string name, .slice kidsA kidsN kidsC] 108)).cell? ⟨g', off' + k * 8 + 1, none⟩ = some (.int .i64 Zat_) := (World.cell?_alloc_lt wr _ ⟨g', off' + k * 8 + 1, none⟩ (by show g' < _; omega)).trans d1
        have e2 : (wr.alloc (.cells #[.int .i64 kind, .int .i64 at_, .int .i64 size, .int .i64 align, .int .i64 typ, .int .i64 most, .string name, .slice kidsA kidsN kidsC] 108)).cell? ⟨g', off' + k * 8 + 2, none⟩ = some (.int .i64 Zsize) := (World.cell?_alloc_lt wr _ ⟨g', off' + k * 8 + 2, none⟩ (by show g' < _; omega)).trans d2
        have e3 : (wr.alloc (.cells #[.int .i64 kind, .int .i64 at_, .int .i64 size, .int .i64 align, .int .i64 typ, .int .i64 most, .string name, .slice kidsA kidsN kidsC] 108)).cell? ⟨g', off' + k * 8 + 3, none⟩ = some (.int .i64 Zalign) := (World.cell?_alloc_lt wr _ ⟨g', off' + k * 8 + 3, none⟩ (by show g' < _; omega)).trans d3
        have e4 : (wr.alloc (.cells #[.int .i64 kind, .int .i64 at_, .int .i64 size, .int .i64 align, .int .i64 typ, .int .i64 most, .string name, .slice kidsA kidsN kidsC] 108)).cell? ⟨g', off' + k * 8 + 4, none⟩ = some (.int .i64 Ztyp) := (World.cell?_alloc_lt wr _ ⟨g', off' + k * 8 + 4, none⟩ (by show g' < _; omega)).trans d4
        have e5 : (wr.alloc (.cells #[.int .i64 kind, .int .i64 at_, .int .i64 size, .int .i64 align, .int .i64 typ, .int .i64 most, .string name, .slice kidsA kidsN kidsC] 108)).cell? ⟨g', off' + k * 8 + 5, none⟩ = some (.int .i64 Zmost) := (World.cell?_alloc_lt wr _ ⟨g', off' + k * 8 + 5, none⟩ (by show g' < _; omega)).trans d5
        have e6 : (wr.alloc (.cells #[.int .i64 kind, .int .i64 at_, .int .i64 size, .int .i64 align, .int .i64 typ, .int .i64 most, .string name, .slice kidsA kidsN kidsC] 108)).cell? ⟨g', off' + k * 8 + 6, none⟩ = some (.string Zname) := (World.cell?_alloc_lt wr _ ⟨g', off' + k * 8 + 6, none⟩ (by show g' < _; omega)).trans d6
        have e7 : (wr.alloc (.cells #[.int .i64 kind, .int .i64 at_, .int .i64 size, .int .i64 align, .int .i64 typ, .int .i64 most, .string name, .slice kidsA kidsN kidsC] 108)).cell? ⟨g', off' + k * 8 + 7, none⟩ = some (.slice ZkidsA ZkidsN ZkidsC) := (World.cell?_alloc_lt wr _ ⟨g', off' + k * 8 + 7, none⟩ (by show g' < _; omega)).trans d7
        have hb1 : Below wr.heap.size wr ((wr.alloc (.cells #[.int .i64 kind, .int .i64 at_, .int .i64 size, .int .i64 align, .int .i64 typ, .int .i64 most, .string name, .slice kidsA kidsN kidsC] 108)).alloc (.cells #[.int .i64 Zkind, .int .i64 Zat_, .int .i64 Zsize, .int .i64 Zalign, .int .i64 Ztyp, .int .i64 Zmost, .string Zname, .slice ZkidsA ZkidsN ZkidsC] 108)) := ((Below.refl _ _).alloc (Nat.le_refl _) _).alloc (by simp) _
        obtain ⟨w2, hw2⟩ : ∃ W, W = (wr.alloc (.cells #[.int .i64 kind, .int .i64 at_, .int .i64 size, .int .i64 align, .int .i64 typ, .int .i64 most, .string name, .slice kidsA kidsN kidsC] 108)).alloc (.cells #[.int .i64 Zkind, .int .i64 Zat_, .int .i64 Zsize, .int .i64 Zalign, .int .i64 Ztyp, .int .i64 Zmost, .string Zname, .slice ZkidsA ZkidsN ZkidsC] 108) := ⟨_, rfl⟩
        rw [← hw2] at hb1
        have HW := Lib.hid hw2
        clear hw2
        have hB2 := hbr.trans (hb1.mono hbr.size)
        have hc := HC.out _ hmx _ hmy [.int .i64 kind, .int .i64 at_, .int .i64 size, .int .i64 align, .int .i64 typ, .int .i64 most, .string name, .slice kidsA kidsN kidsC] [.int .i64 Zkind, .int .i64 Zat_, .int .i64 Zsize, .int .i64 Zalign, .int .i64 Ztyp, .int .i64 Zmost, .string Zname, .slice ZkidsA ZkidsN ZkidsC] w2 hB2 (Move.close_ (Rc7.out.below (hb1.mono (Nat.le_trans hB hbr.size)))) (Move.close_ (Rd7.out.below (hb1.mono (Nat.le_trans hB hbr.size))))
        obtain ⟨x, hxx⟩ : ∃ x : Move, x = ⟨kind, at_, size, align, typ, most, name, kids⟩ := ⟨_, rfl⟩
        obtain ⟨y, hyy⟩ : ∃ y : Move, y = ⟨Zkind, Zat_, Zsize, Zalign, Ztyp, Zmost, Zname, Zkids⟩ := ⟨_, rfl⟩
        rw [← hxx] at hc hx
        rw [← hyy] at hc hy
        clear hxx hyy
        have HK := Lib.hid hc
        have HX := Lib.hid hx
        have HY := Lib.hid hy
        clear hc hx hy hmx hmy hcell hcell' hat hat'
        go_wp2_with fail
        rw [← HW.out]
        refine HK.out.mono ?_
        rintro e w3 ⟨rfl, hb3⟩
        have hB3 := hB2.trans (hb3.mono hB2.size)
        cases hb : p x y
        · have HF : Hid (same2 p xs ys = false) := same2_stop HX.out HY.out hb
          go_wp2_with fail
          go_ret
          exact ⟨ret_bool HF.out.symm, hB3⟩
        · have HQ := Lib.hid (same2_next HP.out HX.out HY.out hb)
          go_wp2_with fail
          go_roundw
          case rel => exact ⟨k + 1, by omega, by go_num, HQ, hB3⟩
          case measure => simp [intOf]; omega
      · have HF : Hid (same2 p xs ys = true) := same2_end hlt HN.out HM.out HP.out
        have hkn : k = n := by omega
        subst hkn
        go_wp2_with fail
        go_ret
        exact ⟨ret_bool HF.out.symm, hbr⟩
  · have HF : Hid (same2 p xs ys = false) := same2_ne (by have := HN.out; have := HM.out; omega)
    have hb : ((n : Int) != (n' : Int)) = true := by simp; omega
    clear hat hat'
    go_enter Try.func66, Try.ntmps66
    go_wp2_with fail
    go_ret
    exact ⟨ret_bool HF.out.symm, Below.refl _ _⟩
set_option maxHeartbeats 1600000 in
theorem eqfMoveSS_any (fid : Nat) (caps : Array Value) (p : (List Move) → (List Move) → Bool) {B : Nat} {v u : Value} {xs ys : List (List Move)} {w : World} (hB : B ≤ w.heap.size) (h : Rep w B (.row 1 (xs.flatMap rowCMoveS)) v) (k : Rep w B (.row 1 (ys.flatMap rowCMoveS)) u)
    (hcf : ∀ a W, Sem.run Try.prog (callFunc fid a) W = .ok (.enter fid a) W)
    (hp : ∀ x ∈ xs, ∀ y ∈ ys, ∀ (cs ds : Value) (W : World), Below w.heap.size w W → Rep W B (.row 8 (x.flatMap Move.pd)) cs → Rep W B (.row 8 (y.flatMap Move.pd)) ds → Calls Try.prog fid (#[cs, ds] ++ caps) W fun e w' => e = .returned (.bool (p x y)) ∧ Below W.heap.size W w') :
    Calls Try.prog 68 #[v, u, .func (.func fid) #[] caps] w fun e w' => e = .returned (.bool (same2 p xs ys)) ∧ Below w.heap.size w w' := by
  obtain ⟨A, n, c, rfl, hnl, hm, hat⟩ := rep_row rowCMoveS_length (by decide) h
  obtain ⟨A', n', c', rfl, hnl', hm', hat'⟩ := rep_row rowCMoveS_length (by decide) k
  unfold maxLen at hm hm'
  have HN := Lib.hid hnl
  have HM := Lib.hid hnl'
  have HC := Lib.hid hp
  clear h k hnl hnl' hp
  by_cases hnm : n = n'
  · subst hnm
    go_enter Try.func68, Try.ntmps68
    go_wp2_with fail
    go_loopw [17] (fun i wr => ∃ k : Nat, k ≤ n ∧ i = .int .i64 k ∧ Hid (∀ (j : Nat) (a b : List Move), j < k → xs[j]? = some a → ys[j]? = some b → p a b = true) ∧ Below w.heap.size w wr) (fun i _ => n - (intOf i).toNat)
    case atStart => exact ⟨0, Nat.zero_le _, rfl, Lib.hid fun j a b h => absurd h (by omega), Below.refl _ _⟩
    case round =>
      obtain ⟨k, hk, rfl, HP, hbr⟩ := hrel
      have hsz := hbr.size
      by_cases hlt : k < n
      · obtain ⟨g, off, rfl, hg, hcell⟩ := hat (by omega)
        obtain ⟨g', off', rfl, hg', hcell'⟩ := hat' (by omega)
        obtain ⟨x, hx, hmx⟩ := at_lt HN.out hlt
        obtain ⟨y, hy, hmy⟩ := at_lt HM.out hlt
        have hlt' : (k : Int) < (n : Int) := by omega
        obtain ⟨xV, c0, rc0⟩ : ∃ u, wr.cell? ⟨g, off + k, none⟩ = some u ∧ Rep wr B (.row 8 (x.flatMap Move.pd)) u := cell_rep hbr (by omega) hB (by have := hcell k 0 _ _ hx rfl; simpa using this)
        have Rc0 := Lib.hid rc0
        clear rc0
        obtain ⟨yV, d0, rd0⟩ : ∃ u, wr.cell? ⟨g', off' + k, none⟩ = some u ∧ Rep wr B (.row 8 (y.flatMap Move.pd)) u := cell_rep hbr (by omega) hB (by have := hcell' k 0 _ _ hy rfl; simpa using this)
        have Rd0 := Lib.hid rd0
        clear rd0
        have hc := HC.out _ hmx _ hmy xV yV wr hbr Rc0.out Rd0.out
        have HK := Lib.hid hc
        have HX := Lib.hid hx
        have HY := Lib.hid hy
        clear hc hx hy hmx hmy hcell hcell' hat hat'
        go_wp2_with fail
        refine HK.out.mono ?_
        rintro e w3 ⟨rfl, hb3⟩
        have hB3 := hbr.trans (hb3.mono hbr.size)
        cases hb : p x y
        · have HF : Hid (same2 p xs ys = false) := same2_stop HX.out HY.out hb
          go_wp2_with fail
          go_ret
          exact ⟨ret_bool HF.out.symm, hB3⟩
        · have HQ := Lib.hid (same2_next HP.out HX.out HY.out hb)
          go_wp2_with fail
          go_roundw
          case rel => exact ⟨k + 1, by omega, by go_num, HQ, hB3⟩
          case measure => simp [intOf]; omega
      · have HF : Hid (same2 p xs ys = true) := same2_end hlt HN.out HM.out HP.out
        have hkn : k = n := by omega
        subst hkn
        go_wp2_with fail
        go_ret
        exact ⟨ret_bool HF.out.symm, hbr⟩
  · have HF : Hid (same2 p xs ys = false) := same2_ne (by have := HN.out; have := HM.out; omega)
    have hb : ((n : Int) != (n' : Int)) = true := by simp; omega
    clear hat hat'
    go_enter Try.func68, Try.ntmps68
    go_wp2_with fail
    go_ret
    exact ⟨ret_bool HF.out.symm, Below.refl _ _⟩
end Go.Proofs.Ytnedcpoengcbaaa
