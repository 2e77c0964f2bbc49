/-
  Names of sections, length-prefixed strings, the bytes of a section: spec.l17Name, l17Section, l17One, PutBytes; impl.ownName, sectionOk, PutBytes.
-/
import Derived.Test.YtlkfaednolmfkaaFam
import Derived.Test.YtlkfaednolmfkaaTy
import Derived.Test.YtlkfaednolmfkaaIdx
import Derived.Test.YtlkfaednolmfkaaLebW
import Derived.Test.YtlkfaednolmfkaaStrFunc
import Derived.Deep.RegionHeld3
namespace Go.Proofs.Ytlkfaednolmfkaa
open Go.RowKit
set_option linter.unusedVariables false
set_option linter.unusedSimpArgs false
set_option linter.unnecessarySimpa false
set_option maxRecDepth 16000

theorem size_wf {n : Nat} (h : n ≤ 9223372036854775807) : (Lit.int .i64 n).wf = true := by
  have : -9223372036854775808 ≤ (n : Int) ∧ (n : Int) ≤ 9223372036854775807 := ⟨by omega, by omega⟩
  simpa [Lit.wf, IntKind.min, IntKind.max, IntKind.signed, IntKind.bits] using this
def putB (s : ByteArray) : ByteArray := strOfNums (leb s.size) ++ s
theorem putB_size {s : ByteArray} (h : s.size ≤ 9223372036854775807) : (putB s).size ≤ s.size + 10 := by
  rw [putB, ByteArray.size_append, strOfNums_size]
  have := leb_ten (Int.natCast_nonneg s.size) (size_wf h)
  omega
theorem putB_ge (s : ByteArray) : s.size ≤ (putB s).size := by rw [putB, ByteArray.size_append]; omega
theorem specPutBytes_any (s : ByteArray) (hs : s.size ≤ 140737488355328) (w : World) : Calls Try.prog 84 #[.string s] w fun e w' => e = .returned (.string (putB s)) ∧ Below w.heap.size w w' := by
  have hten : (strOfNums (leb s.size)).size ≤ 10 := by rw [strOfNums_size]; exact leb_ten (Int.natCast_nonneg _) (size_wf (by omega))
  go_enter Try.func84, Try.ntmps84
  go_wp2_with fail
  refine (specPutLeb_any s.size (Int.natCast_nonneg _) (size_wf (by omega)) _).mono ?_
  rintro e w1 ⟨rfl, hb1⟩
  go_wp2_with fail
  go_ret
  exact ⟨rfl, hb1⟩
theorem length_any (s : ByteArray) (hs : s.size ≤ maxLen) (w : World) : Calls Try.prog 46 #[.string s] w fun e w' => e = .returned (.int .i64 s.size) ∧ w = w' := by
  unfold maxLen at hs
  go_enter Try.func46, Try.ntmps46
  go_wp2
  go_ret
  exact ⟨rfl, rfl⟩
theorem implPutBytes_any (s : ByteArray) (hs : s.size ≤ 140737488355328) (w : World) : Calls Try.prog 19 #[.string s] w fun e w' => e = .returned (.string (putB s)) ∧ Below w.heap.size w w' := by
  have hten : (strOfNums (leb s.size)).size ≤ 10 := by rw [strOfNums_size]; exact leb_ten (Int.natCast_nonneg _) (size_wf (by omega))
  go_enter Try.func19, Try.ntmps19
  go_wp2_with fail
  refine (length_any s (by unfold maxLen; omega) _).mono ?_
  rintro e w1 ⟨rfl, rfl⟩
  go_wp2_with fail
  refine (implPutLeb_any s.size (Int.natCast_nonneg _) (size_wf (by omega)) _).mono ?_
  rintro e w1 ⟨rfl, hb1⟩
  go_wp2_with fail
  go_ret
  exact ⟨rfl, hb1⟩
def nameCh (u : UInt8) : Bool := !(decide (u.toNat < 33) || decide (126 < u.toNat))
def nameB (s : ByteArray) : Bool := s.data.toList.all nameCh && inB s.size 1 40
theorem name_cases (u : UInt8) : (nameCh u = true ∧ 33 ≤ u.toNat ∧ u.toNat ≤ 126) ∨ (nameCh u = false ∧ (u.toNat < 33 ∨ 126 < u.toNat)) := by
  by_cases h : 33 ≤ u.toNat ∧ u.toNat ≤ 126
  · refine .inl ⟨?_, h⟩
    simp [nameCh]; omega
  · refine .inr ⟨?_, by omega⟩
    rw [Bool.eq_false_iff]
    simp [nameCh]; omega
theorem name_next {s : ByteArray} {k : Nat} (h : k < s.size) (hp : ∀ (j : Nat) (u : UInt8), j < k → s.data.toList[j]? = some u → nameCh u = true) (hu : nameCh s[k] = true) :
    ∀ (j : Nat) (u : UInt8), j < k + 1 → s.data.toList[j]? = some u → nameCh u = true := by
  intro j u hj hg
  by_cases e : j = k
  · subst e
    rw [Go.Proofs.byte_at s j h] at hg
    injection hg with hg
    rw [← hg]; exact hu
  · exact hp j u (by omega) hg
theorem name_all {s : ByteArray} (hp : ∀ (j : Nat) (u : UInt8), j < s.size → s.data.toList[j]? = some u → nameCh u = true) : nameB s = inB s.size 1 40 := by
  have : s.data.toList.all nameCh = true := all_true fun j x hx => hp j x (by have := (List.getElem?_eq_some_iff.1 hx).1; simpa using this) hx
  rw [nameB, this]; rfl
theorem name_none {s : ByteArray} {k : Nat} (h : k < s.size) (hu : nameCh s[k] = false) : nameB s = false := by
  rw [nameB, all_false (Go.Proofs.byte_at s k h) hu]; rfl
theorem name_long {s : ByteArray} (h : inB s.size 1 40 = false) : nameB s = false := by rw [nameB, h, Bool.and_false]
theorem specName_any (s : ByteArray) (hs : s.size ≤ maxLen) (w : World) :
    Calls Try.prog 81 #[.string s] w fun e w' => e = .returned (.bool (nameB s)) ∧ w = w' := by
  unfold maxLen at hs
  go_enter Try.func81, Try.ntmps81
  go_wp2_with fail
  go_loop [3] (fun i => ∃ k : Nat, k ≤ s.size ∧ k ≤ 41 ∧ i = .int .i64 k ∧ Hid (∀ (j : Nat) (u : UInt8), j < k → s.data.toList[j]? = some u → nameCh u = true)) (fun i => s.size - (intOf i).toNat)
  case atStart => exact ⟨0, Nat.zero_le _, by omega, rfl, Lib.hid fun j x h => absurd h (by omega)⟩
  case round =>
    obtain ⟨k, hk, hk2, rfl, HP⟩ := hrel
    by_cases hlt : k < s.size
    · by_cases h40 : k ≤ 40
      · have HC := Lib.hid (name_cases s[k])
        rcases HC.out with ⟨hb, h1, h2⟩ | ⟨hb, h | h⟩
        · have HB := Lib.hid (name_next hlt HP.out hb)
          clear hb HC
          go_wp2_with fail
          go_round
          case rel => exact ⟨k + 1, by omega, by omega, by go_num, HB⟩
          case measure => simp [intOf]; omega
        · have HB := Lib.hid (name_none hlt hb)
          clear hb HC
          go_wp2_with fail
          go_ret
          exact ⟨ret_bool HB.out.symm, rfl⟩
        · have HB := Lib.hid (name_none hlt hb)
          clear hb HC
          go_wp2_with fail
          go_ret
          exact ⟨ret_bool HB.out.symm, rfl⟩
      · have hin : inB s.size 1 40 = false := by rw [Bool.eq_false_iff]; simp [inB]; omega
        have HB := Lib.hid (name_long hin)
        go_wp2_with fail
        refine (l00In_any _ _ _ _).mono ?_
        rintro e w1 ⟨rfl, rfl⟩
        rw [hin]
        go_wp2_with fail
        go_ret
        exact ⟨ret_bool HB.out.symm, rfl⟩
    · have hkn : k = s.size := by omega
      have HB := Lib.hid (name_all (s := s) (by rw [hkn] at HP; exact HP.out))
      obtain ⟨R, hR⟩ : ∃ R, R = inB s.size 1 40 := ⟨_, rfl⟩
      have HR := Lib.hid hR
      clear hkn hR
      go_wp2_with fail
      refine (l00In_any _ _ _ _).mono ?_
      rintro e w1 ⟨rfl, rfl⟩
      go_wp2_with fail
      go_ret
      exact ⟨ret_bool HB.out.symm, rfl⟩
theorem ownName1_enter (a : Array Value) (W : World) : Sem.run Try.prog (callFunc 88 a) W = .ok (.enter 88 a) W := by kernel_rfl
theorem ownName1_any (r : Nat) (w : World) : Calls Try.prog 88 (#[.int .i32 (r : Int)] ++ #[]) w fun e w' => e = .returned (.bool (decide (r < 33) || decide (126 < r))) ∧ w = w' := by
  by_cases h1 : r < 33
  · go_enter Try.func88, Try.ntmps88
    go_wp2_with fail
    go_ret
    exact ⟨ret_bool (by simp [h1]), rfl⟩
  · by_cases h2 : 126 < r
    all_goals
      go_enter Try.func88, Try.ntmps88
      go_wp2_with fail
      go_ret
      exact ⟨ret_bool (by rw [show decide ((r : Int) < 33) = decide (r < 33) from decide_eq_decide.2 (by omega), show decide (126 < (r : Int)) = decide (126 < r) from decide_eq_decide.2 (by omega)]), rfl⟩
theorem ownName_any (s : ByteArray) (hs : s.size ≤ maxLen) (w : World) :
    Calls Try.prog 83 #[.string s] w fun e w' => e = .returned (.bool (nameB s)) ∧ Below w.heap.size w w' := by
  cases hin : inB s.size 1 40
  · have HB := Lib.hid (name_long hin)
    go_enter Try.func83, Try.ntmps83
    go_wp2_with fail
    refine (length_any s hs _).mono ?_
    rintro e w1 ⟨rfl, rfl⟩
    go_wp2_with fail
    refine (within_any _ _ _ _).mono ?_
    rintro e w1 ⟨rfl, rfl⟩
    rw [hin]
    go_wp2_with fail
    go_ret
    exact ⟨ret_bool HB.out.symm, Below.refl _ _⟩
  · have HA : Hid (decide (0 ≤ Lib.idxFunc (fun r => decide (r < 33) || decide (126 < r)) true s) = !nameB s) := by
      show _ = _
      rw [idx_all (fun r hr => by simp; omega) s, nameB, hin, Bool.and_true, List.all_eq_not_any_not, Bool.not_not]
      congr 1
      funext b
      simp [nameCh]
    go_enter Try.func83, Try.ntmps83
    go_wp2_with fail
    refine (length_any s hs _).mono ?_
    rintro e w1 ⟨rfl, rfl⟩
    go_wp2_with fail
    refine (within_any _ _ _ _).mono ?_
    rintro e w1 ⟨rfl, rfl⟩
    rw [hin]
    go_wp2_with fail
    refine (strContains_any 88 _ s _ ownName1_enter (fun r W => ownName1_any r W)).mono ?_
    rintro e w1 ⟨rfl, hb1⟩
    rw [HA.out]
    go_wp2_with fail
    go_ret
    exact ⟨ret_bool (by simp), hb1⟩
def secB : Section → Bool | .mk id name bytes => if id = 0 then nameB name else inB id 1 4 && decide (name = ⟨#[]⟩)
set_option maxHeartbeats 800000 in
theorem specSection_any (id : Int) (name bytes : ByteArray) (hn : name.size ≤ maxLen) (w : World) :
    Calls Try.prog 70 #[.agg #[.int .i64 id, .string name, .string bytes]] w fun e w' => e = .returned (.bool (secB ⟨id, name, bytes⟩)) ∧ Below w.heap.size w w' := by
  obtain ⟨R, hR⟩ : ∃ R, R = secB ⟨id, name, bytes⟩ := ⟨_, rfl⟩
  rw [← hR]
  rw [secB] at hR
  have HR := Lib.hid hR
  clear hR
  by_cases h0 : id = 0
  · subst h0
    have HF : Hid (R = nameB name) := by show _ = _; rw [HR.out, if_pos rfl]
    go_enter Try.func70, Try.ntmps70
    go_wp2_with fail
    obtain ⟨w0, hw0⟩ : ∃ W, W = w.alloc (.cells #[.int .i64 0, .string name, .string bytes] 64) := ⟨_, rfl⟩
    rw [← hw0]
    have bA : Blk w0 w.heap.size 64 #[.int .i64 0, .string name, .string bytes] := by rw [hw0]; exact Blk.new w _ _
    have hB0 : Below w.heap.size w w0 := by rw [hw0]; exact (Below.refl _ _).alloc (Nat.le_refl _) _
    clear hw0
    refine (specName_any name hn _).mono ?_
    rintro e w1 ⟨rfl, rfl⟩
    go_wp2_with fail
    go_ret
    exact ⟨ret_bool HF.out.symm, hB0⟩
  · have hid : (id == 0) = false := by simpa using h0
    have HF : Hid (R = (inB id 1 4 && decide (name = ⟨#[]⟩))) := by show _ = _; rw [HR.out, if_neg h0]
    go_enter Try.func70, Try.ntmps70
    go_wp2_with fail
    obtain ⟨w0, hw0⟩ : ∃ W, W = w.alloc (.cells #[.int .i64 id, .string name, .string bytes] 64) := ⟨_, rfl⟩
    rw [← hw0]
    have bA : Blk w0 w.heap.size 64 #[.int .i64 id, .string name, .string bytes] := by rw [hw0]; exact Blk.new w _ _
    have hB0 : Below w.heap.size w w0 := by rw [hw0]; exact (Below.refl _ _).alloc (Nat.le_refl _) _
    clear hw0
    have a_id : w0.cell? ⟨w.heap.size, 0, none⟩ = some (.int .i64 id) := bA.cell 0
    have a_name : w0.cell? ⟨w.heap.size, 1, none⟩ = some (.string name) := bA.cell 1
    have a_bytes : w0.cell? ⟨w.heap.size, 2, none⟩ = some (.string bytes) := bA.cell 2
    cases hin : inB id 1 4
    · refine (l00In_any _ _ _ _).mono ?_
      rintro e w1 ⟨rfl, rfl⟩
      rw [hin]
      go_wp2_with fail
      go_ret
      exact ⟨ret_bool (by rw [HF.out, hin]; rfl), hB0⟩
    · by_cases hnm : name = ⟨#[]⟩
      · subst hnm
        refine (l00In_any _ _ _ _).mono ?_
        rintro e w1 ⟨rfl, rfl⟩
        rw [hin]
        go_wp2_with fail
        go_ret
        exact ⟨ret_bool (by rw [HF.out, hin]; simp [h0]), hB0⟩
      · have hs2 : (name.toList == (ByteArray.mk #[]).toList) = false := str_ne2 hnm
        have hs3 : ¬ name.toList = [] := by simpa using hs2
        refine (l00In_any _ _ _ _).mono ?_
        rintro e w1 ⟨rfl, rfl⟩
        rw [hin]
        go_wp2_with fail
        go_ret
        exact ⟨ret_bool (by rw [HF.out, hin]; simp [hnm, hs2, hs3, h0]), hB0⟩
set_option maxHeartbeats 800000 in
theorem sectionOk_any (id : Int) (name bytes : ByteArray) (hn : name.size ≤ maxLen) (w : World) :
    Calls Try.prog 72 #[.agg #[.int .i64 id, .string name, .string bytes]] w fun e w' => e = .returned (.bool (secB ⟨id, name, bytes⟩)) ∧ Below w.heap.size w w' := by
  obtain ⟨R, hR⟩ : ∃ R, R = secB ⟨id, name, bytes⟩ := ⟨_, rfl⟩
  rw [← hR]
  rw [secB] at hR
  have HR := Lib.hid hR
  clear hR
  go_enter Try.func72, Try.ntmps72
  go_wp2_with fail
  obtain ⟨w0, hw0⟩ : ∃ W, W = w.alloc (.cells #[.int .i64 id, .string name, .string bytes] 64) := ⟨_, rfl⟩
  rw [← hw0]
  have bA : Blk w0 w.heap.size 64 #[.int .i64 id, .string name, .string bytes] := by rw [hw0]; exact Blk.new w _ _
  have hB0 : Below w.heap.size w w0 := by rw [hw0]; exact (Below.refl _ _).alloc (Nat.le_refl _) _
  clear hw0
  have a_id : w0.cell? ⟨w.heap.size, 0, none⟩ = some (.int .i64 id) := bA.cell 0
  have a_name : w0.cell? ⟨w.heap.size, 1, none⟩ = some (.string name) := bA.cell 1
  have a_bytes : w0.cell? ⟨w.heap.size, 2, none⟩ = some (.string bytes) := bA.cell 2
  refine (within_any _ _ _ _).mono ?_
  rintro e w1 ⟨rfl, rfl⟩
  by_cases h0 : id = 0
  · subst h0
    have hin : inB 0 0 4 = true := rfl
    rw [hin]
    have HF : Hid (R = nameB name) := by show _ = _; rw [HR.out, if_pos rfl]
    go_wp2_with fail
    refine (ownName_any name hn _).mono ?_
    rintro e w1 ⟨rfl, hb1⟩
    have b0 : w1.cell? ⟨w.heap.size, 0, none⟩ = some (.int .i64 0) := (bA.step hb1).cell 0
    cases hnb : nameB name
    all_goals
      go_wp2_with fail
      go_ret
      exact ⟨ret_bool (by rw [HF.out, hnb]), hB0.trans (hb1.mono hB0.size)⟩
  · have hid : (id == 0) = false := by simpa using h0
    have hin' : inB id 0 4 = inB id 1 4 := by
      rw [Bool.eq_iff_iff, inB_iff, inB_iff]
      omega
    have HF : Hid (R = (inB id 1 4 && decide (name = ⟨#[]⟩))) := by show _ = _; rw [HR.out, if_neg h0]
    rw [hin']
    cases hin : inB id 1 4
    · go_wp2_with fail
      go_ret
      exact ⟨ret_bool (by rw [HF.out, hin]; rfl), hB0⟩
    · by_cases hnm : name = ⟨#[]⟩
      · subst hnm
        go_wp2_with fail
        go_ret
        exact ⟨ret_bool (by rw [HF.out, hin]; simp [h0]), hB0⟩
      · have hs2 : (name.toList == (ByteArray.mk #[]).toList) = false := str_ne2 hnm
        have hs3 : ¬ name.toList = [] := by simpa using hs2
        go_wp2_with fail
        go_ret
        exact ⟨ret_bool (by rw [HF.out, hin]; simp [hnm, hs2, hs3, h0]), hB0⟩
def secOne : Section → ByteArray | .mk id name bytes => if id = 0 then strOfNums [0] ++ putB (putB name ++ bytes) else strOfNums [id] ++ putB bytes
theorem secB_id {id : Int} {name bytes : ByteArray} (h : secB ⟨id, name, bytes⟩ = true) : 0 ≤ id ∧ id ≤ 4 := by
  rw [secB] at h
  split at h
  · omega
  · rw [Bool.and_eq_true, inB_iff] at h; omega
theorem secOne_size {id : Int} {name bytes : ByteArray} (hn : name.size ≤ 1048576) (hb : bytes.size ≤ 1048576) : (secOne ⟨id, name, bytes⟩).size ≤ 2097180 := by
  have h1 := putB_size (s := name) (by omega)
  have h2 := putB_size (s := bytes) (by omega)
  have h3 := putB_size (s := putB name ++ bytes) (by rw [ByteArray.size_append]; omega)
  rw [ByteArray.size_append] at h3
  rw [secOne]
  split
  · rw [ByteArray.size_append, strOfNums_size]
    simp only [List.length_cons, List.length_nil]; omega
  · rw [ByteArray.size_append, strOfNums_size]
    simp only [List.length_cons, List.length_nil]; omega
theorem secOne_ge (id : Int) (name bytes : ByteArray) : bytes.size ≤ (secOne ⟨id, name, bytes⟩).size := by
  have h2 := putB_ge bytes
  have h3 := putB_ge (putB name ++ bytes)
  rw [ByteArray.size_append] at h3
  rw [secOne]
  split <;> rw [ByteArray.size_append] <;> omega
set_option maxHeartbeats 1600000 in
theorem specOne_any (id : Int) (name bytes : ByteArray) (h0 : 0 ≤ id) (h4 : id ≤ 4) (hn : name.size ≤ 1048576) (hb : bytes.size ≤ 1048576) (w : World) :
    Calls Try.prog 73 #[.agg #[.int .i64 id, .string name, .string bytes]] w fun e w' => e = .returned (.string (secOne ⟨id, name, bytes⟩)) ∧ Below w.heap.size w w' := by
  obtain ⟨R, hR⟩ : ∃ R, R = secOne ⟨id, name, bytes⟩ := ⟨_, rfl⟩
  rw [← hR]
  rw [secOne] at hR
  have HR := Lib.hid hR
  clear hR
  have z1 : (strOfNums [id]).size ≤ 1 := Nat.le_of_eq (strOfNums_size _)
  have z1' : (strOfNums [0]).size ≤ 1 := Nat.le_of_eq (strOfNums_size _)
  have z2 : (putB name).size ≤ 1048600 := by have := putB_size (s := name) (by omega); omega
  have z3 : (putB bytes).size ≤ 1048600 := by have := putB_size (s := bytes) (by omega); omega
  have z5 : (putB name ++ bytes).size ≤ 2097180 := by rw [ByteArray.size_append]; omega
  have z4 : (putB (putB name ++ bytes)).size ≤ 2097190 := by have := putB_size (s := putB name ++ bytes) (by omega); omega
  by_cases hid0 : id = 0
  · subst hid0
    clear z1
    have y1 : (9223372036854775807 < (putB name).size + bytes.size) = False := eq_false (by omega)
    have y2 : (9223372036854775807 < (strOfNums [0]).size + (putB (putB name ++ bytes)).size) = False := eq_false (by omega)
    have HF : Hid (R = strOfNums [0] ++ putB (putB name ++ bytes)) := by show _ = _; rw [HR.out, if_pos rfl]
    go_enter Try.func73, Try.ntmps73
    go_wp2_with fail
    obtain ⟨w0, hw0⟩ : ∃ W, W = w.alloc (.cells #[.int .i64 0, .string name, .string bytes] 64) := ⟨_, rfl⟩
    rw [← hw0]
    have bA : Blk w0 w.heap.size 64 #[.int .i64 0, .string name, .string bytes] := by rw [hw0]; exact Blk.new w _ _
    have hB0 : Below w.heap.size w w0 := by rw [hw0]; exact (Below.refl _ _).alloc (Nat.le_refl _) _
    clear hw0
    have hBc := hB0.drew
    have bA' : Blk w0.drew w.heap.size 64 #[.int .i64 0, .string name, .string bytes] := bA
    clear bA
    go_region_held3 (fun w' => w'.cell? ⟨w.heap.size, 0, none⟩ = some (.int .i64 0) ∧ w'.cell? ⟨w.heap.size, 1, none⟩ = some (.string name) ∧ w'.cell? ⟨w.heap.size, 2, none⟩ = some (.string bytes))
      (first | exact ⟨bA'.cell 0, bA'.cell 1, bA'.cell 2⟩ | go_keep)
      (first
        | (go_at_call 61; refine (specFix_any 0 (by omega) (by omega) _).mono ?_; rintro e wq ⟨rfl, hbq⟩; replace hBc := hBc.trans (hbq.mono hBc.size); replace bA' := bA'.step hbq)
        | (go_at_call 84; refine (specPutBytes_any name (by omega) _).mono ?_; rintro e wq ⟨rfl, hbq⟩; replace hBc := hBc.trans (hbq.mono hBc.size); replace bA' := bA'.step hbq)
        | (go_at_call 84; refine (specPutBytes_any (putB name ++ bytes) (by omega) _).mono ?_; rintro e wq ⟨rfl, hbq⟩; replace hBc := hBc.trans (hbq.mono hBc.size); replace bA' := bA'.step hbq))
    all_goals
      go_wp2_with fail
      go_ret
      exact ⟨ret_str HF.out.symm, hBc⟩
  · have hid : (id == 0) = false := by simpa using hid0
    have y2 : (9223372036854775807 < (strOfNums [id]).size + (putB bytes).size) = False := eq_false (by omega)
    have HF : Hid (R = strOfNums [id] ++ putB bytes) := by show _ = _; rw [HR.out, if_neg hid0]
    go_enter Try.func73, Try.ntmps73
    go_wp2_with fail
    obtain ⟨w0, hw0⟩ : ∃ W, W = w.alloc (.cells #[.int .i64 id, .string name, .string bytes] 64) := ⟨_, rfl⟩
    rw [← hw0]
    have bA : Blk w0 w.heap.size 64 #[.int .i64 id, .string name, .string bytes] := by rw [hw0]; exact Blk.new w _ _
    have hB0 : Below w.heap.size w w0 := by rw [hw0]; exact (Below.refl _ _).alloc (Nat.le_refl _) _
    clear hw0
    have hBc := hB0.drew
    have bA' : Blk w0.drew w.heap.size 64 #[.int .i64 id, .string name, .string bytes] := bA
    clear bA
    go_region_held3 (fun w' => w'.cell? ⟨w.heap.size, 0, none⟩ = some (.int .i64 id) ∧ w'.cell? ⟨w.heap.size, 1, none⟩ = some (.string name) ∧ w'.cell? ⟨w.heap.size, 2, none⟩ = some (.string bytes))
      (first | exact ⟨bA'.cell 0, bA'.cell 1, bA'.cell 2⟩ | go_keep)
      (first
        | (go_at_call 61; refine (specFix_any id (by omega) (by omega) _).mono ?_; rintro e wq ⟨rfl, hbq⟩; replace hBc := hBc.trans (hbq.mono hBc.size); replace bA' := bA'.step hbq)
        | (go_at_call 84; refine (specPutBytes_any bytes (by omega) _).mono ?_; rintro e wq ⟨rfl, hbq⟩; replace hBc := hBc.trans (hbq.mono hBc.size); replace bA' := bA'.step hbq))
    all_goals
      go_wp2_with fail
      go_ret
      exact ⟨ret_str HF.out.symm, hBc⟩
end Go.Proofs.Ytlkfaednolmfkaa

