/-
  The sections but the own ones: the plain law (decoding is canonical, so the sizes hold).
-/
import Derived.Test.YtlkfaednolmfkaaSecL
import Derived.Test.YtlkfaednolmfkaaSecB
namespace Go.Proofs.Ytlkfaednolmfkaa
open Go.RowKit
set_option linter.unusedVariables false
set_option linter.unusedSimpArgs false
set_option linter.unnecessarySimpa false
set_option maxRecDepth 16000

def isOwnB : Section → Bool | .mk id _ _ => id == 0
def stripL (ts : List Section) : List Section := ts.filter fun t => !isOwnB t
theorem stripL_succ {ts : List Section} {k : Nat} {t : Section} (h : ts[k]? = some t) : stripL (ts.take (k + 1)) = if isOwnB t then stripL (ts.take k) else stripL (ts.take k) ++ [t] := by
  rw [List.take_add_one, h, stripL, List.filter_append, ← stripL]
  cases hb : isOwnB t <;> simp [hb]
theorem stripL_own {ts : List Section} {k : Nat} {t : Section} (h : ts[k]? = some t) (hb : isOwnB t = true) : stripL (ts.take (k + 1)) = stripL (ts.take k) := by rw [stripL_succ h, if_pos hb]
theorem stripL_not {ts : List Section} {k : Nat} {t : Section} (h : ts[k]? = some t) (hb : isOwnB t = false) : stripL (ts.take (k + 1)) = stripL (ts.take k) ++ [t] := by rw [stripL_succ h, hb]; rfl
theorem stripL_len (ts : List Section) : (stripL ts).length ≤ ts.length := List.length_filter_le _ _
theorem stripL_none {ts : List Section} (h : ∀ (j : Nat) (t : Section), ts[j]? = some t → isOwnB t = false) : stripL ts = ts := by
  refine List.filter_eq_self.2 fun t ht => ?_
  obtain ⟨j, hj⟩ := List.getElem?_of_mem ht
  rw [h j t hj]; rfl
theorem stripL_pre {ts : List Section} {k : Nat} (h : ∀ (j : Nat) (t : Section), j < k → ts[j]? = some t → isOwnB t = false) : stripL (ts.take k) = ts.take k := by
  refine stripL_none fun j t hj => ?_
  rw [List.getElem?_take] at hj
  split at hj
  · rename_i hlt; exact h j t hlt hj
  · cases hj
/-! ### the sizes -/
theorem getLeb_len {s : ByteArray} {n : Int} {m : Nat} (h : getLeb s = some (n, m)) : (leb n).length = m := by
  rw [getLeb] at h
  split at h
  · cases h
  · rename_i k hp
    split at h
    · rename_i he
      injection h with h
      injection h with h1 h2
      subst h1 h2
      have h3 := congrArg ByteArray.size he
      rw [strOfNums_size, ByteArray.size_extract] at h3
      have := (pref_le hp).2
      rw [byt_length] at this
      omega
    · cases h
theorem getB_size {s t : ByteArray} {m : Nat} (h : getB s = some (t, m)) : (putB t).size ≤ m := by
  rw [getB] at h
  split at h
  · cases h
  · rename_i n k hl
    split at h
    · rename_i hn
      injection h with h
      injection h with h1 h2
      subst h1 h2
      have h0 := getLeb_nonneg hl
      have h3 := getLeb_len hl
      have hsz : (s.extract k (k + n.toNat)).size = n.toNat := by rw [ByteArray.size_extract]; omega
      rw [putB, ByteArray.size_append, hsz, strOfNums_size, show ((n.toNat : Nat) : Int) = n by omega, h3]
      omega
    · cases h
def wt : List Section → Nat
  | [] => 0
  | t :: l => (if isOwnB t then 0 else (secOne t).size) + wt l
theorem readR_wt {s : ByteArray} {x : Section} {m : Nat} (h : readR s = some (x, m)) : (if isOwnB x then 0 else (secOne x).size) ≤ m := by
  rw [readR] at h
  split at h
  · cases h
  split at h
  · cases h
  rename_i all many hg
  have h1 := getB_size hg
  split at h
  · cases h
  rename_i x' hx
  split at h
  · injection h with h
    injection h with h2 h3
    subst h2 h3
    rw [secAt] at hx
    split at hx
    · split at hx
      · cases hx
      · injection hx with hx
        subst hx
        simp [isOwnB]
    · rename_i hne
      injection hx with hx
      subst hx
      rw [show isOwnB ⟨op0 s, ⟨#[]⟩, all⟩ = false by simpa [isOwnB] using hne]
      rw [secOne, if_neg hne, ByteArray.size_append, strOfNums_size]
      simp only [Bool.false_eq_true, if_false, List.length_cons, List.length_nil]
      omega
  · cases h
theorem secsR_wt : ∀ {r : Nat} {s : ByteArray} {l : List Section}, secsR r s = some l → wt l ≤ s.size
  | 0, s, l, h => by
    rw [secsR] at h
    split at h
    · injection h with h
      subst h
      simp [wt]
    · cases h
  | r + 1, s, l, h => by
    rw [secsR] at h
    split at h
    · injection h with h
      subst h
      simp [wt]
    · split at h
      · cases h
      · rename_i x m hr
        obtain ⟨q, hq, rfl⟩ := Option.map_eq_some_iff.1 h
        have h1 := secsR_wt hq
        have h2 := readR_wt hr
        have h3 := (readR_le hr).2.1
        rw [ByteArray.size_extract] at h1
        rw [wt]
        omega
theorem strip_fold : ∀ (l : List Section) (s : ByteArray), ((stripL l).foldl (fun s t => s ++ secOne t) s).size = s.size + wt l
  | [], s => rfl
  | t :: l, s => by
    rw [wt]
    cases hb : isOwnB t
    · rw [show stripL (t :: l) = t :: stripL l by simp [stripL, hb], List.foldl_cons, strip_fold l, ByteArray.size_append]
      simp
      omega
    · rw [show stripL (t :: l) = stripL l by simp [stripL, hb], strip_fold l]
      simp
theorem strip_all (l : List Section) : (secsAt (stripL l) (stripL l).length).size = 5 + wt l := by
  rw [secsAt, List.take_length, strip_fold]
  rfl
theorem strip_szL : ∀ l : List Section, (∀ t ∈ l, secB t = true) → PD.szL ((stripL l).flatMap Section.pd) ≤ wt l
  | [], _ => by simp [stripL, PD.szL, wt]
  | t :: l, h => by
    have ih := strip_szL l fun x hx => h x (by simp [hx])
    rw [wt]
    cases hb : isOwnB t
    · obtain ⟨id, name, bytes⟩ := t
      have hid : ¬ id = 0 := by simpa [isOwnB] using hb
      have hs := h ⟨id, name, bytes⟩ (by simp)
      rw [secB, if_neg hid] at hs
      have hn : name = ⟨#[]⟩ := by
        rw [Bool.and_eq_true] at hs
        exact of_decide_eq_true hs.2
      have hg := secOne_ge id name bytes
      rw [show stripL (⟨id, name, bytes⟩ :: l) = ⟨id, name, bytes⟩ :: stripL l by simp [stripL, hb], List.flatMap_cons, szL_append, Section.pd_mk]
      have hn0 : name.size = 0 := by rw [hn]; rfl
      simp only [PD.szL, PD.sz]
      simp
      omega
    · rw [show stripL (t :: l) = stripL l by simp [stripL, hb]]
      simp
      exact ih
theorem secRes_cases (s : ByteArray) : ((secRes s).2 = 0 ∧ s.size ≤ 30000 ∧ 5 ≤ s.size ∧ secsR 20 (s.extract 5 s.size) = some (secRes s).1) ∨ ((secRes s).2 ≠ 0 ∧ (secRes s).1 = []) := by
  rw [secRes]
  split
  · exact .inr ⟨by decide, rfl⟩
  · split
    · exact .inr ⟨by decide, rfl⟩
    · rename_i h1 h2
      cases h : secsR 20 (s.extract 5 s.size) with
      | none => exact .inr ⟨by decide, rfl⟩
      | some l => exact .inl ⟨rfl, by omega, by by_cases h3 : s.size < 5; exact absurd (.inl h3) h2; omega, rfl⟩
def stripR (s : ByteArray) : ByteArray × Int := if (secRes s).2 = 0 then (secsAt (stripL (secRes s).1) (stripL (secRes s).1).length, 0) else (⟨#[]⟩, (secRes s).2)
theorem stripR_no {s : ByteArray} (h : ¬ (secRes s).2 = 0) : stripR s = (⟨#[]⟩, (secRes s).2) := if_neg h
theorem stripR_yes {s : ByteArray} (h : (secRes s).2 = 0) : stripR s = (secsAt (stripL (secRes s).1) (stripL (secRes s).1).length, 0) := if_pos h
/-- what holds of the sections left: few, well formed, small -/
def StripFit (l : List Section) : Prop := l.length ≤ 20 ∧ l.any secBad = false ∧ (PD.row 3 (l.flatMap Section.pd)).sz ≤ 1048576 ∧ secsS l = secsAt l l.length
theorem strip_fit {s : ByteArray} (h : (secRes s).2 = 0) : StripFit (stripL (secRes s).1) := by
  rcases secRes_cases s with ⟨_, h1, h5, h2⟩ | ⟨h1, _⟩
  case inr => exact absurd h h1
  obtain ⟨l, hl⟩ : ∃ l, l = (secRes s).1 := ⟨_, rfl⟩
  rw [← hl] at h2 ⊢
  obtain ⟨h3, h4⟩ := secsR_len h2
  have h6 := secsR_wt h2
  rw [ByteArray.size_extract] at h6
  have h7 := strip_all l
  have h8 := strip_szL l h4
  have h9 := stripL_len l
  have hbad : (stripL l).any secBad = false := List.any_eq_false.2 fun x hx => by
    rw [secBad, h4 x (List.mem_filter.1 hx).1]
    simp
  refine ⟨by omega, hbad, ?_, secsS_all (by omega) hbad (by omega)⟩
  rw [sz_row Section.pd_length (by decide)]
  omega
end Go.Proofs.Ytlkfaednolmfkaa

