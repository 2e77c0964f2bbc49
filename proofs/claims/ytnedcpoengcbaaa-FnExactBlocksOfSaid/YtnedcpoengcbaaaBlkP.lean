/-
  BlocksOf: the plain law: one step, the run, both reckonings agree; rows of CodeBlocks.
-/
import Derived.Test.YtnedcpoengcbaaaCoreK
import Derived.Test.YtnedcpoengcbaaaGrw
namespace Go.Proofs.Ytnedcpoengcbaaa
open Go.RowKit
set_option linter.unusedVariables false
set_option linter.unusedSimpArgs false
set_option linter.unnecessarySimpa false

def cbC (b : CodeBlock) : List Value := [.int .i64 b.at_, .int .i64 b.els, .int .i64 b.end_, .int .i64 b.height, .bool b.result]
def cbV (bs : List CodeBlock) : List Value := bs.flatMap cbC
def ixV (op : List Nat) : List Value := op.map fun (j : Nat) => Value.int .i64 (j : Int)
def opensB (o : Int) : Bool := decide (o = 24) || decide (o = 25) || decide (o = 26)
def opAt (code : List Ins) (a : Int) : Int := match code[a.toNat]? with
  | some i => i.op
  | none => 0
def blkStep (E : Int) (code : List Ins) (k : Nat) (bs : List CodeBlock) (op : List Nat) (i : Ins) : Int × List CodeBlock × List Nat :=
  if opensB i.op = true then (if op.length = 6 then (4, [], []) else (0, bs ++ [⟨(k : Int), -1, E, 0, decide (i.a = 1)⟩], op ++ [bs.length]))
  else if i.op = 27 then (match op[op.length - 1]? with
    | none => (5, [], [])
    | some j => match bs[j]? with
      | none => (5, [], [])
      | some b => if opAt code b.at_ ≠ 26 ∨ 0 ≤ b.els then (5, [], []) else (0, bs.set j ⟨b.at_, (k : Int), b.end_, b.height, b.result⟩, op))
  else if i.op = 28 then (match op[op.length - 1]? with
    | none => (5, [], [])
    | some j => match bs[j]? with
      | none => (5, [], [])
      | some b => if opAt code b.at_ = 26 ∧ b.result = true ∧ b.els < 0 then (7, [], []) else (0, bs.set j ⟨b.at_, b.els, (k : Int), b.height, b.result⟩, op.dropLast))
  else (0, bs, op)
def blkRun (E : Int) (code : List Ins) : Nat → List CodeBlock → List Nat → List Ins → List CodeBlock × Int × Int
  | k, bs, op, [] => if op = [] then (bs, 0, 0) else ([], (k : Int), 5)
  | k, bs, op, i :: r => if (blkStep E code k bs op i).1 = 0 then blkRun E code (k + 1) (blkStep E code k bs op i).2.1 (blkStep E code k bs op i).2.2 r else ([], (k : Int), (blkStep E code k bs op i).1)
theorem run_at {E : Int} {code : List Ins} {k : Nat} {bs : List CodeBlock} {op : List Nat} {l : List Ins} {i : Ins} (h : l[k]? = some i) :
    blkRun E code k bs op (l.drop k) = if (blkStep E code k bs op i).1 = 0 then blkRun E code (k + 1) (blkStep E code k bs op i).2.1 (blkStep E code k bs op i).2.2 (l.drop (k + 1)) else ([], (k : Int), (blkStep E code k bs op i).1) := by
  obtain ⟨hk, he⟩ := List.getElem?_eq_some_iff.1 h
  rw [List.drop_eq_getElem_cons hk, he, blkRun]
theorem run_ok {E : Int} {code : List Ins} {k : Nat} {bs bs2 : List CodeBlock} {op op2 : List Nat} {l : List Ins} {i : Ins} (h : l[k]? = some i) (hs : blkStep E code k bs op i = (0, bs2, op2)) :
    blkRun E code k bs op (l.drop k) = blkRun E code (k + 1) bs2 op2 (l.drop (k + 1)) := by rw [run_at h, hs, if_pos rfl]
theorem run_no {E c : Int} {code : List Ins} {k : Nat} {bs : List CodeBlock} {op : List Nat} {l : List Ins} {i : Ins} (h : l[k]? = some i) (hs : blkStep E code k bs op i = (c, [], [])) (hc : c ≠ 0) :
    blkRun E code k bs op (l.drop k) = ([], (k : Int), c) := by rw [run_at h, hs, if_neg hc]
structure BInv (k : Nat) (bs : List CodeBlock) (op : List Nat) : Prop where
  at_ : ∀ (j : Nat) (b : CodeBlock), bs[j]? = some b → ∃ a : Nat, b.at_ = (a : Int) ∧ a < k
  lt : ∀ j ∈ op, j < bs.length
  six : op.length ≤ 6
  len : bs.length ≤ k
theorem BInv.nil : BInv 0 [] [] := ⟨fun j b h => by simp at h, fun j h => by simp at h, by simp, by simp⟩
theorem BInv.next {k : Nat} {bs : List CodeBlock} {op : List Nat} (h : BInv k bs op) : BInv (k + 1) bs op :=
  ⟨fun j b hb => by obtain ⟨a, h1, h2⟩ := h.at_ j b hb; exact ⟨a, h1, by omega⟩, h.lt, h.six, by have := h.len; omega⟩
theorem BInv.push {k : Nat} {bs : List CodeBlock} {op : List Nat} (h : BInv k bs op) (h6 : op.length ≠ 6) (E : Int) (r : Bool) : BInv (k + 1) (bs ++ [⟨(k : Int), -1, E, 0, r⟩]) (op ++ [bs.length]) := by
  refine ⟨fun j b hb => ?_, fun j hj => ?_, ?_, ?_⟩
  · rw [List.getElem?_append] at hb
    split at hb
    · obtain ⟨a, h1, h2⟩ := h.at_ j b hb; exact ⟨a, h1, by omega⟩
    · rename_i hl
      have : j - bs.length = 0 := by
        rcases Nat.eq_zero_or_pos (j - bs.length) with h | h
        · exact h
        · rw [List.getElem?_eq_none (by simp; omega)] at hb; cases hb
      rw [this] at hb
      simp at hb
      subst hb
      exact ⟨k, rfl, Nat.lt_succ_self _⟩
  · rw [List.length_append, List.length_singleton]
    rcases List.mem_append.1 hj with h1 | h1
    · have := h.lt j h1; omega
    · rw [List.mem_singleton] at h1; omega
  · rw [List.length_append, List.length_singleton]; have := h.six; omega
  · rw [List.length_append, List.length_singleton]; have := h.len; omega
theorem BInv.set {k j : Nat} {bs : List CodeBlock} {op : List Nat} {b b2 : CodeBlock} (h : BInv k bs op) (hj : bs[j]? = some b) (he : b2.at_ = b.at_) : BInv (k + 1) (bs.set j b2) op := by
  refine ⟨fun i c hc => ?_, fun i hi => by rw [List.length_set]; exact h.lt i hi, h.six, by rw [List.length_set]; have := h.len; omega⟩
  rw [List.getElem?_set] at hc
  split at hc
  · split at hc
    · injection hc with hc
      subst hc
      obtain ⟨a, h1, h2⟩ := h.at_ j b hj
      exact ⟨a, by rw [he]; exact h1, by omega⟩
    · cases hc
  · obtain ⟨a, h1, h2⟩ := h.at_ i c hc; exact ⟨a, h1, by omega⟩
theorem BInv.pop {k : Nat} {bs : List CodeBlock} {op : List Nat} (h : BInv k bs op) : BInv k bs op.dropLast :=
  ⟨h.at_, fun j hj => h.lt j (List.dropLast_subset op hj), by rw [List.length_dropLast]; have := h.six; omega, h.len⟩
/-- what two runs hold in common that lay the end of an open block otherwise -/
structure BRel (op : List Nat) (cs bs : List CodeBlock) : Prop where
  len : cs.length = bs.length
  same : ∀ (j : Nat) (a b : CodeBlock), cs[j]? = some a → bs[j]? = some b → a.at_ = b.at_ ∧ a.els = b.els ∧ a.height = b.height ∧ a.result = b.result ∧ (j ∉ op → a.end_ = b.end_)
  lt : ∀ j ∈ op, j < cs.length
  ord : op.Pairwise (· < ·)
theorem last_mem {op : List Nat} {j : Nat} (h : op[op.length - 1]? = some j) : op = op.dropLast ++ [j] := by
  have hne : op ≠ [] := fun e => by subst e; simp at h
  have h2 := List.dropLast_concat_getLast hne
  rw [← List.getLast?_eq_getElem?, List.getLast?_eq_some_getLast hne] at h
  injection h with h
  rw [← h]; exact h2.symm
theorem BRel.done {cs bs : List CodeBlock} (h : BRel [] cs bs) : cs = bs := by
  apply List.ext_getElem? 
  intro j
  by_cases hj : j < cs.length
  · obtain ⟨a, ha⟩ : ∃ a, cs[j]? = some a := ⟨_, List.getElem?_eq_getElem hj⟩
    obtain ⟨b, hb⟩ : ∃ b, bs[j]? = some b := ⟨_, List.getElem?_eq_getElem (by have := h.len; omega)⟩
    obtain ⟨h1, h2, h3, h4, h5⟩ := h.same j _ _ ha hb
    rw [ha, hb]
    congr 1
    cases a; cases b
    simp at h1 h2 h3 h4 h5
    simp [h1, h2, h3, h4, h5]
  · rw [List.getElem?_eq_none (by omega), List.getElem?_eq_none (by have := h.len; omega)]
theorem step_rel {E F : Int} {code : List Ins} {k : Nat} {cs bs : List CodeBlock} {op : List Nat} {i : Ins} (h : BRel op cs bs) :
    (blkStep E code k cs op i).1 = (blkStep F code k bs op i).1 ∧ ((blkStep E code k cs op i).1 = 0 → (blkStep E code k cs op i).2.2 = (blkStep F code k bs op i).2.2 ∧ BRel (blkStep E code k cs op i).2.2 (blkStep E code k cs op i).2.1 (blkStep F code k bs op i).2.1) := by
  unfold blkStep
  by_cases ho : opensB i.op = true
  · rw [if_pos ho, if_pos ho]
    by_cases h6 : op.length = 6
    · rw [if_pos h6, if_pos h6]; exact ⟨rfl, fun e => by cases e⟩
    · rw [if_neg h6, if_neg h6]
      refine ⟨rfl, fun _ => ⟨by simp [h.len], ⟨by simp [h.len], fun j a b ha hb => ?_, fun j hj => ?_, ?_⟩⟩⟩
      · simp only at ha hb ⊢
        rw [List.getElem?_append] at ha hb
        by_cases hj : j < cs.length
        · rw [if_pos hj] at ha
          rw [if_pos (by have := h.len; omega)] at hb
          obtain ⟨h1, h2, h3, h4, h5⟩ := h.same j a b ha hb
          exact ⟨h1, h2, h3, h4, fun hn => h5 fun hm => hn (List.mem_append_left _ hm)⟩
        · rw [if_neg hj] at ha
          rw [if_neg (by have := h.len; omega)] at hb
          by_cases h0 : j - cs.length = 0
          · rw [h0] at ha
            rw [← h.len, h0] at hb
            simp at ha hb
            subst ha hb
            refine ⟨rfl, rfl, rfl, rfl, fun hn => absurd ?_ hn⟩
            apply List.mem_append_right
            rw [List.mem_singleton]; omega
          · rw [List.getElem?_eq_none (by simp; omega)] at ha; cases ha
      · simp only [List.length_append, List.length_singleton]
        rcases List.mem_append.1 hj with h1 | h1
        · have := h.lt j h1; omega
        · rw [List.mem_singleton] at h1; omega
      · rw [List.pairwise_append]
        refine ⟨h.ord, by simp, fun x hx y hy => ?_⟩
        rw [List.mem_singleton] at hy
        subst hy
        exact h.lt x hx
  rw [if_neg ho, if_neg ho]
  have key : ∀ {j : Nat}, op[op.length - 1]? = some j → ∃ a b, cs[j]? = some a ∧ bs[j]? = some b := fun {j} hj => by
    have h1 := h.lt j (List.mem_of_getElem? hj)
    exact ⟨_, _, List.getElem?_eq_getElem h1, List.getElem?_eq_getElem (by have := h.len; omega)⟩
  by_cases h7 : i.op = 27
  · rw [if_pos h7, if_pos h7]
    cases hl : op[op.length - 1]? with
    | none => exact ⟨rfl, fun e => by cases e⟩
    | some j =>
      obtain ⟨a, b, ha, hb⟩ := key hl
      obtain ⟨s1, s2, s3, s4, s5⟩ := h.same j a b ha hb
      simp only [ha, hb]
      rw [s1, s2]
      by_cases hc : opAt code b.at_ ≠ 26 ∨ 0 ≤ b.els
      · rw [if_pos hc, if_pos hc]; exact ⟨rfl, fun e => by cases e⟩
      · rw [if_neg hc, if_neg hc]
        refine ⟨rfl, fun _ => ⟨rfl, ⟨by simp [h.len], fun x p q hp hq => ?_, fun x hx => by simp only [List.length_set]; exact h.lt x hx, h.ord⟩⟩⟩
        simp only at hp hq
        rw [List.getElem?_set] at hp hq
        by_cases hx : j = x
        · rw [if_pos hx] at hp hq
          split at hp
          · split at hq
            · injection hp with hp; injection hq with hq
              subst hp hq
              exact ⟨rfl, rfl, s3, s4, fun hn => s5 (by rw [hx]; exact hn)⟩
            · cases hq
          · cases hp
        · rw [if_neg hx] at hp hq
          exact h.same x p q hp hq
  rw [if_neg h7, if_neg h7]
  by_cases h8 : i.op = 28
  · rw [if_pos h8, if_pos h8]
    cases hl : op[op.length - 1]? with
    | none => exact ⟨rfl, fun e => by cases e⟩
    | some j =>
      obtain ⟨a, b, ha, hb⟩ := key hl
      obtain ⟨s1, s2, s3, s4, s5⟩ := h.same j a b ha hb
      simp only [ha, hb]
      rw [s1, s2, s4]
      by_cases hc : opAt code b.at_ = 26 ∧ b.result = true ∧ b.els < 0
      · rw [if_pos hc, if_pos hc]; exact ⟨rfl, fun e => by cases e⟩
      · rw [if_neg hc, if_neg hc]
        have hop := last_mem hl
        refine ⟨rfl, fun _ => ⟨rfl, ⟨by simp [h.len], fun x p q hp hq => ?_, fun x hx => by simp only [List.length_set]; exact h.lt x (List.dropLast_subset op hx), ?_⟩⟩⟩
        · simp only at hp hq ⊢
          rw [List.getElem?_set] at hp hq
          by_cases hx : j = x
          · rw [if_pos hx] at hp hq
            split at hp
            · split at hq
              · injection hp with hp; injection hq with hq
                subst hp hq
                exact ⟨rfl, rfl, s3, rfl, fun _ => rfl⟩
              · cases hq
            · cases hp
          · rw [if_neg hx] at hp hq
            obtain ⟨t1, t2, t3, t4, t5⟩ := h.same x p q hp hq
            refine ⟨t1, t2, t3, t4, fun hn => t5 fun hm => ?_⟩
            rw [hop] at hm
            rcases List.mem_append.1 hm with hm | hm
            · exact hn hm
            · rw [List.mem_singleton] at hm; exact hx hm.symm
        · have := h.ord
          rw [hop] at this
          exact (List.pairwise_append.1 this).1
  · rw [if_neg h8, if_neg h8]
    exact ⟨rfl, fun _ => ⟨rfl, h⟩⟩
theorem run_rel {E F : Int} {code : List Ins} : ∀ {l : List Ins} {k : Nat} {cs bs : List CodeBlock} {op : List Nat}, BRel op cs bs → blkRun E code k cs op l = blkRun F code k bs op l
  | [], k, cs, bs, op, h => by
    rw [blkRun, blkRun]
    by_cases ho : op = []
    · subst ho; rw [if_pos rfl, if_pos rfl, h.done]
    · rw [if_neg ho, if_neg ho]
  | i :: r, k, cs, bs, op, h => by
    obtain ⟨h1, h2⟩ := step_rel (E := E) (F := F) (code := code) (k := k) (i := i) h
    rw [blkRun, blkRun, ← h1]
    by_cases h0 : (blkStep E code k cs op i).1 = 0
    · rw [if_pos h0, if_pos h0]
      obtain ⟨h3, h4⟩ := h2 h0
      rw [← h3]
      exact run_rel h4
    · rw [if_neg h0, if_neg h0]
theorem run_same (E F : Int) (code : List Ins) : blkRun E code 0 [] [] code = blkRun F code 0 [] [] code := run_rel ⟨rfl, fun j a b h => by simp at h, fun j h => by simp at h, List.Pairwise.nil⟩
theorem run_len {E : Int} {code : List Ins} : ∀ {l : List Ins} {k : Nat} {bs : List CodeBlock} {op : List Nat}, bs.length ≤ k → (blkRun E code k bs op l).1.length ≤ k + l.length
  | [], k, bs, op, h => by
    rw [blkRun]
    split
    · simpa using h
    · simp
  | i :: r, k, bs, op, h => by
    rw [blkRun]
    split
    · refine Nat.le_trans (run_len (k := k + 1) ?_) (by simp; omega)
      unfold blkStep
      split
      · split
        · simp
        · simp; omega
      · split
        · split
          · simp
          · split
            · simp
            · split
              · simp
              · simp; omega
        · split
          · split
            · simp
            · split
              · simp
              · split
                · simp
                · simp; omega
          · simp; omega
    · simp
def blkR (c : Core) : List CodeBlock × Int × Int := if (wordOk c.name && coreB c) = true then blkRun (-1) c.code 0 [] [] c.code else ([], 0, 1)
-- rows
theorem cbV_append (a b : List CodeBlock) : cbV (a ++ b) = cbV a ++ cbV b := by simp [cbV]
theorem cbV_cons (b : CodeBlock) (r : List CodeBlock) : cbV (b :: r) = cbC b ++ cbV r := rfl
theorem cbV_len (bs : List CodeBlock) : (cbV bs).length = bs.length * 5 := by
  induction bs with
  | nil => rfl
  | cons b r ih => rw [cbV_cons, List.length_append, ih, List.length_cons]; simp [cbC]; omega
theorem ixV_len (op : List Nat) : (ixV op).length = op.length := by simp [ixV]
theorem cbV_get {bs : List CodeBlock} {j f : Nat} {b : CodeBlock} (h : bs[j]? = some b) (hf : f < 5) : (cbV bs)[j * 5 + f]? = (cbC b)[f]? := by
  induction bs generalizing j with
  | nil => simp at h
  | cons c r ih =>
    rw [cbV_cons]
    have hc : (cbC c).length = 5 := rfl
    cases j with
    | zero =>
      simp at h; subst h
      rw [List.getElem?_append_left (by rw [hc]; omega)]
      simp
    | succ j =>
      rw [List.getElem?_append_right (by rw [hc]; omega), hc, ← ih (by simpa using h)]
      congr 1
      omega
theorem cbV_set {bs : List CodeBlock} {j f : Nat} {b b2 : CodeBlock} {u : Value} (h : bs[j]? = some b) (hf : f < 5) (he : cbC b2 = (cbC b).set f u) : (cbV bs).set (j * 5 + f) u = cbV (bs.set j b2) := by
  induction bs generalizing j with
  | nil => simp at h
  | cons c r ih =>
    rw [cbV_cons]
    have hc : (cbC c).length = 5 := rfl
    cases j with
    | zero =>
      simp at h; subst h
      rw [List.set_append_left _ _ (by rw [hc]; omega), List.set_cons_zero, cbV_cons, he]
      simp
    | succ j =>
      rw [List.set_append_right _ _ (by rw [hc]; omega), hc, List.set_cons_succ, cbV_cons, ← ih (by simpa using h)]
      congr 2
      omega
theorem owns_put {w : World} {base sz g cap n m : Nat} {e : TypeId} {xs : List Value} (h : w.ownsRow base e sz (.slice (some ⟨g, 0, none⟩) m cap) n xs) (i : Nat) (hi : i < n * sz) (u : Value) : (w.setCell ⟨g, i, none⟩ u).ownsRow base e sz (.slice (some ⟨g, 0, none⟩) m cap) n (xs.set i u) := by
  obtain ⟨h1, h2⟩ := h
  refine ⟨by rw [List.length_set]; exact h1, ?_⟩
  rcases h2 with ⟨h2, _⟩ | ⟨g', cap', cur, hv, hbb, hh, h3, h4, h5, h6⟩
  · injection h2 with h2; cases h2
  · injection hv with hv1 hv2 hv3
    injection hv1 with hv1
    injection hv1 with hv1
    subst hv1 hv2 hv3
    refine .inr ⟨g, cap, cur.setIfInBounds i u, rfl, hbb, ?_, h3, h4, by simpa using h5, ?_⟩
    · simp [World.setCell, Array.getElem?_modify, hh]
    · rw [← h6, Array.toList_setIfInBounds, List.take_set]
theorem owns_pop {w : World} {base sz g cap n : Nat} {e : TypeId} {xs : List Value} (h : w.ownsRow base e sz (.slice (some ⟨g, 0, none⟩) (n + 1) cap) (n + 1) xs) : w.ownsRow base e sz (.slice (some ⟨g, 0, none⟩) n cap) n (xs.take (n * sz)) := by
  obtain ⟨h1, h2⟩ := h
  have hle : n * sz ≤ (n + 1) * sz := Nat.mul_le_mul_right _ (Nat.le_succ _)
  refine ⟨by rw [List.length_take, h1]; omega, ?_⟩
  rcases h2 with ⟨h2, _⟩ | ⟨g', cap', cur, hv, hbb, hh, h3, h4, h5, h6⟩
  · injection h2 with h2; cases h2
  · injection hv with hv1 hv2 hv3
    injection hv1 with hv1
    injection hv1 with hv1
    subst hv1 hv3
    exact .inr ⟨g, cap, cur, rfl, hbb, hh, by omega, h4, h5, by rw [← h6, List.take_take, Nat.min_eq_left hle]⟩
theorem owns_cell {w : World} {base sz g cap n m : Nat} {e : TypeId} {xs : List Value} (h : w.ownsRow base e sz (.slice (some ⟨g, 0, none⟩) m cap) n xs) {i : Nat} {u : Value} (hu : xs[i]? = some u) : w.cell? ⟨g, i, none⟩ = some u ∧ w.frozen? ⟨g, i, none⟩ = false := by
  obtain ⟨h1, h2⟩ := h
  rcases h2 with ⟨h2, _⟩ | ⟨g', cap', cur, hv, hbb, hh, h3, h4, h5, h6⟩
  · injection h2 with h2; cases h2
  · injection hv with hv1 hv2 hv3
    injection hv1 with hv1
    injection hv1 with hv1
    subst hv1 hv2 hv3
    constructor
    · rw [cell_of_row w g i cur e (0, 0) hh, ← Array.getElem?_toList]
      rw [← h6] at hu
      rw [List.getElem?_take] at hu
      split at hu
      · exact hu
      · cases hu
    · simp [World.frozen?, hh]
end Go.Proofs.Ytnedcpoengcbaaa

