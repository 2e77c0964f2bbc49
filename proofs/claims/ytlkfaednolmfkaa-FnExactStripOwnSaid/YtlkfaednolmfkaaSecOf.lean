/-
  A section is read: spec.l17Read; the sections of a binary, in plain Lean (by program: gen_secof.py).
-/
import Derived.Test.YtlkfaednolmfkaaGetB
import Derived.Test.YtlkfaednolmfkaaGrw
namespace Go.Proofs.Ytlkfaednolmfkaa
open Go.RowKit
set_option linter.unusedVariables false
set_option linter.unusedSimpArgs false
set_option linter.unnecessarySimpa false
set_option maxRecDepth 16000

theorem ext_ext (s : ByteArray) (a b : Nat) (h : a ≤ s.size) : (s.extract a s.size).extract b (s.size - a) = s.extract (a + b) s.size := by
  apply ByteArray.ext
  simp only [ByteArray.data_extract, Array.extract_extract]
  congr 1
  have : s.data.size = s.size := rfl
  omega
/-- the section behind the first byte, where it is one -/
def secAt (id : Int) (all : ByteArray) : Option Section :=
  if id = 0 then match getB all with
    | none => none
    | some (name, n) => some ⟨0, name, all.extract n all.size⟩
  else some ⟨id, ⟨#[]⟩, all⟩
def readR (s : ByteArray) : Option (Section × Nat) :=
  if s.size = 0 then none else
  match getB (s.extract 1 s.size) with
  | none => none
  | some (all, many) => match secAt (op0 s) all with
    | none => none
    | some x => if secB x then some (x, 1 + many) else none
theorem readR_0 {s : ByteArray} (h : s.size = 0) : readR s = none := if_pos h
theorem readR_n {s : ByteArray} (h : getB (s.extract 1 s.size) = none) : readR s = none := by
  rw [readR]
  split
  · rfl
  · rw [h]
theorem readR_m {s all : ByteArray} {many : Nat} (h : getB (s.extract 1 s.size) = some (all, many)) (h2 : secAt (op0 s) all = none) : readR s = none := by
  rw [readR]
  split
  · rfl
  · rw [h]; simp only; rw [h2]
theorem readR_s {s all : ByteArray} {many : Nat} {x : Section} (h0 : 0 < s.size) (h : getB (s.extract 1 s.size) = some (all, many)) (h2 : secAt (op0 s) all = some x) : readR s = if secB x then some (x, 1 + many) else none := by
  rw [readR, if_neg (by omega), h]; simp only; rw [h2]
theorem readR_le {s : ByteArray} {x : Section} {m : Nat} (h : readR s = some (x, m)) : 2 ≤ m ∧ m ≤ s.size ∧ secB x = true := by
  by_cases h0 : s.size = 0
  · rw [readR_0 h0] at h; cases h
  cases hg : getB (s.extract 1 s.size) with
  | none => rw [readR_n hg] at h; cases h
  | some p =>
    obtain ⟨all, many⟩ := p
    have hle := getB_le hg
    rw [tail_size (by omega)] at hle
    cases hs : secAt (op0 s) all with
    | none => rw [readR_m hg hs] at h; cases h
    | some y =>
      rw [readR_s (by omega) hg hs] at h
      split at h
      · rename_i hb
        injection h with h
        injection h with h1 h2
        subst h1 h2
        exact ⟨by omega, by omega, hb⟩
      · cases h
def readRes (o : Option (Section × Nat)) : Ending := match o with
  | none => .returned (.tuple #[.agg #[.int .i64 0, .string ⟨#[]⟩, .string ⟨#[]⟩], .int .i64 0, .bool false])
  | some (x, m) => .returned (.tuple #[.agg #[.int .i64 x.id, .string x.name, .string x.bytes], .int .i64 m, .bool true])
def secsR : Nat → ByteArray → Option (List Section)
  | 0, s => if s.size = 0 then some [] else none
  | r + 1, s => if s.size = 0 then some [] else match readR s with
    | none => none
    | some (x, m) => (secsR r (s.extract m s.size)).map (x :: ·)
theorem secsR_end (r : Nat) {s : ByteArray} (h : s.size = 0) : secsR r s = some [] := by cases r <;> exact if_pos h
theorem secsR_0 {s : ByteArray} (h : ¬ s.size = 0) : secsR 0 s = none := if_neg h
theorem secsR_no (r : Nat) {s : ByteArray} (h : ¬ s.size = 0) (h2 : readR s = none) : secsR r s = none := by
  cases r with
  | zero => exact if_neg h
  | succ r => rw [secsR, if_neg h, h2]
theorem secsR_yes {r : Nat} {s : ByteArray} {x : Section} {m : Nat} (h2 : readR s = some (x, m)) : secsR (r + 1) s = (secsR r (s.extract m s.size)).map (x :: ·) := by
  have := readR_le h2
  rw [secsR, if_neg (by omega), h2]
theorem secsR_len : ∀ {r : Nat} {s : ByteArray} {l : List Section}, secsR r s = some l → l.length ≤ r ∧ ∀ t ∈ l, secB t = true
  | 0, s, l, h => by
    rw [secsR] at h
    split at h
    · injection h with h
      subst h
      simp
    · cases h
  | r + 1, s, l, h => by
    rw [secsR] at h
    split at h
    · injection h with h
      subst h
      simp
    · split at h
      · cases h
      · rename_i x m hr
        obtain ⟨q, hq, rfl⟩ := Option.map_eq_some_iff.1 h
        have := secsR_len hq
        refine ⟨by simp; omega, fun t ht => ?_⟩
        rcases List.mem_cons.1 ht with rfl | ht
        · exact (readR_le hr).2.2
        · exact this.2 t ht
def binHead : ByteArray := ⟨#[0, 99, 111, 114, 1]⟩
def secRes (s : ByteArray) : List Section × Int :=
  if 30000 < s.size then ([], 4)
  else if s.size < 5 ∨ s.extract 0 5 ≠ binHead then ([], 18)
  else match secsR 20 (s.extract 5 s.size) with
    | none => ([], 18)
    | some l => (l, 0)
theorem secRes_big {s : ByteArray} (h : 30000 < s.size) : secRes s = ([], 4) := if_pos h
theorem secRes_head {s : ByteArray} (h : ¬ 30000 < s.size) (h2 : s.size < 5 ∨ ¬ s.extract 0 5 = binHead) : secRes s = ([], 18) := by rw [secRes, if_neg h]; exact if_pos h2
theorem secRes_no {s : ByteArray} (h : ¬ 30000 < s.size) (h2 : 5 ≤ s.size) (h3 : s.extract 0 5 = binHead) (h4 : secsR 20 (s.extract 5 s.size) = none) : secRes s = ([], 18) := by
  rw [secRes, if_neg h, if_neg (by rintro (e | e); omega; exact e h3), h4]
theorem secRes_yes {s : ByteArray} {l : List Section} (h : ¬ 30000 < s.size) (h2 : 5 ≤ s.size) (h3 : s.extract 0 5 = binHead) (h4 : secsR 20 (s.extract 5 s.size) = some l) : secRes s = (l, 0) := by
  rw [secRes, if_neg h, if_neg (by rintro (e | e); omega; exact e h3), h4]
theorem secRes_len (s : ByteArray) : (secRes s).1.length ≤ 20 := by
  rw [secRes]
  split
  · simp
  · split
    · simp
    · cases h : secsR 20 (s.extract 5 s.size) with
      | none => simp
      | some l => exact (secsR_len h).1
theorem sec_cnt (l : List Section) : PD.cntL (l.flatMap Section.pd) = 3 * l.length := by
  induction l with
  | nil => rfl
  | cons t l ih => rw [List.flatMap_cons, cntL_append, ih, List.length_cons]; simp only [Section.pd, PD.cntL, PD.cnt]; omega
theorem secRes_cnt (s : ByteArray) : PD.cnt (.row 3 ((secRes s).1.flatMap Section.pd)) ≤ 1099511627775 := by
  rw [PD.cnt, sec_cnt]
  have := secRes_len s
  omega
set_option maxHeartbeats 6400000 in
theorem l17Read_any (s : ByteArray) (hs : s.size ≤ 1048576) (w : World) : Calls Try.prog 49 #[.string s] w fun e w' => e = readRes (readR s) ∧ Below w.heap.size w w' := by
  by_cases h0 : s.size = 0
  case pos =>
    have HF : Hid (readRes (readR s) = .returned (.tuple #[.agg #[.int .i64 0, .string ⟨#[]⟩, .string ⟨#[]⟩], .int .i64 0, .bool false])) := by show _ = _; rw [readR_0 h0]; rfl
    have hse : s = ⟨#[]⟩ := by cases s; rename_i d; congr; exact Array.eq_empty_of_size_eq_zero h0
    rw [HF.out]
    clear HF h0
    subst hse
    go_enter Try.func49, Try.ntmps49
    go_wp2_with fail
    refine bodyPost_ret (v := .tuple #[.agg #[.int .i64 0, .string ⟨#[]⟩, .string ⟨#[]⟩], .int .i64 0, .bool false]) (by simp [results, Try.results49, go_sem]) rfl ⟨rfl, ?_⟩
    repeat (first | exact Below.refl _ _ | refine Below.setCell ?_ (by simp) _ | refine Below.alloc ?_ (by simp; try omega) _)
  have hsz : 0 < s.size := by omega
  have hne : ¬ s = ⟨#[]⟩ := fun e => by rw [e] at hsz; exact absurd hsz (by decide)
  have hne1 : (s.toList == (ByteArray.mk #[]).toList) = false := str_ne2 hne
  have hne2 : ¬ s.toList = [] := by simpa using hne1
  have hne3 : s.toList.isEmpty = false := by cases h : s.toList with | nil => exact absurd h hne2 | cons x l => rfl
  have HOP := Lib.hid (op0_get hsz)
  obtain ⟨op, hop⟩ : ∃ op : Int, op = op0 s := ⟨_, rfl⟩
  have hop2 : (s[0].toNat : Int) = op := by rw [hop, HOP.out]
  have hopb : 0 ≤ op ∧ op ≤ 255 := by have := s[0].toNat_lt; omega
  have HO := Lib.hid hop.symm
  clear hop HOP hne
  have hr1 : (s.extract 1 s.size).size ≤ maxLen := by rw [tail_size hsz]; unfold maxLen; omega
  have HG := Lib.hid (specGetBytes_any (s.extract 1 s.size) hr1)
  have hsl1 : (1 : Int) ≤ (s.size : Int) := by omega
  obtain ⟨w0, hw0⟩ : ∃ W, W = w.alloc (.cells #[.int .i64 0, .string ⟨#[]⟩, .string ⟨#[]⟩] 64) := ⟨_, rfl⟩
  have bR : Blk w0 w.heap.size 64 #[.int .i64 0, .string ⟨#[]⟩, .string ⟨#[]⟩] := by rw [hw0]; exact Blk.new w _ _
  have hB0 : Below w.heap.size w w0 := by rw [hw0]; exact (Below.refl _ _).alloc (Nat.le_refl _) _
  have hs0 := hB0.size
  have hNO : readRes none = .returned (.tuple #[.agg #[.int .i64 0, .string ⟨#[]⟩, .string ⟨#[]⟩], .int .i64 0, .bool false]) := rfl
  have HNO := Lib.hid hNO
  clear hNO
  cases hg : getB (s.extract 1 s.size) with
  | none =>
    have HF := Lib.hid (readR_n hg)
    rw [hg] at HG
    clear hg
    go_enter Try.func49, Try.ntmps49
    go_wp2_with fail
    rw [← hw0]
    refine (HG.out _).mono ?_
    rintro e w1 ⟨rfl, hb1⟩
    simp only [getBRes]
    replace bR := bR.step hb1
    have hB1 := hB0.trans (hb1.mono hs0)
    clear hw0
    obtain ⟨w2, hw2⟩ : ∃ W, W = w1.alloc (.cells #[.int .i64 op, .string ⟨#[]⟩, .string ⟨#[]⟩] 64) := ⟨_, rfl⟩
    have bR2 : Blk w2 w.heap.size 64 #[.int .i64 0, .string ⟨#[]⟩, .string ⟨#[]⟩] := by rw [hw2]; exact bR.alloc _
    have hB2 : Below w.heap.size w w2 := by rw [hw2]; exact hB1.alloc hB1.size _
    rw [hw2] at bR2 hB2
    have r0 : (w1.alloc (.cells #[.int .i64 op, .string ⟨#[]⟩, .string ⟨#[]⟩] 64)).cell? ⟨w.heap.size, 0, none⟩ = some (.int .i64 0) := bR2.cell 0
    have f0 := bR2.frozen 0
    have r1 : (w1.alloc (.cells #[.int .i64 op, .string ⟨#[]⟩, .string ⟨#[]⟩] 64)).cell? ⟨w.heap.size, 1, none⟩ = some (.string ⟨#[]⟩) := bR2.cell 1
    have f1 := bR2.frozen 1
    have r2 : (w1.alloc (.cells #[.int .i64 op, .string ⟨#[]⟩, .string ⟨#[]⟩] 64)).cell? ⟨w.heap.size, 2, none⟩ = some (.string ⟨#[]⟩) := bR2.cell 2
    have f2 := bR2.frozen 2
    go_wp2_with fail
    refine bodyPost_ret (v := .tuple #[.agg #[.int .i64 0, .string ⟨#[]⟩, .string ⟨#[]⟩], .int .i64 0, .bool false]) (by simp [results, Try.results49, go_sem, r0, r1, r2]) rfl ⟨by rw [HF.out, HNO.out], ?_⟩
    repeat (first | exact hB2 | refine Below.setCell ?_ (by simp; try omega) _ | refine Below.alloc ?_ (by simp; try omega) _)
  | some p =>
    obtain ⟨all, many⟩ := p
    obtain ⟨hm1, hm2, _⟩ := getB_le hg
    rw [tail_size hsz] at hm1 hm2
    have HM := Lib.hid (readR_m hg)
    have HS := Lib.hid (fun x => readR_s (x := x) hsz hg)
    rw [HO.out] at HM HS
    rw [hg] at HG
    clear hg
    have hal : all.size ≤ 1048576 := by omega
    have HA := Lib.hid (specGetBytes_any all (by unfold maxLen; omega))
    have hsum : IntKind.i64.wrap (1 + (many : Int)) = ((1 + many : Nat) : Int) := by rw [IntWalk.i64_in _ (by omega)]; omega
    by_cases hid : op = 0
    case pos =>
      subst hid
      have hSA : ∀ name n, getB all = some (name, n) → secAt 0 all = some ⟨0, name, all.extract n all.size⟩ := fun name n h => by rw [secAt, if_pos rfl, h]
      have hSN : getB all = none → secAt 0 all = none := fun h => by rw [secAt, if_pos rfl, h]
      cases hga : getB all with
      | none =>
        have HR := Lib.hid (HM.out (hSN hga))
        rw [hga] at HA
        clear hga hSA hSN
        go_enter Try.func49, Try.ntmps49
        go_wp2_with fail
        rw [← hw0]
        refine (HG.out _).mono ?_
        rintro e w1 ⟨rfl, hb1⟩
        simp only [getBRes]
        replace bR := bR.step hb1
        have hB1 := hB0.trans (hb1.mono hs0)
        clear hw0
        have hne8 : w1.heap.size ≠ w.heap.size := by have := bR.lt; omega
        have c0 : (w1.alloc (.cells #[.int .i64 0, .string ⟨#[]⟩, .string all] 64)).cell? ⟨w1.heap.size, 0, none⟩ = some (.int .i64 0) := (Blk.new w1 _ _).cell 0
        go_wp2_with fail
        obtain ⟨w2, hw2⟩ : ∃ W, W = w1.alloc (.cells #[.int .i64 0, .string ⟨#[]⟩, .string all] 64) := ⟨_, rfl⟩
        rw [← hw2]
        have bX : Blk w2 w1.heap.size 64 #[.int .i64 0, .string ⟨#[]⟩, .string all] := by rw [hw2]; exact Blk.new w1 _ _
        have bR2 : Blk w2 w.heap.size 64 #[.int .i64 0, .string ⟨#[]⟩, .string ⟨#[]⟩] := by rw [hw2]; exact bR.alloc _
        have hB2 : Below w.heap.size w w2 := by rw [hw2]; exact hB1.alloc hB1.size _
        clear hw2 c0 bR
        refine (HA.out _).mono ?_
        rintro e w3 ⟨rfl, hb3⟩
        simp only [getBRes]
        have bX3 := bX.step hb3
        have bR3 := bR2.step hb3
        have hB3 := hB2.trans (hb3.mono hB2.size)
        clear bX bR2
        have r0 : w3.cell? ⟨w.heap.size, 0, none⟩ = some (.int .i64 0) := bR3.cell 0
        have f0 := bR3.frozen 0
        have r1 : w3.cell? ⟨w.heap.size, 1, none⟩ = some (.string ⟨#[]⟩) := bR3.cell 1
        have f1 := bR3.frozen 1
        have r2 : w3.cell? ⟨w.heap.size, 2, none⟩ = some (.string ⟨#[]⟩) := bR3.cell 2
        have f2 := bR3.frozen 2
        go_wp2_with fail
        refine bodyPost_ret (v := .tuple #[.agg #[.int .i64 0, .string ⟨#[]⟩, .string ⟨#[]⟩], .int .i64 0, .bool false]) (by simp [results, Try.results49, go_sem, r0, r1, r2]) rfl ⟨by rw [HR.out, HNO.out], ?_⟩
        repeat (first | exact hB3 | refine Below.setCell ?_ (by simp; try omega) _ | refine Below.alloc ?_ (by simp; try omega) _)
      | some p =>
        obtain ⟨name, n⟩ := p
        obtain ⟨ha1, ha2, _⟩ := getB_le hga
        have HX := Lib.hid (HS.out _ (hSA name n hga))
        rw [hga] at HA
        clear hga hSA hSN
        go_enter Try.func49, Try.ntmps49
        go_wp2_with fail
        rw [← hw0]
        refine (HG.out _).mono ?_
        rintro e w1 ⟨rfl, hb1⟩
        simp only [getBRes]
        replace bR := bR.step hb1
        have hB1 := hB0.trans (hb1.mono hs0)
        clear hw0
        have hne8 : w1.heap.size ≠ w.heap.size := by have := bR.lt; omega
        have c0 : (w1.alloc (.cells #[.int .i64 0, .string ⟨#[]⟩, .string all] 64)).cell? ⟨w1.heap.size, 0, none⟩ = some (.int .i64 0) := (Blk.new w1 _ _).cell 0
        go_wp2_with fail
        obtain ⟨w2, hw2⟩ : ∃ W, W = w1.alloc (.cells #[.int .i64 0, .string ⟨#[]⟩, .string all] 64) := ⟨_, rfl⟩
        rw [← hw2]
        have bX : Blk w2 w1.heap.size 64 #[.int .i64 0, .string ⟨#[]⟩, .string all] := by rw [hw2]; exact Blk.new w1 _ _
        have bR2 : Blk w2 w.heap.size 64 #[.int .i64 0, .string ⟨#[]⟩, .string ⟨#[]⟩] := by rw [hw2]; exact bR.alloc _
        have hB2 : Below w.heap.size w w2 := by rw [hw2]; exact hB1.alloc hB1.size _
        clear hw2 c0 bR
        refine (HA.out _).mono ?_
        rintro e w3 ⟨rfl, hb3⟩
        simp only [getBRes]
        have bX3 := bX.step hb3
        have bR3 := bR2.step hb3
        have hB3 := hB2.trans (hb3.mono hB2.size)
        clear bX bR2
        have r0 : w3.cell? ⟨w.heap.size, 0, none⟩ = some (.int .i64 0) := bR3.cell 0
        have f0 := bR3.frozen 0
        have r1 : w3.cell? ⟨w.heap.size, 1, none⟩ = some (.string ⟨#[]⟩) := bR3.cell 1
        have f1 := bR3.frozen 1
        have r2 : w3.cell? ⟨w.heap.size, 2, none⟩ = some (.string ⟨#[]⟩) := bR3.cell 2
        have f2 := bR3.frozen 2
        have y1 : w3.cell? ⟨w1.heap.size, 1, none⟩ = some (.string ⟨#[]⟩) := bX3.cell 1
        have y2 : w3.cell? ⟨w1.heap.size, 2, none⟩ = some (.string all) := bX3.cell 2
        have g1 := bX3.frozen 1
        have g2 := bX3.frozen 2
        have hn1 : (n : Int) ≤ (all.size : Int) := by omega
        have hlX := bX3.lt
        have hB3s := hB1.size
        have bX4 : Blk ((w3.setCell ⟨w1.heap.size, 1, none⟩ (.string name)).setCell ⟨w1.heap.size, 2, none⟩ (.string (all.extract n all.size))) w1.heap.size 64 #[.int .i64 0, .string name, .string (all.extract n all.size)] := by have := (bX3.set_ 1 (.string name)).set_ 2 (.string (all.extract n all.size)); simpa using this
        have bR4 : Blk ((w3.setCell ⟨w1.heap.size, 1, none⟩ (.string name)).setCell ⟨w1.heap.size, 2, none⟩ (.string (all.extract n all.size))) w.heap.size 64 #[.int .i64 0, .string ⟨#[]⟩, .string ⟨#[]⟩] := (bR3.far (by simp; omega) _).far (by simp; omega) _
        have hB4 : Below w.heap.size w ((w3.setCell ⟨w1.heap.size, 1, none⟩ (.string name)).setCell ⟨w1.heap.size, 2, none⟩ (.string (all.extract n all.size))) := (hB3.setCell (by simp; omega) _).setCell (by simp; omega) _
        have z0 : ((w3.setCell ⟨w1.heap.size, 1, none⟩ (.string name)).setCell ⟨w1.heap.size, 2, none⟩ (.string (all.extract n all.size))).cell? ⟨w1.heap.size, 0, none⟩ = some (.int .i64 0) := bX4.cell 0
        have z1 : ((w3.setCell ⟨w1.heap.size, 1, none⟩ (.string name)).setCell ⟨w1.heap.size, 2, none⟩ (.string (all.extract n all.size))).cell? ⟨w1.heap.size, 1, none⟩ = some (.string name) := bX4.cell 1
        have z2 : ((w3.setCell ⟨w1.heap.size, 1, none⟩ (.string name)).setCell ⟨w1.heap.size, 2, none⟩ (.string (all.extract n all.size))).cell? ⟨w1.heap.size, 2, none⟩ = some (.string (all.extract n all.size)) := bX4.cell 2
        clear r0 r1 r2 f0 f1 f2
        go_wp2_with fail
        obtain ⟨w5, hw5⟩ : ∃ W, W = ((w3.setCell ⟨w1.heap.size, 1, none⟩ (.string name)).setCell ⟨w1.heap.size, 2, none⟩ (.string (all.extract n all.size))) := ⟨_, rfl⟩
        rw [← hw5] at bX4 bR4 hB4 ⊢
        clear hw5 z0 z1 z2 y1 y2 g1 g2 bX3 bR3
        refine (specSection_any 0 name (all.extract n all.size) (by unfold maxLen; omega) _).mono ?_
        rintro e w6 ⟨rfl, hb6⟩
        have bX6 := bX4.step hb6
        have bR6 := bR4.step hb6
        have hB6 := hB4.trans (hb6.mono hB4.size)
        have r0 : w6.cell? ⟨w.heap.size, 0, none⟩ = some (.int .i64 0) := bR6.cell 0
        have f0 := bR6.frozen 0
        have r1 : w6.cell? ⟨w.heap.size, 1, none⟩ = some (.string ⟨#[]⟩) := bR6.cell 1
        have f1 := bR6.frozen 1
        have r2 : w6.cell? ⟨w.heap.size, 2, none⟩ = some (.string ⟨#[]⟩) := bR6.cell 2
        have f2 := bR6.frozen 2
        cases hsb : secB ⟨0, name, all.extract n all.size⟩
        case false =>
          have HR : Hid (readR s = none) := by show _ = _; rw [HX.out, hsb]; rfl
          go_wp2_with fail
          refine bodyPost_ret (v := .tuple #[.agg #[.int .i64 0, .string ⟨#[]⟩, .string ⟨#[]⟩], .int .i64 0, .bool false]) (by simp [results, Try.results49, go_sem, r0, r1, r2]) rfl ⟨by rw [HR.out, HNO.out], ?_⟩
          repeat (first | exact hB6 | refine Below.setCell ?_ (by simp; try omega) _ | refine Below.alloc ?_ (by simp; try omega) _)
        case true =>
          have HR : Hid (readRes (readR s) = .returned (.tuple #[.agg #[.int .i64 (0), .string name, .string (all.extract n all.size)], .int .i64 ((1 + many : Nat) : Int), .bool true])) := by show _ = _; rw [HX.out, hsb]; rfl
          have x0 : w6.cell? ⟨w1.heap.size, 0, none⟩ = some (.int .i64 (0)) := bX6.cell 0
          have x1 : w6.cell? ⟨w1.heap.size, 1, none⟩ = some (.string name) := bX6.cell 1
          have x2 : w6.cell? ⟨w1.heap.size, 2, none⟩ = some (.string (all.extract n all.size)) := bX6.cell 2
          go_wp2_with fail
          refine bodyPost_ret (v := .tuple #[.agg #[.int .i64 (0), .string name, .string (all.extract n all.size)], .int .i64 ((1 + many : Nat) : Int), .bool true]) (by simp [results, Try.results49, go_sem, r0, r1, r2]) rfl ⟨by rw [HR.out], ?_⟩
          repeat (first | exact hB6 | refine Below.setCell ?_ (by simp; try omega) _ | refine Below.alloc ?_ (by simp; try omega) _)
    have hidb : (op == 0) = false := by simpa using hid
    have HX : Hid (readR s = if secB ⟨op, ⟨#[]⟩, all⟩ then some (⟨op, ⟨#[]⟩, all⟩, 1 + many) else none) := HS.out _ (by rw [secAt, if_neg hid])
    go_enter Try.func49, Try.ntmps49
    go_wp2_with fail
    rw [← hw0]
    refine (HG.out _).mono ?_
    rintro e w1 ⟨rfl, hb1⟩
    simp only [getBRes]
    replace bR := bR.step hb1
    have hB1 := hB0.trans (hb1.mono hs0)
    clear hw0
    have hne8 : w1.heap.size ≠ w.heap.size := by have := bR.lt; omega
    have c0 : (w1.alloc (.cells #[.int .i64 op, .string ⟨#[]⟩, .string all] 64)).cell? ⟨w1.heap.size, 0, none⟩ = some (.int .i64 op) := (Blk.new w1 _ _).cell 0
    have c1 : (w1.alloc (.cells #[.int .i64 op, .string ⟨#[]⟩, .string all] 64)).cell? ⟨w1.heap.size, 1, none⟩ = some (.string ⟨#[]⟩) := (Blk.new w1 _ _).cell 1
    have c2 : (w1.alloc (.cells #[.int .i64 op, .string ⟨#[]⟩, .string all] 64)).cell? ⟨w1.heap.size, 2, none⟩ = some (.string all) := (Blk.new w1 _ _).cell 2
    go_wp2_with fail
    obtain ⟨w2, hw2⟩ : ∃ W, W = w1.alloc (.cells #[.int .i64 op, .string ⟨#[]⟩, .string all] 64) := ⟨_, rfl⟩
    rw [← hw2]
    have bX : Blk w2 w1.heap.size 64 #[.int .i64 op, .string ⟨#[]⟩, .string all] := by rw [hw2]; exact Blk.new w1 _ _
    have bR2 : Blk w2 w.heap.size 64 #[.int .i64 0, .string ⟨#[]⟩, .string ⟨#[]⟩] := by rw [hw2]; exact bR.alloc _
    have hB2 : Below w.heap.size w w2 := by rw [hw2]; exact hB1.alloc hB1.size _
    clear hw2 c0 c1 c2 bR
    refine (specSection_any op ⟨#[]⟩ all (by decide) _).mono ?_
    rintro e w6 ⟨rfl, hb6⟩
    have bX6 := bX.step hb6
    have bR6 := bR2.step hb6
    have hB6 := hB2.trans (hb6.mono hB2.size)
    have r0 : w6.cell? ⟨w.heap.size, 0, none⟩ = some (.int .i64 0) := bR6.cell 0
    have f0 := bR6.frozen 0
    have r1 : w6.cell? ⟨w.heap.size, 1, none⟩ = some (.string ⟨#[]⟩) := bR6.cell 1
    have f1 := bR6.frozen 1
    have r2 : w6.cell? ⟨w.heap.size, 2, none⟩ = some (.string ⟨#[]⟩) := bR6.cell 2
    have f2 := bR6.frozen 2
    cases hsb : secB ⟨op, ⟨#[]⟩, all⟩
    case false =>
      have HR : Hid (readR s = none) := by show _ = _; rw [HX.out, hsb]; rfl
      go_wp2_with fail
      refine bodyPost_ret (v := .tuple #[.agg #[.int .i64 0, .string ⟨#[]⟩, .string ⟨#[]⟩], .int .i64 0, .bool false]) (by simp [results, Try.results49, go_sem, r0, r1, r2]) rfl ⟨by rw [HR.out, HNO.out], ?_⟩
      repeat (first | exact hB6 | refine Below.setCell ?_ (by simp; try omega) _ | refine Below.alloc ?_ (by simp; try omega) _)
    case true =>
      have HR : Hid (readRes (readR s) = .returned (.tuple #[.agg #[.int .i64 (op), .string ⟨#[]⟩, .string (all)], .int .i64 ((1 + many : Nat) : Int), .bool true])) := by show _ = _; rw [HX.out, hsb]; rfl
      have x0 : w6.cell? ⟨w1.heap.size, 0, none⟩ = some (.int .i64 (op)) := bX6.cell 0
      have x1 : w6.cell? ⟨w1.heap.size, 1, none⟩ = some (.string ⟨#[]⟩) := bX6.cell 1
      have x2 : w6.cell? ⟨w1.heap.size, 2, none⟩ = some (.string (all)) := bX6.cell 2
      go_wp2_with fail
      refine bodyPost_ret (v := .tuple #[.agg #[.int .i64 (op), .string ⟨#[]⟩, .string (all)], .int .i64 ((1 + many : Nat) : Int), .bool true]) (by simp [results, Try.results49, go_sem, r0, r1, r2]) rfl ⟨by rw [HR.out], ?_⟩
      repeat (first | exact hB6 | refine Below.setCell ?_ (by simp; try omega) _ | refine Below.alloc ?_ (by simp; try omega) _)
end Go.Proofs.Ytlkfaednolmfkaa

