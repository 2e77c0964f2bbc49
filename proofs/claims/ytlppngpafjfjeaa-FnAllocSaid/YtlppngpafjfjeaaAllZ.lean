/-
  Alloc: spec.l10Up and impl.align; the plain law; slices.Concat of whatever rows of blocks (gen_allz.py prints XAllZ from this head).
-/
import Derived.Test.YtlppngpafjfjeaaConcatG
import Derived.Test.YtlppngpafjfjeaaRelK
namespace Go.Proofs.Ytlppngpafjfjeaa
open Go.RowKit
set_option linter.unusedVariables false
set_option linter.unusedSimpArgs false
set_option linter.unnecessarySimpa false
set_option maxRecDepth 16000
def up (x a : Nat) : Nat := (x + a - 1) / a * a
theorem up_le (x : Nat) {a : Nat} (h : 1 ≤ a) : up x a ≤ x + a - 1 := by
  unfold up
  exact Nat.div_mul_le_self _ _
theorem up_int (x : Nat) {a : Nat} (ha : 1 ≤ a) : ((x : Int) + (a : Int) - 1) / (a : Int) * (a : Int) = ((up x a : Nat) : Int) := by
  have h : ((x : Int) + (a : Int) - 1) = ((x + a - 1 : Nat) : Int) := by omega
  rw [h, up]
  push_cast
  rfl
theorem specUp_any (x a : Nat) (w : World) (hx : x ≤ 1099511627776) (ha : 1 ≤ a) (h8 : a ≤ 8) : Calls Try.prog 67 #[.int .i64 x, .int .i64 a] w fun e w' => e = .returned (.int .i64 (up x a : Nat)) ∧ w = w' := by
  have HF := Lib.hid (up_int x ha)
  have hle : Hid (up x a ≤ x + a - 1) := up_le x ha
  go_enter Try.func67, Try.ntmps67
  go_wp2_with fail
  go_ret
  refine ⟨ret_int ?_, rfl⟩
  rw [HF.out]
  exact IntWalk.wrap64_in _ ⟨by omega, by have := hle.out; omega⟩

theorem implUp_any (x a : Nat) (w : World) (hx : x ≤ 1099511627776) (ha : 1 ≤ a) (h8 : a ≤ 8) : Calls Try.prog 68 #[.int .i64 x, .int .i64 a] w fun e w' => e = .returned (.int .i64 (up x a : Nat)) ∧ w = w' := by
  have HF := Lib.hid (up_int x ha)
  have hle : Hid (up x a ≤ x + a - 1) := up_le x ha
  go_enter Try.func68, Try.ntmps68
  go_wp2_with fail
  go_ret
  refine ⟨ret_int ?_, rfl⟩
  rw [HF.out]
  exact IntWalk.wrap64_in _ ⟨by omega, by have := hle.out; omega⟩

/-- the place that a block offers -/
def plc (a : Nat) (b : Block) : Int := ((up b.at_.toNat a : Nat) : Int)
def fitsB (z : Int) (a : Nat) (b : Block) : Bool := decide (z ≤ b.size) && decide (plc a b - b.at_ ≤ b.size - z)
def cutA (b : Block) (t : Int) : List Block := if b.at_ < t then [⟨b.at_, t - b.at_⟩] else []
def cutZ (b : Block) (t z : Int) : List Block := if t + z < b.at_ + b.size then [⟨t + z, b.at_ + b.size - (t + z)⟩] else []
def takeAt (fs : List Block) (k : Nat) (b : Block) (t z : Int) : List Block := fs.take k ++ (cutA b t ++ cutZ b t z) ++ fs.drop (k + 1)
def allocR : List Block → Int → Nat → Option (List Block × Int)
  | [], _, _ => none
  | b :: r, z, a => if fitsB z a b = true then some (cutA b (plc a b) ++ cutZ b (plc a b) z ++ r, plc a b) else (allocR r z a).map fun x => (b :: x.1, x.2)
theorem allocR_at : ∀ {fs : List Block} {z : Int} {a : Nat} (k : Nat) {b : Block}, fs[k]? = some b → fitsB z a b = true → (∀ (j : Nat) (x : Block), j < k → fs[j]? = some x → fitsB z a x = false) → allocR fs z a = some (takeAt fs k b (plc a b) z, plc a b)
  | [], z, a, k, b, hx, _, _ => by simp at hx
  | y :: r, z, a, 0, b, hx, hf, _ => by
    simp at hx
    subst hx
    rw [allocR, if_pos hf]
    simp [takeAt]
  | y :: r, z, a, k + 1, b, hx, hf, hno => by
    have h0 := hno 0 y (Nat.succ_pos _) rfl
    rw [allocR, if_neg (by simp [h0]), allocR_at k (by simpa using hx) hf (fun j x hj h => hno (j + 1) x (by omega) (by simpa using h))]
    simp [takeAt]
theorem allocR_none : ∀ {fs : List Block} {z : Int} {a : Nat}, (∀ (j : Nat) (x : Block), fs[j]? = some x → fitsB z a x = false) → allocR fs z a = none
  | [], z, a, _ => rfl
  | y :: r, z, a, h => by
    have h0 := h 0 y rfl
    rw [allocR, if_neg (by simp [h0]), allocR_none (fun j x hx => h (j + 1) x (by simpa using hx))]
    rfl
theorem plc_eq {a : Nat} {b : Block} (h : 0 ≤ b.at_) : ∃ x : Nat, b.at_ = (x : Int) ∧ plc a b = ((up x a : Nat) : Int) := ⟨b.at_.toNat, by omega, rfl⟩
theorem up_ge (x : Nat) {a : Nat} (h : 1 ≤ a) : x ≤ up x a := by
  unfold up
  have h1 := Nat.div_add_mod (x + a - 1) a
  have h2 := Nat.mod_lt (x + a - 1) (show 0 < a by omega)
  rw [Nat.mul_comm] at h1
  omega
theorem up_mod (x a : Nat) : up x a % a = 0 := by unfold up; exact Nat.mul_mod_left _ _
theorem plc_bd {a : Nat} {b : Block} (ha : 1 ≤ a) (h : 0 ≤ b.at_) : b.at_ ≤ plc a b ∧ plc a b ≤ b.at_ + a - 1 := by
  obtain ⟨x, hx, hp⟩ := plc_eq (a := a) h
  have h1 := up_ge x ha
  have h2 := up_le x ha
  omega
theorem fitsB_iff {z : Int} {a : Nat} {b : Block} : fitsB z a b = true ↔ z ≤ b.size ∧ plc a b - b.at_ ≤ b.size - z := by simp [fitsB]
theorem fitsB_no {z : Int} {a : Nat} {b : Block} : fitsB z a b = false ↔ (b.size < z ∨ (z ≤ b.size ∧ b.size - z < plc a b - b.at_)) := by
  rw [← Bool.not_eq_true, fitsB_iff]; omega
def alOk (al : Int) : Bool := decide (al = 1) || decide (al = 2) || decide (al = 4) || decide (al = 8)
def memAlloc (m : Memory) (z al : Int) : Memory × Int × Int :=
  if memOk m.bytes m.free = true then
    (if z < 0 ∨ alOk al = false then (⟨⟨#[]⟩, []⟩, 0, 2) else if z = 0 then (m, 0, 0) else
      match allocR m.free z al.toNat with
      | some (l, t) => (⟨m.bytes, l⟩, t, 0)
      | none => (⟨⟨#[]⟩, []⟩, 0, 4))
  else (⟨⟨#[]⟩, []⟩, 0, 1)
theorem alOk_cases {al : Int} (h : alOk al = true) : al = 1 ∨ al = 2 ∨ al = 4 ∨ al = 8 := by
  simp [alOk] at h; omega
theorem alOk_no {al : Int} (h : alOk al = false) : al ≠ 1 ∧ al ≠ 2 ∧ al ≠ 4 ∧ al ≠ 8 := by
  simp [alOk] at h; omega
theorem allocR_len : ∀ {fs : List Block} {z : Int} {a : Nat} {l : List Block} {t : Int}, allocR fs z a = some (l, t) → l.length ≤ fs.length + 1
  | [], z, a, l, t, h => by simp [allocR] at h
  | y :: r, z, a, l, t, h => by
    rw [allocR] at h
    split at h
    · injection h with h
      injection h with h1 h2
      subst h1
      have hA : (cutA y (plc a y)).length ≤ 1 := by rw [cutA]; split <;> simp
      have hZ : (cutZ y (plc a y) z).length ≤ 1 := by rw [cutZ]; split <;> simp
      simp only [List.length_append, List.length_cons]
      omega
    · cases hr : allocR r z a with
      | none => rw [hr] at h; cases h
      | some x =>
        rw [hr] at h
        injection h with h
        injection h with h1 h2
        subst h1
        obtain ⟨l2, t2⟩ := x
        have := allocR_len hr
        simp only [List.length_cons]
        omega
theorem memAlloc_cnt (m : Memory) (z al : Int) (hsz : PD.szL (Memory.pd m) ≤ 1048576) : rowsCnt (Memory.pd (memAlloc m z al).1) ≤ 1099511627775 := by
  have h2 : ∀ (b : ByteArray) (l : List Block), l.length ≤ 1048577 → rowsCnt (Memory.pd ⟨b, l⟩) ≤ 1099511627775 := fun b l hl => by
    have := blk_cnt l
    rw [Memory.pd_mk]; simp [rowsCnt, PD.cnt, PD.cntL]; omega
  obtain ⟨s, bs⟩ := m
  have hl := (mem_sz hsz).2
  rw [memAlloc]
  split
  · split
    · exact h2 _ _ (by simp)
    · split
      · exact h2 _ _ (by omega)
      · cases h : allocR bs z al.toNat with
        | none => exact h2 _ _ (by simp)
        | some x =>
          obtain ⟨l, t⟩ := x
          exact h2 _ _ (by have := allocR_len h; omega)
  · exact h2 _ _ (by simp)
theorem growB_zero (w : World) : Calls Try.prog 75 #[.slice none 0 0, .int .i64 0] w fun e w' => e = .returned (.slice none 0 0) ∧ w = w' := by
  go_enter Try.func75, Try.ntmps75
  go_wp2_with fail
  go_ret
  exact ⟨rfl, rfl⟩
set_option maxHeartbeats 3200000 in
theorem concatZ_any {b1 b2 b3 : List Block} (l1 : b1.length ≤ 1000000) (l2 : b2.length ≤ 1000000) (l3 : b3.length ≤ 1000000) (h0 : b1.length + b2.length + b3.length = 0) {w : World} {g : Nat} {v1 v2 v3 : Value} (bl : Blk w g 27 #[v1, v2, v3])
    (r1 : Rep w w.heap.size (blocks b1) v1) (r2 : Rep w w.heap.size (blocks b2) v2) (r3 : Rep w w.heap.size (blocks b3) v3) (c : Nat) :
    Calls Try.prog 69 #[.slice (some ⟨g, 0, none⟩) 3 c] w fun e w' => ∃ u, e = .returned u ∧ Lv w' w.heap.size w'.heap.size (blocks (b1 ++ b2 ++ b3)) u ∧ Below w.heap.size w w' := by
  obtain ⟨i0, hi, hz0, hz1, hz2⟩ := info_parts block_info
  obtain ⟨A1, n1, c1, rfl, hn1, _, _⟩ := rep_row Block.pd_length (by decide) r1
  obtain ⟨A2, n2, c2, rfl, hn2, _, _⟩ := rep_row Block.pd_length (by decide) r2
  obtain ⟨A3, n3, c3, rfl, hn3, _, _⟩ := rep_row Block.pd_length (by decide) r3
  have R1 := Lib.hid r1
  have R2 := Lib.hid r2
  have R3 := Lib.hid r3
  have BL := Lib.hid bl
  have m1 : n1 ≤ 1000000 := by omega
  have m2 : n2 ≤ 1000000 := by omega
  have m3 : n3 ≤ 1000000 := by omega
  have m0 : n1 + n2 + n3 = 0 := by omega
  have HN := Lib.hid (And.intro hn1 (And.intro hn2 hn3))
  clear r1 r2 r3 bl l1 l2 l3 h0 hn1 hn2 hn3
  go_enter Try.func69, Try.ntmps69
  go_wp2_with fail
  go_loopw [3, 11] (fun a i wr => ∃ k m : Nat, k ≤ 3 ∧ i = .int .i64 k ∧ a = .int .i64 m ∧ Hid (m = sum3 n1 n2 n3 k) ∧ w = wr) (fun _ i _ => 3 - (intOf i).toNat)
  case atStart => exact ⟨0, 0, by omega, rfl, rfl, Lib.hid rfl, rfl⟩
  case round =>
    obtain ⟨k, m, hk, rfl, rfl, HM, rfl⟩ := hrel
    rcases (show k = 0 ∨ k = 1 ∨ k = 2 ∨ k = 3 by omega) with rfl | rfl | rfl | rfl
    · have hm : 0 = m := HM.out.symm
      have c0 : w.cell? ⟨g, 0, none⟩ = some (.slice A1 n1 c1) := BL.out.cell 0
      subst hm
      go_wp2_with fail
      go_roundw
      case rel => exact ⟨1, n1, by omega, by first | rfl | go_num, by first | rfl | go_num, Lib.hid rfl, trivial⟩
      case measure => simp [intOf]
    · have hm : n1 = m := HM.out.symm
      have c1 : w.cell? ⟨g, 1, none⟩ = some (.slice A2 n2 c2) := BL.out.cell 1
      subst hm
      go_wp2_with fail
      go_roundw
      case rel => exact ⟨2, n1 + n2, by omega, by first | rfl | go_num, by first | rfl | go_num, Lib.hid rfl, trivial⟩
      case measure => simp [intOf]
    · have hm : n1 + n2 = m := HM.out.symm
      have c2 : w.cell? ⟨g, 2, none⟩ = some (.slice A3 n3 c3) := BL.out.cell 2
      subst hm
      go_wp2_with fail
      go_roundw
      case rel => exact ⟨3, n1 + n2 + n3, by omega, by first | rfl | go_num, by first | rfl | go_num, Lib.hid rfl, trivial⟩
      case measure => simp [intOf]
    · have hm : m = n1 + n2 + n3 := HM.out
      have hmp : m = 0 := by omega
      subst hmp
      clear hm
      go_wp2_with fail
      refine (growB_zero _).mono ?_
      rintro e w1 ⟨rfl, rfl⟩
      have HO0 : Hid (w.ownsRow w.heap.size 49 2 (.slice none 0 0) 0 []) := World.ownsRow_nil _ _ _ _
      have hb1 : Below w.heap.size w w := Below.refl _ _
      go_wp2_with fail
      go_loopw [6, 27] (fun u i wr => ∃ k : Nat, k ≤ 3 ∧ i = .int .i64 k ∧ Hid (wr.ownsRow w.heap.size 49 2 u (cat3 b1 b2 b3 k).length (bvals (cat3 b1 b2 b3 k))) ∧ Below w.heap.size w wr) (fun _ i _ => 3 - (intOf i).toNat)
      case atStart => exact ⟨0, by omega, rfl, HO0, hb1⟩
      case round =>
        clear hb1 HO0
        obtain ⟨k, hk, rfl, HO, hbr⟩ := hrel
        obtain ⟨uA, uN, uC, rfl, hul, _⟩ := (Own.of_own HO.out).form
        clear hul
        rcases (show k = 0 ∨ k = 1 ∨ k = 2 ∨ k = 3 by omega) with rfl | rfl | rfl | rfl
        · have c0 : wr.cell? ⟨g, 0, none⟩ = some (.slice A1 n1 c1) := (BL.out.step hbr).cell 0
          have HS := Lib.hid (src_blk (R1.out.below hbr))
          have hown : wr.ownsRow w.heap.size 49 2 (.slice uA uN uC) ([] : List Block).length (bvals ([] : List Block)) := HO.out
          have hln : ([] : List Block).length ≤ 2000000 := by have := HN.out; simp; try omega
          have hlm : b1.length ≤ 1000000 := by have := HN.out; omega
          go_wp2_with (at_builtin; refine wpList_append_src rfl _ _ 27 rfl w.heap.size 49 i0 (.agg #[.int .i64 0, .int .i64 0]) 2 16 Try.underlying27 hi hz0 hz1 hz2 rfl (by decide) _ _ _ rfl hown _ _ _ rfl HS.out (one_blk _) (by simp only [maxLen]; omega) (by omega) hbr.size ?_; intro v' w3 hown' hgrow hat2)
          have hB3 := hbr.grown hgrow hbr.size (fun g hg => (hown.lt g hg).1)
          have HO3 : Hid (w3.ownsRow w.heap.size 49 2 v' (cat3 b1 b2 b3 1).length (bvals (cat3 b1 b2 b3 1))) := by have := hown'; rw [← bvals_append, ← List.length_append] at this; exact this
          clear hown hown' hgrow hat2
          go_roundw
          case rel => exact ⟨1, by omega, by first | rfl | go_num, HO3, hB3⟩
          case measure => simp [intOf]
        · have c1 : wr.cell? ⟨g, 1, none⟩ = some (.slice A2 n2 c2) := (BL.out.step hbr).cell 1
          have HS := Lib.hid (src_blk (R2.out.below hbr))
          have hown : wr.ownsRow w.heap.size 49 2 (.slice uA uN uC) b1.length (bvals b1) := HO.out
          have hln : b1.length ≤ 2000000 := by have := HN.out; simp; try omega
          have hlm : b2.length ≤ 1000000 := by have := HN.out; omega
          go_wp2_with (at_builtin; refine wpList_append_src rfl _ _ 27 rfl w.heap.size 49 i0 (.agg #[.int .i64 0, .int .i64 0]) 2 16 Try.underlying27 hi hz0 hz1 hz2 rfl (by decide) _ _ _ rfl hown _ _ _ rfl HS.out (one_blk _) (by simp only [maxLen]; omega) (by omega) hbr.size ?_; intro v' w3 hown' hgrow hat2)
          have hB3 := hbr.grown hgrow hbr.size (fun g hg => (hown.lt g hg).1)
          have HO3 : Hid (w3.ownsRow w.heap.size 49 2 v' (cat3 b1 b2 b3 2).length (bvals (cat3 b1 b2 b3 2))) := by have := hown'; rw [← bvals_append, ← List.length_append] at this; exact this
          clear hown hown' hgrow hat2
          go_roundw
          case rel => exact ⟨2, by omega, by first | rfl | go_num, HO3, hB3⟩
          case measure => simp [intOf]
        · have c2 : wr.cell? ⟨g, 2, none⟩ = some (.slice A3 n3 c3) := (BL.out.step hbr).cell 2
          have HS := Lib.hid (src_blk (R3.out.below hbr))
          have hown : wr.ownsRow w.heap.size 49 2 (.slice uA uN uC) (b1 ++ b2).length (bvals (b1 ++ b2)) := HO.out
          have hln : (b1 ++ b2).length ≤ 2000000 := by have := HN.out; simp; try omega
          have hlm : b3.length ≤ 1000000 := by have := HN.out; omega
          go_wp2_with (at_builtin; refine wpList_append_src rfl _ _ 27 rfl w.heap.size 49 i0 (.agg #[.int .i64 0, .int .i64 0]) 2 16 Try.underlying27 hi hz0 hz1 hz2 rfl (by decide) _ _ _ rfl hown _ _ _ rfl HS.out (one_blk _) (by simp only [maxLen]; omega) (by omega) hbr.size ?_; intro v' w3 hown' hgrow hat2)
          have hB3 := hbr.grown hgrow hbr.size (fun g hg => (hown.lt g hg).1)
          have HO3 : Hid (w3.ownsRow w.heap.size 49 2 v' (cat3 b1 b2 b3 3).length (bvals (cat3 b1 b2 b3 3))) := by have := hown'; rw [← bvals_append, ← List.length_append] at this; exact this
          clear hown hown' hgrow hat2
          go_roundw
          case rel => exact ⟨3, by omega, by first | rfl | go_num, HO3, hB3⟩
          case measure => simp [intOf]
        · have HF : Hid (Lv wr w.heap.size wr.heap.size (blocks (b1 ++ b2 ++ b3)) (.slice uA uN uC)) := lv_blk HO.out
          go_wp2_with fail
          go_ret
          exact ⟨_, rfl, HF.out, hbr⟩

theorem concat_cut {f1 f2 f3 : List Block} {v1 v2 v3 : Value} {wd : World} {N : Nat} (hN : wd.heap.size = N) (l1 : f1.length ≤ 1000000) (l2 : f2.length ≤ 1000000) (l3 : f3.length ≤ 1000000)
    (r1 : Rep wd wd.heap.size (blocks f1) v1) (r2 : Rep wd wd.heap.size (blocks f2) v2) (r3 : Rep wd wd.heap.size (blocks f3) v3) :
    Calls Try.prog 69 #[.slice (some ⟨N, 0, none⟩) 3 3] ((wd.alloc (.cells #[v1, v2, v3] 27)).drew)
      fun e w' => ∃ u, e = .returned u ∧ Lv w' (N + 1) w'.heap.size (blocks (f1 ++ f2 ++ f3)) u ∧ Below N wd w' := by
  subst hN
  have hB : Below wd.heap.size wd ((wd.alloc (.cells #[v1, v2, v3] 27)).drew) := ((Below.refl _ _).alloc (Nat.le_refl _) _).drew
  have bl := (Blk.new wd 27 #[v1, v2, v3]).drew
  have hsz : ((wd.alloc (.cells #[v1, v2, v3] 27)).drew).heap.size = wd.heap.size + 1 := by simp
  have key : Calls Try.prog 69 #[.slice (some ⟨wd.heap.size, 0, none⟩) 3 3] ((wd.alloc (.cells #[v1, v2, v3] 27)).drew) fun e w' => ∃ u, e = .returned u ∧ Lv w' ((wd.alloc (.cells #[v1, v2, v3] 27)).drew).heap.size w'.heap.size (blocks (f1 ++ f2 ++ f3)) u ∧ Below ((wd.alloc (.cells #[v1, v2, v3] 27)).drew).heap.size ((wd.alloc (.cells #[v1, v2, v3] 27)).drew) w' := by
    by_cases h0 : 0 < f1.length + f2.length + f3.length
    · exact concatG_any l1 l2 l3 h0 bl ((r1.below hB).more hB.size) ((r2.below hB).more hB.size) ((r3.below hB).more hB.size) 3
    · exact concatZ_any l1 l2 l3 (by omega) bl ((r1.below hB).more hB.size) ((r2.below hB).more hB.size) ((r3.below hB).more hB.size) 3
  refine key.mono ?_
  rintro e w' ⟨u, rfl, hL, hb⟩
  rw [hsz] at hL
  exact ⟨u, rfl, hL, hB.trans (hb.mono hB.size)⟩
end Go.Proofs.Ytlppngpafjfjeaa

