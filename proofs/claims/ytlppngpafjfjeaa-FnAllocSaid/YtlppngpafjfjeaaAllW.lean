/-
  Alloc: spec.Alloc, impl.Alloc (by program: gen_allw.py).
-/
import Derived.Test.YtlppngpafjfjeaaAllS
namespace Go.Proofs.Ytlppngpafjfjeaa
open Go.RowKit
set_option linter.unusedVariables false
set_option linter.unusedSimpArgs false
set_option linter.unnecessarySimpa false
set_option maxRecDepth 16000

theorem mAlloc_bad {s : ByteArray} {bs : List Block} {z al : Int} (h : memOk s bs = false) : memAlloc ⟨s, bs⟩ z al = (⟨⟨#[]⟩, []⟩, 0, 1) := by rw [memAlloc, if_neg (by simp [h])]
theorem mAlloc_rng {s : ByteArray} {bs : List Block} {z al : Int} (h : memOk s bs = true) (hc : z < 0 ∨ alOk al = false) : memAlloc ⟨s, bs⟩ z al = (⟨⟨#[]⟩, []⟩, 0, 2) := by rw [memAlloc, if_pos h, if_pos hc]
theorem mAlloc_zero {s : ByteArray} {bs : List Block} {al : Int} (h : memOk s bs = true) (ha : alOk al = true) : memAlloc ⟨s, bs⟩ 0 al = (⟨s, bs⟩, 0, 0) := by rw [memAlloc, if_pos h, if_neg (by simp [ha]), if_pos rfl]
theorem mAlloc_all {s : ByteArray} {bs : List Block} {z : Int} {a : Nat} (h : memOk s bs = true) (ha : alOk (a : Int) = true) (hz : 0 < z) : memAlloc ⟨s, bs⟩ z (a : Int) = allocM s bs z a := by
  rw [memAlloc, if_pos h, if_neg (by simp [ha]; omega), if_neg (by omega), allocM, Int.toNat_natCast]
  rfl
theorem alignOk_any (al : Int) (w : World) : Calls Try.prog 48 #[.int .i64 al] w fun e w' => e = .returned (.bool (alOk al)) ∧ w = w' := by
  by_cases h1 : al = 1
  · subst h1
    go_enter Try.func48, Try.ntmps48
    go_wp2
    go_ret
    exact ⟨rfl, rfl⟩
  by_cases h2 : al = 2
  · subst h2
    go_enter Try.func48, Try.ntmps48
    go_wp2
    go_ret
    exact ⟨rfl, rfl⟩
  by_cases h4 : al = 4
  · subst h4
    go_enter Try.func48, Try.ntmps48
    go_wp2
    go_ret
    exact ⟨rfl, rfl⟩
  have e1 : (al == 1) = false := by simpa using h1
  have e2 : (al == 2) = false := by simpa using h2
  have e4 : (al == 4) = false := by simpa using h4
  by_cases h8 : al = 8
  · subst h8
    go_enter Try.func48, Try.ntmps48
    go_wp2
    go_ret
    exact ⟨rfl, rfl⟩
  have e8 : (al == 8) = false := by simpa using h8
  have HF : Hid (alOk al = false) := by show _ = _; simp [alOk, h1, h2, h4, h8]
  clear h1 h2 h4 h8
  go_enter Try.func48, Try.ntmps48
  go_wp2_with fail
  go_ret
  exact ⟨ret_bool HF.out.symm, rfl⟩
theorem l00Has_any {g c : Nat} {al : Int} {w : World} (c0 : w.cell? ⟨g, 0, none⟩ = some (.int .i64 1)) (c1 : w.cell? ⟨g, 1, none⟩ = some (.int .i64 2)) (c2 : w.cell? ⟨g, 2, none⟩ = some (.int .i64 4)) (c3 : w.cell? ⟨g, 3, none⟩ = some (.int .i64 8)) :
    Calls Try.prog 46 #[.slice (some ⟨g, 0, none⟩) 4 c, .int .i64 al] w fun e w' => e = .returned (.bool (alOk al)) ∧ w = w' := by
  go_enter Try.func46, Try.ntmps46
  go_wp2_with fail
  go_loopw [5] (fun i wr => ∃ k : Nat, k ≤ 4 ∧ i = .int .i64 k ∧ Hid ((0 < k → al ≠ 1) ∧ (1 < k → al ≠ 2) ∧ (2 < k → al ≠ 4) ∧ (3 < k → al ≠ 8)) ∧ w = wr) (fun i _ => 4 - (intOf i).toNat)
  case atStart => exact ⟨0, by omega, rfl, Lib.hid ⟨by omega, by omega, by omega, by omega⟩, rfl⟩
  case round =>
    obtain ⟨k, hk, rfl, HP, rfl⟩ := hrel
    rcases (show k = 0 ∨ k = 1 ∨ k = 2 ∨ k = 3 ∨ k = 4 by omega) with rfl | rfl | rfl | rfl | rfl
    · by_cases h : al = 1
      case pos =>
        subst h
        go_wp2_with fail
        go_ret
        exact ⟨rfl, rfl⟩
      have he : (1 == al) = false := by simp; omega
      have HQ : Hid ((0 < 1 → al ≠ 1) ∧ (1 < 1 → al ≠ 2) ∧ (2 < 1 → al ≠ 4) ∧ (3 < 1 → al ≠ 8)) := by
        obtain ⟨h1, h2, h3, h4⟩ := HP.out
        exact ⟨fun _ => by first | exact h | exact h1 (by omega), fun g => by first | omega | exact h | exact h2 (by omega), fun g => by first | omega | exact h | exact h3 (by omega), fun g => by first | omega | exact h | exact h4 (by omega)⟩
      clear h
      go_wp2_with fail
      go_roundw
      case rel => exact ⟨1, by omega, by first | rfl | go_num, HQ, trivial⟩
      case measure => simp [intOf]
    · by_cases h : al = 2
      case pos =>
        subst h
        go_wp2_with fail
        go_ret
        exact ⟨rfl, rfl⟩
      have he : (2 == al) = false := by simp; omega
      have HQ : Hid ((0 < 2 → al ≠ 1) ∧ (1 < 2 → al ≠ 2) ∧ (2 < 2 → al ≠ 4) ∧ (3 < 2 → al ≠ 8)) := by
        obtain ⟨h1, h2, h3, h4⟩ := HP.out
        exact ⟨fun _ => by first | exact h | exact h1 (by omega), fun g => by first | omega | exact h | exact h2 (by omega), fun g => by first | omega | exact h | exact h3 (by omega), fun g => by first | omega | exact h | exact h4 (by omega)⟩
      clear h
      go_wp2_with fail
      go_roundw
      case rel => exact ⟨2, by omega, by first | rfl | go_num, HQ, trivial⟩
      case measure => simp [intOf]
    · by_cases h : al = 4
      case pos =>
        subst h
        go_wp2_with fail
        go_ret
        exact ⟨rfl, rfl⟩
      have he : (4 == al) = false := by simp; omega
      have HQ : Hid ((0 < 3 → al ≠ 1) ∧ (1 < 3 → al ≠ 2) ∧ (2 < 3 → al ≠ 4) ∧ (3 < 3 → al ≠ 8)) := by
        obtain ⟨h1, h2, h3, h4⟩ := HP.out
        exact ⟨fun _ => by first | exact h | exact h1 (by omega), fun g => by first | omega | exact h | exact h2 (by omega), fun g => by first | omega | exact h | exact h3 (by omega), fun g => by first | omega | exact h | exact h4 (by omega)⟩
      clear h
      go_wp2_with fail
      go_roundw
      case rel => exact ⟨3, by omega, by first | rfl | go_num, HQ, trivial⟩
      case measure => simp [intOf]
    · by_cases h : al = 8
      case pos =>
        subst h
        go_wp2_with fail
        go_ret
        exact ⟨rfl, rfl⟩
      have he : (8 == al) = false := by simp; omega
      have HQ : Hid ((0 < 4 → al ≠ 1) ∧ (1 < 4 → al ≠ 2) ∧ (2 < 4 → al ≠ 4) ∧ (3 < 4 → al ≠ 8)) := by
        obtain ⟨h1, h2, h3, h4⟩ := HP.out
        exact ⟨fun _ => by first | exact h | exact h1 (by omega), fun g => by first | omega | exact h | exact h2 (by omega), fun g => by first | omega | exact h | exact h3 (by omega), fun g => by first | omega | exact h | exact h4 (by omega)⟩
      clear h
      go_wp2_with fail
      go_roundw
      case rel => exact ⟨4, by omega, by first | rfl | go_num, HQ, trivial⟩
      case measure => simp [intOf]
    · have HF : Hid (alOk al = false) := by
        obtain ⟨h1, h2, h3, h4⟩ := HP.out
        have g1 := h1 (by omega)
        have g2 := h2 (by omega)
        have g3 := h3 (by omega)
        have g4 := h4 (by omega)
        show _ = _
        simp [alOk, g1, g2, g3, g4]
      go_wp2_with fail
      go_ret
      exact ⟨ret_bool HF.out.symm, rfl⟩
theorem l00Has_four (al : Int) {w : World} {g : Nat} (hg : w.heap.size = g) : Calls Try.prog 46 #[.slice (some ⟨g, 0, none⟩) 4 4, .int .i64 al] (w.alloc (.cells #[.int .i64 1, .int .i64 2, .int .i64 4, .int .i64 8] 2)) fun e w' => e = .returned (.bool (alOk al)) ∧ Below w.heap.size w w' := by
  subst hg
  have b := Blk.new w 2 #[.int .i64 1, .int .i64 2, .int .i64 4, .int .i64 8]
  refine (l00Has_any (b.cell 0) (b.cell 1) (b.cell 2) (b.cell 3)).mono ?_
  rintro e w' ⟨rfl, rfl⟩
  exact ⟨rfl, (Below.refl _ _).alloc (Nat.le_refl _) _⟩
theorem alloc_zero (p : Nat) (al : Int) (w : World) : Calls Try.prog 50 #[.pointer (some ⟨p, 0, none⟩), .int .i64 0, .int .i64 al] w fun e w' => e = .returned (.tuple #[.int .i64 0, .int .i64 0]) ∧ w = w' := by
  go_enter Try.func50, Try.ntmps50
  go_wp2_with fail
  go_ret2
  exact ⟨rfl, rfl⟩
theorem alloc_nil {p c : Nat} {bv : Value} {A : Option Addr} {z : Int} {a : Nat} {w : World} (bl : Blk w p 60 #[bv, .slice A 0 c]) (hz : 0 < z) :
    Calls Try.prog 50 #[.pointer (some ⟨p, 0, none⟩), .int .i64 z, .int .i64 a] w fun e w' => AllQ w p bv [] z a e w' := by
  have p1 := bl.cell 1
  have hz0 : (z == 0) = false := by simp; omega
  go_enter Try.func50, Try.ntmps50
  go_wp2_with fail
  go_loopw [21] (fun i wr => i = .int .i64 0 ∧ w = wr) (fun _ _ => 0)
  case atStart => exact ⟨rfl, rfl⟩
  case round =>
    obtain ⟨rfl, rfl⟩ := hrel
    go_wp2_with fail
    go_ret2
    exact .inl ⟨rfl, rfl, Below.refl _ _⟩
theorem alloc_all {p : Nat} {bv fv : Value} {fs : List Block} {s : ByteArray} {z : Int} {a : Nat} {w : World} (bl : Blk w p 60 #[bv, fv]) (hR : Rep w w.heap.size (blocks fs) fv) (hcap : ∀ A n c, fv = .slice A n c → n ≤ c) (hM : MemF s fs)
    (hz : 0 < z) (hzz : (Lit.int .i64 z).wf = true) (ha : 1 ≤ a) (ha8 : a ≤ 8) :
    Calls Try.prog 50 #[.pointer (some ⟨p, 0, none⟩), .int .i64 z, .int .i64 a] w fun e w' => AllQ w p bv fs z a e w' := by
  rcases rep_cases hR with ⟨A, c, rfl, rfl⟩ | ⟨g, off, n, c, rfl, hn, hat, hg⟩
  · exact alloc_nil bl hz
  · exact alloc_any bl (hcap _ _ _ rfl) hg hn hat hM hz hzz ha ha8
theorem mem_form {w : World} {lo hi : Nat} {m : Memory} {us : List Value} (h : LvC w lo hi (Memory.pd m) us) : ∃ A n c, us = [.string m.bytes, .slice A n c] := by
  obtain ⟨s, bs⟩ := m
  obtain ⟨F, h, _⟩ := h
  rw [Memory.pd_mk, HoldL] at h
  obtain ⟨c1, cs1, F1, F2, rfl, _, h1, h⟩ := h
  rw [HoldL] at h
  obtain ⟨c2, cs2, F3, F4, rfl, _, h2, h⟩ := h
  rw [HoldL] at h
  obtain ⟨rfl, _⟩ := h
  obtain ⟨rfl, _⟩ := Hold.of_lit h1
  rw [Hold] at h2
  obtain ⟨A2, n2, e2, rfl, _⟩ := h2
  exact ⟨_, _, _, rfl⟩
theorem mem_lv {w : World} {lo hi : Nat} {s : ByteArray} {bs : List Block} {u fv : Value} (h : LvC w lo hi (Memory.pd ⟨s, bs⟩) [u, fv]) : u = .string s ∧ Lv w lo hi (blocks bs) fv := by
  obtain ⟨F, h, hi2, hl⟩ := h
  rw [Memory.pd_mk, HoldL] at h
  obtain ⟨c1, cs1, F1, F2, e1, eF, h1, h⟩ := h
  rw [HoldL] at h
  obtain ⟨c2, cs2, F3, F4, e2, eG, h2, h⟩ := h
  rw [HoldL] at h
  obtain ⟨e3, eH⟩ := h
  injection e1 with e1 e1'
  rw [← e1', e3] at e2
  injection e2 with e2 e2'
  obtain ⟨e4, eF1⟩ := Hold.of_lit h1
  subst e1 e2
  refine ⟨e4, F, ?_, hi2, hl⟩
  subst eF eG eF1 eH
  rw [List.nil_append, List.append_nil]
  exact h2
theorem lvC_keep3 {w : World} {m : Memory} {s : ByteArray} {fv : Value} {lo q r : Nat} {u0 u1 : Value} (h : LvC w r w.heap.size (Memory.pd m) [.string s, fv]) (h1 : q < r) (h2 : lo ≤ q) : LvC ((w.setCell ⟨q, 0, none⟩ u0).setCell ⟨q, 1, none⟩ u1) lo ((w.setCell ⟨q, 0, none⟩ u0).setCell ⟨q, 1, none⟩ u1).heap.size (Memory.pd m) [.string s, fv] := by
  obtain ⟨s2, bs⟩ := m
  obtain ⟨e, hl⟩ := mem_lv h
  injection e with e
  subst e
  exact lvC_mem (hold_keep3 hl h1 h2) _
theorem l10Alloc_zero {s : ByteArray} {bs : List Block} {fv : Value} {al : Int} {w : World} (R : Rep w w.heap.size (blocks bs) fv) (hl : bs.length ≤ 1048576) :
    Calls Try.prog 47 #[.agg #[.string s, fv], .int .i64 0, .int .i64 al] w fun e w' => Mem3 w (⟨s, bs⟩, 0, 0) e w' := by
  have HR := Lib.hid R
  obtain ⟨A2, n2, c2, rfl⟩ := R.form
  clear R
  obtain ⟨w0, hw0⟩ : ∃ W, W = ((w.alloc (.cells #[.string s, .slice A2 n2 c2] 29)).alloc (.cells #[.string ⟨#[]⟩, .slice none 0 0] 29)) := ⟨_, rfl⟩
  have bP : Blk w0 w.heap.size 29 #[.string s, .slice A2 n2 c2] := by rw [hw0]; exact (Blk.new w _ _).alloc _
  have bR : Blk w0 (w.heap.size + 1) 29 #[.string ⟨#[]⟩, .slice none 0 0] := by rw [hw0]; have := Blk.new (w.alloc (.cells #[.string s, .slice A2 n2 c2] 29)) 29 #[.string ⟨#[]⟩, .slice none 0 0]; simpa using this
  have hB : Below w.heap.size w w0 := by rw [hw0]; exact ((Below.refl _ _).alloc (Nat.le_refl _) _).alloc (by simp) _
  have hs0 : w0.heap.size = w.heap.size + 2 := by rw [hw0]; simp
  have HW := Lib.hid hw0
  clear hw0
  have HR0 := Lib.hid (Rep.more (B' := w0.heap.size) hB.size _ _ (HR.out.below hB))
  have p0 : w0.cell? ⟨w.heap.size, 0, none⟩ = some (.string s) := bP.cell 0
  have p1 : w0.cell? ⟨w.heap.size, 1, none⟩ = some (.slice A2 n2 c2) := bP.cell 1
  go_enter Try.func47, Try.ntmps47
  go_wp2_with fail
  rw [← HW.out]
  refine (l10Own_any (s := s) (bs := bs) HR0.out (by omega)).mono ?_
  rintro e w2 ⟨g, c, rfl, hown, hb2⟩
  have bR2 := bR.step hb2
  have hB2 := hB.trans (hb2.mono hB.size)
  have hs2 := hb2.size
  have HLX : Hid (Lv w2 (w.heap.size + 2) w2.heap.size (blocks bs) (.slice (some ⟨g, 0, none⟩) bs.length c)) := by
    show Lv _ _ _ _ _
    obtain ⟨F, a1, a2, a3⟩ := lv_blk hown
    exact ⟨F, a1, ⟨a2.1, fun q hq => by have := a2.2 q hq; omega⟩, by omega⟩
  clear p0 p1 bR bP hown
  have r0 : w2.cell? ⟨w.heap.size + 1, 0, none⟩ = some (.string ⟨#[]⟩) := bR2.cell 0
  have r1 : w2.cell? ⟨w.heap.size + 1, 1, none⟩ = some (.slice none 0 0) := bR2.cell 1
  have f0 := bR2.frozen 0
  have f1 := bR2.frozen 1
  go_wp2_with fail
  refine bodyPost_ret (v := .tuple #[.agg #[.string s, .slice (some ⟨g, 0, none⟩) bs.length c], .int .i64 0, .int .i64 0]) (by simp [results, Try.results47, go_sem, r0, r1]) rfl ⟨[.string s, .slice (some ⟨g, 0, none⟩) bs.length c], rfl, lvC_mem (hold_keep3 HLX.out (q := w.heap.size + 1) (by omega) (by omega)) _, ?_⟩
  repeat (first | exact hB2 | refine Below.setCell ?_ (by simp; try omega) _)
theorem l10Alloc_all {fs : List Block} {s : ByteArray} {fv : Value} {z : Int} {a : Nat} {w : World} (hR : Rep w w.heap.size (blocks fs) fv) (hcap : ∀ A n c, fv = .slice A n c → n ≤ c) (hM : MemF s fs) (hz : 0 < z) (hzz : (Lit.int .i64 z).wf = true) (ha : 1 ≤ a) (ha8 : a ≤ 8) :
    Calls Try.prog 47 #[.agg #[.string s, fv], .int .i64 z, .int .i64 a] w fun e w' => Mem3 w (allocM s fs z a) e w' := by
  rcases rep_cases hR with ⟨A, c, rfl, rfl⟩ | ⟨g, off, n, c, rfl, hn, hat, hg⟩
  · exact l10Alloc_nil hM hz hzz ha ha8
  · exact l10Alloc_any (hcap _ _ _ rfl) hg hn hat hM hz hzz ha ha8
set_option maxHeartbeats 3200000 in
theorem implAlloc_bad {s : ByteArray} {bs : List Block} {z al : Int} {fv : Value} {w : World} (hs : s.size ≤ 1048576) (R : Rep w w.heap.size (blocks bs) fv) (hw : ∀ b ∈ bs, b.wf) (hm : memOk s bs = false) :
    Calls Try.prog 26 #[.agg #[.string s, fv], .int .i64 z, .int .i64 al] w fun e w' => Mem3 w (memAlloc ⟨s, bs⟩ z al) e w' := by
  have HR := Lib.hid R
  obtain ⟨A2, n2, c2, rfl⟩ := R.form
  clear R
  have HF := Lib.hid (mAlloc_bad (z := z) (al := al) hm)
  obtain ⟨w0, hw0⟩ : ∃ W, W = ((w.alloc (.cells #[.string s, .slice A2 n2 c2] 29)).alloc (.cells #[.string ⟨#[]⟩, .slice none 0 0] 29)) := ⟨_, rfl⟩
  have bP : Blk w0 w.heap.size 29 #[.string s, .slice A2 n2 c2] := by rw [hw0]; exact (Blk.new w _ _).alloc _
  have bR : Blk w0 (w.heap.size + 1) 29 #[.string ⟨#[]⟩, .slice none 0 0] := by rw [hw0]; have := Blk.new (w.alloc (.cells #[.string s, .slice A2 n2 c2] 29)) 29 #[.string ⟨#[]⟩, .slice none 0 0]; simpa using this
  have hB : Below w.heap.size w w0 := by rw [hw0]; exact ((Below.refl _ _).alloc (Nat.le_refl _) _).alloc (by simp) _
  have hs0 : w0.heap.size = w.heap.size + 2 := by rw [hw0]; simp
  have HW := Lib.hid hw0
  clear hw0
  go_enter Try.func26, Try.ntmps26
  go_wp2_with fail
  rw [← HW.out]
  refine (implMemoryOk_any (by unfold maxLen; omega) hB.size (HR.out.below hB) hw).mono ?_
  rintro e w1 ⟨rfl, hb1⟩
  rw [hm]
  have bP1 := bP.step hb1
  have bR1 := bR.step hb1
  have hB1 := hB.trans (hb1.mono hB.size)
  have hs1 := hb1.size
  have HR1 := Lib.hid (Rep.more (B' := w1.heap.size) hB1.size _ _ (HR.out.below hB1))
  have p0 : w1.cell? ⟨w.heap.size, 0, none⟩ = some (.string s) := bP1.cell 0
  have p1 : w1.cell? ⟨w.heap.size, 1, none⟩ = some (.slice A2 n2 c2) := bP1.cell 1
  clear hb1 hm
  have r0 : w1.cell? ⟨w.heap.size + 1, 0, none⟩ = some (.string ⟨#[]⟩) := bR1.cell 0
  have r1 : w1.cell? ⟨w.heap.size + 1, 1, none⟩ = some (.slice none 0 0) := bR1.cell 1
  have f0 := bR1.frozen 0
  have f1 := bR1.frozen 1
  go_wp2_with fail
  rw [HF.out]
  refine bodyPost_ret (v := .tuple #[.agg #[.string ⟨#[]⟩, .slice none 0 0], .int .i64 0, .int .i64 1]) (by simp [results, Try.results26, go_sem, r0, r1]) rfl ⟨[.string ⟨#[]⟩, .slice none 0 0], rfl, lvC_mem (nil_blk _ _ (by simp; omega)) _, ?_⟩
  repeat (first | exact hB1 | refine Below.setCell ?_ (by simp; try omega) _)
set_option maxHeartbeats 3200000 in
theorem implAlloc_rng {s : ByteArray} {bs : List Block} {z al : Int} {fv : Value} {w : World} (hm : memOk s bs = true) (R : Rep w w.heap.size (blocks bs) fv) (hw : ∀ b ∈ bs, b.wf) (hc : z < 0 ∨ alOk al = false) :
    Calls Try.prog 26 #[.agg #[.string s, fv], .int .i64 z, .int .i64 al] w fun e w' => Mem3 w (memAlloc ⟨s, bs⟩ z al) e w' := by
  have HM := Lib.hid (memF hm)
  have hs4 := (memF hm).size
  have hl4 := (memF hm).len
  have HR := Lib.hid R
  obtain ⟨A2, n2, c2, rfl⟩ := R.form
  clear R
  have HF := Lib.hid (mAlloc_rng hm hc)
  obtain ⟨w0, hw0⟩ : ∃ W, W = ((w.alloc (.cells #[.string s, .slice A2 n2 c2] 29)).alloc (.cells #[.string ⟨#[]⟩, .slice none 0 0] 29)) := ⟨_, rfl⟩
  have bP : Blk w0 w.heap.size 29 #[.string s, .slice A2 n2 c2] := by rw [hw0]; exact (Blk.new w _ _).alloc _
  have bR : Blk w0 (w.heap.size + 1) 29 #[.string ⟨#[]⟩, .slice none 0 0] := by rw [hw0]; have := Blk.new (w.alloc (.cells #[.string s, .slice A2 n2 c2] 29)) 29 #[.string ⟨#[]⟩, .slice none 0 0]; simpa using this
  have hB : Below w.heap.size w w0 := by rw [hw0]; exact ((Below.refl _ _).alloc (Nat.le_refl _) _).alloc (by simp) _
  have hs0 : w0.heap.size = w.heap.size + 2 := by rw [hw0]; simp
  have HW := Lib.hid hw0
  clear hw0
  go_enter Try.func26, Try.ntmps26
  go_wp2_with fail
  rw [← HW.out]
  refine (implMemoryOk_any (by unfold maxLen; omega) hB.size (HR.out.below hB) hw).mono ?_
  rintro e w1 ⟨rfl, hb1⟩
  rw [hm]
  have bP1 := bP.step hb1
  have bR1 := bR.step hb1
  have hB1 := hB.trans (hb1.mono hB.size)
  have hs1 := hb1.size
  have HR1 := Lib.hid (Rep.more (B' := w1.heap.size) hB1.size _ _ (HR.out.below hB1))
  have p0 : w1.cell? ⟨w.heap.size, 0, none⟩ = some (.string s) := bP1.cell 0
  have p1 : w1.cell? ⟨w.heap.size, 1, none⟩ = some (.slice A2 n2 c2) := bP1.cell 1
  clear hb1 hm
  by_cases hz : z < 0
  case pos =>
    have r0 : w1.cell? ⟨w.heap.size + 1, 0, none⟩ = some (.string ⟨#[]⟩) := bR1.cell 0
    have r1 : w1.cell? ⟨w.heap.size + 1, 1, none⟩ = some (.slice none 0 0) := bR1.cell 1
    have f0 := bR1.frozen 0
    have f1 := bR1.frozen 1
    go_wp2_with fail
    rw [HF.out]
    refine bodyPost_ret (v := .tuple #[.agg #[.string ⟨#[]⟩, .slice none 0 0], .int .i64 0, .int .i64 2]) (by simp [results, Try.results26, go_sem, r0, r1]) rfl ⟨[.string ⟨#[]⟩, .slice none 0 0], rfl, lvC_mem (nil_blk _ _ (by simp; omega)) _, ?_⟩
    repeat (first | exact hB1 | refine Below.setCell ?_ (by simp; try omega) _)
  have ha : alOk al = false := by
    rcases hc with h | h
    · exact absurd h hz
    · exact h
  clear hc
  go_wp2_with fail
  refine (alignOk_any al _).mono ?_
  rintro e w2 ⟨rfl, rfl⟩
  rw [ha]
  have r0 : w1.cell? ⟨w.heap.size + 1, 0, none⟩ = some (.string ⟨#[]⟩) := bR1.cell 0
  have r1 : w1.cell? ⟨w.heap.size + 1, 1, none⟩ = some (.slice none 0 0) := bR1.cell 1
  have f0 := bR1.frozen 0
  have f1 := bR1.frozen 1
  go_wp2_with fail
  rw [HF.out]
  refine bodyPost_ret (v := .tuple #[.agg #[.string ⟨#[]⟩, .slice none 0 0], .int .i64 0, .int .i64 2]) (by simp [results, Try.results26, go_sem, r0, r1]) rfl ⟨[.string ⟨#[]⟩, .slice none 0 0], rfl, lvC_mem (nil_blk _ _ (by simp; omega)) _, ?_⟩
  repeat (first | exact hB1 | refine Below.setCell ?_ (by simp; try omega) _)
set_option maxHeartbeats 6400000 in
theorem implAlloc_zero {s : ByteArray} {bs : List Block} {al : Int} {fv : Value} {w : World} (hm : memOk s bs = true) (R : Rep w w.heap.size (blocks bs) fv) (hw : ∀ b ∈ bs, b.wf) (ha : alOk al = true) :
    Calls Try.prog 26 #[.agg #[.string s, fv], .int .i64 0, .int .i64 al] w fun e w' => Mem3 w (memAlloc ⟨s, bs⟩ 0 al) e w' := by
  have HM := Lib.hid (memF hm)
  have hs4 := (memF hm).size
  have hl4 := (memF hm).len
  have HR := Lib.hid R
  obtain ⟨A2, n2, c2, rfl⟩ := R.form
  clear R
  have HF := Lib.hid (mAlloc_zero hm ha)
  obtain ⟨w0, hw0⟩ : ∃ W, W = ((w.alloc (.cells #[.string s, .slice A2 n2 c2] 29)).alloc (.cells #[.string ⟨#[]⟩, .slice none 0 0] 29)) := ⟨_, rfl⟩
  have bP : Blk w0 w.heap.size 29 #[.string s, .slice A2 n2 c2] := by rw [hw0]; exact (Blk.new w _ _).alloc _
  have bR : Blk w0 (w.heap.size + 1) 29 #[.string ⟨#[]⟩, .slice none 0 0] := by rw [hw0]; have := Blk.new (w.alloc (.cells #[.string s, .slice A2 n2 c2] 29)) 29 #[.string ⟨#[]⟩, .slice none 0 0]; simpa using this
  have hB : Below w.heap.size w w0 := by rw [hw0]; exact ((Below.refl _ _).alloc (Nat.le_refl _) _).alloc (by simp) _
  have hs0 : w0.heap.size = w.heap.size + 2 := by rw [hw0]; simp
  have HW := Lib.hid hw0
  clear hw0
  go_enter Try.func26, Try.ntmps26
  go_wp2_with fail
  rw [← HW.out]
  refine (implMemoryOk_any (by unfold maxLen; omega) hB.size (HR.out.below hB) hw).mono ?_
  rintro e w1 ⟨rfl, hb1⟩
  rw [hm]
  have bP1 := bP.step hb1
  have bR1 := bR.step hb1
  have hB1 := hB.trans (hb1.mono hB.size)
  have hs1 := hb1.size
  have HR1 := Lib.hid (Rep.more (B' := w1.heap.size) hB1.size _ _ (HR.out.below hB1))
  have p0 : w1.cell? ⟨w.heap.size, 0, none⟩ = some (.string s) := bP1.cell 0
  have p1 : w1.cell? ⟨w.heap.size, 1, none⟩ = some (.slice A2 n2 c2) := bP1.cell 1
  clear hb1 hm
  go_wp2_with fail
  refine (alignOk_any al _).mono ?_
  rintro e w2 ⟨rfl, rfl⟩
  rw [ha]
  go_wp2_with fail
  refine (storeOf_any (s := s) (bs := bs) (by omega) HR1.out (by omega)).mono ?_
  rintro e w2 ⟨p, bv, fv', rfl, bl, hp, hx, hf, hb2⟩
  have bR2 := bR1.step hb2
  have hB2 := hB1.trans (hb2.mono hB1.size)
  have HXF := Lib.hid (And.intro bl (And.intro hx hf))
  have hpl := bl.lt
  have hs2 := hb2.size
  clear p0 p1 bP1 bR1 bR bP bl hx hf
  go_wp2_with fail
  refine (alloc_zero _ _ _).mono ?_
  rintro e w3 ⟨rfl, rfl⟩
  have HG := Lib.hid (And.intro (bytesV_row HXF.out.2.1) (HXF.out.2.2.parts).1)
  go_wp2_with fail
  refine (memory_any HXF.out.1 HG.out.1 HG.out.2 (by omega)).mono ?_
  rintro e w4 ⟨fv4, rfl, hL4, hb4⟩
  have bR4 := bR2.step hb4
  have hB4 := hB2.trans (hb4.mono hB2.size)
  obtain ⟨A4, n4, c4, rfl⟩ := hL4.form
  have HL4 := Lib.hid hL4
  clear hL4
  have r0 : w4.cell? ⟨w.heap.size + 1, 0, none⟩ = some (.string ⟨#[]⟩) := bR4.cell 0
  have r1 : w4.cell? ⟨w.heap.size + 1, 1, none⟩ = some (.slice none 0 0) := bR4.cell 1
  have f0 := bR4.frozen 0
  have f1 := bR4.frozen 1
  have hs4' := hb4.size
  go_wp2_with fail
  rw [HF.out]
  refine bodyPost_ret (v := .tuple #[.agg #[.string s, .slice A4 n4 c4], .int .i64 0, .int .i64 0]) (by simp [results, Try.results26, go_sem, r0, r1]) rfl ⟨[.string s, .slice A4 n4 c4], rfl, lvC_mem (hold_keep3 HL4.out (q := w.heap.size + 1) (by omega) (by omega)) _, ?_⟩
  repeat (first | exact hB4 | refine Below.setCell ?_ (by simp; try omega) _)
set_option maxHeartbeats 12800000 in
theorem implAlloc_all {s : ByteArray} {bs : List Block} {z : Int} {a : Nat} {fv : Value} {w : World} (hm : memOk s bs = true) (R : Rep w w.heap.size (blocks bs) fv) (hw : ∀ b ∈ bs, b.wf) (ha : alOk (a : Int) = true) (hzz : (Lit.int .i64 z).wf = true) (hz : 0 < z) (hcap : ∀ A n c, fv = .slice A n c → n ≤ c) :
    Calls Try.prog 26 #[.agg #[.string s, fv], .int .i64 z, .int .i64 (a : Int)] w fun e w' => Mem3 w (memAlloc ⟨s, bs⟩ z (a : Int)) e w' := by
  have HM := Lib.hid (memF hm)
  have hs4 := (memF hm).size
  have hl4 := (memF hm).len
  have HR := Lib.hid R
  obtain ⟨A2, n2, c2, rfl⟩ := R.form
  clear R
  have HF := Lib.hid (mAlloc_all hm ha hz)
  have hal : 1 ≤ a ∧ a ≤ 8 := by have := alOk_cases ha; omega
  have hcc := hcap _ _ _ rfl
  obtain ⟨w0, hw0⟩ : ∃ W, W = ((w.alloc (.cells #[.string s, .slice A2 n2 c2] 29)).alloc (.cells #[.string ⟨#[]⟩, .slice none 0 0] 29)) := ⟨_, rfl⟩
  have bP : Blk w0 w.heap.size 29 #[.string s, .slice A2 n2 c2] := by rw [hw0]; exact (Blk.new w _ _).alloc _
  have bR : Blk w0 (w.heap.size + 1) 29 #[.string ⟨#[]⟩, .slice none 0 0] := by rw [hw0]; have := Blk.new (w.alloc (.cells #[.string s, .slice A2 n2 c2] 29)) 29 #[.string ⟨#[]⟩, .slice none 0 0]; simpa using this
  have hB : Below w.heap.size w w0 := by rw [hw0]; exact ((Below.refl _ _).alloc (Nat.le_refl _) _).alloc (by simp) _
  have hs0 : w0.heap.size = w.heap.size + 2 := by rw [hw0]; simp
  have HW := Lib.hid hw0
  clear hw0
  go_enter Try.func26, Try.ntmps26
  go_wp2_with fail
  rw [← HW.out]
  refine (implMemoryOk_any (by unfold maxLen; omega) hB.size (HR.out.below hB) hw).mono ?_
  rintro e w1 ⟨rfl, hb1⟩
  rw [hm]
  have bP1 := bP.step hb1
  have bR1 := bR.step hb1
  have hB1 := hB.trans (hb1.mono hB.size)
  have hs1 := hb1.size
  have HR1 := Lib.hid (Rep.more (B' := w1.heap.size) hB1.size _ _ (HR.out.below hB1))
  have p0 : w1.cell? ⟨w.heap.size, 0, none⟩ = some (.string s) := bP1.cell 0
  have p1 : w1.cell? ⟨w.heap.size, 1, none⟩ = some (.slice A2 n2 c2) := bP1.cell 1
  clear hb1 hm
  go_wp2_with fail
  refine (alignOk_any _ _).mono ?_
  rintro e w2 ⟨rfl, rfl⟩
  rw [ha]
  go_wp2_with fail
  refine (storeOf_any (s := s) (bs := bs) (by omega) HR1.out (by omega)).mono ?_
  rintro e w2 ⟨p, bv, fv', rfl, bl, hp, hx, hf, hb2⟩
  have bR2 := bR1.step hb2
  have hB2 := hB1.trans (hb2.mono hB1.size)
  have HXF := Lib.hid (And.intro bl (And.intro hx hf))
  have hpl := bl.lt
  have hs2 := hb2.size
  clear p0 p1 bP1 bR1 bR bP bl hx hf
  go_wp2_with fail
  refine (alloc_all HXF.out.1 (HXF.out.2.2.parts).1 (HXF.out.2.2.parts).2 HM.out hz hzz hal.1 hal.2).mono ?_
  intro e w3 hq
  rcases hq with ⟨hno, rfl, hb3⟩ | ⟨l, t, fv3, hyes, rfl, bl3, hL3, hK3⟩
  · have HF2 := Lib.hid (allocM_none (s := s) hno)
    have bR3 := bR2.step hb3
    have hB3 := hB2.trans (hb3.mono hB2.size)
    have hs3 := hb3.size
    clear hno
    have r0 : w3.cell? ⟨w.heap.size + 1, 0, none⟩ = some (.string ⟨#[]⟩) := bR3.cell 0
    have r1 : w3.cell? ⟨w.heap.size + 1, 1, none⟩ = some (.slice none 0 0) := bR3.cell 1
    have f0 := bR3.frozen 0
    have f1 := bR3.frozen 1
    go_wp2_with fail
    rw [HF.out, HF2.out]
    refine bodyPost_ret (v := .tuple #[.agg #[.string ⟨#[]⟩, .slice none 0 0], .int .i64 0, .int .i64 4]) (by simp [results, Try.results26, go_sem, r0, r1]) rfl ⟨[.string ⟨#[]⟩, .slice none 0 0], rfl, lvC_mem (nil_blk _ _ (by simp; omega)) _, ?_⟩
    repeat (first | exact hB3 | refine Below.setCell ?_ (by simp; try omega) _)
  have HF2 := Lib.hid (allocM_some (s := s) hyes)
  have hll := allocR_len hyes
  have hb3 : Below w2.heap.size w2 w3 ∨ True := .inr trivial
  have bR3 := bR2.below (hK3.below (by omega)) (by omega)
  have hB3 : Below w.heap.size w w3 := hB2.trans ((hK3.below (by omega)).mono (by omega))
  have hs3 : w2.heap.size ≤ w3.heap.size := (hK3.below (by omega : p ≤ w2.heap.size)).size
  have hxr := HXF.out.2.1
  have hneq : bv.ownBlock ≠ some p := fun e => by
    obtain ⟨F, _, _, _, h4⟩ := HXF.out.2.2
    exact (h4 p e).2 rfl
  have HG := Lib.hid (And.intro (bytesV_row (hxr.kept' hK3 hneq)) hL3.is)
  have HBL := Lib.hid bl3
  clear hyes hK3 hL3 bl3 hxr hneq hb3
  go_wp2_with fail
  refine (memory_any HBL.out HG.out.1 HG.out.2 (by omega)).mono ?_
  rintro e w4 ⟨fv4, rfl, hL4, hb4⟩
  have bR4 := bR3.step hb4
  have hB4 := hB3.trans (hb4.mono hB3.size)
  obtain ⟨A4, n4, c4, rfl⟩ := hL4.form
  have HL4 := Lib.hid hL4
  clear hL4
  have r0 : w4.cell? ⟨w.heap.size + 1, 0, none⟩ = some (.string ⟨#[]⟩) := bR4.cell 0
  have r1 : w4.cell? ⟨w.heap.size + 1, 1, none⟩ = some (.slice none 0 0) := bR4.cell 1
  have f0 := bR4.frozen 0
  have f1 := bR4.frozen 1
  have hs4' := hb4.size
  go_wp2_with fail
  rw [HF.out, HF2.out]
  refine bodyPost_ret (v := .tuple #[.agg #[.string s, .slice A4 n4 c4], .int .i64 t, .int .i64 0]) (by simp [results, Try.results26, go_sem, r0, r1]) rfl ⟨[.string s, .slice A4 n4 c4], rfl, lvC_mem (hold_keep3 HL4.out (q := w.heap.size + 1) (by omega) (by omega)) _, ?_⟩
  repeat (first | exact hB4 | refine Below.setCell ?_ (by simp; try omega) _)
set_option maxHeartbeats 3200000 in
theorem specAlloc_bad {s : ByteArray} {bs : List Block} {z al : Int} {fv : Value} {w : World} (hs : s.size ≤ 1048576) (R : Rep w w.heap.size (blocks bs) fv) (hw : ∀ b ∈ bs, b.wf) (hm : memOk s bs = false) :
    Calls Try.prog 25 #[.agg #[.string s, fv], .int .i64 z, .int .i64 al] w fun e w' => Mem3 w (memAlloc ⟨s, bs⟩ z al) e w' := by
  have HR := Lib.hid R
  obtain ⟨A2, n2, c2, rfl⟩ := R.form
  clear R
  have HF := Lib.hid (mAlloc_bad (z := z) (al := al) hm)
  obtain ⟨w0, hw0⟩ : ∃ W, W = ((w.alloc (.cells #[.string s, .slice A2 n2 c2] 29)).alloc (.cells #[.string ⟨#[]⟩, .slice none 0 0] 29)) := ⟨_, rfl⟩
  have bP : Blk w0 w.heap.size 29 #[.string s, .slice A2 n2 c2] := by rw [hw0]; exact (Blk.new w _ _).alloc _
  have bR : Blk w0 (w.heap.size + 1) 29 #[.string ⟨#[]⟩, .slice none 0 0] := by rw [hw0]; have := Blk.new (w.alloc (.cells #[.string s, .slice A2 n2 c2] 29)) 29 #[.string ⟨#[]⟩, .slice none 0 0]; simpa using this
  have hB : Below w.heap.size w w0 := by rw [hw0]; exact ((Below.refl _ _).alloc (Nat.le_refl _) _).alloc (by simp) _
  have hs0 : w0.heap.size = w.heap.size + 2 := by rw [hw0]; simp
  have HW := Lib.hid hw0
  clear hw0
  go_enter Try.func25, Try.ntmps25
  go_wp2_with fail
  rw [← HW.out]
  refine (specMemoryOk_any (by unfold maxLen; omega) hB.size (HR.out.below hB) hw).mono ?_
  rintro e w1 ⟨rfl, hb1⟩
  rw [hm]
  have bP1 := bP.step hb1
  have bR1 := bR.step hb1
  have hB1 := hB.trans (hb1.mono hB.size)
  have hs1 := hb1.size
  have HR1 := Lib.hid (Rep.more (B' := w1.heap.size) hB1.size _ _ (HR.out.below hB1))
  have p0 : w1.cell? ⟨w.heap.size, 0, none⟩ = some (.string s) := bP1.cell 0
  have p1 : w1.cell? ⟨w.heap.size, 1, none⟩ = some (.slice A2 n2 c2) := bP1.cell 1
  clear hb1 hm
  have r0 : w1.cell? ⟨w.heap.size + 1, 0, none⟩ = some (.string ⟨#[]⟩) := bR1.cell 0
  have r1 : w1.cell? ⟨w.heap.size + 1, 1, none⟩ = some (.slice none 0 0) := bR1.cell 1
  have f0 := bR1.frozen 0
  have f1 := bR1.frozen 1
  go_wp2_with fail
  rw [HF.out]
  refine bodyPost_ret (v := .tuple #[.agg #[.string ⟨#[]⟩, .slice none 0 0], .int .i64 0, .int .i64 1]) (by simp [results, Try.results25, go_sem, r0, r1]) rfl ⟨[.string ⟨#[]⟩, .slice none 0 0], rfl, lvC_mem (nil_blk _ _ (by simp; omega)) _, ?_⟩
  repeat (first | exact hB1 | refine Below.setCell ?_ (by simp; try omega) _)
set_option maxHeartbeats 3200000 in
theorem specAlloc_rng {s : ByteArray} {bs : List Block} {z al : Int} {fv : Value} {w : World} (hm : memOk s bs = true) (R : Rep w w.heap.size (blocks bs) fv) (hw : ∀ b ∈ bs, b.wf) (hc : z < 0 ∨ alOk al = false) :
    Calls Try.prog 25 #[.agg #[.string s, fv], .int .i64 z, .int .i64 al] w fun e w' => Mem3 w (memAlloc ⟨s, bs⟩ z al) e w' := by
  have HM := Lib.hid (memF hm)
  have hs4 := (memF hm).size
  have hl4 := (memF hm).len
  have HR := Lib.hid R
  obtain ⟨A2, n2, c2, rfl⟩ := R.form
  clear R
  have HF := Lib.hid (mAlloc_rng hm hc)
  obtain ⟨w0, hw0⟩ : ∃ W, W = ((w.alloc (.cells #[.string s, .slice A2 n2 c2] 29)).alloc (.cells #[.string ⟨#[]⟩, .slice none 0 0] 29)) := ⟨_, rfl⟩
  have bP : Blk w0 w.heap.size 29 #[.string s, .slice A2 n2 c2] := by rw [hw0]; exact (Blk.new w _ _).alloc _
  have bR : Blk w0 (w.heap.size + 1) 29 #[.string ⟨#[]⟩, .slice none 0 0] := by rw [hw0]; have := Blk.new (w.alloc (.cells #[.string s, .slice A2 n2 c2] 29)) 29 #[.string ⟨#[]⟩, .slice none 0 0]; simpa using this
  have hB : Below w.heap.size w w0 := by rw [hw0]; exact ((Below.refl _ _).alloc (Nat.le_refl _) _).alloc (by simp) _
  have hs0 : w0.heap.size = w.heap.size + 2 := by rw [hw0]; simp
  have HW := Lib.hid hw0
  clear hw0
  go_enter Try.func25, Try.ntmps25
  go_wp2_with fail
  rw [← HW.out]
  refine (specMemoryOk_any (by unfold maxLen; omega) hB.size (HR.out.below hB) hw).mono ?_
  rintro e w1 ⟨rfl, hb1⟩
  rw [hm]
  have bP1 := bP.step hb1
  have bR1 := bR.step hb1
  have hB1 := hB.trans (hb1.mono hB.size)
  have hs1 := hb1.size
  have HR1 := Lib.hid (Rep.more (B' := w1.heap.size) hB1.size _ _ (HR.out.below hB1))
  have p0 : w1.cell? ⟨w.heap.size, 0, none⟩ = some (.string s) := bP1.cell 0
  have p1 : w1.cell? ⟨w.heap.size, 1, none⟩ = some (.slice A2 n2 c2) := bP1.cell 1
  clear hb1 hm
  by_cases hz : z < 0
  case pos =>
    have r0 : w1.cell? ⟨w.heap.size + 1, 0, none⟩ = some (.string ⟨#[]⟩) := bR1.cell 0
    have r1 : w1.cell? ⟨w.heap.size + 1, 1, none⟩ = some (.slice none 0 0) := bR1.cell 1
    have f0 := bR1.frozen 0
    have f1 := bR1.frozen 1
    go_wp2_with fail
    rw [HF.out]
    refine bodyPost_ret (v := .tuple #[.agg #[.string ⟨#[]⟩, .slice none 0 0], .int .i64 0, .int .i64 2]) (by simp [results, Try.results25, go_sem, r0, r1]) rfl ⟨[.string ⟨#[]⟩, .slice none 0 0], rfl, lvC_mem (nil_blk _ _ (by simp; omega)) _, ?_⟩
    repeat (first | exact hB1 | refine Below.setCell ?_ (by simp; try omega) _)
  have ha : alOk al = false := by
    rcases hc with h | h
    · exact absurd h hz
    · exact h
  clear hc
  go_wp2_with fail
  refine (l00Has_four al (w := w1) rfl).mono ?_
  rintro e w2 ⟨rfl, hb2⟩
  rw [ha]
  have bR2 := bR1.step hb2
  have hB2 := hB1.trans (hb2.mono hB1.size)
  have hs2 := hb2.size
  have r0 : w2.cell? ⟨w.heap.size + 1, 0, none⟩ = some (.string ⟨#[]⟩) := bR2.cell 0
  have r1 : w2.cell? ⟨w.heap.size + 1, 1, none⟩ = some (.slice none 0 0) := bR2.cell 1
  have f0 := bR2.frozen 0
  have f1 := bR2.frozen 1
  go_wp2_with fail
  rw [HF.out]
  refine bodyPost_ret (v := .tuple #[.agg #[.string ⟨#[]⟩, .slice none 0 0], .int .i64 0, .int .i64 2]) (by simp [results, Try.results25, go_sem, r0, r1]) rfl ⟨[.string ⟨#[]⟩, .slice none 0 0], rfl, lvC_mem (nil_blk _ _ (by simp; omega)) _, ?_⟩
  repeat (first | exact hB2 | refine Below.setCell ?_ (by simp; try omega) _)
set_option maxHeartbeats 6400000 in
theorem specAlloc_zero {s : ByteArray} {bs : List Block} {al : Int} {fv : Value} {w : World} (hm : memOk s bs = true) (R : Rep w w.heap.size (blocks bs) fv) (hw : ∀ b ∈ bs, b.wf) (ha : alOk al = true) :
    Calls Try.prog 25 #[.agg #[.string s, fv], .int .i64 0, .int .i64 al] w fun e w' => Mem3 w (memAlloc ⟨s, bs⟩ 0 al) e w' := by
  have HM := Lib.hid (memF hm)
  have hs4 := (memF hm).size
  have hl4 := (memF hm).len
  have HR := Lib.hid R
  obtain ⟨A2, n2, c2, rfl⟩ := R.form
  clear R
  have HF := Lib.hid (mAlloc_zero hm ha)
  obtain ⟨w0, hw0⟩ : ∃ W, W = ((w.alloc (.cells #[.string s, .slice A2 n2 c2] 29)).alloc (.cells #[.string ⟨#[]⟩, .slice none 0 0] 29)) := ⟨_, rfl⟩
  have bP : Blk w0 w.heap.size 29 #[.string s, .slice A2 n2 c2] := by rw [hw0]; exact (Blk.new w _ _).alloc _
  have bR : Blk w0 (w.heap.size + 1) 29 #[.string ⟨#[]⟩, .slice none 0 0] := by rw [hw0]; have := Blk.new (w.alloc (.cells #[.string s, .slice A2 n2 c2] 29)) 29 #[.string ⟨#[]⟩, .slice none 0 0]; simpa using this
  have hB : Below w.heap.size w w0 := by rw [hw0]; exact ((Below.refl _ _).alloc (Nat.le_refl _) _).alloc (by simp) _
  have hs0 : w0.heap.size = w.heap.size + 2 := by rw [hw0]; simp
  have HW := Lib.hid hw0
  clear hw0
  go_enter Try.func25, Try.ntmps25
  go_wp2_with fail
  rw [← HW.out]
  refine (specMemoryOk_any (by unfold maxLen; omega) hB.size (HR.out.below hB) hw).mono ?_
  rintro e w1 ⟨rfl, hb1⟩
  rw [hm]
  have bP1 := bP.step hb1
  have bR1 := bR.step hb1
  have hB1 := hB.trans (hb1.mono hB.size)
  have hs1 := hb1.size
  have HR1 := Lib.hid (Rep.more (B' := w1.heap.size) hB1.size _ _ (HR.out.below hB1))
  have p0 : w1.cell? ⟨w.heap.size, 0, none⟩ = some (.string s) := bP1.cell 0
  have p1 : w1.cell? ⟨w.heap.size, 1, none⟩ = some (.slice A2 n2 c2) := bP1.cell 1
  clear hb1 hm
  go_wp2_with fail
  refine (l00Has_four al (w := w1) rfl).mono ?_
  rintro e w2 ⟨rfl, hb2⟩
  rw [ha]
  have bR2 := bR1.step hb2
  have bP2 := bP1.step hb2
  have hB2 := hB1.trans (hb2.mono hB1.size)
  have hs2 := hb2.size
  have HR2 := Lib.hid (Rep.more (B' := w2.heap.size) hb2.size _ _ (HR1.out.below hb2))
  clear p0 p1
  have p0 : w2.cell? ⟨w.heap.size, 0, none⟩ = some (.string s) := bP2.cell 0
  have p1 : w2.cell? ⟨w.heap.size, 1, none⟩ = some (.slice A2 n2 c2) := bP2.cell 1
  go_wp2_with fail
  refine (l10Alloc_zero (s := s) (bs := bs) HR2.out (by omega)).mono ?_
  rintro e w3 ⟨us, rfl, hl3, hb3⟩
  obtain ⟨A3, n3, c3, hus⟩ := mem_form hl3
  subst hus
  have bR3 := bR2.step hb3
  have hB3 := hB2.trans (hb3.mono hB2.size)
  have hs3 := hb3.size
  have HL3 := Lib.hid hl3
  have r0 : w3.cell? ⟨w.heap.size + 1, 0, none⟩ = some (.string ⟨#[]⟩) := bR3.cell 0
  have r1 : w3.cell? ⟨w.heap.size + 1, 1, none⟩ = some (.slice none 0 0) := bR3.cell 1
  have f0 := bR3.frozen 0
  have f1 := bR3.frozen 1
  clear hl3
  go_wp2_with fail
  rw [HF.out]
  refine bodyPost_ret (v := .tuple #[.agg #[.string _, .slice A3 n3 c3], .int .i64 _, .int .i64 _]) (by simp [results, Try.results25, go_sem, r0, r1]) rfl ⟨[.string _, .slice A3 n3 c3], rfl, lvC_keep3 HL3.out (q := w.heap.size + 1) (by omega) (by omega), ?_⟩
  repeat (first | exact hB3 | refine Below.setCell ?_ (by simp; try omega) _)
set_option maxHeartbeats 12800000 in
theorem specAlloc_all {s : ByteArray} {bs : List Block} {z : Int} {a : Nat} {fv : Value} {w : World} (hm : memOk s bs = true) (R : Rep w w.heap.size (blocks bs) fv) (hw : ∀ b ∈ bs, b.wf) (ha : alOk (a : Int) = true) (hzz : (Lit.int .i64 z).wf = true) (hz : 0 < z) (hcap : ∀ A n c, fv = .slice A n c → n ≤ c) :
    Calls Try.prog 25 #[.agg #[.string s, fv], .int .i64 z, .int .i64 (a : Int)] w fun e w' => Mem3 w (memAlloc ⟨s, bs⟩ z (a : Int)) e w' := by
  have HM := Lib.hid (memF hm)
  have hs4 := (memF hm).size
  have hl4 := (memF hm).len
  have HR := Lib.hid R
  obtain ⟨A2, n2, c2, rfl⟩ := R.form
  clear R
  have HF := Lib.hid (mAlloc_all hm ha hz)
  have hal : 1 ≤ a ∧ a ≤ 8 := by have := alOk_cases ha; omega
  have hcc := hcap _ _ _ rfl
  obtain ⟨w0, hw0⟩ : ∃ W, W = ((w.alloc (.cells #[.string s, .slice A2 n2 c2] 29)).alloc (.cells #[.string ⟨#[]⟩, .slice none 0 0] 29)) := ⟨_, rfl⟩
  have bP : Blk w0 w.heap.size 29 #[.string s, .slice A2 n2 c2] := by rw [hw0]; exact (Blk.new w _ _).alloc _
  have bR : Blk w0 (w.heap.size + 1) 29 #[.string ⟨#[]⟩, .slice none 0 0] := by rw [hw0]; have := Blk.new (w.alloc (.cells #[.string s, .slice A2 n2 c2] 29)) 29 #[.string ⟨#[]⟩, .slice none 0 0]; simpa using this
  have hB : Below w.heap.size w w0 := by rw [hw0]; exact ((Below.refl _ _).alloc (Nat.le_refl _) _).alloc (by simp) _
  have hs0 : w0.heap.size = w.heap.size + 2 := by rw [hw0]; simp
  have HW := Lib.hid hw0
  clear hw0
  go_enter Try.func25, Try.ntmps25
  go_wp2_with fail
  rw [← HW.out]
  refine (specMemoryOk_any (by unfold maxLen; omega) hB.size (HR.out.below hB) hw).mono ?_
  rintro e w1 ⟨rfl, hb1⟩
  rw [hm]
  have bP1 := bP.step hb1
  have bR1 := bR.step hb1
  have hB1 := hB.trans (hb1.mono hB.size)
  have hs1 := hb1.size
  have HR1 := Lib.hid (Rep.more (B' := w1.heap.size) hB1.size _ _ (HR.out.below hB1))
  have p0 : w1.cell? ⟨w.heap.size, 0, none⟩ = some (.string s) := bP1.cell 0
  have p1 : w1.cell? ⟨w.heap.size, 1, none⟩ = some (.slice A2 n2 c2) := bP1.cell 1
  clear hb1 hm
  go_wp2_with fail
  refine (l00Has_four _ (w := w1) rfl).mono ?_
  rintro e w2 ⟨rfl, hb2⟩
  rw [ha]
  have bR2 := bR1.step hb2
  have bP2 := bP1.step hb2
  have hB2 := hB1.trans (hb2.mono hB1.size)
  have hs2 := hb2.size
  have HR2 := Lib.hid (Rep.more (B' := w2.heap.size) hb2.size _ _ (HR1.out.below hb2))
  clear p0 p1
  have p0 : w2.cell? ⟨w.heap.size, 0, none⟩ = some (.string s) := bP2.cell 0
  have p1 : w2.cell? ⟨w.heap.size, 1, none⟩ = some (.slice A2 n2 c2) := bP2.cell 1
  go_wp2_with fail
  refine (l10Alloc_all HR2.out (fun A n c e => by cases e; exact hcc) HM.out hz hzz hal.1 hal.2).mono ?_
  rintro e w3 ⟨us, rfl, hl3, hb3⟩
  obtain ⟨A3, n3, c3, hus⟩ := mem_form hl3
  subst hus
  have bR3 := bR2.step hb3
  have hB3 := hB2.trans (hb3.mono hB2.size)
  have hs3 := hb3.size
  have HL3 := Lib.hid hl3
  have r0 : w3.cell? ⟨w.heap.size + 1, 0, none⟩ = some (.string ⟨#[]⟩) := bR3.cell 0
  have r1 : w3.cell? ⟨w.heap.size + 1, 1, none⟩ = some (.slice none 0 0) := bR3.cell 1
  have f0 := bR3.frozen 0
  have f1 := bR3.frozen 1
  clear hl3
  go_wp2_with fail
  rw [HF.out]
  refine bodyPost_ret (v := .tuple #[.agg #[.string _, .slice A3 n3 c3], .int .i64 _, .int .i64 _]) (by simp [results, Try.results25, go_sem, r0, r1]) rfl ⟨[.string _, .slice A3 n3 c3], rfl, lvC_keep3 HL3.out (q := w.heap.size + 1) (by omega) (by omega), ?_⟩
  repeat (first | exact hB3 | refine Below.setCell ?_ (by simp; try omega) _)
theorem specAlloc_ok (m : Memory) (z al : Int) (hwf : PD.wfL (Memory.pd m)) (hsz : PD.szL (Memory.pd m) ≤ 1048576) (hz : (Lit.int .i64 z).wf = true) (ha : (Lit.int .i64 al).wf = true) : ∀ (B : Nat) (cs : List Value) (w : World), B ≤ w.heap.size → CapC cs → RepC w B (Memory.pd m) cs →
    Calls Try.prog 25 #[.agg cs.toArray, .int .i64 z, .int .i64 al] w fun e w' => ∃ us, e = .returned (.tuple #[.agg us.toArray, .int .i64 (memAlloc m z al).2.1, .int .i64 (memAlloc m z al).2.2]) ∧ LvC w' w.heap.size w'.heap.size (Memory.pd (memAlloc m z al).1) us ∧ Below w.heap.size w w' := by
  obtain ⟨s, bs⟩ := m
  intro B cs w hB hC h
  obtain ⟨fv, rfl, hr⟩ := Memory.open_ h
  have hR : Rep w w.heap.size (blocks bs) fv := Rep.more hB _ _ hr
  obtain ⟨hs, hl⟩ := mem_sz hsz
  cases hm : memOk s bs
  · exact specAlloc_bad hs hR (mem_wf hwf) hm
  · by_cases hc : z < 0 ∨ alOk al = false
    · exact specAlloc_rng hm hR (mem_wf hwf) hc
    · have hal : alOk al = true := by
        cases h : alOk al
        · exact absurd (.inr h) hc
        · rfl
      have hz0 : ¬ z < 0 := fun h => hc (.inl h)
      by_cases h0 : z = 0
      · subst h0; exact specAlloc_zero hm hR (mem_wf hwf) hal
      · obtain ⟨a, rfl⟩ : ∃ a : Nat, al = (a : Int) := ⟨al.toNat, by have := alOk_cases hal; omega⟩
        exact specAlloc_all hm hR (mem_wf hwf) hal hz (by omega) (fun A n c e => hC A n c (by rw [e]; simp))
theorem implAlloc_ok (m : Memory) (z al : Int) (hwf : PD.wfL (Memory.pd m)) (hsz : PD.szL (Memory.pd m) ≤ 1048576) (hz : (Lit.int .i64 z).wf = true) (ha : (Lit.int .i64 al).wf = true) : ∀ (B : Nat) (cs : List Value) (w : World), B ≤ w.heap.size → CapC cs → RepC w B (Memory.pd m) cs →
    Calls Try.prog 26 #[.agg cs.toArray, .int .i64 z, .int .i64 al] w fun e w' => ∃ us, e = .returned (.tuple #[.agg us.toArray, .int .i64 (memAlloc m z al).2.1, .int .i64 (memAlloc m z al).2.2]) ∧ LvC w' w.heap.size w'.heap.size (Memory.pd (memAlloc m z al).1) us ∧ Below w.heap.size w w' := by
  obtain ⟨s, bs⟩ := m
  intro B cs w hB hC h
  obtain ⟨fv, rfl, hr⟩ := Memory.open_ h
  have hR : Rep w w.heap.size (blocks bs) fv := Rep.more hB _ _ hr
  obtain ⟨hs, hl⟩ := mem_sz hsz
  cases hm : memOk s bs
  · exact implAlloc_bad hs hR (mem_wf hwf) hm
  · by_cases hc : z < 0 ∨ alOk al = false
    · exact implAlloc_rng hm hR (mem_wf hwf) hc
    · have hal : alOk al = true := by
        cases h : alOk al
        · exact absurd (.inr h) hc
        · rfl
      have hz0 : ¬ z < 0 := fun h => hc (.inl h)
      by_cases h0 : z = 0
      · subst h0; exact implAlloc_zero hm hR (mem_wf hwf) hal
      · obtain ⟨a, rfl⟩ : ∃ a : Nat, al = (a : Int) := ⟨al.toNat, by have := alOk_cases hal; omega⟩
        exact implAlloc_all hm hR (mem_wf hwf) hal hz (by omega) (fun A n c e => hC A n c (by rw [e]; simp))
end Go.Proofs.Ytlppngpafjfjeaa

