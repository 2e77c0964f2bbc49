/-
  impl's *store: memory(), grow of an empty one.
-/
import Derived.Test.YtlppngpafjfjeaaPutN
import Derived.Test.YtlppngpafjfjeaaRowZ
import Derived.Test.YtlppngpafjfjeaaSmall
import Derived.Laws.OwnMore
namespace Go.Proofs.Ytlppngpafjfjeaa
open Go.RowKit
set_option linter.unusedVariables false
set_option linter.unusedSimpArgs false
set_option linter.unnecessarySimpa false
set_option maxRecDepth 16000

def zerosB (n : Nat) : ByteArray := ⟨Array.replicate n 0⟩
theorem zerosB_size (n : Nat) : (zerosB n).size = n := by simp [zerosB, ByteArray.size]
theorem zerosB_cells (n : Nat) : Lib.strCells (zerosB n) = List.replicate n (.int .u8 0) := by simp [Lib.strCells, zerosB]
theorem RowX.zeros {B : Nat} {w : World} {cur : Array Value} {n cap : Nat} (hB : B ≤ w.heap.size) (hn : n ≤ cap) (hm : cap ≤ maxLen) (hs : cur.size = cap) (hc : cur.toList.take n = List.replicate n (.int .u8 0)) :
    RowX B (.slice (some ⟨w.heap.size, 0, none⟩) n cap) (zerosB n) (w.alloc (.cells cur 5)) := by
  have h1 := zerosB_size n
  refine ⟨_, cap, cur, (0, 0), by rw [h1], hB, heap_alloc_new w _, .inl (Nat.zero_le _), by omega, hm, hs, by rw [h1, hc, zerosB_cells]⟩
theorem RowX.kept {B : Nat} {v : Value} {s : ByteArray} {w w' : World} {p : Nat} (h : RowX B v s w) (hk : Keep p (p + 1) w w') (hp : p < B) : RowX B v s w' := by
  obtain ⟨g, cap, cur, fz, rfl, hb, hg, rest⟩ := h
  exact ⟨g, cap, cur, fz, rfl, hb, (hk.block g (Array.getElem?_eq_some_iff.1 hg).1 (.inr (by omega))).trans hg, rest⟩
/-- what a store's bytes are: they read as s, here and later -/
def BytesV (w : World) (v : Value) (s : ByteArray) : Prop := ∃ A n c, v = .slice A n c ∧ ∀ W, Below w.heap.size w W → (convert 45 9 v).run Try.prog W = .ok (.string s) W
theorem bytesV_row {B : Nat} {v : Value} {s : ByteArray} {w : World} (h : RowX B v s w) : BytesV w v s := by
  obtain ⟨g, cap, rfl, _⟩ := h.form
  exact ⟨_, _, _, rfl, fun W hW => (h.step hW).str⟩
theorem run_conv_nil (w : World) (c : Nat) : (convert 45 9 (.slice none 0 c)).run Try.prog w = .ok (.string (zerosB 0)) w := by
  simp [convert, run_underlying Try.underlying45, run_underlying Try.underlying9, run_underlying Try.underlying5, go_sem]
  try rfl
theorem lvC_mem {w : World} {lo hi : Nat} {bs : List Block} {fv : Value} (h : Lv w lo hi (blocks bs) fv) (s : ByteArray) : LvC w lo hi (Memory.pd ⟨s, bs⟩) [.string s, fv] := by
  obtain ⟨F, h1, h2, h3⟩ := h
  rw [Memory.pd_mk]
  exact ⟨[] ++ (F ++ []), HoldL.cons (Hold.lit_ _ _) (HoldL.cons h1 (HoldL.nil w)), by simpa using h2, h3⟩
def freeN (n : Nat) : List Block := if 8 < n then [⟨8, (n : Int) - 8⟩] else []
theorem freeN_yes {n : Nat} (h : 8 < n) : freeN n = [⟨8, (n : Int) - 8⟩] := if_pos h
theorem freeN_no {n : Nat} (h : ¬ 8 < n) : freeN n = [] := if_neg h
set_option maxHeartbeats 1600000 in
theorem memory_any {p : Nat} {bv fv : Value} {s : ByteArray} {bs : List Block} {w : World} (bl : Blk w p 60 #[bv, fv]) (hbv : BytesV w bv s) (R : Rep w w.heap.size (blocks bs) fv) (hl : bs.length ≤ 1048576) :
    Calls Try.prog 43 #[.pointer (some ⟨p, 0, none⟩)] w fun e w' => ∃ fv', e = .returned (.agg #[.string s, fv']) ∧ Lv w' w.heap.size w'.heap.size (blocks bs) fv' ∧ Below w.heap.size w w' := by
  obtain ⟨A, n, c, rfl, hconv⟩ := hbv
  obtain ⟨A2, n2, c2, rfl⟩ := R.form
  have HR := Lib.hid R
  have hp := bl.lt
  have HC := Lib.hid hconv
  clear R hconv
  go_enter Try.func43, Try.ntmps43
  go_wp2_with fail
  obtain ⟨w0, hw0⟩ : ∃ W, W = w.alloc (.cells #[.string { data := #[] }, .slice none 0 0] 29) := ⟨_, rfl⟩
  rw [← hw0]
  have bR0 : Blk w0 w.heap.size 29 #[.string { data := #[] }, .slice none 0 0] := by rw [hw0]; exact Blk.new w _ _
  have hB0 : Below w.heap.size w w0 := by rw [hw0]; exact (Below.refl _ _).alloc (Nat.le_refl _) _
  have hs0 : w.heap.size + 1 ≤ w0.drew.heap.size := by rw [hw0]; simp
  have bP := (bl.step hB0).drew
  have bR := bR0.drew
  have hBc : Below w.heap.size w w0.drew := hB0.drew
  clear hw0 bR0 hB0 bl
  have cv0 := HC.out w0.drew hBc
  have hpn : p ≠ w.heap.size := by omega
  go_region_held3 (fun w' => w'.cell? ⟨p, 0, none⟩ = some (.slice A n c) ∧ w'.cell? ⟨p, 1, none⟩ = some (.slice A2 n2 c2) ∧ (convert 45 9 (.slice A n c)).run Try.prog w' = .ok (.string s) w')
    (first | exact ⟨bP.cell 0, bP.cell 1, HC.out _ hBc⟩ | go_keep | exact ⟨((bP.far (p := ⟨w.heap.size, 0, none⟩) hpn _).far (p := ⟨w.heap.size, 1, none⟩) hpn _).cell 0, ((bP.far (p := ⟨w.heap.size, 0, none⟩) hpn _).far (p := ⟨w.heap.size, 1, none⟩) hpn _).cell 1, HC.out _ ((hBc.setCell (p := ⟨w.heap.size, 0, none⟩) (Nat.le_refl _) _).setCell (p := ⟨w.heap.size, 1, none⟩) (Nat.le_refl _) _)⟩)
    (first
      | (go_at_call 66; refine (cloneB_any hl hBc.size (HR.out.below hBc)).mono ?_; rintro e wq ⟨uL, rfl, LL, hbq⟩; obtain ⟨lA, lN, lC, rfl⟩ := LL.form; replace hBc := hBc.trans (hbq.mono hBc.size); have zq := hbq.size; replace bP := bP.step hbq; replace bR := bR.step hbq; have fR0 := bR.frozen 0; have fR1 := bR.frozen 1; have cR0 : wq.cell? ⟨w.heap.size, 0, none⟩ = some (.string { data := #[] }) := bR.cell 0; have cR1 : wq.cell? ⟨w.heap.size, 1, none⟩ = some (.slice none 0 0) := bR.cell 1))
  all_goals
    go_wp2_with fail
    refine bodyPost_ret (v := .agg #[.string s, .slice lA lN lC]) (by simp [results, Try.results43, go_sem, cR0, cR1]) rfl ⟨.slice lA lN lC, rfl, ?_, ?_⟩
    · obtain ⟨F, a1, a2, a3⟩ := LL
      have h1 := Keep.setCell (Keep.setCell (Keep.refl w.heap.size (w.heap.size + 1) wq) (p := ⟨w.heap.size, 0, none⟩) (Nat.le_refl _) (Nat.lt_succ_self _) (.string s)) (p := ⟨w.heap.size, 1, none⟩) (Nat.le_refl _) (Nat.lt_succ_self _) (.slice lA lN lC)
      exact ⟨F, Hold.keep _ _ F a1 fun g hg => h1.block g (by have := a2.2 g hg; omega) (.inr (by have := a2.2 g hg; omega)), ⟨a2.1, fun g hg => by have := a2.2 g hg; simp; omega⟩, by simp⟩
    · iterate 2 (refine Below.setCell ?_ (by simp; try omega) _)
      exact hBc
theorem append0 (w : World) (ty : TypeId) : (Builtin.append_ #[45, 2] ty #[.slice none 0 0, .int .i64 0]).run Try.prog w = .ok (.slice none 0 0) w := by
  obtain ⟨i0, hi, hz0, hz1, hz2⟩ := info_parts byte_info
  simp [Builtin.append_, run_underlying Try.underlying45, run_underlying Try.underlying2, sizeOf, typeInfo, zeroValue, hi, hz0, hz1, hz2, asInt, asIntOf, IntKind.wrap_i64, Builtin.firstCells]
theorem zc1 (n m : Nat) : (Builtin.zeroCells (Value.int .u8 0).cells n ++ Builtin.zeroCells (Value.int .u8 0).cells m).toList = List.replicate (n + m) (.int .u8 0) := by
  have h : ∀ k, (Builtin.zeroCells (Value.int .u8 0).cells k).toList = List.replicate k (.int .u8 0) := by
    intro k
    simp [Builtin.zeroCells, Value.cells]
    apply List.ext_getElem
    · simp
    · intro i h1 h2
      simp [Nat.mod_one]
  rw [Array.toList_append, h, h, List.replicate_append_replicate]
theorem appendN (w : World) (n : Nat) (h0 : 0 < n) (hn : n ≤ 4096) : ∃ A c w', (∀ ty, (Builtin.append_ #[45, 2] ty #[.slice none 0 0, .int .i64 n]).run Try.prog w = .ok (.slice A n c) w') ∧ RowX w.heap.size (.slice A n c) (zerosB n) w' ∧ Below w.heap.size w w' := by
  obtain ⟨i0, hi, hz0, hz1, hz2⟩ := info_parts byte_info
  have hge := grownCap_ge w n 0 5
  have hle := grownCap_le_maxLen w n 0 5 (by simp only [maxLen]; omega)
  refine ⟨_, _, _, fun ty => Lib.run_append_nil_zeros (P := Try.prog) w 45 2 ty 5 i0 (.int .u8 0) .i64 .i64 Try.underlying45 Try.underlying2 hi hz0 n h0 (by rw [hz1]; decide) (by omega) (by rw [hz2]; omega), ?_, ((Below.refl _ _).drew).alloc (Nat.le_refl _) _⟩
  have hz := zc1 n (grownCap w n 0 5 - n)
  exact RowX.zeros (w := w.drew) (Nat.le_refl _) hge hle (by rw [← Array.length_toList, hz, List.length_replicate]; omega) (by rw [hz, List.take_replicate]; congr 1; omega)
theorem sizeB_any (A : Option Addr) (n c : Nat) (w : World) : Calls Try.prog 64 #[.slice A n c] w fun e w' => e = .returned (.int .i64 n) ∧ w = w' := by
  by_cases h : n ≤ maxLen
  all_goals
    go_enter Try.func64, Try.ntmps64
    go_wp2
    go_ret
    exact ⟨rfl, rfl⟩
set_option maxHeartbeats 3200000 in
theorem grow_nil {p n : Nat} {w : World} (bl : Blk w p 60 #[.slice none 0 0, .slice none 0 0]) (hn : n ≤ 4096) :
    Calls Try.prog 42 #[.pointer (some ⟨p, 0, none⟩), .int .i64 n] w fun e w' => ∃ bv fv, e = .returned (.tuple #[]) ∧ Blk w' p 60 #[bv, fv] ∧ BytesV w' bv (zerosB n) ∧ Lv w' w.heap.size w'.heap.size (blocks (freeN n)) fv ∧ Keep p (p + 1) w w' := by
  have hp := bl.lt
  have p0 : w.cell? ⟨p, 0, none⟩ = some (.slice none 0 0) := bl.cell 0
  have p1 : w.cell? ⟨p, 1, none⟩ = some (.slice none 0 0) := bl.cell 1
  have g0 := bl.frozen 0
  by_cases hn0 : n = 0
  case pos =>
    subst hn0
    have HA := Lib.hid (append0 w)
    show Calls Try.prog 42 #[.pointer (some ⟨p, 0, none⟩), .int .i64 0] w _
    have bl2 : Blk (w.setCell ⟨p, 0, none⟩ (.slice none 0 0)) p 60 #[.slice none 0 0, .slice none 0 0] := by have := bl.set_ 0 (.slice none 0 0); simpa using this
    have q0 : (w.setCell ⟨p, 0, none⟩ (.slice none 0 0)).cell? ⟨p, 0, none⟩ = some (.slice none 0 0) := bl2.cell 0
    have hK : Keep p (p + 1) w (w.setCell ⟨p, 0, none⟩ (.slice none 0 0)) := (Keep.refl _ _ _).setCell (p := ⟨p, 0, none⟩) (Nat.le_refl _) (Nat.lt_succ_self _) _
    go_enter Try.func42, Try.ntmps42
    go_wp2_with fail
    refine (sizeB_any _ _ _ _).mono ?_
    rintro e w' ⟨rfl, rfl⟩
    go_wp2_with (at_builtin; refine Lib.wpList_append_run _ rfl _ _ _ _ rfl _ _ rfl rfl _ _ (HA.out _) ?_)
    refine (sizeB_any _ _ _ _).mono ?_
    rintro e w' ⟨rfl, rfl⟩
    go_wp2_with fail
    go_end0
    exact ⟨_, _, rfl, bl2, ⟨none, 0, 0, rfl, fun W _ => run_conv_nil W 0⟩, by rw [freeN_no (by decide)]; obtain ⟨F, a1, a2, a3⟩ := nil_blk (w.setCell ⟨p, 0, none⟩ (.slice none 0 0)) w.heap.size (by simp); exact ⟨F, a1, a2, a3⟩, hK⟩
  obtain ⟨A, c, w1, hrun, hx, hb1⟩ := appendN w n (by omega) hn
  have HX := Lib.hid hx
  have HR := Lib.hid hrun
  have hs1 := hb1.size
  have bl1 := bl.step hb1
  have q0 : w1.cell? ⟨p, 0, none⟩ = some (.slice none 0 0) := bl1.cell 0
  have h0 := bl1.frozen 0
  have bl2 : Blk (w1.setCell ⟨p, 0, none⟩ (.slice A n c)) p 60 #[.slice A n c, .slice none 0 0] := by have := bl1.set_ 0 (.slice A n c); simpa using this
  have r0 : (w1.setCell ⟨p, 0, none⟩ (.slice A n c)).cell? ⟨p, 0, none⟩ = some (.slice A n c) := bl2.cell 0
  have hK1 : Keep p (p + 1) w1 (w1.setCell ⟨p, 0, none⟩ (.slice A n c)) := (Keep.refl _ _ _).setCell (p := ⟨p, 0, none⟩) (Nat.le_refl _) (Nat.lt_succ_self _) _
  have hK : Keep p (p + 1) w (w1.setCell ⟨p, 0, none⟩ (.slice A n c)) := (Keep.of_below hb1).trans hK1
  have HX2 := Lib.hid (HX.out.kept hK1 hp)
  have hsz : (w1.setCell ⟨p, 0, none⟩ (.slice A n c)).heap.size = w1.heap.size := by simp
  have HS := Lib.hid hsz
  clear hx hrun hsz
  go_enter Try.func42, Try.ntmps42
  go_wp2_with fail
  refine (sizeB_any _ _ _ _).mono ?_
  rintro e w' ⟨rfl, rfl⟩
  go_wp2_with (at_builtin; refine Lib.wpList_append_run _ rfl _ _ _ _ rfl _ _ rfl rfl _ _ (HR.out _) ?_)
  refine (sizeB_any _ _ _ _).mono ?_
  rintro e w' ⟨rfl, rfl⟩
  by_cases h8 : 8 < n
  · have h8' : (8 : Int) < (n : Int) := by omega
    have HF := Lib.hid (freeN_yes h8)
    go_wp2_with fail
    refine (put_nil bl2).mono ?_
    rintro e w3 ⟨fv', rfl, bl3, hL, hK3⟩
    go_wp2_with fail
    go_end0
    exact ⟨_, _, rfl, bl3, bytesV_row (HX2.out.kept hK3 hp), by rw [HF.out]; obtain ⟨F, a1, a2, a3⟩ := hL; exact ⟨F, a1, ⟨a2.1, fun g hg => by have := a2.2 g hg; have := HS.out; omega⟩, a3⟩, hK.trans hK3⟩
  · have HF := Lib.hid (freeN_no h8)
    go_wp2_with fail
    go_end0
    exact ⟨_, _, rfl, bl2, bytesV_row HX2.out, by rw [HF.out]; obtain ⟨F, a1, a2, a3⟩ := nil_blk (w1.setCell ⟨p, 0, none⟩ (.slice A n c)) (w1.setCell ⟨p, 0, none⟩ (.slice A n c)).heap.size (Nat.le_refl _); exact ⟨F, a1, ⟨a2.1, fun g hg => by have := a2.2 g hg; omega⟩, a3⟩, hK⟩
end Go.Proofs.Ytlppngpafjfjeaa

