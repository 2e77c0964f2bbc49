/-
  Memories: the laws' own helpers over the type.
-/
import Derived.Test.YtlppngpafjfjeaaBlock
import Derived.Test.YtlppngpafjfjeaaOpen
namespace Go.Proofs.Ytlppngpafjfjeaa
open Go.RowKit
set_option linter.unusedVariables false

/-- what is left of a budget behind n, or -1 -/
def szLeft (n : Nat) (left : Int) : Int := if (n : Int) ≤ left then left - n else -1
theorem szLeft_yes {n : Nat} {left : Int} (h : (n : Int) ≤ left) : szLeft n left = left - n := by simp [szLeft, h]
theorem szLeft_no {n : Nat} {left : Int} (h : left < (n : Int)) : szLeft n left = -1 := by
  unfold szLeft
  rw [if_neg (by omega)]

theorem szBlockS_any {v : Value} {B : Nat} {bs : List Block} {w : World} (left : Int) (h0 : 0 ≤ left) (h1 : left ≤ 1048576) (h : Rep w B (blocks bs) v) :
    Calls Try.prog 34 #[v, .int .i64 left] w fun e w' => e = .returned (.int .i64 (szLeft bs.length left)) ∧ w = w' := by
  obtain ⟨A, n, c, rfl, hnl, hm, _⟩ := rep_row Block.pd_length (by decide) h
  unfold maxLen at hm
  rw [← hnl]
  clear h hnl
  by_cases hl : (n : Int) ≤ left
  · rw [szLeft_yes hl]
    go_enter Try.func34, Try.ntmps34
    go_wp2_with fail
    go_ret
    exact ⟨rfl, rfl⟩
  · rw [szLeft_no (by omega)]
    go_enter Try.func34, Try.ntmps34
    go_wp2_with fail
    go_ret
    exact ⟨rfl, rfl⟩

theorem szMemory_any {s : ByteArray} {v : Value} {B : Nat} {bs : List Block} {w : World} (left : Int) (h0 : 0 ≤ left) (h1 : left ≤ 1048576) (hs : s.size ≤ maxLen) (hB : B ≤ w.heap.size) (h : Rep w B (blocks bs) v) :
    Calls Try.prog 12 #[.agg #[.string s, v], .int .i64 left] w fun e w' => e = .returned (.int .i64 (szLeft (s.size + bs.length) left)) ∧ Below w.heap.size w w' := by
  have h' : Rep (w.alloc (.cells #[.string s, v] 24)) B (blocks bs) v := h.below ((Below.refl _ _).alloc hB _)
  have H := Lib.hid h'
  unfold maxLen at hs
  clear h h' hB
  by_cases hl : (s.size : Int) ≤ left
  · by_cases hl2 : ((s.size + bs.length : Nat) : Int) ≤ left
    · have hl3 : (bs.length : Int) ≤ left - s.size := by omega
      have e1 := Lib.hid (szLeft_yes hl2)
      have e2 := Lib.hid (szLeft_yes hl3)
      have hp : 0 ≤ left - s.size - (bs.length : Int) := by omega
      clear hl2 hl3
      go_enter Try.func12, Try.ntmps12
      go_wp2_with fail
      refine (szBlockS_any (left - s.size) (by omega) (by omega) H.out).mono ?_
      rintro e w1 ⟨rfl, rfl⟩
      rw [e2.out]
      go_wp2_with fail
      go_ret
      exact ⟨ret_int (by rw [e1.out]; omega), (Below.refl _ _).alloc (Nat.le_refl _) _⟩
    · have hl3 : left - s.size < (bs.length : Int) := by omega
      have e1 := Lib.hid (szLeft_no (show left < ((s.size + bs.length : Nat) : Int) by omega))
      have e2 := Lib.hid (szLeft_no hl3)
      clear hl2 hl3
      go_enter Try.func12, Try.ntmps12
      go_wp2_with fail
      refine (szBlockS_any (left - s.size) (by omega) (by omega) H.out).mono ?_
      rintro e w1 ⟨rfl, rfl⟩
      rw [e2.out]
      go_wp2_with fail
      go_ret
      exact ⟨ret_int (by rw [e1.out]), (Below.refl _ _).alloc (Nat.le_refl _) _⟩
  · have e1 := Lib.hid (szLeft_no (show left < ((s.size + bs.length : Nat) : Int) by omega))
    go_enter Try.func12, Try.ntmps12
    go_wp2_with fail
    go_ret
    exact ⟨ret_int (by rw [e1.out]), (Below.refl _ _).alloc (Nat.le_refl _) _⟩

theorem toMemory_any {s : ByteArray} {v : Value} {B : Nat} {bs : List Block} {w : World} (hB : B ≤ w.heap.size) (hn : bs.length ≤ 1048576) (h : Rep w B (blocks bs) v) :
    Calls Try.prog 14 #[.agg #[.string s, v]] w fun e w' => ∃ u, e = .returned (.agg #[.string s, u]) ∧ Lv w' w.heap.size w'.heap.size (blocks bs) u ∧ Below w.heap.size w w' := by
  have H := Lib.hid h
  clear h
  go_enter Try.func14, Try.ntmps14
  go_wp2_with fail
  obtain ⟨W1, hW1⟩ : ∃ W1, W1 = ((w.alloc (.cells #[.string s, v] 24)).alloc (.cells #[.string { data := #[] }, .slice none 0 0] 29)).alloc (.cells #[.string s, .slice none 0 0] 29) := ⟨_, rfl⟩
  rw [← hW1]
  have bA : Blk W1 (w.heap.size + 1) 29 #[.string { data := #[] }, .slice none 0 0] := by rw [hW1]; have := (Blk.new (w.alloc (.cells #[.string s, v] 24)) 29 #[.string { data := #[] }, .slice none 0 0]).alloc (.cells #[.string s, .slice none 0 0] 29); simpa using this
  have bC : Blk W1 (w.heap.size + 1 + 1) 29 #[.string s, .slice none 0 0] := by rw [hW1]; have := Blk.new ((w.alloc (.cells #[.string s, v] 24)).alloc (.cells #[.string { data := #[] }, .slice none 0 0] 29)) 29 #[.string s, .slice none 0 0]; simpa using this
  have hb : Below w.heap.size w W1 := by rw [hW1]; exact (((Below.refl _ _).alloc (Nat.le_refl _) _).alloc (by simp) _).alloc (by simp; omega) _
  have hs : w.heap.size + 3 ≤ W1.heap.size := by rw [hW1]; simp
  clear hW1
  refine (toBlockS_any (B := B) (by omega) hn (H.out.below (hb.mono hB))).mono ?_
  rintro e w2 ⟨u, rfl, hl, hb2⟩
  obtain ⟨A, n, c, rfl⟩ := hl.form
  have bA2 := bA.step hb2
  have bC2 := bC.step hb2
  have hs2 := hb2.size
  have f0 := bA2.frozen 0
  have f1 := bA2.frozen 1
  have f3 := bC2.frozen 1
  have a0 : w2.cell? ⟨w.heap.size + 1, 0, none⟩ = some (.string { data := #[] }) := bA2.cell 0
  have a1 : w2.cell? ⟨w.heap.size + 1, 1, none⟩ = some (.slice none 0 0) := bA2.cell 1
  have a2 : w2.cell? ⟨w.heap.size + 1 + 1, 0, none⟩ = some (.string s) := bC2.cell 0
  have a3 : w2.cell? ⟨w.heap.size + 1 + 1, 1, none⟩ = some (.slice none 0 0) := bC2.cell 1
  have hbw : Below w.heap.size w w2 := hb.trans (hb2.mono hb.size)
  clear bA bC bA2 bC2 hb hb2
  go_wp2_with fail
  refine bodyPost_ret (v := .agg #[.string s, .slice A n c]) (by simp [results, Try.results14, go_sem, a0, a1]) rfl ⟨_, rfl, ?_, ?_⟩
  · exact (((hl.setCell (.inl (by simp; omega)) _).setCell (.inl (by simp; omega)) _).setCell (.inl (by simp; omega)) _).more (by omega) (by simp [World.setCell]) (Nat.le_refl _)
  · exact ((hbw.setCell (by simp; omega) _).setCell (by simp) _).setCell (by simp) _

theorem eqMemory_any {s : ByteArray} {v u : Value} {B : Nat} {bs : List Block} {w : World} (hB : B ≤ w.heap.size) (h : Rep w B (blocks bs) v) (k : Rep w B (blocks bs) u) :
    Calls Try.prog 16 #[.agg #[.string s, v], .agg #[.string s, u]] w fun e w' => e = .returned (.bool true) ∧ Below w.heap.size w w' := by
  have hb : Below w.heap.size w ((w.alloc (.cells #[.string s, v] 29)).alloc (.cells #[.string s, u] 29)) := ((Below.refl _ _).alloc (Nat.le_refl _) _).alloc (by simp) _
  have H := Lib.hid (h.below (hb.mono hB))
  have K := Lib.hid (k.below (hb.mono hB))
  have HB := Lib.hid hb
  clear h k hb
  go_enter Try.func16, Try.ntmps16
  go_wp2_with fail
  refine (eqBlockS_any (B := B) (by simp; omega) H.out K.out).mono ?_
  rintro e w2 ⟨rfl, hb2⟩
  go_wp2_with fail
  go_ret
  exact ⟨rfl, HB.out.trans (hb2.mono (by simp; omega))⟩

def memDom : Dom := [(2, [.int]), (9, [.str]), (79, [.int, .int]), (22, [.sl 79]), (24, [.str, .sl 79])]
theorem memLay : layB Try.prog memDom = true := by kernel_rfl
def ArgMem (w : World) (v : Value) : Prop :=
  ∃ (s : ByteArray) (u : Value) (bs : List Block), v = .agg #[.string s, u] ∧ s.size ≤ maxLen ∧ Rep w w.heap.size (blocks bs) u ∧ ∀ b ∈ bs, b.wf
theorem argMem {H : Type} {enc : TypeId × Value → H} {w : World} {base b0 : Nat} {spare : Nat → Bool} {held : Bool} {r : Reach} {v : Value} {d : DataW H} {ps : List MemPlace}
    (hv : Value.okWide Try.prog w r b0 24 v) (h : DataW.Trod enc Try.prog w base spare held 24 v d ps) : ArgMem w v := by
  obtain ⟨cs, rfl, ds, hc, hr⟩ := open_struct (dom := memDom) Try.underlying24 memLay rfl hv h
  obtain ⟨hcl, hcc⟩ := hc
  obtain ⟨hrl, hrr⟩ := hr
  match ds, hcl with
  | [d0, d1], _ =>
    match cs, hrl with
    | [c0, c1], _ =>
      obtain ⟨s, rfl, hs⟩ := conf_str (hcc 0 _ _ rfl rfl)
      obtain ⟨xs, rfl, hx⟩ := conf_sl (hcc 1 _ _ rfl rfl)
      have r0 := (hrr 0 _ _ rfl rfl).of_lit
      have r1 := hrr 1 _ _ rfl rfl
      subst r0
      have r1' := r1
      rw [Rep] at r1'
      obtain ⟨A, n, c, _, hl, _⟩ := r1'
      obtain ⟨bs, _, rfl, hw⟩ := rows_conf (pd := Block.pd) (wf := Block.wf) (cells := [.int, .int]) (by decide) (fun ds h => by
        obtain ⟨h1, h2⟩ := h
        match ds, h1 with
        | [e0, e1], _ =>
          obtain ⟨a, rfl, wa⟩ := conf_int (h2 0 _ _ rfl rfl)
          obtain ⟨b, rfl, wb⟩ := conf_int (h2 1 _ _ rfl rfl)
          exact ⟨⟨a, b⟩, rfl, wa, wb⟩) n xs hl hx
      exact ⟨s, c1, bs, rfl, hs, r1, hw⟩
end Go.Proofs.Ytlppngpafjfjeaa
