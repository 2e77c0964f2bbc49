/-
  Tokens: rows of tokens that are read; SameTokens (both), TokensText (impl).
-/
import Derived.Test.YtfnncclplbbghaaTokT
import Derived.Test.YtfnncclplbbghaaIdx
import Derived.Deep.QuietTactic
namespace Go.Proofs.Ytfnncclplbbghaa
open Go.RowKit
set_option linter.unusedVariables false
set_option linter.unusedSimpArgs false
set_option linter.unnecessarySimpa false
set_option maxRecDepth 16000

/-- the slice reads as these tokens -/
def TkAt (W : World) (v : Value) (L : List Token) : Prop := ∃ A n c, v = .slice A n c ∧ n = L.length ∧ n ≤ c ∧ ∀ (k : Nat) (t : Token), L[k]? = some t → ∃ g off, A = some ⟨g, off, none⟩ ∧ g < W.heap.size ∧
  W.cell? ⟨g, off + k * 3, none⟩ = some (.int .i64 t.kind) ∧ W.cell? ⟨g, off + k * 3 + 1, none⟩ = some (.string t.text) ∧ W.cell? ⟨g, off + k * 3 + 2, none⟩ = some (.int .i64 t.line)
theorem tkV_get : ∀ (L : List Token) (k : Nat) (t : Token), L[k]? = some t → (tkV L)[k * 3]? = some (.int .i64 t.kind) ∧ (tkV L)[k * 3 + 1]? = some (.string t.text) ∧ (tkV L)[k * 3 + 2]? = some (.int .i64 t.line)
  | [], k, t, h => by simp at h
  | u :: L, 0, t, h => by
    simp at h
    subst h
    exact ⟨rfl, rfl, rfl⟩
  | u :: L, k + 1, t, h => by
    have ih := tkV_get L k t (by simpa using h)
    have e : ∀ j, (tkV (u :: L))[(k + 1) * 3 + j]? = (tkV L)[k * 3 + j]? := fun j => by
      show (tkC u ++ tkV L)[(k + 1) * 3 + j]? = _
      rw [List.getElem?_append_right (by show 3 ≤ _; omega)]
      congr 1
      show (k + 1) * 3 + j - 3 = _
      omega
    exact ⟨by have := e 0; rw [Nat.add_zero, Nat.add_zero] at this; rw [this]; exact ih.1, by rw [e 1]; exact ih.2.1, by rw [e 2]; exact ih.2.2⟩
theorem tk_at {W : World} {b : Nat} {v : Value} {L : List Token} (h : W.ownsRow b 30 3 v L.length (tkV L)) : TkAt W v L := by
  obtain ⟨A, n, c, rfl, hn, hc, hm, hg⟩ := (Own.of_own h).form
  rw [tkV_len] at hn
  refine ⟨A, n, c, rfl, by omega, hc, fun k t ht => ?_⟩
  have hk : k < L.length := (List.getElem?_eq_some_iff.1 ht).1
  obtain ⟨g, off, rfl, _, hlt, hat⟩ := hg (by omega)
  obtain ⟨h0, h1, h2⟩ := tkV_get L k t ht
  exact ⟨g, off, rfl, hlt, hat.cell h0, by have := hat.cell h1; rwa [← Nat.add_assoc] at this, by have := hat.cell h2; rwa [← Nat.add_assoc] at this⟩
theorem TkAt.step {W W' : World} {v : Value} {L : List Token} (h : TkAt W v L) (hb : Below W.heap.size W W') : TkAt W' v L := by
  obtain ⟨A, n, c, rfl, hn, hc, hg⟩ := h
  refine ⟨A, n, c, rfl, hn, hc, fun k t ht => ?_⟩
  obtain ⟨g, off, rfl, hlt, h0, h1, h2⟩ := hg k t ht
  exact ⟨g, off, rfl, Nat.lt_of_lt_of_le hlt hb.size, (hb.cell hlt).trans h0, (hb.cell hlt).trans h1, (hb.cell hlt).trans h2⟩
theorem below_drN {w W : World} {B : Nat} (h : Below B w W) (q : Nat) : Below B w (W.drewN q) := ⟨h.os, h.tape, h.output, h.size, h.block⟩
def kt (t : Token) : Int × ByteArray := (t.kind, t.text)
theorem kt_get {L M : List Token} (h : L.map kt = M.map kt) {k : Nat} {t : Token} (ht : L[k]? = some t) : ∃ u, M[k]? = some u ∧ u.kind = t.kind ∧ u.text = t.text := by
  have : (M.map kt)[k]? = some (kt t) := by rw [← h, List.getElem?_map, ht]; rfl
  rw [List.getElem?_map] at this
  cases hu : M[k]? with
  | none => rw [hu] at this; cases this
  | some u =>
    rw [hu] at this
    injection this with this
    injection this with h1 h2
    exact ⟨u, rfl, h1, h2⟩
set_option maxHeartbeats 1600000 in
theorem specSameTok_any {w : World} {u v : Value} {L M : List Token} (hu : TkAt w u L) (hv : TkAt w v M) (h : L.map kt = M.map kt) (hL : L.length ≤ 1000000) : Calls Try.prog 7 #[u, v] w fun e w' => e = .returned (.bool true) ∧ Below w.heap.size w w' := by
  obtain ⟨A, n, c, rfl, hn, hc, hg⟩ := hu
  obtain ⟨A2, n2, c2, rfl, hn2, hc2, hg2⟩ := hv
  obtain rfl : n2 = n := by have := congrArg List.length h; simp at this; omega
  have HG := Lib.hid hg
  have HG2 := Lib.hid hg2
  have HE := Lib.hid h
  have HN := Lib.hid hn
  have hn9 : n2 ≤ 1000000 := by omega
  clear hg hg2 h hn hn2 hL
  go_enter Try.func7, Try.ntmps7
  go_wp2_with fail
  go_loopw [5] (fun i wr => ∃ k q : Nat, k ≤ n2 ∧ i = .int .i64 k ∧ wr = w.drewN q) (fun i _ => n2 - (intOf i).toNat)
  case atStart => exact ⟨0, 0, Nat.zero_le _, rfl, rfl⟩
  case round =>
    obtain ⟨k, q, hk, rfl, rfl⟩ := hrel
    by_cases hlt : k < n2
    case neg =>
      have hd : decide ((k : Int) < (n2 : Int)) = false := decide_eq_false (by omega)
      go_wp2_with fail
      go_ret
      exact ⟨rfl, below_drN (Below.refl _ _) _⟩
    have hd : decide ((k : Int) < (n2 : Int)) = true := decide_eq_true (by omega)
    have hki : IntKind.i64.wrap ((k : Int) + 1) = (k : Int) + 1 := IntWalk.i64_in _ (by omega)
    obtain ⟨t, hx, _⟩ := at_lt HN.out hlt
    obtain ⟨t2, hx2, e1, e2⟩ := kt_get HE.out hx
    obtain ⟨g, off, rfl, hl, x0, x1, x2⟩ := HG.out k t hx
    obtain ⟨g2, off2, rfl, hl2, y0, y1, y2⟩ := HG2.out k t2 hx2
    obtain ⟨kd, tx, ln⟩ := t
    obtain ⟨kd2, tx2, ln2⟩ := t2
    simp only at e1 e2 x0 x1 x2 y0 y1 y2
    subst e1 e2
    clear hx hx2 x2 y2 hl hl2
    go_wp2_with fail
    go_quiet (fail)
    go_wp2_with fail
    go_roundw
    case rel => exact ⟨k + 1, q + nq, by omega, by go_num, rfl⟩
    case measure => simp [intOf]; omega
theorem implSame1_any (k k2 l1 l2 : Int) (t : ByteArray) (w : World) (hk : k2 = k) : Calls Try.prog 17 #[.agg #[.int .i64 k, .string t, .int .i64 l1], .agg #[.int .i64 k2, .string t, .int .i64 l2]] w fun e w' => e = .returned (.bool true) ∧ Below w.heap.size w w' := by
  subst hk
  go_enter Try.func17, Try.ntmps17
  go_wp2_with fail
  go_ret
  exact ⟨rfl, ((Below.refl _ _).alloc (Nat.le_refl _) _).alloc (by simp) _⟩
theorem sameTok1_enter (a : Array Value) (W : World) : Sem.run Try.prog (callFunc 17 a) W = .ok (.enter 17 a) W := by kernel_rfl
set_option maxHeartbeats 3200000 in
theorem equalTok_any {w : World} {u v : Value} {L M : List Token} (hu : TkAt w u L) (hv : TkAt w v M) (h : L.map kt = M.map kt) (hL : L.length ≤ 1000000) :
    Calls Try.prog 16 #[u, v, .func (.func 17) #[] #[]] w fun e w' => e = .returned (.bool true) ∧ Below w.heap.size w w' := by
  obtain ⟨A, n, c, rfl, hn, hc, hg⟩ := hu
  obtain ⟨A2, n2, c2, rfl, hn2, hc2, hg2⟩ := hv
  obtain rfl : n2 = n := by have := congrArg List.length h; simp at this; omega
  have HG := Lib.hid hg
  have HG2 := Lib.hid hg2
  have HE := Lib.hid h
  have HN := Lib.hid hn
  have hn9 : n2 ≤ 1000000 := by omega
  clear hg hg2 h hn hn2 hL
  have hcf := sameTok1_enter
  go_enter Try.func16, Try.ntmps16
  go_wp2_with fail
  go_loopw [17] (fun i wr => ∃ k : Nat, k ≤ n2 ∧ i = .int .i64 k ∧ Below w.heap.size w wr) (fun i _ => n2 - (intOf i).toNat)
  case atStart => exact ⟨0, Nat.zero_le _, rfl, Below.refl _ _⟩
  case round =>
    obtain ⟨k, hk, rfl, hb⟩ := hrel
    by_cases hlt : k < n2
    case neg =>
      have hd : decide ((k : Int) < (n2 : Int)) = false := decide_eq_false (by omega)
      go_wp2_with fail
      go_ret
      exact ⟨rfl, hb⟩
    have hd : decide ((k : Int) < (n2 : Int)) = true := decide_eq_true (by omega)
    have hki : IntKind.i64.wrap ((k : Int) + 1) = (k : Int) + 1 := IntWalk.i64_in _ (by omega)
    obtain ⟨t, hx, _⟩ := at_lt HN.out hlt
    obtain ⟨t2, hx2, e1, e2⟩ := kt_get HE.out hx
    obtain ⟨g, off, rfl, hl, x0, x1, x2⟩ := HG.out k t hx
    obtain ⟨g2, off2, rfl, hl2, y0, y1, y2⟩ := HG2.out k t2 hx2
    obtain ⟨kd, tx, ln⟩ := t
    obtain ⟨kd2, tx2, ln2⟩ := t2
    simp only at e1 e2 x0 x1 x2 y0 y1 y2
    subst e1 e2
    have c0 := (hb.cell (p := ⟨g, off + k * 3, none⟩) hl).trans x0
    have c1 := (hb.cell (p := ⟨g, off + k * 3 + 1, none⟩) hl).trans x1
    have c2 := (hb.cell (p := ⟨g, off + k * 3 + 2, none⟩) hl).trans x2
    have d0 := (hb.cell (p := ⟨g2, off2 + k * 3, none⟩) hl2).trans y0
    have d1 := (hb.cell (p := ⟨g2, off2 + k * 3 + 1, none⟩) hl2).trans y1
    have d2 := (hb.cell (p := ⟨g2, off2 + k * 3 + 2, none⟩) hl2).trans y2
    have hz := hb.size
    have hgr : g < wr.heap.size := by omega
    have hgr2 : g2 < wr.heap.size := by omega
    have HB := Lib.hid hb
    clear hx hx2 x0 x1 x2 y0 y1 y2 hl hl2 hb
    go_wp2_with fail
    refine (implSame1_any _ _ _ _ _ _ rfl).mono ?_
    rintro e w1 ⟨rfl, hb1⟩
    have HB1 := Lib.hid hb1
    clear hb1
    go_wp2_with fail
    go_roundw
    case rel => exact ⟨k + 1, by omega, by go_num, ((HB.out.alloc hz _).alloc (by simp; omega) _).trans (HB1.out.mono (by simp; omega))⟩
    case measure => simp [intOf]; omega
theorem implSameTok_any {w : World} {u v : Value} {L M : List Token} (hu : TkAt w u L) (hv : TkAt w v M) (h : L.map kt = M.map kt) (hL : L.length ≤ 1000000) : Calls Try.prog 9 #[u, v] w fun e w' => e = .returned (.bool true) ∧ Below w.heap.size w w' := by
  have HE := Lib.hid (equalTok_any hu hv h hL)
  obtain ⟨A, n, c, rfl, -⟩ := hu
  obtain ⟨A2, n2, c2, rfl, -⟩ := hv
  go_enter Try.func9, Try.ntmps9
  go_wp2_with fail
  refine HE.out.mono ?_
  rintro e w1 ⟨rfl, hb1⟩
  go_wp2_with fail
  go_ret
  exact ⟨rfl, hb1⟩
end Go.Proofs.Ytfnncclplbbghaa

