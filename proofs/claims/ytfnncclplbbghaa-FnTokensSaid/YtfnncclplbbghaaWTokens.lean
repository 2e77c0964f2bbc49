/-
  FnTokens: the law's walk.
-/
import Derived.Test.YtfnncclplbbghaaTokK
import Derived.Test.YtfnncclplbbghaaTokY
import Derived.Test.YtfnncclplbbghaaTokD
namespace Go.Proofs.Ytfnncclplbbghaa
open Go.RowKit
set_option linter.unusedVariables false
set_option linter.unusedSimpArgs false
set_option linter.unnecessarySimpa false
set_option maxRecDepth 16000

theorem TkAt.some_ {W : World} {v : Value} {L : List Token} (h : TkAt W v L) (hL : 0 < L.length) : ∃ g off c, v = .slice (some ⟨g, off, none⟩) L.length c ∧ L.length ≤ c ∧ g < W.heap.size ∧ ∀ (k : Nat) (t : Token), L[k]? = some t →
    W.cell? ⟨g, off + k * 3, none⟩ = some (.int .i64 t.kind) ∧ W.cell? ⟨g, off + k * 3 + 1, none⟩ = some (.string t.text) ∧ W.cell? ⟨g, off + k * 3 + 2, none⟩ = some (.int .i64 t.line) := by
  obtain ⟨A, n, c, rfl, rfl, hc, hg⟩ := h
  obtain ⟨t0, h0, _⟩ := at_lt (xs := L) rfl hL
  obtain ⟨g, off, rfl, hl, _⟩ := hg 0 t0 h0
  refine ⟨g, off, c, rfl, hc, hl, fun k t ht => ?_⟩
  obtain ⟨g', off', e, _, r⟩ := hg k t ht
  injection e with e
  injection e with e1 e2
  subst e1 e2
  exact r
theorem law_get {ts : List Tk} {last k : Nat} {t : Token} (h : (ts.map Tk.tok ++ [endT last])[k]? = some t) : (∃ x, ts[k]? = some x ∧ t = x.tok) ∨ (k = ts.length ∧ t = endT last) := by
  by_cases hk : k < ts.length
  · rw [List.getElem?_append_left (by simpa using hk), List.getElem?_map] at h
    cases hx : ts[k]? with
    | none => rw [hx] at h; cases h
    | some x => rw [hx] at h; injection h with h; exact .inl ⟨x, rfl, h.symm⟩
  · rw [List.getElem?_append_right (by simpa using hk), List.length_map] at h
    have h2 : k - ts.length = 0 := by
      have := (List.getElem?_eq_some_iff.1 h).1
      simp at this
      omega
    rw [h2] at h
    injection h with h
    exact .inr ⟨by omega, h.symm⟩
theorem law_pair {a b : Nat} {l : List Int} {ts : List Tk} {last k : Nat} {t u : Token} (G : TG a b l ts last) (ht : (ts.map Tk.tok ++ [endT last])[k]? = some t) (hu : (ts.map Tk.tok ++ [endT last])[k + 1]? = some u) : (t.kind == 4) = false ∧ decide (u.line < t.line) = false := by
  have hk : k + 1 < ts.length + 1 := by have := (List.getElem?_eq_some_iff.1 hu).1; simpa using this
  rcases law_get ht with ⟨x, hx, rfl⟩ | ⟨he, _⟩
  · have hxm := List.mem_of_getElem? hx
    refine ⟨by have := (G.good x hxm).1; simpa [Tk.tok] using this, decide_eq_false ?_⟩
    rcases law_get hu with ⟨y, hy, rfl⟩ | ⟨_, rfl⟩
    · have hp := List.pairwise_iff_getElem.1 G.rise k (k + 1) (by simpa using (List.getElem?_eq_some_iff.1 hx).1) (by simpa using (List.getElem?_eq_some_iff.1 hy).1) (by omega)
      obtain ⟨h1, h2⟩ := List.getElem?_eq_some_iff.1 hx
      obtain ⟨h3, h4⟩ := List.getElem?_eq_some_iff.1 hy
      simp only [List.getElem_map, h2, h4] at hp
      show ¬ ((y.2.2 : Nat) : Int) < ((x.2.2 : Nat) : Int)
      omega
    · have := G.top x hxm
      show ¬ ((last : Nat) : Int) < ((x.2.2 : Nat) : Int)
      omega
  · omega
theorem law_kt (ts : List Tk) (last : Nat) : (ts.map (fun t => Tk.tok (t.1, t.2.1, 1)) ++ [endT 1]).map kt = (ts.map Tk.tok ++ [endT last]).map kt := by
  simp [kt, Tk.tok, endT]
theorem law_txt {a b : Nat} {l : List Int} {ts : List Tk} {last : Nat} (G : TG a b l ts last) : (txtL (ts.map Tk.tok ++ [endT last])).map byt = ts.map fun t => t.2.1 := by
  have h1 : (ts.map Tk.tok ++ [endT last]).filter (fun t => !(t.kind == 4)) = ts.map Tk.tok := by
    rw [List.filter_append]
    have e1 : (ts.map Tk.tok).filter (fun t => !(t.kind == 4)) = ts.map Tk.tok := List.filter_eq_self.2 fun x hx => by
      obtain ⟨t, ht, rfl⟩ := List.mem_map.1 hx
      have := (G.good t ht).1
      simpa [Tk.tok] using this
    rw [e1]
    have e2 : [endT last].filter (fun t => !(t.kind == 4)) = [] := rfl
    rw [e2, List.append_nil]
  unfold txtL
  rw [h1, List.map_map, List.map_map]
  exact List.map_congr_left fun t ht => byt_strOfNums (G.byte t ht)
set_option maxHeartbeats 12800000 in
theorem walk_FnTokens (w : World) (v0 : Value) (h0 : ArgB w v0) : Calls Try.prog 3 #[v0] w fun e w' => e = .returned (.bool true) ∧ Below w.heap.size w w' := by
  obtain ⟨A, n, c, rfl, hn, hA⟩ := h0
  have HA := Lib.hid hA
  clear hA
  by_cases hlong : 1048576 < n
  case pos =>
    have hd : decide ((1048576 : Int) < (n : Int)) = true := decide_eq_true (by omega)
    go_enter Try.func3, Try.ntmps3
    go_wp2_with fail
    go_ret
    exact ⟨rfl, Below.refl _ _⟩
  have hd : decide ((1048576 : Int) < (n : Int)) = false := decide_eq_false (by omega)
  go_enter Try.func3, Try.ntmps3
  go_wp2_with fail
  refine (A8Chars_any (by omega) HA.out).mono ?_
  rintro e w1 ⟨s, hds, rfl, b1⟩
  have hs30 : s.size ≤ 30001 := by rcases hds with h | ⟨_, h, _⟩ <;> omega
  have HDS := Lib.hid hds
  have HB1 := Lib.hid b1
  have hz1 := b1.size
  clear hds b1 hd hlong HA
  go_wp2_with fail
  refine (implTokens_any (by omega) _).mono ?_
  rintro e w2 ⟨v, rfl, ho, hb⟩
  have HT := Lib.hid (tk_at ho)
  have HB2 := Lib.hid (HB1.out.trans (hb.mono hz1))
  have hz2 := HB2.out.size
  clear ho hb HB1
  obtain ⟨L, ln, code, hR⟩ : ∃ L ln code, tokP s = (L, ln, code) := ⟨_, _, _, rfl⟩
  rw [hR] at HT ⊢
  have HR := Lib.hid hR
  clear hR
  obtain ⟨A1, n1, c1, rfl, hn1, hc1, -⟩ := id HT.out
  have HT1 := HT
  dsimp only at HT hn1
  have HN1 := Lib.hid hn1
  clear hn1
  go_wp2_with fail
  refine (specTokens_any (by omega) _).mono ?_
  rintro e w3 ⟨v3, rfl, ho, hb⟩
  rw [HR.out] at ho ⊢
  have HV := Lib.hid (tk_at ho)
  have HT3 := Lib.hid (HT.out.step hb)
  have HB3 := Lib.hid (HB2.out.trans (hb.mono hz2))
  have hz3 := HB3.out.size
  clear ho hb HB2 HT HT1
  obtain ⟨A2, n2, c2, rfl, hn2, hc2, -⟩ := id HV.out
  dsimp only at HT3 HV hn2
  have HN2 := Lib.hid hn2
  clear hn2
  have hL9 : L.length ≤ 1000000 := by
    by_cases hc : code = 0
    · subst hc
      obtain ⟨ts, last, rfl, _, G⟩ := tokP_good HR.out
      have := G.many
      simp; omega
    · have : L = [] := by
        have h := HR.out
        by_cases hl : 30000 < s.size
        · rw [tokP_long hl] at h; injection h with h1 h2; exact h1.symm
        · rw [tokP_short hl] at h
          have e := toks_err s.size ((byt s).drop (skipM false (byt s)).1) (1 + (skipM false (byt s)).2) 0
          rw [h] at e
          exact e hc
      rw [this]; simp
  have HST := Lib.hid (specSameTok_any HT3.out HV.out rfl hL9)
  have hself : (code == code) = true := by simp
  have hself2 : (ln == ln) = true := by simp
  go_wp2_with fail
  refine HST.out.mono ?_
  rintro e w4 ⟨rfl, hb⟩
  have HT4 := Lib.hid (HT3.out.step hb)
  have HV4 := Lib.hid (HV.out.step hb)
  have HB4 := Lib.hid (HB3.out.trans (hb.mono hz3))
  have hz4 := HB4.out.size
  clear hb HT3 HV HB3 HST
  by_cases hc : code = 0
  case neg =>
    have hcb : (code == 0) = false := by simpa using hc
    have hn0 : n1 = 0 := by
      have : L = [] := by
        have h := HR.out
        by_cases hl : 30000 < s.size
        · rw [tokP_long hl] at h; injection h with h1 h2; exact h1.symm
        · rw [tokP_short hl] at h
          have e := toks_err s.size ((byt s).drop (skipM false (byt s)).1) (1 + (skipM false (byt s)).2) 0
          rw [h] at e
          exact e hc
      rw [HN1.out, this]; rfl
    subst hn0
    go_wp2_with fail
    go_ret
    exact ⟨rfl, HB4.out⟩
  subst hc
  obtain ⟨ts, last, rfl, _, G⟩ := tokP_good HR.out
  have hss : s.size ≤ 1000 := by
    rcases HDS.out with h | ⟨_, _, r, hr⟩
    · exact h
    · exact absurd (by rw [HR.out]) (tokP_zero hr).1
  have HG := Lib.hid G
  obtain ⟨L, hL⟩ : ∃ L, L = ts.map Tk.tok ++ [endT last] := ⟨_, rfl⟩
  have HL := Lib.hid hL
  rw [← hL] at HT4 HV4 HN1 HN2 hL9
  have hlen : 0 < L.length := by rw [hL]; simp
  have hn1p : 0 < n1 ∧ n1 ≤ 1000000 := by have := HN1.out; omega
  have HTX : Hid ((txtL L).map byt = ts.map fun t => t.2.1) := by show _ = _; rw [hL]; exact law_txt G
  have HAG : Hid (tokP (strOfNums (joinT (ts.map fun t => t.2.1))) = (ts.map (fun t => Tk.tok (t.1, t.2.1, 1)) ++ [endT 1], 0, 0)) := tokP_again G (by omega)
  have HJL : Hid ((joinT (ts.map fun t => t.2.1)).length ≤ 100000) := by
    show _ ≤ _
    have h1 := joinT_len (ts.map fun t => t.2.1)
    rw [List.map_map, List.length_map] at h1
    have h2 := G.size
    rw [byt_length] at h2
    have h3 := G.many
    have : (ts.map (List.length ∘ fun t : Tk => t.2.1)).sum = (ts.map fun t => t.2.1.length).sum := rfl
    omega
  clear G hL HR HDS
  have HTT := Lib.hid (TokensText_any HT4.out (by have := HG.out.many; rw [HL.out]; simp; omega) (by rw [HTX.out]; have := HJL.out; omega))
  rw [HTX.out] at HTT
  obtain ⟨S2, hS2⟩ : ∃ S2, S2 = strOfNums (joinT (ts.map fun t => t.2.1)) := ⟨_, rfl⟩
  rw [← hS2] at HTT HAG
  have hs2 : S2.size ≤ 100000 := by rw [hS2, strOfNums_size]; exact HJL.out
  clear hS2 HJL HTX
  go_wp2_with fail
  refine HTT.out.mono ?_
  rintro e w5 ⟨rfl, hb⟩
  have HT5 := Lib.hid (HT4.out.step hb)
  have HV5 := Lib.hid (HV4.out.step hb)
  have HB5 := Lib.hid (HB4.out.trans (hb.mono hz4))
  have hz5 := HB5.out.size
  clear hb HT4 HV4 HB4 HTT
  go_wp2_with fail
  refine (implTokens_any (by omega) _).mono ?_
  rintro e w6 ⟨v6, rfl, ho, hb⟩
  rw [HAG.out] at ho ⊢
  have HA6 := Lib.hid (tk_at ho)
  have HT6 := Lib.hid (HT5.out.step hb)
  have HV6 := Lib.hid (HV5.out.step hb)
  have HB6 := Lib.hid (HB5.out.trans (hb.mono hz5))
  have hz6 := HB6.out.size
  clear ho hb HT5 HV5 HB5
  obtain ⟨A6, n6, c6, rfl, hn6, hc6, -⟩ := id HA6.out
  dsimp only at HA6 hn6
  have HN6 := Lib.hid hn6
  have HKT : Hid ((ts.map (fun t => Tk.tok (t.1, t.2.1, 1)) ++ [endT 1]).map kt = L.map kt) := by show _ = _; rw [HL.out]; exact law_kt ts last
  have HSM := Lib.hid (implSameTok_any HA6.out HT6.out HKT.out (by have := congrArg List.length HKT.out; rw [List.length_map, List.length_map] at this; omega))
  have hn10 : ((n1 : Int) == 0) = false := by simp; omega
  clear HA6 HKT HAG hn6 hc6
  go_wp2_with fail
  refine HSM.out.mono ?_
  rintro e w7 ⟨rfl, hb⟩
  have HT7 := Lib.hid (HT6.out.step hb)
  have HV7 := Lib.hid (HV6.out.step hb)
  have HB7 := Lib.hid (HB6.out.trans (hb.mono hz6))
  clear hb HT6 HV6 HB6 HSM
  obtain ⟨g, off, cc, he, _, hgl, hgc⟩ := HT7.out.some_ hlen
  obtain ⟨g2, off2, cc2, he2, _, hgl2, hgc2⟩ := HV7.out.some_ hlen
  injection he with e1 e2 e3
  injection he2 with e4 e5 e6
  subst e1 e4
  clear e2 e5 e3 e6
  obtain rfl : n2 = n1 := by have := HN1.out; have := HN2.out; omega
  have HGC := Lib.hid hgc
  have HGC2 := Lib.hid hgc2
  obtain ⟨m, hm⟩ : ∃ m, n2 = m + 1 := ⟨n2 - 1, by omega⟩
  have hmw : IntKind.i64.wrap (((n2 : Nat) : Int) - 1) = (m : Int) := (IntWalk.i64_in _ (by omega)).trans (by omega)
  have hlast : L[m]? = some (endT last) := by
    have hn1 := HN1.out
    rw [HL.out] at hn1 ⊢
    rw [List.length_append, List.length_map, List.length_singleton] at hn1
    rw [List.getElem?_append_right (by rw [List.length_map]; omega), List.length_map]
    have : m - ts.length = 0 := by omega
    rw [this]; rfl
  have x4 : w7.cell? ⟨g, off + m * 3, none⟩ = some (.int .i64 4) := (HGC.out m _ hlast).1
  have hmi : (m : Int) < (n2 : Int) := by omega
  have hm0 : (0 : Int) ≤ (m : Int) := by omega
  have HLAST := Lib.hid hlast
  clear hgc hgc2 hlast hc1 hc2
  go_wp2_with fail
  go_loopw [14] (fun i wr => ∃ k q : Nat, k + 1 ≤ n2 ∧ i = .int .i64 ((k + 1 : Nat) : Int) ∧ wr = w7.drewN q) (fun i _ => n2 - (intOf i).toNat)
  case atStart => exact ⟨0, 0, by omega, rfl, rfl⟩
  case round =>
    obtain ⟨k, q, hk, rfl, rfl⟩ := hrel
    by_cases hlt : k + 1 < n2
    case neg =>
      have hdl : decide (((k + 1 : Nat) : Int) < (n2 : Int)) = false := decide_eq_false (by omega)
      obtain ⟨t0, hx0, _⟩ := at_lt (xs := L) rfl hlen
      obtain ⟨kd, tx, l0⟩ := t0
      have y2 : w7.cell? ⟨g, off + 0 * 3 + 2, none⟩ = some (.int .i64 l0) := (HGC.out 0 _ hx0).2.2
      have z2 : w7.cell? ⟨g2, off2 + 0 * 3 + 2, none⟩ = some (.int .i64 l0) := (HGC2.out 0 _ hx0).2.2
      rw [Nat.zero_mul, Nat.add_zero] at y2 z2
      have h00 : (0 : Int) < (n2 : Int) := by omega
      have hll : (l0 == l0) = true := by simp
      clear hx0
      go_wp2_with fail
      go_quiet (fail)
      go_wp2_with fail
      go_ret
      exact ⟨by simp, below_drN (below_drN HB7.out _) _⟩
    have hdl : decide (((k + 1 : Nat) : Int) < (n2 : Int)) = true := decide_eq_true (by omega)
    have hki : IntKind.i64.wrap (((k + 1 : Nat) : Int) + 1) = ((k + 1 + 1 : Nat) : Int) := (IntWalk.i64_in _ (by omega)).trans (by omega)
    have hkj : IntKind.i64.wrap (((k + 1 : Nat) : Int) - 1) = (k : Int) := (IntWalk.i64_in _ (by omega)).trans (by omega)
    have hli : ((k + 1 : Nat) : Int) < (n2 : Int) := by omega
    have hlj : (k : Int) < (n2 : Int) := by omega
    have hk0 : (0 : Int) ≤ (k : Int) := by omega
    have hk1 : (0 : Int) ≤ ((k + 1 : Nat) : Int) := by omega
    obtain ⟨t, hx, _⟩ := at_lt (xs := L) (n := n2) HN1.out (show k < n2 by omega)
    obtain ⟨u, hu, _⟩ := at_lt (xs := L) (n := n2) HN1.out hlt
    obtain ⟨hp1, hp2⟩ := law_pair HG.out (by rw [← HL.out]; exact hx) (by rw [← HL.out]; exact hu)
    obtain ⟨kd, tx, l0⟩ := t
    obtain ⟨kd1, tx1, l1⟩ := u
    have y0 : w7.cell? ⟨g, off + k * 3, none⟩ = some (.int .i64 kd) := (HGC.out k _ hx).1
    have y2 : w7.cell? ⟨g, off + k * 3 + 2, none⟩ = some (.int .i64 l0) := (HGC.out k _ hx).2.2
    have z2 : w7.cell? ⟨g, off + (k + 1) * 3 + 2, none⟩ = some (.int .i64 l1) := (HGC.out (k + 1) _ hu).2.2
    have u2 : w7.cell? ⟨g2, off2 + (k + 1) * 3 + 2, none⟩ = some (.int .i64 l1) := (HGC2.out (k + 1) _ hu).2.2
    simp only at hp1 hp2
    have hll : (l1 == l1) = true := by simp
    clear hx hu
    go_wp2_with fail
    go_quiet (fail)
    go_wp2_with fail
    go_roundw
    case rel => exact ⟨k + 1, q + nq, by omega, rfl, rfl⟩
    case measure => simp [intOf]; omega
end Go.Proofs.Ytfnncclplbbghaa

