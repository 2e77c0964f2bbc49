/-
  Tokens: impl.TokensText (by program: gen_toky.py).
-/
import Derived.Test.YtfnncclplbbghaaTokX
import Derived.Test.YtfnncclplbbghaaTokP
import Derived.Shelf.Strings.OnBuilder
namespace Go.Proofs.Ytfnncclplbbghaa
open Go.RowKit Go.Shelf
set_option linter.unusedVariables false
set_option linter.unusedSimpArgs false
set_option linter.unnecessarySimpa false
set_option maxRecDepth 100000
def jo_ren : Go.Shelf.Ren := ⟨fun
    | 156 => 15 | 165 => 27 | 166 => 28 | 169 => 29 | 240 => 39 | 241 => 40 | 276 => 42 | 277 => 43 | n => n, fun
    | 0 => 0 | 3 => 3 | 4 => 4 | 5 => 5 | 9 => 9 | 20 => 20 | 31 => 40 | 37 => 22 | 70 => 57 | 72 => 59 | 75 => 62 | 76 => 63 | 80 => 65 | 127 => 69 | 164 => 71 | n => n, fun
    n => n⟩
set_option maxHeartbeats 4000000 in
theorem jo_lays : Lays.n156 Try.prog jo_ren where
  mixed := by kernel_rfl
  f156 := Try.func15.trans (congrArg some (by kernel_rfl))
  f165 := Try.func27.trans (congrArg some (by kernel_rfl))
  f166 := Try.func28.trans (congrArg some (by kernel_rfl))
  f169 := Try.func29.trans (congrArg some (by kernel_rfl))
  f240 := Try.func39.trans (congrArg some (by kernel_rfl))
  f241 := Try.func40.trans (congrArg some (by kernel_rfl))
  f276 := Try.func42.trans (congrArg some (by kernel_rfl))
  f277 := Try.func43.trans (congrArg some (by kernel_rfl))
  t0 := by kernel_rfl
  a0 := fun _ => by kernel_rfl
  z0 := fun _ => by kernel_rfl
  v0 := fun _ => by kernel_rfl
  t3 := by kernel_rfl
  a3 := fun _ => by kernel_rfl
  z3 := fun _ => by kernel_rfl
  v3 := fun _ => by kernel_rfl
  t4 := by kernel_rfl
  a4 := fun _ => by kernel_rfl
  z4 := fun _ => by kernel_rfl
  v4 := fun _ => by kernel_rfl
  t9 := by kernel_rfl
  a9 := fun _ => by kernel_rfl
  z9 := fun _ => by kernel_rfl
  v9 := fun _ => by kernel_rfl
  t20 := by kernel_rfl
  a20 := fun _ => by kernel_rfl
  z20 := fun _ => by kernel_rfl
  v20 := fun _ => by kernel_rfl
  t31 := by kernel_rfl
  a31 := fun _ => by kernel_rfl
  z31 := fun _ => by kernel_rfl
  v31 := fun _ => by kernel_rfl
  t37 := by kernel_rfl
  a37 := fun _ => by kernel_rfl
  z37 := fun _ => by kernel_rfl
  v37 := fun _ => by kernel_rfl
  t70 := by kernel_rfl
  a70 := fun _ => by kernel_rfl
  z70 := fun _ => by kernel_rfl
  v70 := fun _ => by kernel_rfl
  t72 := by kernel_rfl
  a72 := fun _ => by kernel_rfl
  z72 := fun _ => by kernel_rfl
  v72 := fun _ => by kernel_rfl
  t75 := by kernel_rfl
  a75 := fun _ => by kernel_rfl
  z75 := fun _ => by kernel_rfl
  v75 := fun _ => by kernel_rfl
  t76 := by kernel_rfl
  a76 := fun _ => by kernel_rfl
  z76 := fun _ => by kernel_rfl
  v76 := fun _ => by kernel_rfl
  t127 := by kernel_rfl
  a127 := fun _ => by kernel_rfl
  z127 := fun _ => by kernel_rfl
  v127 := fun _ => by kernel_rfl
  t164 := by kernel_rfl
  a164 := fun _ => by kernel_rfl
  z164 := fun _ => by kernel_rfl
  v164 := fun _ => by kernel_rfl
theorem jo_x : Builder.Extra Try.prog jo_ren where
  sizeBuilder := by kernel_rfl
  liesBuilder := by kernel_rfl
  t5 := by kernel_rfl
  a5 := fun _ => by kernel_rfl
  z5 := fun _ => by kernel_rfl
  v5 := fun _ => by kernel_rfl
  infoByte := by kernel_rfl
  cellsByte := by kernel_rfl
  sizeByte := by kernel_rfl
  neB5 := by decide
theorem join_any (bk o c : Nat) (xs : List ByteArray) (sep : ByteArray) (w : World) (hcells : ∀ (j : Nat) x, xs[j]? = some x → w.cell? ⟨bk, o + j, none⟩ = some (.string x))
    (hbk : bk < w.heap.size) (hN : xs.length ≤ 140737488355328) (hcap : xs.length ≤ c) (hlen : (Lib.join (xs.map (·.data.toList)) sep.data.toList).length ≤ 140737488355328) :
    Calls Try.prog 15 #[.slice (some ⟨bk, o, none⟩) xs.length c, .string sep] w fun e w' => e = .returned (.string ⟨(Lib.join (xs.map (·.data.toList)) sep.data.toList).toArray⟩) ∧ Below w.heap.size w w' :=
  Any.strings_Join jo_lays jo_x bk o c xs sep w hcells hbk hN hcap hlen
theorem join_none (a : Option Addr) (c : Nat) (sep : ByteArray) (w : World) : Calls Try.prog 15 #[.slice a 0 c, .string sep] w fun e w' => e = .returned (.string ⟨#[]⟩) ∧ w' = w :=
  Any.strings_Join_none jo_lays jo_x a c sep w
theorem jn_cons (x y : List UInt8) (r : List (List UInt8)) (sep : List UInt8) : Lib.join (x :: y :: r) sep = x ++ (sep ++ Lib.join (y :: r) sep) := by
  rw [Lib.join_cons, Lib.join_cons]
  simp [Lib.joinTail]
/-- strings.Join of texts is joinT of their bytes -/
theorem join_joinT : ∀ ts : List ByteArray, (Lib.join (ts.map (·.data.toList)) (⟨#[32]⟩ : ByteArray).data.toList).map (fun b => (b.toNat : Int)) = joinT (ts.map byt)
  | [] => rfl
  | [t] => by rw [List.map_cons, List.map_nil, Lib.join_one]; rfl
  | t :: u :: ts => by
    have ih := join_joinT (u :: ts)
    rw [List.map_cons, List.map_cons, jn_cons, List.map_append, List.map_append]
    rw [List.map_cons] at ih
    rw [ih]
    rfl
theorem byt_arr (l : List UInt8) : byt ⟨l.toArray⟩ = l.map fun b => (b.toNat : Int) := rfl
theorem join_str (ts : List ByteArray) : (⟨(Lib.join (ts.map (·.data.toList)) (⟨#[32]⟩ : ByteArray).data.toList).toArray⟩ : ByteArray) = strOfNums (joinT (ts.map byt)) := by
  rw [← join_joinT, ← byt_arr, strOfNums_byt]
theorem strz_info : (Try.prog.info? 9).map (fun i => (i.zero, i.size, i.bytes)) = some (some (.string { data := #[] }), 1, 16) := by kernel_rfl
def txtL (L : List Token) : List ByteArray := (L.filter fun t => !(t.kind == 4)).map (·.text)
theorem txtL_step {L : List Token} {k : Nat} {t : Token} (h : L[k]? = some t) : txtL (L.take (k + 1)) = txtL (L.take k) ++ if t.kind = 4 then [] else [t.text] := by
  rw [List.take_add_one, h]
  unfold txtL
  rw [List.filter_append, List.map_append]
  congr 1
  by_cases e : t.kind = 4
  · simp [e]
  · simp [e]
theorem txtL_len (L : List Token) : (txtL L).length ≤ L.length := by
  unfold txtL
  rw [List.length_map]
  exact List.length_filter_le _ _
set_option maxHeartbeats 3200000 in
theorem TokensText_any {w : World} {v : Value} {L : List Token} (hv : TkAt w v L) (hL : L.length ≤ 100000) (hj : (joinT ((txtL L).map byt)).length ≤ 100000000) :
    Calls Try.prog 8 #[v] w fun e w' => e = .returned (.string (strOfNums (joinT ((txtL L).map byt)))) ∧ Below w.heap.size w w' := by
  obtain ⟨A, n, c, rfl, hn, hc, hg⟩ := hv
  have HG := Lib.hid hg
  have HN := Lib.hid hn
  have hn9 : n ≤ 100000 := by omega
  obtain ⟨i0, hi, hz0, hz1, hz2⟩ := info_parts strz_info
  have HJ := Lib.hid hj
  have HO0 : Hid ((w.alloc (.cells #[] 9)).ownsRow w.heap.size 9 1 (.slice (some ⟨w.heap.size, 0, none⟩) 0 0) (txtL (L.take 0)).length (strs (txtL (L.take 0)))) := World.ownsRow_made w #[] 0 (Nat.le_refl _) (by simp) (by simp)
  have HB0 : Hid (Below w.heap.size w (w.alloc (.cells #[] 9))) := (Below.refl _ _).alloc (Nat.le_refl _) _
  clear hg hn hL hj
  go_enter Try.func8, Try.ntmps8
  go_wp2_with fail
  go_loopw [3, 9] (fun tv i wr => ∃ (u : Value) (k m : Nat), u = tv ∧ k ≤ n ∧ i = .int .i64 k ∧ m ≤ k ∧ Hid ((txtL (L.take k)).length = m) ∧ Hid (wr.ownsRow w.heap.size 9 1 u m (strs (txtL (L.take k)))) ∧ Hid (Below w.heap.size w wr)) (fun _ i _ => n - (intOf i).toNat)
  case atStart => exact ⟨_, 0, 0, rfl, Nat.zero_le _, rfl, Nat.le_refl _, Lib.hid rfl, HO0, HB0⟩
  case round =>
    clear HO0 HB0
    obtain ⟨u, k, m, rfl, hk, rfl, hmk, HM, HO, HB⟩ := hrel
    have hsz := HB.out.size
    by_cases hlt : k < n
    case neg =>
      have hd : decide ((k : Int) < (n : Int)) = false := decide_eq_false (by omega)
      have HE : Hid (txtL (L.take k) = txtL L) := by
        show _ = _
        rw [List.take_of_length_le (by have := HN.out; omega)]
      obtain ⟨tA, tN, tC, rfl, h1, h2, h3, h4⟩ := (Own.of_own HO.out).form
      obtain rfl : tN = m := by rw [show (strs (txtL (L.take k))).length = (txtL (L.take k)).length from List.length_map _, HM.out] at h1; omega
      by_cases h0 : tN = 0
      case pos =>
        have HE0 : Hid (strOfNums (joinT ((txtL L).map byt)) = ⟨#[]⟩) := by
          show _ = _
          have : txtL L = [] := List.eq_nil_of_length_eq_zero (by rw [← HE.out, HM.out, h0])
          rw [this]; rfl
        subst h0
        clear h1 h2 h3 h4
        go_wp2_with fail
        refine (join_none _ _ _ _).mono ?_
        rintro e w' ⟨rfl, rfl⟩
        go_wp2_with fail
        go_ret
        exact ⟨by rw [HE0.out]; rfl, HB.out⟩
      obtain ⟨g, off, rfl, hlo, hglt, hat⟩ := h4 (by omega)
      have HJN : Hid (Calls Try.prog 15 #[.slice (some ⟨g, off, none⟩) tN tC, .string ⟨#[32]⟩] wr fun e w' => e = .returned (.string (strOfNums (joinT ((txtL L).map byt)))) ∧ Below wr.heap.size wr w') := by
        have := join_any g off tC (txtL L) ⟨#[32]⟩ wr (fun j x hx => by
            have : (strs (txtL (L.take k)))[j]? = some (.string x) := by rw [HE.out, strs, List.getElem?_map, hx]; rfl
            exact hat.cell this) hglt (by rw [← HE.out, HM.out]; omega) (by rw [← HE.out, HM.out]; omega) (by
            have h := congrArg List.length (join_joinT (txtL L))
            rw [List.length_map] at h
            rw [h]
            have := HJ.out
            omega)
        rw [join_str] at this
        have e : (txtL L).length = tN := by rw [← HE.out, HM.out]
        rw [e] at this
        exact this
      clear h1 h2 h3 h4 hat
      go_wp2_with fail
      refine HJN.out.mono ?_
      rintro e w' ⟨rfl, hb1⟩
      go_wp2_with fail
      go_ret
      exact ⟨rfl, HB.out.trans (hb1.mono hsz)⟩
    have hd : decide ((k : Int) < (n : Int)) = true := decide_eq_true (by omega)
    have hki : IntKind.i64.wrap ((k : Int) + 1) = (k : Int) + 1 := IntWalk.i64_in _ (by omega)
    obtain ⟨t, hx, _⟩ := at_lt HN.out hlt
    have HST := Lib.hid (txtL_step hx)
    obtain ⟨g, off, rfl, hl, x0, x1, x2⟩ := HG.out k t hx
    obtain ⟨kd, tx, ln⟩ := t
    simp only at x0 x1 x2 HST
    have c0 := (HB.out.cell (p := ⟨g, off + k * 3, none⟩) hl).trans x0
    have c1 := (HB.out.cell (p := ⟨g, off + k * 3 + 1, none⟩) hl).trans x1
    have c2 := (HB.out.cell (p := ⟨g, off + k * 3 + 2, none⟩) hl).trans x2
    have hgr : g < wr.heap.size := by omega
    clear hx x0 x1 x2 hl
    obtain ⟨uA, uN, uC, rfl, -, -, -⟩ := (Own.of_own HO.out).form
    by_cases h4 : kd = 4
    case pos =>
      subst h4
      go_wp2_with fail
      go_roundw
      case rel => exact ⟨_, k + 1, m, rfl, by omega, by go_num, by omega, Lib.hid (by rw [HST.out, if_pos rfl, List.append_nil, HM.out]), Lib.hid (by rw [HST.out, if_pos rfl, List.append_nil]; exact HO.out.alloc _), Lib.hid (HB.out.alloc hsz _)⟩
      case measure => simp [intOf]; omega
    have hk4 : (kd == 4) = false := by simpa using h4
    have HST2 : Hid (txtL (L.take (k + 1)) = txtL (L.take k) ++ [tx]) := by
      show _ = _
      rw [HST.out, if_neg h4]
    obtain ⟨w1, hw1⟩ : ∃ V, V = wr.alloc (.cells #[.int .i64 kd, .string tx, .int .i64 ln] 30) := ⟨_, rfl⟩
    have HO1 : Hid (w1.ownsRow w.heap.size 9 1 (.slice uA uN uC) m (strs (txtL (L.take k)))) := by show World.ownsRow _ _ _ _ _ _ _; rw [hw1]; exact HO.out.alloc _
    have HB1 : Hid (Below w.heap.size w w1) := by show Below _ _ _; rw [hw1]; exact HB.out.alloc hsz _
    have hz1' := HB1.out.size
    have HW1 := Lib.hid hw1
    have e0 : w1.cell? ⟨wr.heap.size, 0, none⟩ = some (.int .i64 kd) := by rw [hw1]; exact (Blk.new wr _ _).cell 0
    have e1 : w1.cell? ⟨wr.heap.size, 1, none⟩ = some (.string tx) := by rw [hw1]; exact (Blk.new wr _ _).cell 1
    have HO2 : Hid ((w1.alloc (.cells #[.string tx] 9)).ownsRow w.heap.size 9 1 (.slice uA uN uC) m (strs (txtL (L.take k)))) := HO1.out.alloc _
    have HSC : Hid (SrcOk (w1.alloc (.cells #[.string tx] 9)) (.slice (some ⟨wr.heap.size + 1, 0, none⟩) 1 1) 1 1 (strs [tx])) := by
      have he : w1.heap.size = wr.heap.size + 1 := by rw [hw1]; simp
      have hnw := World.news_of_block (heap_alloc_new w1 (.cells #[.string tx] 9))
      rw [he] at hnw
      exact .inr ⟨⟨wr.heap.size + 1, 0, none⟩, 1, rfl, rfl, hnw⟩
    have HB2 : Hid (Below w.heap.size w (w1.alloc (.cells #[.string tx] 9))) := HB1.out.alloc hz1' _
    clear hw1 HST h4
    go_wp2_with (at_builtin; (rw [← HW1.out]; refine wpList_append_src rfl _ _ 40 rfl w.heap.size 9 i0 (.string { data := #[] }) 1 16 Try.underlying40 hi hz0 hz1 hz2 rfl (by decide) _ _ _ rfl HO2.out _ _ _ rfl HSC.out (one_strs _) (by simp only [maxLen]; omega) (by omega) HB2.out.size ?_); intro v' w3 hown' hgrow _)
    have HB3 := Lib.hid (HB2.out.grown hgrow HB2.out.size (fun g hg => (HO2.out.lt g hg).1))
    have HO3 := Lib.hid hown'
    clear hown' hgrow
    go_roundw
    case rel => exact ⟨_, k + 1, m + 1, rfl, by omega, by go_num, by omega, Lib.hid (by rw [HST2.out, List.length_append, HM.out]; rfl), Lib.hid (by rw [HST2.out, strs, List.map_append]; exact HO3.out), HB3⟩
    case measure => simp [intOf]; omega
end Go.Proofs.Ytfnncclplbbghaa


