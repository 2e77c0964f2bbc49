/-
  The sections of a binary: spec.SectionsOf, impl.sectionsOf, impl.SectionsOf (by program: gen_secl.py).
-/
import Derived.Test.YtlkfaednolmfkaaSecOf
namespace Go.Proofs.Ytlkfaednolmfkaa
open Go.RowKit
set_option linter.unusedVariables false
set_option linter.unusedSimpArgs false
set_option linter.unnecessarySimpa false
set_option maxRecDepth 16000

theorem sec_info : (Try.prog.info? 64).map (fun i => (i.zero, i.size, i.bytes)) = some (some (.agg #[.int .i64 0, .string { data := #[] }, .string { data := #[] }]), 3, 40) := by kernel_rfl
theorem sec_cells (id : Int) (name bytes : ByteArray) : ∀ u ∈ [Value.int .i64 id, Value.string name, Value.string bytes], u.oneCell' = true := by
  intro u hu
  simp only [List.mem_cons, List.not_mem_nil, or_false] at hu
  rcases hu with rfl | rfl | rfl <;> rfl
theorem sec_hold (w : World) (id : Int) (name bytes : ByteArray) : HoldL w (Section.pd ⟨id, name, bytes⟩) [.int .i64 id, .string name, .string bytes] [] := by
  rw [Section.pd_mk]
  exact HoldL.cons (F1 := []) (Hold.lit_ _ _) (HoldL.cons (F1 := []) (Hold.lit_ _ _) (HoldL.cons (F1 := []) (Hold.lit_ _ _) (HoldL.nil w)))
theorem secs_none {R : Option (List Section)} {r : Nat} {q : ByteArray} {acc : List Section} (h : R = (secsR r q).map (acc ++ ·)) (h2 : secsR r q = none) : R = none := by rw [h, h2]; rfl
theorem secs_next {R : Option (List Section)} {k : Nat} {q : ByteArray} {acc : List Section} {x : Section} {m : Nat} (hk : k < 20) (h : R = (secsR (20 - k) q).map (acc ++ ·)) (h2 : readR q = some (x, m)) :
    R = (secsR (20 - (k + 1)) (q.extract m q.size)).map ((acc ++ [x]) ++ ·) := by
  rw [h, show 20 - k = (20 - (k + 1)) + 1 by omega, secsR_yes h2, Option.map_map]
  congr 1
  funext l
  simp
theorem secs_end {R : Option (List Section)} {r : Nat} {q : ByteArray} {acc : List Section} (h : R = (secsR r q).map (acc ++ ·)) (h2 : q.size = 0) : R = some acc := by rw [h, secsR_end r h2]; simp
theorem flat_snoc (acc : List Section) (x : Section) : (acc ++ [x]).flatMap Section.pd = acc.flatMap Section.pd ++ Section.pd x := by simp
def SecOk (f : Nat) (s : ByteArray) : Prop := ∀ w : World, Calls Try.prog f #[.string s] w fun e w' => ∃ u, e = .returned (.tuple #[u, .int .i64 (secRes s).2]) ∧ Lv w' w.heap.size w'.heap.size (.row 3 ((secRes s).1.flatMap Section.pd)) u ∧ Below w.heap.size w w'
theorem nil_lv (w : World) (lo : Nat) (h : lo ≤ w.heap.size) : Lv w lo w.heap.size (.row 3 ([].flatMap Section.pd)) (.slice none 0 0) := ⟨[], by rw [Hold]; exact ⟨none, 0, 0, rfl, rfl, Nat.le_refl _, by decide, .inl ⟨rfl, rfl⟩⟩, In.nil _ _, Nat.le_refl _⟩
/-- one section more: the row, behind the box and the new element's block -/
theorem grow_sec {w wr w1 w2 w3 : World} {lo k : Nat} {u v' : Value} {acc : List Section} {cs : List Value} {id : Int} {name bytes : ByteArray} (h : Grow w wr lo 64 3 k u (acc.flatMap Section.pd) cs []) (hb1 : Below wr.heap.size wr w1) (hb2 : Below w1.heap.size w1 w2)
    (hown : w3.ownsRow lo 64 3 v' (k + 1) (cs ++ [.int .i64 id, .string name, .string bytes])) (hgrow : w2.grownBy w3 u.ownBlock) (hat : v'.ownBlock = u.ownBlock ∨ v'.ownBlock = some w2.heap.size) :
    Grow w w3 lo 64 3 (k + 1) v' ((acc ++ [(⟨id, name, bytes⟩ : Section)]).flatMap Section.pd) (cs ++ [.int .i64 id, .string name, .string bytes]) [] := by
  rw [flat_snoc]
  exact h.next hb1 (sec_hold w1 id name bytes) (In.nil _ _) hb2 hown hgrow hat
set_option maxHeartbeats 6400000 in
theorem specSectionsOf_any (s : ByteArray) (hs : s.size ≤ 1048576) : SecOk 24 s := by
  intro w
  obtain ⟨i0, hi, hz0, hz1, hz2⟩ := info_parts sec_info
  by_cases h30 : 30000 < s.size
  case pos =>
    have HF := Lib.hid (secRes_big h30)
    go_enter Try.func24, Try.ntmps24
    go_wp2_with fail
    go_ret2
    rw [HF.out]
    exact ⟨_, rfl, nil_lv _ _ (Nat.le_refl _), Below.refl _ _⟩
  by_cases h5 : s.size < 5
  case pos =>
    have HF := Lib.hid (secRes_head h30 (.inl h5))
    go_enter Try.func24, Try.ntmps24
    go_wp2_with fail
    go_ret2
    rw [HF.out]
    exact ⟨_, rfl, nil_lv _ _ (Nat.le_refl _), Below.refl _ _⟩
  have h5' : (5 : Int) ≤ (s.size : Int) := by omega
  by_cases hhd : s.extract 0 5 = binHead
  case neg =>
    have HF := Lib.hid (secRes_head h30 (.inr hhd))
    have hh1 : ((s.extract 0 5).toList == (ByteArray.mk #[0, 99, 111, 114, 1]).toList) = false := str_ne2 hhd
    have hh2 : ((s.extract 0 5).toList == [0, 99, 111, 114, 1]) = false := by rw [ByteArray.toList_eq (ByteArray.mk #[0, 99, 111, 114, 1])] at hh1; exact hh1
    go_enter Try.func24, Try.ntmps24
    go_wp2_with fail
    go_ret2
    rw [HF.out]
    exact ⟨_, rfl, nil_lv _ _ (Nat.le_refl _), Below.refl _ _⟩
  have HN := Lib.hid (secRes_no h30 (by omega) hhd)
  have HY := Lib.hid (fun l => secRes_yes (l := l) h30 (by omega) hhd)
  have hhd2 : s.extract 0 5 = { data := #[0, 99, 111, 114, 1] } := hhd
  obtain ⟨R, hR⟩ : ∃ R, R = secsR 20 (s.extract 5 s.size) := ⟨_, rfl⟩
  rw [← hR] at HN HY
  have HR0 : Hid (R = (secsR (20 - 0) (s.extract 5 s.size)).map ([] ++ ·)) := by show _ = _; rw [hR]; simp
  clear hR hhd
  go_enter Try.func24, Try.ntmps24
  go_wp2_with fail
  clear hhd2
  go_loopw [4, 5] (fun out a wr => ∃ (k p : Nat) (u : Value) (cs : List Value) (acc : List Section), u = out ∧ a = .int .i64 p ∧ 5 ≤ p ∧ p ≤ s.size ∧ k ≤ 20 ∧ Hid (R = (secsR (20 - k) (s.extract p s.size)).map (acc ++ ·)) ∧ Grow w wr w.heap.size 64 3 k u (acc.flatMap Section.pd) cs []) (fun _ a _ => s.size - (intOf a).toNat)
  case atStart => exact ⟨0, 5, _, [], [], rfl, rfl, by omega, by omega, by omega, HR0, Grow.made (Below.refl _ _) (Nat.le_refl _) (Nat.le_refl _) (by simp) (by simp)⟩
  case round =>
    obtain ⟨k, p, u, cs, acc, rfl, rfl, hp5, hps, hk, HRk, hG⟩ := hrel
    have hbr := hG.2.2.2.2.1
    have hsz := hbr.size
    obtain ⟨uA, uN, uC, rfl, hul, _⟩ := (Own.of_own hG.1).form
    have huN : uN = k := by
      have h1 := hG.1.1
      have h2 := hul
      omega
    by_cases hlt : p < s.size
    case neg =>
      have HF := Lib.hid (HY.out acc (secs_end HRk.out (by rw [ByteArray.size_extract]; omega)))
      have hfin := hG.done
      have HL := Lib.hid hfin
      clear hG hfin
      go_wp2_with fail
      go_ret2
      rw [HF.out]
      exact ⟨_, rfl, HL.out, hbr⟩
    have hqs : (s.extract p s.size).size = s.size - p := by rw [ByteArray.size_extract]; omega
    have hq0 : ¬ (s.extract p s.size).size = 0 := by omega
    have HRD := Lib.hid (fun W => l17Read_any (s.extract p s.size) (by omega) W)
    have HEX := Lib.hid (fun m => ext_ext s p m (by omega))
    have HQN := Lib.hid (fun h => HN.out (secs_none HRk.out (secsR_no _ hq0 h)))
    have HG := Lib.hid hG
    cases hrd : readR (s.extract p s.size) with
    | none =>
      have HF := Lib.hid (HQN.out hrd)
      rw [hrd] at HRD
      clear hrd hq0 hqs hG hul
      go_wp2_with fail
      refine (HRD.out _).mono ?_
      rintro e w2 ⟨rfl, hb2⟩
      simp only [readRes]
      have hB2 := hbr.trans (hb2.mono hsz)
      go_wp2_with fail
      go_ret2
      rw [HF.out]
      exact ⟨_, rfl, nil_lv _ _ (by simp; have := hB2.size; omega), hB2.alloc hB2.size _⟩
    | some q =>
      obtain ⟨⟨id, name, bytes⟩, m⟩ := q
      obtain ⟨hm2, hmq, _⟩ := readR_le hrd
      have HNX := Lib.hid (fun h => secs_next (k := k) h HRk.out hrd)
      have HK20 := Lib.hid (fun (h : k = 20) => HN.out (secs_none HRk.out (by rw [h]; exact secsR_0 hq0)))
      rw [hqs] at HNX hmq
      rw [hrd] at HRD
      clear hrd hq0 hqs
      go_wp2_with fail
      refine (HRD.out _).mono ?_
      rintro e w2 ⟨rfl, hb2⟩
      simp only [readRes]
      have hB2 := hbr.trans (hb2.mono hsz)
      have hs2 := hB2.size
      have bX : Blk (w2.alloc (.cells #[.int .i64 id, .string name, .string bytes] 64)) w2.heap.size 64 #[.int .i64 id, .string name, .string bytes] := Blk.new w2 _ _
      by_cases hk20 : k = 20
      · have HF := Lib.hid (HK20.out hk20)
        have hkk : (20 : Int) ≤ (uN : Int) := by omega
        clear hG hul hk20
        go_wp2_with fail
        go_ret2
        rw [HF.out]
        exact ⟨_, rfl, nil_lv _ _ (by simp; omega), hB2.alloc hs2 _⟩
      have hkk : ¬ (20 : Int) ≤ (uN : Int) := by omega
      have HNX2 := Lib.hid (HNX.out (by omega))
      have x0 := bX.cell 0
      have x1 := bX.cell 1
      have x2 := bX.cell 2
      have hb3 : Below wr.heap.size wr (w2.alloc (.cells #[.int .i64 id, .string name, .string bytes] 64)) := hb2.alloc hb2.size _
      have hG3 := hG.step hb3
      have hown := hG3.1.alloc (.cells #[.int .i64 id, .string name, .string bytes] 64)
      have hnew : ∀ j u, [Value.int .i64 id, .string name, .string bytes][j]? = some u → ((w2.alloc (.cells #[.int .i64 id, .string name, .string bytes] 64)).alloc (.cells #[.int .i64 id, .string name, .string bytes] 64)).cell? ((⟨w2.heap.size + 1, 0, none⟩ : Addr).add j) = some u := by
        have := World.news_of_block (heap_alloc_new (w2.alloc (.cells #[.int .i64 id, .string name, .string bytes] 64)) (.cells #[.int .i64 id, .string name, .string bytes] 64))
        simpa using this
      have hlo2 : w.heap.size ≤ ((w2.alloc (.cells #[.int .i64 id, .string name, .string bytes] 64)).alloc (.cells #[.int .i64 id, .string name, .string bytes] 64)).heap.size := by simp; omega
      have hadd : IntKind.i64.wrap ((p : Int) + (m : Int)) = ((p + m : Nat) : Int) := by rw [IntWalk.i64_in _ (by omega)]; omega
      subst huN
      clear hG hG3 hul
      go_wp2_with (at_builtin; refine wpList_append_own_at _ rfl _ _ 42 rfl w.heap.size 64 i0 (.agg #[.int .i64 0, .string { data := #[] }, .string { data := #[] }]) 3 40 Try.underlying42 hi hz0 hz1 hz2 rfl (by decide) _ _ _ rfl hown ⟨w2.heap.size + 1, 0, none⟩ 1 1 [.int .i64 id, .string name, .string bytes] rfl rfl hnew (sec_cells _ _ _) (by simp only [maxLen]; omega) (by omega) hlo2 ?_; intro v' w9 hown' hgrow _ hat2)
      have hG9 := grow_sec HG.out hb3 ((Below.refl _ _).alloc (Nat.le_refl _) _) hown' hgrow hat2
      have HG9 := Lib.hid hG9
      have HE := Lib.hid (HEX.out m)
      clear hG9 hown hown' hnew hgrow hat2
      go_roundw
      case rel => exact ⟨uN + 1, p + m, _, _, acc ++ [⟨id, name, bytes⟩], rfl, by go_num, by omega, by omega, by omega, by rw [HE.out] at HNX2; exact HNX2, HG9.out⟩
      case measure => simp [intOf]; omega
def prefB (s : ByteArray) : Bool := decide (5 ≤ s.size ∧ s.extract 0 5 = binHead)
theorem hasPrefix_any (s : ByteArray) (hs : s.size ≤ 1048576) (w : World) : Calls Try.prog 86 #[.string s, .string { data := #[0, 99, 111, 114, 1] }] w fun e w' => e = .returned (.bool (prefB s)) ∧ w = w' := by
  by_cases h5 : s.size < 5
  case pos =>
    have HF : Hid (prefB s = false) := decide_eq_false (by omega)
    go_enter Try.func86, Try.ntmps86
    go_wp2_with fail
    go_ret
    exact ⟨ret_bool HF.out.symm, rfl⟩
  have h5' : (5 : Int) ≤ (s.size : Int) := by omega
  by_cases hhd : s.extract 0 5 = binHead
  · have HF : Hid (prefB s = true) := decide_eq_true ⟨by omega, hhd⟩
    have hhd2 : s.extract 0 5 = { data := #[0, 99, 111, 114, 1] } := hhd
    clear hhd
    go_enter Try.func86, Try.ntmps86
    go_wp2_with fail
    go_ret
    exact ⟨ret_bool HF.out.symm, rfl⟩
  · have HF : Hid (prefB s = false) := decide_eq_false (fun e => hhd e.2)
    have hh1 : ((s.extract 0 5).toList == (ByteArray.mk #[0, 99, 111, 114, 1]).toList) = false := str_ne2 hhd
    have hh2 : ((s.extract 0 5).toList == [0, 99, 111, 114, 1]) = false := by rw [ByteArray.toList_eq (ByteArray.mk #[0, 99, 111, 114, 1])] at hh1; exact hh1
    go_enter Try.func86, Try.ntmps86
    go_wp2_with fail
    go_ret
    exact ⟨ret_bool HF.out.symm, rfl⟩
def cutR (s : ByteArray) : ByteArray × Bool := if 5 ≤ s.size ∧ s.extract 0 5 = binHead then (s.extract 5 s.size, true) else (s, false)
theorem cutPrefix2_any (s : ByteArray) (hs : s.size ≤ 1048576) (w : World) : Calls Try.prog 82 #[.string s, .string { data := #[0, 99, 111, 114, 1] }] w fun e w' => e = .returned (.tuple #[.string (cutR s).1, .bool (cutR s).2]) ∧ w = w' := by
  have HP := Lib.hid (hasPrefix_any s hs w)
  by_cases h : 5 ≤ s.size ∧ s.extract 0 5 = binHead
  · have h5' : (5 : Int) ≤ (s.size : Int) := by omega
    have HF : Hid (cutR s = (s.extract 5 s.size, true)) := if_pos h
    have hpb : prefB s = true := decide_eq_true h
    rw [hpb] at HP
    clear hpb
    clear h
    rw [HF.out]
    go_enter Try.func82, Try.ntmps82
    go_wp2_with fail
    refine HP.out.mono ?_
    rintro e w1 ⟨rfl, rfl⟩
    go_wp2_with fail
    go_ret2
    exact ⟨rfl, rfl⟩
  · have HF : Hid (cutR s = (s, false)) := if_neg h
    have hpb : prefB s = false := decide_eq_false h
    rw [hpb] at HP
    clear hpb
    clear h
    rw [HF.out]
    go_enter Try.func82, Try.ntmps82
    go_wp2_with fail
    refine HP.out.mono ?_
    rintro e w1 ⟨rfl, rfl⟩
    go_wp2_with fail
    go_ret2
    exact ⟨rfl, rfl⟩
theorem cutPrefix_any (s : ByteArray) (hs : s.size ≤ 1048576) (w : World) : Calls Try.prog 71 #[.string s, .string { data := #[0, 99, 111, 114, 1] }] w fun e w' => e = .returned (.tuple #[.string (cutR s).1, .bool (cutR s).2]) ∧ w = w' := by
  have HP := Lib.hid (cutPrefix2_any s hs w)
  obtain ⟨p, hp⟩ : ∃ p, p = cutR s := ⟨_, rfl⟩
  rw [← hp] at HP ⊢
  clear hp
  obtain ⟨a, b⟩ := p
  go_enter Try.func71, Try.ntmps71
  go_wp2_with fail
  refine HP.out.mono ?_
  rintro e w1 ⟨rfl, rfl⟩
  go_wp2_with fail
  go_ret2
  exact ⟨rfl, rfl⟩
def LoopSt (s : ByteArray) (R : Option (List Section)) (w : World) (rest ok list : Value) (wr : World) : Prop :=
  ∃ (k : Nat) (u : Value) (cs : List Value) (acc : List Section) (r : ByteArray) (b : Bool), rest = .string r ∧ ok = .bool b ∧ u = list ∧ r.size ≤ s.size ∧ k ≤ 21 ∧ Grow w wr w.heap.size 64 3 k u (acc.flatMap Section.pd) cs [] ∧
    Hid (b = true → k ≤ 20 ∧ R = (secsR (20 - k) r).map (acc ++ ·)) ∧ Hid (b = false → R = none)
def secMeas (r ok : Value) : Nat := match ok, r with | .bool true, .string r => r.size + 1 | _, _ => 0
def secsOfRes (s : ByteArray) : Option (List Section) := if prefB s then secsR 20 (s.extract 5 s.size) else none
theorem cut_yes {s : ByteArray} (h : prefB s = true) : cutR s = (s.extract 5 s.size, true) := if_pos (of_decide_eq_true h)
theorem cut_no {s : ByteArray} (h : prefB s = false) : cutR s = (s, false) := if_neg (of_decide_eq_false h)
set_option maxHeartbeats 12800000 in
theorem sectionsOf_any (s : ByteArray) (hs : s.size ≤ 30000) (w : World) : Calls Try.prog 50 #[.string s] w fun e w' => ∃ A n c, e = .returned (.tuple #[.slice A n c, .bool (secsOfRes s).isSome]) ∧ (∀ l, secsOfRes s = some l → Lv w' w.heap.size w'.heap.size (.row 3 (l.flatMap Section.pd)) (.slice A n c)) ∧ Below w.heap.size w w' := by
  obtain ⟨i0, hi, hz0, hz1, hz2⟩ := info_parts sec_info
  have HCP := Lib.hid (cutPrefix_any s (by omega) w)
  obtain ⟨R, hR⟩ : ∃ R, R = secsOfRes s := ⟨_, rfl⟩
  rw [← hR]
  obtain ⟨r0, b0, hr0, hrs, HT0, HF0⟩ : ∃ r0 b0, cutR s = (r0, b0) ∧ r0.size ≤ s.size ∧ Hid (b0 = true → 0 ≤ 20 ∧ R = (secsR (20 - 0) r0).map ([] ++ ·)) ∧ Hid (b0 = false → R = none) := by
    cases hp : prefB s
    · exact ⟨s, false, cut_no hp, Nat.le_refl _, Lib.hid (fun h => by cases h), Lib.hid (fun _ => by rw [hR, secsOfRes, hp]; rfl)⟩
    · exact ⟨_, true, cut_yes hp, by rw [ByteArray.size_extract]; omega, Lib.hid (fun _ => ⟨by omega, by rw [hR, secsOfRes, hp]; simp⟩), Lib.hid (fun h => by cases h)⟩
  rw [hr0] at HCP
  clear hR hr0
  go_enter Try.func50, Try.ntmps50
  go_wp2_with fail
  refine HCP.out.mono ?_
  rintro e w1 ⟨rfl, rfl⟩
  go_wp2_with fail
  go_loopw [4, 5, 6] (LoopSt s R w) (fun r ok _ _ => secMeas r ok)
  case atStart => exact ⟨0, _, [], [], r0, b0, rfl, rfl, rfl, hrs, by omega, Grow.made (Below.refl _ _) (Nat.le_refl _) (Nat.le_refl _) (by simp) (by simp), HT0, HF0⟩
  case round =>
    obtain ⟨k, u, cs, acc, r, b, rfl, rfl, rfl, hrs, hk21, hG, HT, HF⟩ := hrel
    have hbr := hG.2.2.2.2.1
    have hsz := hbr.size
    obtain ⟨uA, uN, uC, rfl, hul, _⟩ := (Own.of_own hG.1).form
    have huN : uN = k := by
      have h1 := hG.1.1
      have h2 := hul
      omega
    subst huN
    clear hul
    cases b
    case false =>
      have HRN := Lib.hid (HF.out rfl)
      clear hG
      go_wp2_with fail
      go_ret2
      exact ⟨_, _, _, by rw [HRN.out]; rfl, fun l h => (by rw [HRN.out] at h; cases h), hbr⟩
    obtain ⟨hk, hRk⟩ := HT.out rfl
    have HRk := Lib.hid hRk
    clear hRk
    by_cases h0 : r.size = 0
    case pos =>
      have hre : r = ⟨#[]⟩ := by cases r; rename_i d; congr; exact Array.eq_empty_of_size_eq_zero h0
      have HE := Lib.hid (secs_end HRk.out h0)
      have HL := Lib.hid hG.done
      subst hre
      clear hG
      go_wp2_with fail
      go_ret2
      exact ⟨_, _, _, by rw [HE.out]; rfl, fun l h => (by rw [HE.out] at h; cases h; exact HL.out), hbr⟩
    have hrz : 0 < r.size := by omega
    have hne : ¬ r = ⟨#[]⟩ := fun e => by rw [e] at hrz; exact absurd hrz (by decide)
    have hne1 : (r.toList == (ByteArray.mk #[]).toList) = false := str_ne2 hne
    have hne2 : ¬ r.toList = [] := by simpa using hne1
    have hne3 : r.toList.isEmpty = false := by cases h : r.toList with | nil => exact absurd h hne2 | cons x l => rfl
    have HOP := Lib.hid (op0_get hrz)
    obtain ⟨op, hop⟩ : ∃ op : Int, op = op0 r := ⟨_, rfl⟩
    have hop2 : (r[0].toNat : Int) = op := by rw [hop, HOP.out]
    have hopb : 0 ≤ op ∧ op ≤ 255 := by have := r[0].toNat_lt; omega
    have HO := Lib.hid hop.symm
    clear hop HOP hne HT HF
    have hsl1 : (1 : Int) ≤ (r.size : Int) := by omega
    have hr1 : (r.extract 1 r.size).size ≤ maxLen := by rw [tail_size hrz]; unfold maxLen; omega
    have HGB := Lib.hid (implGetBytes_any (r.extract 1 r.size) hr1)
    have HRD0 := Lib.hid (fun h => secs_none HRk.out (secsR_no (20 - uN) h0 h))
    have HD20 := Lib.hid (fun (h : uN = 20) => secs_none HRk.out (by rw [h]; exact secsR_0 h0))
    have HG := Lib.hid hG
    clear h0
    cases hg : getB (r.extract 1 r.size) with
    | none =>
      have HRN := Lib.hid (HRD0.out (readR_n hg))
      rw [hg] at HGB
      clear hg hG
      go_wp2_with fail
      refine (HGB.out _).mono ?_
      rintro e w2 ⟨rfl, hb2⟩
      simp only [getBRes]
      go_wp2_with fail
      go_ret2
      exact ⟨_, _, _, by rw [HRN.out]; rfl, fun l h => (by rw [HRN.out] at h; cases h), (hbr.alloc hsz _).trans (hb2.mono (by simp; omega))⟩
    | some p =>
      obtain ⟨all, many⟩ := p
      obtain ⟨hm1, hm2, hm3⟩ := getB_le hg
      rw [tail_size hrz] at hm1 hm2
      have HM := Lib.hid (readR_m hg)
      have HS := Lib.hid (fun x => readR_s (x := x) hrz hg)
      rw [HO.out] at HM HS
      rw [hg] at HGB
      clear hg
      have hal : all.size ≤ 1048576 := by omega
      have HA := Lib.hid (implGetBytes_any all (by unfold maxLen; omega))
      have hsum : IntKind.i64.wrap (1 + (many : Int)) = ((1 + many : Nat) : Int) := by rw [IntWalk.i64_in _ (by omega)]; omega
      have hsl2 : ((1 + many : Nat) : Int) ≤ (r.size : Int) := by omega
      have hsl0 : (0 : Int) ≤ ((1 + many : Nat) : Int) := by omega
      have hr2s : (r.extract (1 + many) r.size).size = r.size - (1 + many) := by rw [ByteArray.size_extract]; omega
      have hr2le : (r.extract (1 + many) r.size).size < r.size := by rw [hr2s]; omega
      have hr2l := Nat.le_trans (Nat.le_of_lt hr2le) hrs
      clear hr2s
      by_cases hid : op = 0
      case pos =>
        subst hid
        have hSA : ∀ name n, getB all = some (name, n) → secAt 0 all = some ⟨0, name, all.extract n all.size⟩ := fun name n h => by rw [secAt, if_pos rfl, h]
        have hSN : getB all = none → secAt 0 all = none := fun h => by rw [secAt, if_pos rfl, h]
        cases hga : getB all with
        | none =>
          have HRN := Lib.hid (HRD0.out (HM.out (hSN hga)))
          rw [hga] at HA
          clear hga hSA hSN
          have hb2' : Below wr.heap.size wr (wr.alloc (.cells #[.int .i64 0, .string ⟨#[]⟩, .string ⟨#[]⟩] 64)) := (Below.refl _ _).alloc (Nat.le_refl _) _
          have bX0 : Blk (wr.alloc (.cells #[.int .i64 0, .string ⟨#[]⟩, .string ⟨#[]⟩] 64)) wr.heap.size 64 #[.int .i64 0, .string ⟨#[]⟩, .string ⟨#[]⟩] := Blk.new wr _ _
          clear hG
          go_wp2_with fail
          refine (HGB.out _).mono ?_
          rintro e w2 ⟨rfl, hb2⟩
          simp only [getBRes]
          have bX2 := bX0.step hb2
          have hb2w := hb2'.trans (hb2.mono hb2'.size)
          have y0 : w2.cell? ⟨wr.heap.size, 0, none⟩ = some (.int .i64 0) := bX2.cell 0
          have y1 : w2.cell? ⟨wr.heap.size, 1, none⟩ = some (.string ⟨#[]⟩) := bX2.cell 1
          have y2 : w2.cell? ⟨wr.heap.size, 2, none⟩ = some (.string ⟨#[]⟩) := bX2.cell 2
          have g1 := bX2.frozen 1
          have g2 := bX2.frozen 2
          go_wp2_with fail
          refine (HA.out _).mono ?_
          rintro e w3 ⟨rfl, hb3⟩
          simp only [getBRes]
          have bX3 := bX2.step hb3
          have hbw3 := hb2w.trans (hb3.mono hb2w.size)
          clear y0 y1 y2 g1 g2
          have y0 : w3.cell? ⟨wr.heap.size, 0, none⟩ = some (.int .i64 0) := bX3.cell 0
          have y1 : w3.cell? ⟨wr.heap.size, 1, none⟩ = some (.string ⟨#[]⟩) := bX3.cell 1
          have y2 : w3.cell? ⟨wr.heap.size, 2, none⟩ = some (.string ⟨#[]⟩) := bX3.cell 2
          have g1 := bX3.frozen 1
          have g2 := bX3.frozen 2
          have bX4 : Blk ((w3.setCell ⟨wr.heap.size, 1, none⟩ (.string ⟨#[]⟩)).setCell ⟨wr.heap.size, 2, none⟩ (.string (all))) wr.heap.size 64 #[.int .i64 0, .string ⟨#[]⟩, .string (all)] := by have := (bX3.set_ 1 (.string ⟨#[]⟩)).set_ 2 (.string (all)); simpa using this
          have hbw4 : Below wr.heap.size wr ((w3.setCell ⟨wr.heap.size, 1, none⟩ (.string ⟨#[]⟩)).setCell ⟨wr.heap.size, 2, none⟩ (.string (all))) := (hbw3.setCell (Nat.le_refl _) _).setCell (Nat.le_refl _) _
          have z0 : ((w3.setCell ⟨wr.heap.size, 1, none⟩ (.string ⟨#[]⟩)).setCell ⟨wr.heap.size, 2, none⟩ (.string (all))).cell? ⟨wr.heap.size, 0, none⟩ = some (.int .i64 0) := bX4.cell 0
          have z1 : ((w3.setCell ⟨wr.heap.size, 1, none⟩ (.string ⟨#[]⟩)).setCell ⟨wr.heap.size, 2, none⟩ (.string (all))).cell? ⟨wr.heap.size, 1, none⟩ = some (.string ⟨#[]⟩) := bX4.cell 1
          have z2 : ((w3.setCell ⟨wr.heap.size, 1, none⟩ (.string ⟨#[]⟩)).setCell ⟨wr.heap.size, 2, none⟩ (.string (all))).cell? ⟨wr.heap.size, 2, none⟩ = some (.string (all)) := bX4.cell 2
          have hbW : Below wr.heap.size wr ((w3.setCell ⟨wr.heap.size, 1, none⟩ (.string ⟨#[]⟩)).setCell ⟨wr.heap.size, 2, none⟩ (.string (all))) := hbw4
          have hG3 := HG.out.step hbW
          have hown := hG3.1.alloc (.cells #[.int .i64 (0), .string (⟨#[]⟩), .string (all)] 64)
          have hnew : ∀ j u, [Value.int .i64 (0), .string (⟨#[]⟩), .string (all)][j]? = some u → ((((w3.setCell ⟨wr.heap.size, 1, none⟩ (.string ⟨#[]⟩)).setCell ⟨wr.heap.size, 2, none⟩ (.string (all)))).alloc (.cells #[.int .i64 (0), .string (⟨#[]⟩), .string (all)] 64)).cell? ((⟨w3.heap.size, 0, none⟩ : Addr).add j) = some u := by have := World.news_of_block (heap_alloc_new (((w3.setCell ⟨wr.heap.size, 1, none⟩ (.string ⟨#[]⟩)).setCell ⟨wr.heap.size, 2, none⟩ (.string (all)))) (.cells #[.int .i64 (0), .string (⟨#[]⟩), .string (all)] 64)); simpa [World.setCell] using this
          have hlo2 : w.heap.size ≤ ((((w3.setCell ⟨wr.heap.size, 1, none⟩ (.string ⟨#[]⟩)).setCell ⟨wr.heap.size, 2, none⟩ (.string (all)))).alloc (.cells #[.int .i64 (0), .string (⟨#[]⟩), .string (all)] 64)).heap.size := Nat.le_trans (Nat.le_trans hsz hbW.size) (by simp)
          clear hG3
          go_wp2_with (at_builtin; refine wpList_append_own_at _ rfl _ _ 42 rfl w.heap.size 64 i0 (.agg #[.int .i64 0, .string { data := #[] }, .string { data := #[] }]) 3 40 Try.underlying42 hi hz0 hz1 hz2 rfl (by decide) _ _ _ rfl hown ⟨w3.heap.size, 0, none⟩ 1 1 [.int .i64 (0), .string (⟨#[]⟩), .string (all)] rfl rfl hnew (sec_cells _ _ _) (by simp only [maxLen]; omega) (by omega) hlo2 ?_; intro v' w9 hown' hgrow _ hat2)
          have hG9 := grow_sec HG.out hbW ((Below.refl _ _).alloc (Nat.le_refl _) _) hown' hgrow hat2
          have HG9 := Lib.hid hG9
          clear hG9 hown hown' hnew hgrow hat2
          have HTn : Hid (false = true → uN + 1 ≤ 20 ∧ R = (secsR (20 - (uN + 1)) (r.extract (1 + many) r.size)).map ((acc ++ [(⟨0, ⟨#[]⟩, all⟩ : Section)]) ++ ·)) := fun h => by cases h
          have HFn : Hid (false = false → R = none) := fun _ => HRN.out
          go_roundw
          case rel => exact ⟨uN + 1, _, _, acc ++ [(⟨0, ⟨#[]⟩, all⟩ : Section)], _, false, rfl, rfl, rfl, hr2l, by omega, HG9.out, HTn, HFn⟩
          case measure => first | exact Nat.succ_pos _ | exact Nat.succ_lt_succ hr2le
        | some p =>
          obtain ⟨name, n⟩ := p
          obtain ⟨ha1, ha2, _⟩ := getB_le hga
          have HX := Lib.hid (HS.out _ (hSA name n hga))
          rw [hga] at HA
          clear hga hSA hSN
          have hn1 : (n : Int) ≤ (all.size : Int) := by omega
          have hb2' : Below wr.heap.size wr (wr.alloc (.cells #[.int .i64 0, .string ⟨#[]⟩, .string ⟨#[]⟩] 64)) := (Below.refl _ _).alloc (Nat.le_refl _) _
          have bX0 : Blk (wr.alloc (.cells #[.int .i64 0, .string ⟨#[]⟩, .string ⟨#[]⟩] 64)) wr.heap.size 64 #[.int .i64 0, .string ⟨#[]⟩, .string ⟨#[]⟩] := Blk.new wr _ _
          clear hG
          go_wp2_with fail
          refine (HGB.out _).mono ?_
          rintro e w2 ⟨rfl, hb2⟩
          simp only [getBRes]
          have bX2 := bX0.step hb2
          have hb2w := hb2'.trans (hb2.mono hb2'.size)
          have y0 : w2.cell? ⟨wr.heap.size, 0, none⟩ = some (.int .i64 0) := bX2.cell 0
          have y1 : w2.cell? ⟨wr.heap.size, 1, none⟩ = some (.string ⟨#[]⟩) := bX2.cell 1
          have y2 : w2.cell? ⟨wr.heap.size, 2, none⟩ = some (.string ⟨#[]⟩) := bX2.cell 2
          have g1 := bX2.frozen 1
          have g2 := bX2.frozen 2
          go_wp2_with fail
          refine (HA.out _).mono ?_
          rintro e w3 ⟨rfl, hb3⟩
          simp only [getBRes]
          have bX3 := bX2.step hb3
          have hbw3 := hb2w.trans (hb3.mono hb2w.size)
          clear y0 y1 y2 g1 g2
          have y0 : w3.cell? ⟨wr.heap.size, 0, none⟩ = some (.int .i64 0) := bX3.cell 0
          have y1 : w3.cell? ⟨wr.heap.size, 1, none⟩ = some (.string ⟨#[]⟩) := bX3.cell 1
          have y2 : w3.cell? ⟨wr.heap.size, 2, none⟩ = some (.string ⟨#[]⟩) := bX3.cell 2
          have g1 := bX3.frozen 1
          have g2 := bX3.frozen 2
          have bX4 : Blk ((w3.setCell ⟨wr.heap.size, 1, none⟩ (.string name)).setCell ⟨wr.heap.size, 2, none⟩ (.string (all.extract n all.size))) wr.heap.size 64 #[.int .i64 0, .string name, .string (all.extract n all.size)] := by have := (bX3.set_ 1 (.string name)).set_ 2 (.string (all.extract n all.size)); simpa using this
          have hbw4 : Below wr.heap.size wr ((w3.setCell ⟨wr.heap.size, 1, none⟩ (.string name)).setCell ⟨wr.heap.size, 2, none⟩ (.string (all.extract n all.size))) := (hbw3.setCell (Nat.le_refl _) _).setCell (Nat.le_refl _) _
          have z0 : ((w3.setCell ⟨wr.heap.size, 1, none⟩ (.string name)).setCell ⟨wr.heap.size, 2, none⟩ (.string (all.extract n all.size))).cell? ⟨wr.heap.size, 0, none⟩ = some (.int .i64 0) := bX4.cell 0
          have z1 : ((w3.setCell ⟨wr.heap.size, 1, none⟩ (.string name)).setCell ⟨wr.heap.size, 2, none⟩ (.string (all.extract n all.size))).cell? ⟨wr.heap.size, 1, none⟩ = some (.string name) := bX4.cell 1
          have z2 : ((w3.setCell ⟨wr.heap.size, 1, none⟩ (.string name)).setCell ⟨wr.heap.size, 2, none⟩ (.string (all.extract n all.size))).cell? ⟨wr.heap.size, 2, none⟩ = some (.string (all.extract n all.size)) := bX4.cell 2
          go_wp2_with fail
          obtain ⟨w5, hw5⟩ : ∃ W, W = ((w3.setCell ⟨wr.heap.size, 1, none⟩ (.string name)).setCell ⟨wr.heap.size, 2, none⟩ (.string (all.extract n all.size))) := ⟨_, rfl⟩
          rw [← hw5] at bX4 hbw4 ⊢
          clear hw5 z0 z1 z2 y0 y1 y2 g1 g2
          refine (sectionOk_any (0) (name) (all.extract n all.size) (by first | decide | (unfold maxLen; omega)) _).mono ?_
          rintro e w6 ⟨rfl, hb6⟩
          have bX6 := bX4.step hb6
          have hbw6 := hbw4.trans (hb6.mono hbw4.size)
          have x0 : w6.cell? ⟨wr.heap.size, 0, none⟩ = some (.int .i64 (0)) := bX6.cell 0
          have x1 : w6.cell? ⟨wr.heap.size, 1, none⟩ = some (.string (name)) := bX6.cell 1
          have x2 : w6.cell? ⟨wr.heap.size, 2, none⟩ = some (.string (all.extract n all.size)) := bX6.cell 2
          cases hsb : secB ⟨0, name, all.extract n all.size⟩
          case false =>
            have HRN : Hid (R = none) := HRD0.out (by rw [HX.out, hsb]; rfl)
            clear hsb
            have hbW : Below wr.heap.size wr w6 := hbw6
            have hG3 := HG.out.step hbW
            have hown := hG3.1.alloc (.cells #[.int .i64 (0), .string (name), .string (all.extract n all.size)] 64)
            have hnew : ∀ j u, [Value.int .i64 (0), .string (name), .string (all.extract n all.size)][j]? = some u → ((w6).alloc (.cells #[.int .i64 (0), .string (name), .string (all.extract n all.size)] 64)).cell? ((⟨(w6).heap.size, 0, none⟩ : Addr).add j) = some u := World.news_of_block (heap_alloc_new _ _)
            have hlo2 : w.heap.size ≤ ((w6).alloc (.cells #[.int .i64 (0), .string (name), .string (all.extract n all.size)] 64)).heap.size := Nat.le_trans (Nat.le_trans hsz hbW.size) (by simp)
            clear hG3
            go_wp2_with (at_builtin; refine wpList_append_own_at _ rfl _ _ 42 rfl w.heap.size 64 i0 (.agg #[.int .i64 0, .string { data := #[] }, .string { data := #[] }]) 3 40 Try.underlying42 hi hz0 hz1 hz2 rfl (by decide) _ _ _ rfl hown ⟨(w6).heap.size, 0, none⟩ 1 1 [.int .i64 (0), .string (name), .string (all.extract n all.size)] rfl rfl hnew (sec_cells _ _ _) (by simp only [maxLen]; omega) (by omega) hlo2 ?_; intro v' w9 hown' hgrow _ hat2)
            have hG9 := grow_sec HG.out hbW ((Below.refl _ _).alloc (Nat.le_refl _) _) hown' hgrow hat2
            have HG9 := Lib.hid hG9
            clear hG9 hown hown' hnew hgrow hat2
            have HTn : Hid (false = true → uN + 1 ≤ 20 ∧ R = (secsR (20 - (uN + 1)) (r.extract (1 + many) r.size)).map ((acc ++ [(⟨0, name, all.extract n all.size⟩ : Section)]) ++ ·)) := fun h => by cases h
            have HFn : Hid (false = false → R = none) := fun _ => HRN.out
            go_roundw
            case rel => exact ⟨uN + 1, _, _, acc ++ [(⟨0, name, all.extract n all.size⟩ : Section)], _, false, rfl, rfl, rfl, hr2l, by omega, HG9.out, HTn, HFn⟩
            case measure => first | exact Nat.succ_pos _ | exact Nat.succ_lt_succ hr2le
          have HRY : Hid (readR r = some (⟨0, name, all.extract n all.size⟩, 1 + many)) := by show _ = _; rw [HX.out, hsb]; rfl
          clear hsb
          by_cases hk20 : uN = 20
          case pos =>
            have HRN := Lib.hid (HD20.out hk20)
            have hlt20 : decide ((uN : Int) < 20) = false := decide_eq_false (by omega)
            clear hk20
            have hbW : Below wr.heap.size wr w6 := hbw6
            have hG3 := HG.out.step hbW
            have hown := hG3.1.alloc (.cells #[.int .i64 (0), .string (name), .string (all.extract n all.size)] 64)
            have hnew : ∀ j u, [Value.int .i64 (0), .string (name), .string (all.extract n all.size)][j]? = some u → ((w6).alloc (.cells #[.int .i64 (0), .string (name), .string (all.extract n all.size)] 64)).cell? ((⟨(w6).heap.size, 0, none⟩ : Addr).add j) = some u := World.news_of_block (heap_alloc_new _ _)
            have hlo2 : w.heap.size ≤ ((w6).alloc (.cells #[.int .i64 (0), .string (name), .string (all.extract n all.size)] 64)).heap.size := Nat.le_trans (Nat.le_trans hsz hbW.size) (by simp)
            clear hG3
            go_wp2_with (at_builtin; refine wpList_append_own_at _ rfl _ _ 42 rfl w.heap.size 64 i0 (.agg #[.int .i64 0, .string { data := #[] }, .string { data := #[] }]) 3 40 Try.underlying42 hi hz0 hz1 hz2 rfl (by decide) _ _ _ rfl hown ⟨(w6).heap.size, 0, none⟩ 1 1 [.int .i64 (0), .string (name), .string (all.extract n all.size)] rfl rfl hnew (sec_cells _ _ _) (by simp only [maxLen]; omega) (by omega) hlo2 ?_; intro v' w9 hown' hgrow _ hat2)
            have hG9 := grow_sec HG.out hbW ((Below.refl _ _).alloc (Nat.le_refl _) _) hown' hgrow hat2
            have HG9 := Lib.hid hG9
            clear hG9 hown hown' hnew hgrow hat2
            have HTn : Hid (false = true → uN + 1 ≤ 20 ∧ R = (secsR (20 - (uN + 1)) (r.extract (1 + many) r.size)).map ((acc ++ [(⟨0, name, all.extract n all.size⟩ : Section)]) ++ ·)) := fun h => by cases h
            have HFn : Hid (false = false → R = none) := fun _ => HRN.out
            go_roundw
            case rel => exact ⟨uN + 1, _, _, acc ++ [(⟨0, name, all.extract n all.size⟩ : Section)], _, false, rfl, rfl, rfl, hr2l, by omega, HG9.out, HTn, HFn⟩
            case measure => first | exact Nat.succ_pos _ | exact Nat.succ_lt_succ hr2le
          have hlt20 : (uN : Int) < 20 := by omega
          have HNX := Lib.hid (secs_next (k := uN) (by omega) HRk.out HRY.out)
          have hbW : Below wr.heap.size wr w6 := hbw6
          have hG3 := HG.out.step hbW
          have hown := hG3.1.alloc (.cells #[.int .i64 (0), .string (name), .string (all.extract n all.size)] 64)
          have hnew : ∀ j u, [Value.int .i64 (0), .string (name), .string (all.extract n all.size)][j]? = some u → ((w6).alloc (.cells #[.int .i64 (0), .string (name), .string (all.extract n all.size)] 64)).cell? ((⟨(w6).heap.size, 0, none⟩ : Addr).add j) = some u := World.news_of_block (heap_alloc_new _ _)
          have hlo2 : w.heap.size ≤ ((w6).alloc (.cells #[.int .i64 (0), .string (name), .string (all.extract n all.size)] 64)).heap.size := Nat.le_trans (Nat.le_trans hsz hbW.size) (by simp)
          clear hG3
          go_wp2_with (at_builtin; refine wpList_append_own_at _ rfl _ _ 42 rfl w.heap.size 64 i0 (.agg #[.int .i64 0, .string { data := #[] }, .string { data := #[] }]) 3 40 Try.underlying42 hi hz0 hz1 hz2 rfl (by decide) _ _ _ rfl hown ⟨(w6).heap.size, 0, none⟩ 1 1 [.int .i64 (0), .string (name), .string (all.extract n all.size)] rfl rfl hnew (sec_cells _ _ _) (by simp only [maxLen]; omega) (by omega) hlo2 ?_; intro v' w9 hown' hgrow _ hat2)
          have hG9 := grow_sec HG.out hbW ((Below.refl _ _).alloc (Nat.le_refl _) _) hown' hgrow hat2
          have HG9 := Lib.hid hG9
          clear hG9 hown hown' hnew hgrow hat2
          have HTn : Hid (true = true → uN + 1 ≤ 20 ∧ R = (secsR (20 - (uN + 1)) (r.extract (1 + many) r.size)).map ((acc ++ [(⟨0, name, all.extract n all.size⟩ : Section)]) ++ ·)) := fun _ => ⟨by omega, HNX.out⟩
          have HFn : Hid (true = false → R = none) := fun h => by cases h
          go_roundw
          case rel => exact ⟨uN + 1, _, _, acc ++ [(⟨0, name, all.extract n all.size⟩ : Section)], _, true, rfl, rfl, rfl, hr2l, by omega, HG9.out, HTn, HFn⟩
          case measure => first | exact Nat.succ_pos _ | exact Nat.succ_lt_succ hr2le
      have hidb : (op == 0) = false := by simpa using hid
      have HX : Hid (readR r = if secB ⟨op, ⟨#[]⟩, all⟩ then some (⟨op, ⟨#[]⟩, all⟩, 1 + many) else none) := HS.out _ (by rw [secAt, if_neg hid])
      clear hid
      have hb2' : Below wr.heap.size wr (wr.alloc (.cells #[.int .i64 op, .string ⟨#[]⟩, .string ⟨#[]⟩] 64)) := (Below.refl _ _).alloc (Nat.le_refl _) _
      have bX0 : Blk (wr.alloc (.cells #[.int .i64 op, .string ⟨#[]⟩, .string ⟨#[]⟩] 64)) wr.heap.size 64 #[.int .i64 op, .string ⟨#[]⟩, .string ⟨#[]⟩] := Blk.new wr _ _
      clear hG
      go_wp2_with fail
      refine (HGB.out _).mono ?_
      rintro e w2 ⟨rfl, hb2⟩
      simp only [getBRes]
      have bX2 := bX0.step hb2
      have hb2w := hb2'.trans (hb2.mono hb2'.size)
      have y0 : w2.cell? ⟨wr.heap.size, 0, none⟩ = some (.int .i64 op) := bX2.cell 0
      have y1 : w2.cell? ⟨wr.heap.size, 1, none⟩ = some (.string ⟨#[]⟩) := bX2.cell 1
      have y2 : w2.cell? ⟨wr.heap.size, 2, none⟩ = some (.string ⟨#[]⟩) := bX2.cell 2
      have g1 := bX2.frozen 1
      have g2 := bX2.frozen 2
      have bX4 : Blk (w2.setCell ⟨wr.heap.size, 2, none⟩ (.string all)) wr.heap.size 64 #[.int .i64 op, .string ⟨#[]⟩, .string all] := by have := bX2.set_ 2 (.string all); simpa using this
      have hbw4 : Below wr.heap.size wr (w2.setCell ⟨wr.heap.size, 2, none⟩ (.string all)) := hb2w.setCell (Nat.le_refl _) _
      have z0 : (w2.setCell ⟨wr.heap.size, 2, none⟩ (.string all)).cell? ⟨wr.heap.size, 0, none⟩ = some (.int .i64 op) := bX4.cell 0
      have z1 : (w2.setCell ⟨wr.heap.size, 2, none⟩ (.string all)).cell? ⟨wr.heap.size, 1, none⟩ = some (.string ⟨#[]⟩) := bX4.cell 1
      have z2 : (w2.setCell ⟨wr.heap.size, 2, none⟩ (.string all)).cell? ⟨wr.heap.size, 2, none⟩ = some (.string all) := bX4.cell 2
      go_wp2_with fail
      obtain ⟨w5, hw5⟩ : ∃ W, W = (w2.setCell ⟨wr.heap.size, 2, none⟩ (.string all)) := ⟨_, rfl⟩
      rw [← hw5] at bX4 hbw4 ⊢
      clear hw5 z0 z1 z2 y0 y1 y2 g1 g2
      refine (sectionOk_any (op) (⟨#[]⟩) (all) (by first | decide | (unfold maxLen; omega)) _).mono ?_
      rintro e w6 ⟨rfl, hb6⟩
      have bX6 := bX4.step hb6
      have hbw6 := hbw4.trans (hb6.mono hbw4.size)
      have x0 : w6.cell? ⟨wr.heap.size, 0, none⟩ = some (.int .i64 (op)) := bX6.cell 0
      have x1 : w6.cell? ⟨wr.heap.size, 1, none⟩ = some (.string (⟨#[]⟩)) := bX6.cell 1
      have x2 : w6.cell? ⟨wr.heap.size, 2, none⟩ = some (.string (all)) := bX6.cell 2
      cases hsb : secB ⟨op, ⟨#[]⟩, all⟩
      case false =>
        have HRN : Hid (R = none) := HRD0.out (by rw [HX.out, hsb]; rfl)
        clear hsb
        have hbW : Below wr.heap.size wr w6 := hbw6
        have hG3 := HG.out.step hbW
        have hown := hG3.1.alloc (.cells #[.int .i64 (op), .string (⟨#[]⟩), .string (all)] 64)
        have hnew : ∀ j u, [Value.int .i64 (op), .string (⟨#[]⟩), .string (all)][j]? = some u → ((w6).alloc (.cells #[.int .i64 (op), .string (⟨#[]⟩), .string (all)] 64)).cell? ((⟨(w6).heap.size, 0, none⟩ : Addr).add j) = some u := World.news_of_block (heap_alloc_new _ _)
        have hlo2 : w.heap.size ≤ ((w6).alloc (.cells #[.int .i64 (op), .string (⟨#[]⟩), .string (all)] 64)).heap.size := Nat.le_trans (Nat.le_trans hsz hbW.size) (by simp)
        clear hG3
        go_wp2_with (at_builtin; refine wpList_append_own_at _ rfl _ _ 42 rfl w.heap.size 64 i0 (.agg #[.int .i64 0, .string { data := #[] }, .string { data := #[] }]) 3 40 Try.underlying42 hi hz0 hz1 hz2 rfl (by decide) _ _ _ rfl hown ⟨(w6).heap.size, 0, none⟩ 1 1 [.int .i64 (op), .string (⟨#[]⟩), .string (all)] rfl rfl hnew (sec_cells _ _ _) (by simp only [maxLen]; omega) (by omega) hlo2 ?_; intro v' w9 hown' hgrow _ hat2)
        have hG9 := grow_sec HG.out hbW ((Below.refl _ _).alloc (Nat.le_refl _) _) hown' hgrow hat2
        have HG9 := Lib.hid hG9
        clear hG9 hown hown' hnew hgrow hat2
        have HTn : Hid (false = true → uN + 1 ≤ 20 ∧ R = (secsR (20 - (uN + 1)) (r.extract (1 + many) r.size)).map ((acc ++ [(⟨op, ⟨#[]⟩, all⟩ : Section)]) ++ ·)) := fun h => by cases h
        have HFn : Hid (false = false → R = none) := fun _ => HRN.out
        go_roundw
        case rel => exact ⟨uN + 1, _, _, acc ++ [(⟨op, ⟨#[]⟩, all⟩ : Section)], _, false, rfl, rfl, rfl, hr2l, by omega, HG9.out, HTn, HFn⟩
        case measure => first | exact Nat.succ_pos _ | exact Nat.succ_lt_succ hr2le
      have HRY : Hid (readR r = some (⟨op, ⟨#[]⟩, all⟩, 1 + many)) := by show _ = _; rw [HX.out, hsb]; rfl
      clear hsb
      by_cases hk20 : uN = 20
      case pos =>
        have HRN := Lib.hid (HD20.out hk20)
        have hlt20 : decide ((uN : Int) < 20) = false := decide_eq_false (by omega)
        clear hk20
        have hbW : Below wr.heap.size wr w6 := hbw6
        have hG3 := HG.out.step hbW
        have hown := hG3.1.alloc (.cells #[.int .i64 (op), .string (⟨#[]⟩), .string (all)] 64)
        have hnew : ∀ j u, [Value.int .i64 (op), .string (⟨#[]⟩), .string (all)][j]? = some u → ((w6).alloc (.cells #[.int .i64 (op), .string (⟨#[]⟩), .string (all)] 64)).cell? ((⟨(w6).heap.size, 0, none⟩ : Addr).add j) = some u := World.news_of_block (heap_alloc_new _ _)
        have hlo2 : w.heap.size ≤ ((w6).alloc (.cells #[.int .i64 (op), .string (⟨#[]⟩), .string (all)] 64)).heap.size := Nat.le_trans (Nat.le_trans hsz hbW.size) (by simp)
        clear hG3
        go_wp2_with (at_builtin; refine wpList_append_own_at _ rfl _ _ 42 rfl w.heap.size 64 i0 (.agg #[.int .i64 0, .string { data := #[] }, .string { data := #[] }]) 3 40 Try.underlying42 hi hz0 hz1 hz2 rfl (by decide) _ _ _ rfl hown ⟨(w6).heap.size, 0, none⟩ 1 1 [.int .i64 (op), .string (⟨#[]⟩), .string (all)] rfl rfl hnew (sec_cells _ _ _) (by simp only [maxLen]; omega) (by omega) hlo2 ?_; intro v' w9 hown' hgrow _ hat2)
        have hG9 := grow_sec HG.out hbW ((Below.refl _ _).alloc (Nat.le_refl _) _) hown' hgrow hat2
        have HG9 := Lib.hid hG9
        clear hG9 hown hown' hnew hgrow hat2
        have HTn : Hid (false = true → uN + 1 ≤ 20 ∧ R = (secsR (20 - (uN + 1)) (r.extract (1 + many) r.size)).map ((acc ++ [(⟨op, ⟨#[]⟩, all⟩ : Section)]) ++ ·)) := fun h => by cases h
        have HFn : Hid (false = false → R = none) := fun _ => HRN.out
        go_roundw
        case rel => exact ⟨uN + 1, _, _, acc ++ [(⟨op, ⟨#[]⟩, all⟩ : Section)], _, false, rfl, rfl, rfl, hr2l, by omega, HG9.out, HTn, HFn⟩
        case measure => first | exact Nat.succ_pos _ | exact Nat.succ_lt_succ hr2le
      have hlt20 : (uN : Int) < 20 := by omega
      have HNX := Lib.hid (secs_next (k := uN) (by omega) HRk.out HRY.out)
      have hbW : Below wr.heap.size wr w6 := hbw6
      have hG3 := HG.out.step hbW
      have hown := hG3.1.alloc (.cells #[.int .i64 (op), .string (⟨#[]⟩), .string (all)] 64)
      have hnew : ∀ j u, [Value.int .i64 (op), .string (⟨#[]⟩), .string (all)][j]? = some u → ((w6).alloc (.cells #[.int .i64 (op), .string (⟨#[]⟩), .string (all)] 64)).cell? ((⟨(w6).heap.size, 0, none⟩ : Addr).add j) = some u := World.news_of_block (heap_alloc_new _ _)
      have hlo2 : w.heap.size ≤ ((w6).alloc (.cells #[.int .i64 (op), .string (⟨#[]⟩), .string (all)] 64)).heap.size := Nat.le_trans (Nat.le_trans hsz hbW.size) (by simp)
      clear hG3
      go_wp2_with (at_builtin; refine wpList_append_own_at _ rfl _ _ 42 rfl w.heap.size 64 i0 (.agg #[.int .i64 0, .string { data := #[] }, .string { data := #[] }]) 3 40 Try.underlying42 hi hz0 hz1 hz2 rfl (by decide) _ _ _ rfl hown ⟨(w6).heap.size, 0, none⟩ 1 1 [.int .i64 (op), .string (⟨#[]⟩), .string (all)] rfl rfl hnew (sec_cells _ _ _) (by simp only [maxLen]; omega) (by omega) hlo2 ?_; intro v' w9 hown' hgrow _ hat2)
      have hG9 := grow_sec HG.out hbW ((Below.refl _ _).alloc (Nat.le_refl _) _) hown' hgrow hat2
      have HG9 := Lib.hid hG9
      clear hG9 hown hown' hnew hgrow hat2
      have HTn : Hid (true = true → uN + 1 ≤ 20 ∧ R = (secsR (20 - (uN + 1)) (r.extract (1 + many) r.size)).map ((acc ++ [(⟨op, ⟨#[]⟩, all⟩ : Section)]) ++ ·)) := fun _ => ⟨by omega, HNX.out⟩
      have HFn : Hid (true = false → R = none) := fun h => by cases h
      go_roundw
      case rel => exact ⟨uN + 1, _, _, acc ++ [(⟨op, ⟨#[]⟩, all⟩ : Section)], _, true, rfl, rfl, rfl, hr2l, by omega, HG9.out, HTn, HFn⟩
      case measure => first | exact Nat.succ_pos _ | exact Nat.succ_lt_succ hr2le
theorem SR_iff (s : ByteArray) : secsOfRes s = if 5 ≤ s.size ∧ s.extract 0 5 = binHead then secsR 20 (s.extract 5 s.size) else none := by simp only [secsOfRes, prefB, decide_eq_true_eq]
theorem SR_big {s : ByteArray} (h : ¬ 30000 < s.size) (hn : secsOfRes s = none) : secRes s = ([], 18) := by
  rw [SR_iff] at hn
  by_cases h5 : 5 ≤ s.size ∧ s.extract 0 5 = binHead
  · rw [if_pos h5] at hn; exact secRes_no h h5.1 h5.2 hn
  · exact secRes_head h (by by_cases a : s.size < 5; exact .inl a; exact .inr fun b => h5 ⟨by omega, b⟩)
theorem SR_yes {s : ByteArray} {l : List Section} (h : ¬ 30000 < s.size) (hn : secsOfRes s = some l) : secRes s = (l, 0) := by
  rw [SR_iff] at hn
  by_cases h5 : 5 ≤ s.size ∧ s.extract 0 5 = binHead
  · rw [if_pos h5] at hn; exact secRes_yes h h5.1 h5.2 hn
  · rw [if_neg h5] at hn; cases hn
theorem implSectionsOf_any (s : ByteArray) : SecOk 25 s := by
  intro w
  by_cases h30 : 30000 < s.size
  case pos =>
    have HF := Lib.hid (secRes_big h30)
    go_enter Try.func25, Try.ntmps25
    go_wp2_with fail
    go_ret2
    rw [HF.out]
    exact ⟨_, rfl, nil_lv _ _ (Nat.le_refl _), Below.refl _ _⟩
  have h30' : (s.size : Int) ≤ 30000 := by omega
  have HS := Lib.hid (sectionsOf_any s (by omega) w)
  cases hr : secsOfRes s with
  | none =>
    have HF := Lib.hid (SR_big h30 hr)
    rw [hr] at HS
    clear hr h30
    go_enter Try.func25, Try.ntmps25
    go_wp2_with fail
    refine HS.out.mono ?_
    rintro e w1 ⟨A, n, c, rfl, _, hb⟩
    simp only [Option.isSome_none]
    go_wp2_with fail
    go_ret2
    rw [HF.out]
    exact ⟨_, rfl, nil_lv _ _ hb.size, hb⟩
  | some l =>
    have HF := Lib.hid (SR_yes h30 hr)
    rw [hr] at HS
    clear hr h30
    go_enter Try.func25, Try.ntmps25
    go_wp2_with fail
    refine HS.out.mono ?_
    rintro e w1 ⟨A, n, c, rfl, hL, hb⟩
    have HL := Lib.hid (hL l rfl)
    clear hL
    simp only [Option.isSome_some]
    go_wp2_with fail
    go_ret2
    rw [HF.out]
    exact ⟨_, rfl, HL.out, hb⟩
theorem specSectionsOf_ok (s : ByteArray) (h : s.size ≤ 1048576) : ∀ B w, B ≤ w.heap.size → Calls Try.prog 24 #[.string s] w fun e w' => ∃ u, e = .returned (.tuple #[u, .int .i64 (secRes s).2]) ∧ Lv w' w.heap.size w'.heap.size (.row 3 ((secRes s).1.flatMap Section.pd)) u ∧ Below w.heap.size w w' := fun B w _ => specSectionsOf_any s h w
theorem implSectionsOf_ok (s : ByteArray) (h : s.size ≤ 1048576) : ∀ B w, B ≤ w.heap.size → Calls Try.prog 25 #[.string s] w fun e w' => ∃ u, e = .returned (.tuple #[u, .int .i64 (secRes s).2]) ∧ Lv w' w.heap.size w'.heap.size (.row 3 ((secRes s).1.flatMap Section.pd)) u ∧ Below w.heap.size w w' := fun B w _ => implSectionsOf_any s w
end Go.Proofs.Ytlkfaednolmfkaa

