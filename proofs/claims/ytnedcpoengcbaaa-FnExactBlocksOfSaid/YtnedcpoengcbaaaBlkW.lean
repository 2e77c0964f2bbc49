/-
  BlocksOf: spec.l16Blocks, impl.blocksOf (by program: gen_blk.py).
-/
import Derived.Test.YtnedcpoengcbaaaBlkP
namespace Go.Proofs.Ytnedcpoengcbaaa
open Go.RowKit
set_option linter.unusedVariables false
set_option linter.unusedSimpArgs false
set_option linter.unnecessarySimpa false
set_option maxRecDepth 16000

theorem cb_info : (Try.prog.info? 89).map (fun i => (i.zero, i.size, i.bytes)) = some (some (.agg #[.int .i64 0, .int .i64 0, .int .i64 0, .int .i64 0, .bool false]), 5, 40) := by kernel_rfl
theorem int_info : (Try.prog.info? 3).map (fun i => (i.zero, i.size, i.bytes)) = some (some (.int .i64 0), 1, 8) := by kernel_rfl
theorem one_cb (bs : List CodeBlock) : ∀ u ∈ cbV bs, u.oneCell' = true := by
  intro u hu
  obtain ⟨b, _, hu⟩ := List.mem_flatMap.1 hu
  simp [cbC] at hu
  rcases hu with rfl | rfl | rfl | rfl | rfl <;> rfl
theorem one_ix (op : List Nat) : ∀ u ∈ ixV op, u.oneCell' = true := by
  intro u hu
  obtain ⟨j, _, rfl⟩ := List.mem_map.1 hu
  rfl
theorem lv_cb {w : World} {base n : Nat} {e : TypeId} {v : Value} {bs : List CodeBlock} (h : w.ownsRow base e 5 v n (cbV bs)) : Lv w base w.heap.size (.row 5 (bs.flatMap CodeBlock.pd)) v := by
  have hp : bs.flatMap CodeBlock.pd = (cbV bs).map PD.lit := by
    induction bs with
    | nil => rfl
    | cons b r ih =>
      have hl := cbV_len r
      rw [List.flatMap_cons, cbV_cons, List.map_append]
      congr 1
      clear ih h hl
      induction r with
      | nil => rfl
      | cons c r ih => rw [List.flatMap_cons, cbV_cons, List.map_append, ih]; rfl
  obtain ⟨A, n', c, rfl, hl, hnc, hcm, hg⟩ := Own.of_own h
  have hlen : (bs.flatMap CodeBlock.pd).length = n' * 5 := by rw [hp, List.length_map]; omega
  have hh : ∀ (l : List Value), HoldL w (l.map PD.lit) l [] := by
    intro l
    induction l with
    | nil => exact HoldL.nil w
    | cons x l ih => rw [List.map_cons]; exact HoldL.cons (F1 := []) (F2 := []) (Hold.lit_ w x) ih
  by_cases h0 : 0 < n'
  · obtain ⟨g, off, rfl, h1, h2, ho⟩ := hg h0
    exact ⟨[g], by rw [Hold]; exact ⟨_, n', c, rfl, hlen, hnc, hcm, .inr ⟨h0, g, off, [], _, rfl, rfl, ho, by rw [hp]; exact hh _⟩⟩, ⟨by simp, fun b hb => by rw [List.mem_singleton.1 hb]; exact ⟨h1, h2⟩⟩, Nat.le_refl _⟩
  · exact ⟨[], by rw [Hold]; exact ⟨_, n', c, rfl, hlen, hnc, hcm, .inl ⟨by omega, rfl⟩⟩, In.nil _ _, Nat.le_refl _⟩
theorem nil_cb (w : World) (lo : Nat) (h : lo ≤ w.heap.size) (A : Option Addr) (c : Nat) (hc : c ≤ maxLen) : Lv w lo w.heap.size (.row 5 (([] : List CodeBlock).flatMap CodeBlock.pd)) (.slice A 0 c) := ⟨[], by rw [Hold]; exact ⟨A, 0, c, rfl, rfl, Nat.zero_le _, hc, .inl ⟨rfl, rfl⟩⟩, In.nil _ _, Nat.le_refl _⟩
theorem implOpens_any (o : Int) (w : World) : Calls Try.prog 85 #[.int .i64 o] w fun e w' => e = .returned (.bool (opensB o)) ∧ w = w' := by
  by_cases h1 : o = 24
  · subst h1
    go_enter Try.func85, Try.ntmps85
    go_wp2
    go_ret
    exact ⟨rfl, rfl⟩
  by_cases h2 : o = 25
  · subst h2
    go_enter Try.func85, Try.ntmps85
    go_wp2
    go_ret
    exact ⟨rfl, rfl⟩
  have e1 : (o == 24) = false := by simpa using h1
  have e2 : (o == 25) = false := by simpa using h2
  by_cases h3 : o = 26
  · subst h3
    go_enter Try.func85, Try.ntmps85
    go_wp2
    go_ret
    exact ⟨rfl, rfl⟩
  have e3 : (o == 26) = false := by simpa using h3
  have HF : Hid (opensB o = false) := by show _ = _; simp [opensB, h1, h2, h3]
  clear h1 h2 h3
  go_enter Try.func85, Try.ntmps85
  go_wp2_with fail
  go_ret
  exact ⟨ret_bool HF.out.symm, rfl⟩
theorem specOpens_any (o : Int) (w : World) : Calls Try.prog 75 #[.int .i64 o] w fun e w' => e = .returned (.bool (opensB o)) ∧ w = w' := by
  by_cases h1 : o = 24
  · subst h1
    go_enter Try.func75, Try.ntmps75
    go_wp2
    go_ret
    exact ⟨rfl, rfl⟩
  by_cases h2 : o = 25
  · subst h2
    go_enter Try.func75, Try.ntmps75
    go_wp2
    go_ret
    exact ⟨rfl, rfl⟩
  have e1 : (o == 24) = false := by simpa using h1
  have e2 : (o == 25) = false := by simpa using h2
  by_cases h3 : o = 26
  · subst h3
    go_enter Try.func75, Try.ntmps75
    go_wp2
    go_ret
    exact ⟨rfl, rfl⟩
  have e3 : (o == 26) = false := by simpa using h3
  have HF : Hid (opensB o = false) := by show _ = _; simp [opensB, h1, h2, h3]
  clear h1 h2 h3
  go_enter Try.func75, Try.ntmps75
  go_wp2_with fail
  go_ret
  exact ⟨ret_bool HF.out.symm, rfl⟩
theorem sizeIns_any (A : Option Addr) (n c : Nat) (w : World) : Calls Try.prog 86 #[.slice A n c] w fun e w' => e = .returned (.int .i64 n) ∧ w = w' := by
  by_cases h : n ≤ maxLen
  all_goals
    go_enter Try.func86, Try.ntmps86
    go_wp2
    go_ret
    exact ⟨rfl, rfl⟩
theorem ixV_get {op : List Nat} {m j : Nat} (h : op[m]? = some j) : (ixV op)[m]? = some (.int .i64 (j : Int)) := by simp [ixV, h]
def InsAt (w : World) (g off : Nat) (code : List Ins) : Prop := ∀ (k : Nat) (i : Ins), code[k]? = some i → w.cell? ⟨g, off + k * 2, none⟩ = some (.int .i64 i.op) ∧ w.cell? ⟨g, off + k * 2 + 1, none⟩ = some (.int .i64 i.a)
theorem insAt_below {w w' : World} {B g off : Nat} {code : List Ins} (h : InsAt w g off code) (hb : Below B w w') (hg : g < B) : InsAt w' g off code := fun k i hi => ⟨(hb.cell (p := ⟨g, off + k * 2, none⟩) hg).trans (h k i hi).1, (hb.cell (p := ⟨g, off + k * 2 + 1, none⟩) hg).trans (h k i hi).2⟩
theorem ins_rep {w : World} {B n c : Nat} {A : Option Addr} {code : List Ins} (h : Rep w B (.row 2 (code.flatMap Ins.pd)) (.slice A n c)) : n = code.length ∧ (0 < n → ∃ g off, A = some ⟨g, off, none⟩ ∧ g < B ∧ InsAt w g off code) := by
  obtain ⟨A', n', c', e, hn, _, hx⟩ := rep_row Ins.pd_length (by decide) h
  injection e with e1 e2 e3
  subst e1 e2
  refine ⟨hn, fun h0 => ?_⟩
  obtain ⟨g, off, e4, hg, hc⟩ := hx h0
  refine ⟨g, off, e4, hg, fun k i hi => ?_⟩
  obtain ⟨u0, hu0, hr0⟩ := hc k 0 i (.lit (.int .i64 i.op)) hi (by cases i; rfl)
  obtain ⟨u1, hu1, hr1⟩ := hc k 1 i (.lit (.int .i64 i.a)) hi (by cases i; rfl)
  rw [Rep] at hr0 hr1
  subst hr0 hr1
  exact ⟨by simpa using hu0, by rw [Nat.add_assoc]; exact hu1⟩
theorem owns_set {w : World} {base sz n : Nat} {e : TypeId} {v : Value} {xs : List Value} (h : w.ownsRow base e sz v n xs) {p : Addr} (hne : v.ownBlock ≠ some p.block) (u : Value) : (w.setCell p u).ownsRow base e sz v n xs := by
  obtain ⟨h1, h2⟩ := h
  refine ⟨h1, ?_⟩
  rcases h2 with h2 | ⟨g, cap, cur, rfl, hbb, hh, hr⟩
  · exact .inl h2
  · exact .inr ⟨g, cap, cur, rfl, hbb, (Below.heap_setCell w p u g (fun e => hne (by rw [← e]; rfl))).trans hh, hr⟩
/-- where the walk stands: the rows of the blocks and of the open ones -/
structure BW (w0 W : World) (go no co gp np cp : Nat) (bs : List CodeBlock) (op : List Nat) : Prop where
  out : W.ownsRow w0.heap.size 89 5 (.slice (some ⟨go, 0, none⟩) no co) bs.length (cbV bs)
  opn : W.ownsRow w0.heap.size 3 1 (.slice (some ⟨gp, 0, none⟩) np cp) op.length (ixV op)
  ne : go ≠ gp
  below : Below w0.heap.size w0 W
theorem BW.step {w0 W W' : World} {go no co gp np cp : Nat} {bs : List CodeBlock} {op : List Nat} (h : BW w0 W go no co gp np cp bs op) (hb : Below W.heap.size W W') : BW w0 W' go no co gp np cp bs op := ⟨owns_step h.out hb, owns_step h.opn hb, h.ne, h.below.trans (hb.mono h.below.size)⟩
theorem own_n {w : World} {base sz g cap n m : Nat} {e : TypeId} {xs : List Value} (h : w.ownsRow base e sz (.slice (some ⟨g, 0, none⟩) m cap) n xs) : m = n ∧ base ≤ g ∧ g < w.heap.size ∧ n ≤ cap := by
  obtain ⟨h1, h2⟩ := h
  rcases h2 with ⟨h2, _⟩ | ⟨g', cap', cur, hv, hbb, hh, h3, h4, h5, h6⟩
  · injection h2 with h2; cases h2
  · injection hv with hv1 hv2 hv3
    injection hv1 with hv1
    injection hv1 with hv1
    subst hv1 hv2 hv3
    exact ⟨rfl, hbb, (Array.getElem?_eq_some_iff.1 hh).1, h3⟩
theorem BW.put {w0 W : World} {go no co gp np cp j f : Nat} {bs : List CodeBlock} {op : List Nat} {b b2 : CodeBlock} {u : Value} (h : BW w0 W go no co gp np cp bs op) (hj : bs[j]? = some b) (hf : f < 5) (he : cbC b2 = (cbC b).set f u) : BW w0 (W.setCell ⟨go, j * 5 + f, none⟩ u) go no co gp np cp (bs.set j b2) op := by
  have hjl := (List.getElem?_eq_some_iff.1 hj).1
  have h1 := owns_put h.out (j * 5 + f) (by omega) u
  rw [cbV_set hj hf he] at h1
  refine ⟨by rw [List.length_set]; exact h1, owns_set h.opn (p := ⟨go, j * 5 + f, none⟩) (fun e => by simp [Value.ownBlock] at e; exact h.ne e.symm) u, h.ne, h.below.setCell (p := ⟨go, j * 5 + f, none⟩) (own_n h.out).2.1 u⟩
theorem BW.pop {w0 W : World} {go no co gp m cp : Nat} {bs : List CodeBlock} {op : List Nat} (h : BW w0 W go no co gp (m + 1) cp bs op) : BW w0 W go no co gp m cp bs op.dropLast := by
  have hn := (own_n h.opn).1
  have h1 := h.opn
  rw [← hn] at h1
  have h2 := owns_pop h1
  refine ⟨h.out, ?_, h.ne, h.below⟩
  have e1 : op.dropLast.length = m := by rw [List.length_dropLast]; omega
  have e2 : (ixV op).take (m * 1) = ixV op.dropLast := by rw [List.dropLast_eq_take, ← hn, ixV, ixV, List.map_take]; simp
  rw [e1, ← e2]
  exact h2
def BlkQ (E : Int) (code : List Ins) (w : World) (e : Ending) (w' : World) : Prop := ∃ u, e = .returned (.tuple #[u, .int .i64 (blkRun E code 0 [] [] code).2.1, .int .i64 (blkRun E code 0 [] [] code).2.2]) ∧ Lv w' w.heap.size w'.heap.size (.row 5 ((blkRun E code 0 [] [] code).1.flatMap CodeBlock.pd)) u ∧ Below w.heap.size w w'
theorem opAt_eq {code : List Ins} {a : Nat} {i : Ins} (h : code[a]? = some i) : opAt code (a : Int) = i.op := by
  unfold opAt
  rw [Int.toNat_natCast, h]
set_option maxHeartbeats 25600000 in
theorem implBlocks_any {name : ByteArray} {params locals : Int} {result : Bool} {code : List Ins} {A : Option Addr} {n c : Nat} {w : World} (hr : Rep w w.heap.size (.row 2 (code.flatMap Ins.pd)) (.slice A n c)) (hn : n ≤ 120) :
    Calls Try.prog 52 #[.agg #[.string name, .int .i64 params, .int .i64 locals, .bool result, .slice A n c]] w fun e w' => BlkQ 0 code w e w' := by
  obtain ⟨hnl, hins⟩ := ins_rep hr
  obtain ⟨i0, hi, hy0, hy1, hy2⟩ := info_parts cb_info
  obtain ⟨i1, hk, hx0, hx1, hx2⟩ := info_parts int_info
  obtain ⟨w0, hw0⟩ : ∃ W, W = w.alloc (.cells #[.string name, .int .i64 params, .int .i64 locals, .bool result, .slice A n c] 55) := ⟨_, rfl⟩
  have bP : Blk w0 w.heap.size 55 #[.string name, .int .i64 params, .int .i64 locals, .bool result, .slice A n c] := by rw [hw0]; exact Blk.new w _ _
  have hB0 : Below w.heap.size w w0 := by rw [hw0]; exact (Below.refl _ _).alloc (Nat.le_refl _) _
  have hz0 : w0.heap.size = w.heap.size + 1 := by rw [hw0]; simp
  have HW := Lib.hid hw0
  have HZ := Lib.hid hz0
  have HN := Lib.hid hnl
  have HBP := Lib.hid bP
  have c4 : w0.cell? ⟨w.heap.size, 4, none⟩ = some (.slice A n c) := bP.cell 4
  have HS0 : Hid (BW w0 ((w0.alloc (.cells #[] 89)).alloc (.cells #[] 3)) (w.heap.size + 1) 0 0 (w.heap.size + 1 + 1) 0 0 [] []) := by
    show BW _ _ _ _ _ _ _ _ _ _
    rw [← hz0]
    refine ⟨(World.ownsRow_made (base := w0.heap.size) (e := 89) (size := 5) w0 #[] 0 (Nat.le_refl _) (by simp) (by simp)).alloc _, ?_, by omega, ((Below.refl _ _).alloc (Nat.le_refl _) _).alloc (by simp) _⟩
    have := World.ownsRow_made (base := w0.heap.size) (e := 3) (size := 1) (w0.alloc (.cells #[] 89)) #[] 0 (by simp) (by simp) (by simp)
    simpa [ixV] using this
  clear hw0 hnl bP hr hz0
  go_enter Try.func52, Try.ntmps52
  go_wp2_with fail
  rw [← HW.out]
  try go_wp2_with fail
  go_loopw [5, 6, 17] (fun o p i wr => ∃ (k go no co gp np cp : Nat) (bs : List CodeBlock) (op : List Nat), o = .slice (some ⟨go, 0, none⟩) no co ∧ p = .slice (some ⟨gp, 0, none⟩) np cp ∧ i = .int .i64 k ∧ k ≤ n ∧ Hid (BInv k bs op) ∧ Hid (blkRun 0 code 0 [] [] code = blkRun 0 code k bs op (code.drop k)) ∧ Hid (BW w0 wr go no co gp np cp bs op)) (fun _ _ i _ => n - (intOf i).toNat)
  case atStart => exact ⟨0, _, _, _, _, _, _, [], [], rfl, rfl, rfl, Nat.zero_le _, BInv.nil, Lib.hid rfl, HS0⟩
  case round =>
    clear HS0
    obtain ⟨k, go, no, co, gp, np, cp, bs, op, rfl, rfl, rfl, hk2, HI, HRUN, HS⟩ := hrel
    have HNO := Lib.hid (own_n HS.out.out)
    have HNP := Lib.hid (own_n HS.out.opn)
    have hn6 : np ≤ 6 := by have := HNP.out.1; have := HI.out.six; omega
    have hno : no ≤ 120 := by have := HNO.out.1; have := HI.out.len; omega
    have d4 : wr.cell? ⟨w.heap.size, 4, none⟩ = some (.slice A n c) := (HBP.out.below HS.out.below (by have := HZ.out; omega)).cell 4
    have hbr := HS.out.below
    have hbz := hbr.size
    by_cases hlt : k < n
    case neg =>
      have hkn : k = n := by omega
      subst hkn
      have hrun := HRUN.out
      rw [List.drop_of_length_le (by have := HN.out; omega), blkRun] at hrun
      by_cases hp : np = 0
      case pos =>
        have hop : op = [] := List.eq_nil_of_length_eq_zero (by have := HNP.out.1; omega)
        rw [if_pos hop] at hrun
        have HRR := Lib.hid hrun
        clear hrun hop
        subst hp
        go_wp2_with fail
        go_ret3
        unfold BlkQ
        rw [HRR.out]
        exact ⟨_, rfl, by obtain ⟨F, f1, f2, f3⟩ := lv_cb HS.out.out; exact ⟨F, f1, f2.more (by have := hB0.size; omega) (Nat.le_refl _), f3⟩, hB0.trans (hbr.mono hB0.size)⟩
      case neg =>
        have hop : op ≠ [] := fun e => hp (by have := HNP.out.1; rw [e] at this; simpa using this)
        rw [if_neg hop] at hrun
        have HRR := Lib.hid hrun
        clear hrun hop
        have hpp : (0 : Int) < (np : Int) := by omega
        have hpd : decide ((0 : Int) < (np : Int)) = true := decide_eq_true hpp
        go_wp2_with fail
        refine (sizeIns_any _ _ _ _).mono ?_
        rintro e w' ⟨rfl, rfl⟩
        go_wp2_with fail
        go_ret3
        unfold BlkQ
        rw [HRR.out]
        exact ⟨_, rfl, nil_cb _ _ (by have := hB0.size; omega) _ _ (by decide), hB0.trans (hbr.mono hB0.size)⟩
    obtain ⟨g, off, rfl, hg, hat⟩ := hins (by omega)
    have HAT := Lib.hid (insAt_below hat (hB0.trans (hbr.mono hB0.size)) hg)
    obtain ⟨x, hx, _⟩ := at_lt HN.out hlt
    obtain ⟨io, ia⟩ := x
    have HX := Lib.hid hx
    have q0 : wr.cell? ⟨g, off + k * 2, none⟩ = some (.int .i64 io) := (HAT.out k _ HX.out).1
    have q1 : wr.cell? ⟨g, off + k * 2 + 1, none⟩ = some (.int .i64 ia) := (HAT.out k _ HX.out).2
    clear hx hat
    obtain ⟨wa, hwa⟩ : ∃ W, W = wr.alloc (.cells #[.int .i64 io, .int .i64 ia] 95) := ⟨_, rfl⟩
    have bx : Blk wa wr.heap.size 95 #[.int .i64 io, .int .i64 ia] := by rw [hwa]; exact Blk.new wr _ _
    have hba : Below wr.heap.size wr wa := by rw [hwa]; exact (Below.refl _ _).alloc (Nat.le_refl _) _
    have HSA := Lib.hid (HS.out.step hba)
    have HWA := Lib.hid hwa
    clear hwa
    go_wp2_with fail
    rw [← HWA.out]
    have b0 : wa.cell? ⟨wr.heap.size, 0, none⟩ = some (.int .i64 io) := bx.cell 0
    have b1 : wa.cell? ⟨wr.heap.size, 1, none⟩ = some (.int .i64 ia) := bx.cell 1
    try go_wp2_with fail
    refine (implOpens_any io _).mono ?_
    rintro e w' ⟨rfl, rfl⟩
    by_cases hob : opensB io = true
    case pos =>
      rw [hob]
      by_cases h6 : np = 6
      case pos =>
        have HRR : Hid (blkRun 0 code 0 [] [] code = ([], (k : Int), 4)) := HRUN.out.trans (run_no HX.out (by rw [blkStep, if_pos (by exact hob), if_pos (by have := HNP.out.1; omega)]) (by decide))
        subst h6
        clear hob
        go_wp2_with fail
        go_ret3
        unfold BlkQ
        rw [HRR.out]
        exact ⟨_, rfl, nil_cb _ _ (by have := hB0.size; have := HSA.out.below.size; omega) _ _ (by decide), hB0.trans (HSA.out.below.mono hB0.size)⟩
      have h6d : ((np : Int) == 6) = false := by simp; omega
      have HST : Hid (blkStep 0 code k bs op ⟨io, ia⟩ = (0, bs ++ [⟨(k : Int), -1, 0, 0, decide (ia = 1)⟩], op ++ [no])) := by show _ = _; rw [HNO.out.1, blkStep, if_pos (by exact hob), if_neg (by have := HNP.out.1; omega)]
      clear hob
      obtain ⟨rb, hrb⟩ : ∃ b : Bool, b = (ia == 1) := ⟨_, rfl⟩
      have HRB : Hid (decide (ia = 1) = rb) := by show _ = _; rw [hrb]; by_cases h : ia = 1 <;> simp [h]
      have hrb2 : (ia == 1) = rb := hrb.symm
      clear hrb
      have hs1 := HSA.out.opn.alloc (.cells #[.int .i64 (no : Int)] 3)
      have HC1 : Hid (SrcOk (wa.alloc (.cells #[.int .i64 (no : Int)] 3)) (.slice (some ⟨wa.heap.size, 0, none⟩) 1 1) 1 1 (ixV [no])) := .inr ⟨⟨wa.heap.size, 0, none⟩, 1, rfl, rfl, World.news_of_block (heap_alloc_new wa _)⟩
      have HB2 : Hid (Below w0.heap.size w0 (wa.alloc (.cells #[.int .i64 (no : Int)] 3))) := HSA.out.below.alloc HSA.out.below.size _
      go_wp2_with (first | (at_builtin; refine wpList_append_src rfl _ _ 117 rfl w0.heap.size 3 i1 (.int .i64 0) 1 8 Try.underlying117 hk hx0 hx1 hx2 rfl (by decide) (.slice (some ⟨gp, 0, none⟩) np cp) _ _ rfl hs1 _ _ _ rfl HC1.out (one_ix _) (by have := HNP.out.1; simp only [maxLen]; omega) (by have := HNP.out.1; omega) HB2.out.size ?_; intro v' wb hown' hgrow hor; obtain ⟨gq, cq, rfl, _, _⟩ := hown'.form (by simp); have HPO : Hid (wb.ownsRow w0.heap.size 3 1 (.slice (some ⟨gq, 0, none⟩) (op.length + 1) cq) (op ++ [no]).length (ixV (op ++ [no]))) := (by show World.ownsRow _ _ _ _ _ _ _; rw [ixV, List.map_append, List.length_append]; exact hown'); have HOK : Hid (wb.ownsRow w0.heap.size 89 5 (.slice (some ⟨go, 0, none⟩) no co) bs.length (cbV bs)) := (HSA.out.out.alloc _).kept hgrow (.inr (fun e => HSA.out.ne (by simpa [Value.ownBlock] using e))); have HNE : Hid (go ≠ gq) := (fun e => (by subst e; rcases hor with h | h; exact HSA.out.ne (by simpa [Value.ownBlock] using h); have := (own_n HSA.out.out).2.2.1; simp [Value.ownBlock] at h; omega)); have HB3 : Hid (Below w0.heap.size w0 wb) := HB2.out.grown hgrow HB2.out.size (fun q hq => (hs1.lt q hq).1); have bx3 : Blk wb wr.heap.size 95 #[.int .i64 io, .int .i64 ia] := (hgrow.block _ (bx.alloc _).lt (fun e => (by have h3 := (own_n HS.out.opn).2.2.1; simp [Value.ownBlock] at e; omega))).trans (bx.alloc _); have b0' : wb.cell? ⟨wr.heap.size, 0, none⟩ = some (.int .i64 io) := bx3.cell 0; have b1' : wb.cell? ⟨wr.heap.size, 1, none⟩ = some (.int .i64 ia) := bx3.cell 1; clear hs1 hgrow hor hown'; have hs2 := HOK.out.alloc (.cells #[.int .i64 (k : Int), .int .i64 (-1), .int .i64 0, .int .i64 0, .bool rb] 89); have HC2 : Hid (SrcOk (wb.alloc (.cells #[.int .i64 (k : Int), .int .i64 (-1), .int .i64 0, .int .i64 0, .bool rb] 89)) (.slice (some ⟨wb.heap.size, 0, none⟩) 1 1) 5 1 (cbV [⟨(k : Int), -1, 0, 0, rb⟩])) := .inr ⟨⟨wb.heap.size, 0, none⟩, 1, rfl, rfl, World.news_of_block (heap_alloc_new wb _)⟩; have HB4 : Hid (Below w0.heap.size w0 (wb.alloc (.cells #[.int .i64 (k : Int), .int .i64 (-1), .int .i64 0, .int .i64 0, .bool rb] 89))) := HB3.out.alloc HB3.out.size _) | (at_builtin; refine wpList_append_src rfl _ _ 50 rfl w0.heap.size 89 i0 (.agg #[.int .i64 0, .int .i64 0, .int .i64 0, .int .i64 0, .bool false]) 5 40 Try.underlying50 hi hy0 hy1 hy2 rfl (by decide) (.slice (some ⟨go, 0, none⟩) no co) _ _ rfl hs2 _ _ _ rfl HC2.out (one_cb _) (by have := HNO.out.1; simp only [maxLen]; omega) (by have := HNO.out.1; omega) HB4.out.size ?_; intro v2 wd hown2 hgrow2 hor2; obtain ⟨gr, cr, rfl, _, _⟩ := hown2.form (by simp)))
      have HBW : Hid (BW w0 wd gr (bs.length + 1) cr gq (op.length + 1) cq (bs ++ [⟨(k : Int), -1, 0, 0, rb⟩]) (op ++ [no])) := by
        refine ⟨by rw [cbV_append, List.length_append]; exact hown2, (HPO.out.alloc _).kept hgrow2 (.inr (fun e => HNE.out (by simpa [Value.ownBlock] using e.symm))), fun e => ?_, HB4.out.grown hgrow2 HB4.out.size (fun q hq => (hs2.lt q hq).1)⟩
        subst e
        rcases hor2 with h | h
        · exact HNE.out (by simpa [Value.ownBlock] using h.symm)
        · have := (own_n HPO.out).2.2.1
          simp [Value.ownBlock] at h
          omega
      go_roundw
      case rel => exact ⟨k + 1, _, _, _, _, _, _, _, _, rfl, rfl, by go_num, by omega, Lib.hid (by rw [HNO.out.1]; exact HI.out.push (by have := HNP.out.1; omega) 0 rb), Lib.hid (HRUN.out.trans (run_ok HX.out (by rw [HST.out, HRB.out]))), HBW⟩
      case measure => simp [intOf]; omega
    have hob2 : opensB io = false := by simpa using hob
    rw [hob2]
    have hgw : g < wr.heap.size := by have := hB0.size; omega
    by_cases h27 : io = 27
    case pos =>
      have d27 : (io == 27) = true := by simpa using h27
      by_cases hp : np = 0
      case pos =>
        have HRR : Hid (blkRun 0 code 0 [] [] code = ([], (k : Int), 5)) := HRUN.out.trans (run_no HX.out (by rw [blkStep, if_neg (by rw [hob2]; decide), if_pos (by exact h27)]; rw [List.eq_nil_of_length_eq_zero (show op.length = 0 by have := HNP.out.1; omega)]; rfl) (by decide))
        subst hp
        clear hob h27
        go_wp2_with fail
        go_quiet (fail)
        have HSD := Lib.hid (HSA.out.step (below_drewN (Below.refl _ _) nq))
        go_wp2_with fail
        go_ret3
        unfold BlkQ
        rw [HRR.out]
        exact ⟨_, rfl, nil_cb _ _ (by have := hB0.size; have := HSD.out.below.size; omega) _ _ (by decide), hB0.trans (HSD.out.below.mono hB0.size)⟩
      obtain ⟨m, rfl⟩ : ∃ m, np = m + 1 := ⟨np - 1, by omega⟩
      obtain ⟨j, hj, hjm⟩ := at_lt HNP.out.1 (show m < m + 1 by omega)
      have hjl := HI.out.lt j hjm
      obtain ⟨b, hb, _⟩ := at_lt rfl hjl
      obtain ⟨a0, ha0, hak⟩ := HI.out.at_ j b hb
      obtain ⟨ba, be, bd, bh, rb⟩ := b
      replace ha0 : ba = (a0 : Int) := ha0
      subst ha0
      obtain ⟨i2, hi2, _⟩ := at_lt HN.out (show a0 < n by omega)
      obtain ⟨jo, ja⟩ := i2
      have HL : Hid (op[op.length - 1]? = some j) := by show _ = _; rw [← HNP.out.1]; exact hj
      have HBJ := Lib.hid hb
      have HOA : Hid (opAt code (a0 : Int) = jo) := opAt_eq hi2
      have HI2 := Lib.hid hi2
      have HJ := Lib.hid hj
      have hm0 : ¬ ((m : Int) < 0) := by omega
      have hm1 : decide ((m : Int) < 0) = false := decide_eq_false hm0
      have hms : ((m + 1 : Nat) : Int) - 1 = (m : Int) := by omega
      have hmz : ((m : Int) + 1 == 0) = false := by simp; omega
      have hmy : ¬ ((m : Int) + 1 = 0) := by omega
      have hmm : m < m + 1 := Nat.lt_succ_self m
      have hjn : j < no := by have := HNO.out.1; omega
      have han : a0 < n := by omega
      have hjn2 : (j : Int) < (no : Int) := by omega
      have han2 : (a0 : Int) < (n : Int) := by omega
      clear hb hi2 hj hjm hjl
      have e0 : wa.cell? ⟨gp, m, none⟩ = some (.int .i64 (j : Int)) := (owns_cell HSA.out.opn (ixV_get HJ.out)).1
      have f0 : wa.cell? ⟨go, j * 5, none⟩ = some (.int .i64 (a0 : Int)) := (owns_cell HSA.out.out ((cbV_get HBJ.out (f := 0) (by decide)).trans rfl)).1
      have f1 : wa.cell? ⟨go, j * 5 + 1, none⟩ = some (.int .i64 be) := (owns_cell HSA.out.out ((cbV_get HBJ.out (f := 1) (by decide)).trans rfl)).1
      have f2 : wa.cell? ⟨go, j * 5 + 2, none⟩ = some (.int .i64 bd) := (owns_cell HSA.out.out ((cbV_get HBJ.out (f := 2) (by decide)).trans rfl)).1
      have f3 : wa.cell? ⟨go, j * 5 + 3, none⟩ = some (.int .i64 bh) := (owns_cell HSA.out.out ((cbV_get HBJ.out (f := 3) (by decide)).trans rfl)).1
      have f4 : wa.cell? ⟨go, j * 5 + 4, none⟩ = some (.bool rb) := (owns_cell HSA.out.out ((cbV_get HBJ.out (f := 4) (by decide)).trans rfl)).1
      have g0 : wa.cell? ⟨g, off + a0 * 2, none⟩ = some (.int .i64 jo) := ((insAt_below HAT.out (hba) (by omega)) a0 _ HI2.out).1
      have d5 : wa.cell? ⟨w.heap.size, 4, none⟩ = some (.slice (some ⟨g, off, none⟩) n c) := (HBP.out.below HSA.out.below (by have := HZ.out; omega)).cell 4
      by_cases hc : jo ≠ 26 ∨ 0 ≤ be
      case pos =>
        have HRR : Hid (blkRun 0 code 0 [] [] code = ([], (k : Int), 5)) := HRUN.out.trans (run_no HX.out (by rw [blkStep, if_neg (by rw [hob2]; decide), if_pos (by exact h27)]; rw [HL.out]; simp only [HBJ.out]; rw [HOA.out, if_pos hc]) (by decide))
        clear hob h27
        by_cases h26 : jo = 26
        case pos =>
          have k1 : (jo != 26) = false := by simpa using h26
          have k2 : decide ((0 : Int) ≤ be) = true := decide_eq_true (by rcases hc with h | h; exact absurd h26 h; exact h)
          clear hc h26
          go_wp2_with fail
          go_quiet (fail)
          have HSD := Lib.hid (HSA.out.step (below_drewN (Below.refl _ _) nq))
          go_wp2_with fail
          go_ret3
          unfold BlkQ
          rw [HRR.out]
          exact ⟨_, rfl, nil_cb _ _ (by have := hB0.size; have := HSD.out.below.size; omega) _ _ (by decide), hB0.trans (HSD.out.below.mono hB0.size)⟩
        case neg =>
          have k1 : (jo != 26) = true := by simpa using h26
          clear hc h26
          go_wp2_with fail
          go_quiet (fail)
          have HSD := Lib.hid (HSA.out.step (below_drewN (Below.refl _ _) nq))
          go_wp2_with fail
          go_ret3
          unfold BlkQ
          rw [HRR.out]
          exact ⟨_, rfl, nil_cb _ _ (by have := hB0.size; have := HSD.out.below.size; omega) _ _ (by decide), hB0.trans (HSD.out.below.mono hB0.size)⟩
      have h26 : jo = 26 := by omega
      have hbe : ¬ 0 ≤ be := by omega
      have HST : Hid (blkStep 0 code k bs op ⟨io, ia⟩ = (0, bs.set j ⟨(a0 : Int), (k : Int), bd, bh, rb⟩, op)) := by show _ = _; rw [blkStep, if_neg (by rw [hob2]; decide), if_pos (by exact h27)]; rw [HL.out]; simp only [HBJ.out]; rw [HOA.out, if_neg hc]
      have k1 : (jo != 26) = false := by simpa using h26
      have k2 : decide ((0 : Int) ≤ be) = false := decide_eq_false hbe
      clear hc h26 hbe hob h27
      go_wp2_with fail
      go_quiet (fail)
      obtain ⟨wd, hwd⟩ : ∃ V, V = wa.drewN nq := ⟨_, rfl⟩
      rw [← hwd]
      have hda : Below wa.heap.size wa wd := by rw [hwd]; exact below_drewN (Below.refl _ _) _
      have HSD := Lib.hid (HSA.out.step hda)
      clear e0 f0 f1 f2 f3 f4 g0 d5
      have e0 : wd.cell? ⟨gp, m, none⟩ = some (.int .i64 (j : Int)) := (owns_cell HSD.out.opn (ixV_get HJ.out)).1
      have f0 : wd.cell? ⟨go, j * 5, none⟩ = some (.int .i64 (a0 : Int)) := (owns_cell HSD.out.out ((cbV_get HBJ.out (f := 0) (by decide)).trans rfl)).1
      have f1 : wd.cell? ⟨go, j * 5 + 1, none⟩ = some (.int .i64 be) := (owns_cell HSD.out.out ((cbV_get HBJ.out (f := 1) (by decide)).trans rfl)).1
      have f2 : wd.cell? ⟨go, j * 5 + 2, none⟩ = some (.int .i64 bd) := (owns_cell HSD.out.out ((cbV_get HBJ.out (f := 2) (by decide)).trans rfl)).1
      have f3 : wd.cell? ⟨go, j * 5 + 3, none⟩ = some (.int .i64 bh) := (owns_cell HSD.out.out ((cbV_get HBJ.out (f := 3) (by decide)).trans rfl)).1
      have f4 : wd.cell? ⟨go, j * 5 + 4, none⟩ = some (.bool rb) := (owns_cell HSD.out.out ((cbV_get HBJ.out (f := 4) (by decide)).trans rfl)).1
      have g0 : wd.cell? ⟨g, off + a0 * 2, none⟩ = some (.int .i64 jo) := ((insAt_below HAT.out (hba.trans (hda.mono hba.size)) (by omega)) a0 _ HI2.out).1
      have d5 : wd.cell? ⟨w.heap.size, 4, none⟩ = some (.slice (some ⟨g, off, none⟩) n c) := (HBP.out.below HSD.out.below (by have := HZ.out; omega)).cell 4
      have fz := (owns_cell HSD.out.out ((cbV_get HBJ.out (f := 1) (by decide)).trans rfl)).2
      clear hwd
      go_wp2_with fail
      go_roundw
      case rel => exact ⟨k + 1, _, _, _, _, _, _, _, _, rfl, rfl, by go_num, by omega, Lib.hid (HI.out.set (b2 := ⟨(a0 : Int), (k : Int), bd, bh, rb⟩) HBJ.out rfl), Lib.hid (HRUN.out.trans (run_ok HX.out HST.out)), Lib.hid (HSD.out.put (b2 := ⟨(a0 : Int), (k : Int), bd, bh, rb⟩) (u := .int .i64 (k : Int)) HBJ.out (f := 1) (by decide) rfl)⟩
      case measure => simp [intOf]; omega
    have d27 : (io == 27) = false := by simpa using h27
    by_cases h28 : io = 28
    case pos =>
      have d28 : (io == 28) = true := by simpa using h28
      by_cases hp : np = 0
      case pos =>
        have HRR : Hid (blkRun 0 code 0 [] [] code = ([], (k : Int), 5)) := HRUN.out.trans (run_no HX.out (by rw [blkStep, if_neg (by rw [hob2]; decide), if_neg (by exact h27), if_pos (by exact h28)]; rw [List.eq_nil_of_length_eq_zero (show op.length = 0 by have := HNP.out.1; omega)]; rfl) (by decide))
        subst hp
        clear hob h27 h28
        go_wp2_with fail
        go_ret3
        unfold BlkQ
        rw [HRR.out]
        exact ⟨_, rfl, nil_cb _ _ (by have := hB0.size; have := HSA.out.below.size; omega) _ _ (by decide), hB0.trans (HSA.out.below.mono hB0.size)⟩
      obtain ⟨m, rfl⟩ : ∃ m, np = m + 1 := ⟨np - 1, by omega⟩
      obtain ⟨j, hj, hjm⟩ := at_lt HNP.out.1 (show m < m + 1 by omega)
      have hjl := HI.out.lt j hjm
      obtain ⟨b, hb, _⟩ := at_lt rfl hjl
      obtain ⟨a0, ha0, hak⟩ := HI.out.at_ j b hb
      obtain ⟨ba, be, bd, bh, rb⟩ := b
      replace ha0 : ba = (a0 : Int) := ha0
      subst ha0
      obtain ⟨i2, hi2, _⟩ := at_lt HN.out (show a0 < n by omega)
      obtain ⟨jo, ja⟩ := i2
      have HL : Hid (op[op.length - 1]? = some j) := by show _ = _; rw [← HNP.out.1]; exact hj
      have HBJ := Lib.hid hb
      have HOA : Hid (opAt code (a0 : Int) = jo) := opAt_eq hi2
      have HI2 := Lib.hid hi2
      have HJ := Lib.hid hj
      have hm0 : ¬ ((m : Int) < 0) := by omega
      have hm1 : decide ((m : Int) < 0) = false := decide_eq_false hm0
      have hms : ((m + 1 : Nat) : Int) - 1 = (m : Int) := by omega
      have hmz : ((m : Int) + 1 == 0) = false := by simp; omega
      have hmy : ¬ ((m : Int) + 1 = 0) := by omega
      have hmm : m < m + 1 := Nat.lt_succ_self m
      have hjn : j < no := by have := HNO.out.1; omega
      have han : a0 < n := by omega
      have hjn2 : (j : Int) < (no : Int) := by omega
      have han2 : (a0 : Int) < (n : Int) := by omega
      clear hb hi2 hj hjm hjl
      have e0 : wa.cell? ⟨gp, m, none⟩ = some (.int .i64 (j : Int)) := (owns_cell HSA.out.opn (ixV_get HJ.out)).1
      have f0 : wa.cell? ⟨go, j * 5, none⟩ = some (.int .i64 (a0 : Int)) := (owns_cell HSA.out.out ((cbV_get HBJ.out (f := 0) (by decide)).trans rfl)).1
      have f1 : wa.cell? ⟨go, j * 5 + 1, none⟩ = some (.int .i64 be) := (owns_cell HSA.out.out ((cbV_get HBJ.out (f := 1) (by decide)).trans rfl)).1
      have f2 : wa.cell? ⟨go, j * 5 + 2, none⟩ = some (.int .i64 bd) := (owns_cell HSA.out.out ((cbV_get HBJ.out (f := 2) (by decide)).trans rfl)).1
      have f3 : wa.cell? ⟨go, j * 5 + 3, none⟩ = some (.int .i64 bh) := (owns_cell HSA.out.out ((cbV_get HBJ.out (f := 3) (by decide)).trans rfl)).1
      have f4 : wa.cell? ⟨go, j * 5 + 4, none⟩ = some (.bool rb) := (owns_cell HSA.out.out ((cbV_get HBJ.out (f := 4) (by decide)).trans rfl)).1
      have g0 : wa.cell? ⟨g, off + a0 * 2, none⟩ = some (.int .i64 jo) := ((insAt_below HAT.out (hba) (by omega)) a0 _ HI2.out).1
      have d5 : wa.cell? ⟨w.heap.size, 4, none⟩ = some (.slice (some ⟨g, off, none⟩) n c) := (HBP.out.below HSA.out.below (by have := HZ.out; omega)).cell 4
      by_cases h26 : jo = 26
      case neg =>
        have HST : Hid (blkStep 0 code k bs op ⟨io, ia⟩ = (0, bs.set j ⟨(a0 : Int), be, (k : Int), bh, rb⟩, op.dropLast)) := by show _ = _; rw [blkStep, if_neg (by rw [hob2]; decide), if_neg (by exact h27), if_pos (by exact h28)]; rw [HL.out]; simp only [HBJ.out]; rw [HOA.out, if_neg (fun h => h26 h.1)]
        have k1 : (jo == 26) = false := by simpa using h26
        clear h26
        have hmc : m ≤ cp := by have := HNP.out.2.2.2; have := HNP.out.1; omega
        have hcp0 : ¬ cp = 0 := by have := HNP.out.2.2.2; have := HNP.out.1; omega
        clear hob h27 h28
        go_wp2_with fail
        go_quiet (fail)
        obtain ⟨wd, hwd⟩ : ∃ V, V = wa.drewN nq := ⟨_, rfl⟩
        rw [← hwd]
        have hda : Below wa.heap.size wa wd := by rw [hwd]; exact below_drewN (Below.refl _ _) _
        have HSD := Lib.hid (HSA.out.step hda)
        clear e0 f0 f1 f2 f3 f4 g0 d5
        have e0 : wd.cell? ⟨gp, m, none⟩ = some (.int .i64 (j : Int)) := (owns_cell HSD.out.opn (ixV_get HJ.out)).1
        have f0 : wd.cell? ⟨go, j * 5, none⟩ = some (.int .i64 (a0 : Int)) := (owns_cell HSD.out.out ((cbV_get HBJ.out (f := 0) (by decide)).trans rfl)).1
        have f1 : wd.cell? ⟨go, j * 5 + 1, none⟩ = some (.int .i64 be) := (owns_cell HSD.out.out ((cbV_get HBJ.out (f := 1) (by decide)).trans rfl)).1
        have f2 : wd.cell? ⟨go, j * 5 + 2, none⟩ = some (.int .i64 bd) := (owns_cell HSD.out.out ((cbV_get HBJ.out (f := 2) (by decide)).trans rfl)).1
        have f3 : wd.cell? ⟨go, j * 5 + 3, none⟩ = some (.int .i64 bh) := (owns_cell HSD.out.out ((cbV_get HBJ.out (f := 3) (by decide)).trans rfl)).1
        have f4 : wd.cell? ⟨go, j * 5 + 4, none⟩ = some (.bool rb) := (owns_cell HSD.out.out ((cbV_get HBJ.out (f := 4) (by decide)).trans rfl)).1
        have g0 : wd.cell? ⟨g, off + a0 * 2, none⟩ = some (.int .i64 jo) := ((insAt_below HAT.out ((hba).trans (hda.mono (hba).size)) (by omega)) a0 _ HI2.out).1
        have d5 : wd.cell? ⟨w.heap.size, 4, none⟩ = some (.slice (some ⟨g, off, none⟩) n c) := (HBP.out.below HSD.out.below (by have := HZ.out; omega)).cell 4
        have fz := (owns_cell HSD.out.out ((cbV_get HBJ.out (f := 2) (by decide)).trans rfl)).2
        clear hwd
        go_wp2_with fail
        go_region
        all_goals
          go_wp2_with fail
          go_roundw
          case rel => exact ⟨k + 1, _, _, _, _, _, _, _, _, rfl, rfl, by go_num, by omega, Lib.hid (HI.out.set (b2 := ⟨(a0 : Int), be, (k : Int), bh, rb⟩) HBJ.out rfl).pop, Lib.hid (HRUN.out.trans (run_ok HX.out HST.out)), Lib.hid ((HSD.out.put (b2 := ⟨(a0 : Int), be, (k : Int), bh, rb⟩) (u := .int .i64 (k : Int)) HBJ.out (f := 2) (by decide) rfl).pop.step (Below.refl _ _).drew)⟩
          case measure => simp [intOf]; omega
      have k1 : (jo == 26) = true := by simpa using h26
      cases rb with
      | false =>
        have HST : Hid (blkStep 0 code k bs op ⟨io, ia⟩ = (0, bs.set j ⟨(a0 : Int), be, (k : Int), bh, false⟩, op.dropLast)) := by show _ = _; rw [blkStep, if_neg (by rw [hob2]; decide), if_neg (by exact h27), if_pos (by exact h28)]; rw [HL.out]; simp only [HBJ.out]; rw [HOA.out, if_neg (fun h => by cases h.2.1)]
        clear h26
        have hmc : m ≤ cp := by have := HNP.out.2.2.2; have := HNP.out.1; omega
        have hcp0 : ¬ cp = 0 := by have := HNP.out.2.2.2; have := HNP.out.1; omega
        clear hob h27 h28
        go_wp2_with fail
        go_quiet (fail)
        obtain ⟨wd, hwd⟩ : ∃ V, V = wa.drewN nq := ⟨_, rfl⟩
        rw [← hwd]
        have hda : Below wa.heap.size wa wd := by rw [hwd]; exact below_drewN (Below.refl _ _) _
        have HSD := Lib.hid (HSA.out.step hda)
        clear e0 f0 f1 f2 f3 f4 g0 d5
        have e0 : wd.cell? ⟨gp, m, none⟩ = some (.int .i64 (j : Int)) := (owns_cell HSD.out.opn (ixV_get HJ.out)).1
        have f0 : wd.cell? ⟨go, j * 5, none⟩ = some (.int .i64 (a0 : Int)) := (owns_cell HSD.out.out ((cbV_get HBJ.out (f := 0) (by decide)).trans rfl)).1
        have f1 : wd.cell? ⟨go, j * 5 + 1, none⟩ = some (.int .i64 be) := (owns_cell HSD.out.out ((cbV_get HBJ.out (f := 1) (by decide)).trans rfl)).1
        have f2 : wd.cell? ⟨go, j * 5 + 2, none⟩ = some (.int .i64 bd) := (owns_cell HSD.out.out ((cbV_get HBJ.out (f := 2) (by decide)).trans rfl)).1
        have f3 : wd.cell? ⟨go, j * 5 + 3, none⟩ = some (.int .i64 bh) := (owns_cell HSD.out.out ((cbV_get HBJ.out (f := 3) (by decide)).trans rfl)).1
        have f4 : wd.cell? ⟨go, j * 5 + 4, none⟩ = some (.bool false) := (owns_cell HSD.out.out ((cbV_get HBJ.out (f := 4) (by decide)).trans rfl)).1
        have g0 : wd.cell? ⟨g, off + a0 * 2, none⟩ = some (.int .i64 jo) := ((insAt_below HAT.out ((hba).trans (hda.mono (hba).size)) (by omega)) a0 _ HI2.out).1
        have d5 : wd.cell? ⟨w.heap.size, 4, none⟩ = some (.slice (some ⟨g, off, none⟩) n c) := (HBP.out.below HSD.out.below (by have := HZ.out; omega)).cell 4
        have fz := (owns_cell HSD.out.out ((cbV_get HBJ.out (f := 2) (by decide)).trans rfl)).2
        clear hwd
        go_wp2_with fail
        go_region
        all_goals
          go_wp2_with fail
          go_roundw
          case rel => exact ⟨k + 1, _, _, _, _, _, _, _, _, rfl, rfl, by go_num, by omega, Lib.hid (HI.out.set (b2 := ⟨(a0 : Int), be, (k : Int), bh, false⟩) HBJ.out rfl).pop, Lib.hid (HRUN.out.trans (run_ok HX.out HST.out)), Lib.hid ((HSD.out.put (b2 := ⟨(a0 : Int), be, (k : Int), bh, false⟩) (u := .int .i64 (k : Int)) HBJ.out (f := 2) (by decide) rfl).pop.step (Below.refl _ _).drew)⟩
          case measure => simp [intOf]; omega
      | true =>
        by_cases hbe : be < 0
        case neg =>
          have HST : Hid (blkStep 0 code k bs op ⟨io, ia⟩ = (0, bs.set j ⟨(a0 : Int), be, (k : Int), bh, true⟩, op.dropLast)) := by show _ = _; rw [blkStep, if_neg (by rw [hob2]; decide), if_neg (by exact h27), if_pos (by exact h28)]; rw [HL.out]; simp only [HBJ.out]; rw [HOA.out, if_neg (fun h => hbe h.2.2)]
          have k2 : decide (be < 0) = false := decide_eq_false hbe
          clear h26 hbe
          have hmc : m ≤ cp := by have := HNP.out.2.2.2; have := HNP.out.1; omega
          have hcp0 : ¬ cp = 0 := by have := HNP.out.2.2.2; have := HNP.out.1; omega
          clear hob h27 h28
          go_wp2_with fail
          go_quiet (fail)
          obtain ⟨wd, hwd⟩ : ∃ V, V = wa.drewN nq := ⟨_, rfl⟩
          rw [← hwd]
          have hda : Below wa.heap.size wa wd := by rw [hwd]; exact below_drewN (Below.refl _ _) _
          have HSD := Lib.hid (HSA.out.step hda)
          clear e0 f0 f1 f2 f3 f4 g0 d5
          have e0 : wd.cell? ⟨gp, m, none⟩ = some (.int .i64 (j : Int)) := (owns_cell HSD.out.opn (ixV_get HJ.out)).1
          have f0 : wd.cell? ⟨go, j * 5, none⟩ = some (.int .i64 (a0 : Int)) := (owns_cell HSD.out.out ((cbV_get HBJ.out (f := 0) (by decide)).trans rfl)).1
          have f1 : wd.cell? ⟨go, j * 5 + 1, none⟩ = some (.int .i64 be) := (owns_cell HSD.out.out ((cbV_get HBJ.out (f := 1) (by decide)).trans rfl)).1
          have f2 : wd.cell? ⟨go, j * 5 + 2, none⟩ = some (.int .i64 bd) := (owns_cell HSD.out.out ((cbV_get HBJ.out (f := 2) (by decide)).trans rfl)).1
          have f3 : wd.cell? ⟨go, j * 5 + 3, none⟩ = some (.int .i64 bh) := (owns_cell HSD.out.out ((cbV_get HBJ.out (f := 3) (by decide)).trans rfl)).1
          have f4 : wd.cell? ⟨go, j * 5 + 4, none⟩ = some (.bool true) := (owns_cell HSD.out.out ((cbV_get HBJ.out (f := 4) (by decide)).trans rfl)).1
          have g0 : wd.cell? ⟨g, off + a0 * 2, none⟩ = some (.int .i64 jo) := ((insAt_below HAT.out ((hba).trans (hda.mono (hba).size)) (by omega)) a0 _ HI2.out).1
          have d5 : wd.cell? ⟨w.heap.size, 4, none⟩ = some (.slice (some ⟨g, off, none⟩) n c) := (HBP.out.below HSD.out.below (by have := HZ.out; omega)).cell 4
          have fz := (owns_cell HSD.out.out ((cbV_get HBJ.out (f := 2) (by decide)).trans rfl)).2
          clear hwd
          go_wp2_with fail
          go_region
          all_goals
            go_wp2_with fail
            go_roundw
            case rel => exact ⟨k + 1, _, _, _, _, _, _, _, _, rfl, rfl, by go_num, by omega, Lib.hid (HI.out.set (b2 := ⟨(a0 : Int), be, (k : Int), bh, true⟩) HBJ.out rfl).pop, Lib.hid (HRUN.out.trans (run_ok HX.out HST.out)), Lib.hid ((HSD.out.put (b2 := ⟨(a0 : Int), be, (k : Int), bh, true⟩) (u := .int .i64 (k : Int)) HBJ.out (f := 2) (by decide) rfl).pop.step (Below.refl _ _).drew)⟩
            case measure => simp [intOf]; omega
        case pos =>
          have HRR : Hid (blkRun 0 code 0 [] [] code = ([], (k : Int), 7)) := HRUN.out.trans (run_no HX.out (by rw [blkStep, if_neg (by rw [hob2]; decide), if_neg (by exact h27), if_pos (by exact h28)]; rw [HL.out]; simp only [HBJ.out]; rw [HOA.out, if_pos ⟨h26, by first | rfl | trivial, hbe⟩]) (by decide))
          have k2 : decide (be < 0) = true := decide_eq_true hbe
          clear hob h27 h28 h26 hbe
          go_wp2_with fail
          go_quiet (fail)
          obtain ⟨wd, hwd⟩ : ∃ V, V = wa.drewN nq := ⟨_, rfl⟩
          rw [← hwd]
          have hda : Below wa.heap.size wa wd := by rw [hwd]; exact below_drewN (Below.refl _ _) _
          have HSD := Lib.hid (HSA.out.step hda)
          clear e0 f0 f1 f2 f3 f4 g0 d5
          clear hwd
          go_wp2_with fail
          go_ret3
          unfold BlkQ
          rw [HRR.out]
          exact ⟨_, rfl, nil_cb _ _ (by have := hB0.size; have := HSD.out.below.size; omega) _ _ (by decide), hB0.trans (HSD.out.below.mono hB0.size)⟩
    have d28 : (io == 28) = false := by simpa using h28
    have HST : Hid (blkStep 0 code k bs op ⟨io, ia⟩ = (0, bs, op)) := by show _ = _; rw [blkStep, if_neg (by rw [hob2]; decide), if_neg (by exact h27), if_neg (by exact h28)]
    clear hob h27 h28
    go_wp2_with fail
    go_roundw
    case rel => exact ⟨k + 1, _, _, _, _, _, _, _, _, rfl, rfl, by go_num, by omega, Lib.hid HI.out.next, Lib.hid (HRUN.out.trans (run_ok HX.out HST.out)), HSA⟩
    case measure => simp [intOf]; omega
set_option maxHeartbeats 25600000 in
theorem specBlocks_any {name : ByteArray} {params locals : Int} {result : Bool} {code : List Ins} {A : Option Addr} {n c : Nat} {w : World} (hr : Rep w w.heap.size (.row 2 (code.flatMap Ins.pd)) (.slice A n c)) (hn : n ≤ 120) :
    Calls Try.prog 48 #[.agg #[.string name, .int .i64 params, .int .i64 locals, .bool result, .slice A n c]] w fun e w' => BlkQ (-1) code w e w' := by
  obtain ⟨hnl, hins⟩ := ins_rep hr
  obtain ⟨i0, hi, hy0, hy1, hy2⟩ := info_parts cb_info
  obtain ⟨i1, hk, hx0, hx1, hx2⟩ := info_parts int_info
  obtain ⟨w0, hw0⟩ : ∃ W, W = w.alloc (.cells #[.string name, .int .i64 params, .int .i64 locals, .bool result, .slice A n c] 55) := ⟨_, rfl⟩
  have bP : Blk w0 w.heap.size 55 #[.string name, .int .i64 params, .int .i64 locals, .bool result, .slice A n c] := by rw [hw0]; exact Blk.new w _ _
  have hB0 : Below w.heap.size w w0 := by rw [hw0]; exact (Below.refl _ _).alloc (Nat.le_refl _) _
  have hz0 : w0.heap.size = w.heap.size + 1 := by rw [hw0]; simp
  have HW := Lib.hid hw0
  have HZ := Lib.hid hz0
  have HN := Lib.hid hnl
  have HBP := Lib.hid bP
  have c4 : w0.cell? ⟨w.heap.size, 4, none⟩ = some (.slice A n c) := bP.cell 4
  have HS0 : Hid (BW w0 ((w0.alloc (.cells #[] 89)).alloc (.cells #[] 3)) (w.heap.size + 1) 0 0 (w.heap.size + 1 + 1) 0 0 [] []) := by
    show BW _ _ _ _ _ _ _ _ _ _
    rw [← hz0]
    refine ⟨(World.ownsRow_made (base := w0.heap.size) (e := 89) (size := 5) w0 #[] 0 (Nat.le_refl _) (by simp) (by simp)).alloc _, ?_, by omega, ((Below.refl _ _).alloc (Nat.le_refl _) _).alloc (by simp) _⟩
    have := World.ownsRow_made (base := w0.heap.size) (e := 3) (size := 1) (w0.alloc (.cells #[] 89)) #[] 0 (by simp) (by simp) (by simp)
    simpa [ixV] using this
  clear hw0 hnl bP hr hz0
  go_enter Try.func48, Try.ntmps48
  go_wp2_with fail
  rw [← HW.out]
  try go_wp2_with fail
  go_loopw [5, 6, 7] (fun o p i wr => ∃ (k go no co gp np cp : Nat) (bs : List CodeBlock) (op : List Nat), o = .slice (some ⟨go, 0, none⟩) no co ∧ p = .slice (some ⟨gp, 0, none⟩) np cp ∧ i = .int .i64 k ∧ k ≤ n ∧ Hid (BInv k bs op) ∧ Hid (blkRun (-1) code 0 [] [] code = blkRun (-1) code k bs op (code.drop k)) ∧ Hid (BW w0 wr go no co gp np cp bs op)) (fun _ _ i _ => n - (intOf i).toNat)
  case atStart => exact ⟨0, _, _, _, _, _, _, [], [], rfl, rfl, rfl, Nat.zero_le _, BInv.nil, Lib.hid rfl, HS0⟩
  case round =>
    clear HS0
    obtain ⟨k, go, no, co, gp, np, cp, bs, op, rfl, rfl, rfl, hk2, HI, HRUN, HS⟩ := hrel
    have HNO := Lib.hid (own_n HS.out.out)
    have HNP := Lib.hid (own_n HS.out.opn)
    have hn6 : np ≤ 6 := by have := HNP.out.1; have := HI.out.six; omega
    have hno : no ≤ 120 := by have := HNO.out.1; have := HI.out.len; omega
    have d4 : wr.cell? ⟨w.heap.size, 4, none⟩ = some (.slice A n c) := (HBP.out.below HS.out.below (by have := HZ.out; omega)).cell 4
    have hbr := HS.out.below
    have hbz := hbr.size
    by_cases hlt : k < n
    case neg =>
      have hkn : k = n := by omega
      subst hkn
      have hrun := HRUN.out
      rw [List.drop_of_length_le (by have := HN.out; omega), blkRun] at hrun
      by_cases hp : np = 0
      case pos =>
        have hop : op = [] := List.eq_nil_of_length_eq_zero (by have := HNP.out.1; omega)
        rw [if_pos hop] at hrun
        have HRR := Lib.hid hrun
        clear hrun hop
        subst hp
        go_wp2_with fail
        go_ret3
        unfold BlkQ
        rw [HRR.out]
        exact ⟨_, rfl, by obtain ⟨F, f1, f2, f3⟩ := lv_cb HS.out.out; exact ⟨F, f1, f2.more (by have := hB0.size; omega) (Nat.le_refl _), f3⟩, hB0.trans (hbr.mono hB0.size)⟩
      case neg =>
        have hop : op ≠ [] := fun e => hp (by have := HNP.out.1; rw [e] at this; simpa using this)
        rw [if_neg hop] at hrun
        have HRR := Lib.hid hrun
        clear hrun hop
        have hpp : (0 : Int) < (np : Int) := by omega
        have hpd : decide ((0 : Int) < (np : Int)) = true := decide_eq_true hpp
        go_wp2_with fail
        go_quiet (fail)
        have hbn := below_drewN (Below.refl wr.heap.size wr) nq
        go_wp2_with fail
        go_ret3
        unfold BlkQ
        rw [HRR.out]
        exact ⟨_, rfl, nil_cb _ _ (by have := hbn.size; have := hB0.size; omega) _ _ (by decide), hB0.trans ((hbr.trans (hbn.mono hbz)).mono hB0.size)⟩
    obtain ⟨g, off, rfl, hg, hat⟩ := hins (by omega)
    have HAT := Lib.hid (insAt_below hat (hB0.trans (hbr.mono hB0.size)) hg)
    obtain ⟨x, hx, _⟩ := at_lt HN.out hlt
    obtain ⟨io, ia⟩ := x
    have HX := Lib.hid hx
    have q0 : wr.cell? ⟨g, off + k * 2, none⟩ = some (.int .i64 io) := (HAT.out k _ HX.out).1
    have q1 : wr.cell? ⟨g, off + k * 2 + 1, none⟩ = some (.int .i64 ia) := (HAT.out k _ HX.out).2
    clear hx hat
    obtain ⟨wa, hwa⟩ : ∃ W, W = wr.alloc (.cells #[.int .i64 io, .int .i64 ia] 95) := ⟨_, rfl⟩
    have bx : Blk wa wr.heap.size 95 #[.int .i64 io, .int .i64 ia] := by rw [hwa]; exact Blk.new wr _ _
    have hba : Below wr.heap.size wr wa := by rw [hwa]; exact (Below.refl _ _).alloc (Nat.le_refl _) _
    have HSA := Lib.hid (HS.out.step hba)
    have HWA := Lib.hid hwa
    clear hwa
    go_wp2_with fail
    rw [← HWA.out]
    have b0 : wa.cell? ⟨wr.heap.size, 0, none⟩ = some (.int .i64 io) := bx.cell 0
    have b1 : wa.cell? ⟨wr.heap.size, 1, none⟩ = some (.int .i64 ia) := bx.cell 1
    try go_wp2_with fail
    refine (specOpens_any io _).mono ?_
    rintro e w' ⟨rfl, rfl⟩
    by_cases hob : opensB io = true
    case pos =>
      rw [hob]
      by_cases h6 : np = 6
      case pos =>
        have HRR : Hid (blkRun (-1) code 0 [] [] code = ([], (k : Int), 4)) := HRUN.out.trans (run_no HX.out (by rw [blkStep, if_pos (by exact hob), if_pos (by have := HNP.out.1; omega)]) (by decide))
        subst h6
        clear hob
        go_wp2_with fail
        go_ret3
        unfold BlkQ
        rw [HRR.out]
        exact ⟨_, rfl, nil_cb _ _ (by have := hB0.size; have := HSA.out.below.size; omega) _ _ (by decide), hB0.trans (HSA.out.below.mono hB0.size)⟩
      have h6d : ((np : Int) == 6) = false := by simp; omega
      have HST : Hid (blkStep (-1) code k bs op ⟨io, ia⟩ = (0, bs ++ [⟨(k : Int), -1, (-1), 0, decide (ia = 1)⟩], op ++ [no])) := by show _ = _; rw [HNO.out.1, blkStep, if_pos (by exact hob), if_neg (by have := HNP.out.1; omega)]
      clear hob
      obtain ⟨rb, hrb⟩ : ∃ b : Bool, b = (ia == 1) := ⟨_, rfl⟩
      have HRB : Hid (decide (ia = 1) = rb) := by show _ = _; rw [hrb]; by_cases h : ia = 1 <;> simp [h]
      have hrb2 : (ia == 1) = rb := hrb.symm
      clear hrb
      have hs1 := HSA.out.opn.alloc (.cells #[.int .i64 (no : Int)] 3)
      have HC1 : Hid (SrcOk (wa.alloc (.cells #[.int .i64 (no : Int)] 3)) (.slice (some ⟨wa.heap.size, 0, none⟩) 1 1) 1 1 (ixV [no])) := .inr ⟨⟨wa.heap.size, 0, none⟩, 1, rfl, rfl, World.news_of_block (heap_alloc_new wa _)⟩
      have HB2 : Hid (Below w0.heap.size w0 (wa.alloc (.cells #[.int .i64 (no : Int)] 3))) := HSA.out.below.alloc HSA.out.below.size _
      go_wp2_with (first | (at_builtin; refine wpList_append_src rfl _ _ 117 rfl w0.heap.size 3 i1 (.int .i64 0) 1 8 Try.underlying117 hk hx0 hx1 hx2 rfl (by decide) (.slice (some ⟨gp, 0, none⟩) np cp) _ _ rfl hs1 _ _ _ rfl HC1.out (one_ix _) (by have := HNP.out.1; simp only [maxLen]; omega) (by have := HNP.out.1; omega) HB2.out.size ?_; intro v' wb hown' hgrow hor; obtain ⟨gq, cq, rfl, _, _⟩ := hown'.form (by simp); have HPO : Hid (wb.ownsRow w0.heap.size 3 1 (.slice (some ⟨gq, 0, none⟩) (op.length + 1) cq) (op ++ [no]).length (ixV (op ++ [no]))) := (by show World.ownsRow _ _ _ _ _ _ _; rw [ixV, List.map_append, List.length_append]; exact hown'); have HOK : Hid (wb.ownsRow w0.heap.size 89 5 (.slice (some ⟨go, 0, none⟩) no co) bs.length (cbV bs)) := (HSA.out.out.alloc _).kept hgrow (.inr (fun e => HSA.out.ne (by simpa [Value.ownBlock] using e))); have HNE : Hid (go ≠ gq) := (fun e => (by subst e; rcases hor with h | h; exact HSA.out.ne (by simpa [Value.ownBlock] using h); have := (own_n HSA.out.out).2.2.1; simp [Value.ownBlock] at h; omega)); have HB3 : Hid (Below w0.heap.size w0 wb) := HB2.out.grown hgrow HB2.out.size (fun q hq => (hs1.lt q hq).1); have bx3 : Blk wb wr.heap.size 95 #[.int .i64 io, .int .i64 ia] := (hgrow.block _ (bx.alloc _).lt (fun e => (by have h3 := (own_n HS.out.opn).2.2.1; simp [Value.ownBlock] at e; omega))).trans (bx.alloc _); have b0' : wb.cell? ⟨wr.heap.size, 0, none⟩ = some (.int .i64 io) := bx3.cell 0; have b1' : wb.cell? ⟨wr.heap.size, 1, none⟩ = some (.int .i64 ia) := bx3.cell 1; clear hs1 hgrow hor hown'; have hs2 := HOK.out.alloc (.cells #[.int .i64 (k : Int), .int .i64 (-1), .int .i64 (-1), .int .i64 0, .bool rb] 89); have HC2 : Hid (SrcOk (wb.alloc (.cells #[.int .i64 (k : Int), .int .i64 (-1), .int .i64 (-1), .int .i64 0, .bool rb] 89)) (.slice (some ⟨wb.heap.size, 0, none⟩) 1 1) 5 1 (cbV [⟨(k : Int), -1, (-1), 0, rb⟩])) := .inr ⟨⟨wb.heap.size, 0, none⟩, 1, rfl, rfl, World.news_of_block (heap_alloc_new wb _)⟩; have HB4 : Hid (Below w0.heap.size w0 (wb.alloc (.cells #[.int .i64 (k : Int), .int .i64 (-1), .int .i64 (-1), .int .i64 0, .bool rb] 89))) := HB3.out.alloc HB3.out.size _) | (at_builtin; refine wpList_append_src rfl _ _ 50 rfl w0.heap.size 89 i0 (.agg #[.int .i64 0, .int .i64 0, .int .i64 0, .int .i64 0, .bool false]) 5 40 Try.underlying50 hi hy0 hy1 hy2 rfl (by decide) (.slice (some ⟨go, 0, none⟩) no co) _ _ rfl hs2 _ _ _ rfl HC2.out (one_cb _) (by have := HNO.out.1; simp only [maxLen]; omega) (by have := HNO.out.1; omega) HB4.out.size ?_; intro v2 wd hown2 hgrow2 hor2; obtain ⟨gr, cr, rfl, _, _⟩ := hown2.form (by simp)))
      have HBW : Hid (BW w0 wd gr (bs.length + 1) cr gq (op.length + 1) cq (bs ++ [⟨(k : Int), -1, (-1), 0, rb⟩]) (op ++ [no])) := by
        refine ⟨by rw [cbV_append, List.length_append]; exact hown2, (HPO.out.alloc _).kept hgrow2 (.inr (fun e => HNE.out (by simpa [Value.ownBlock] using e.symm))), fun e => ?_, HB4.out.grown hgrow2 HB4.out.size (fun q hq => (hs2.lt q hq).1)⟩
        subst e
        rcases hor2 with h | h
        · exact HNE.out (by simpa [Value.ownBlock] using h.symm)
        · have := (own_n HPO.out).2.2.1
          simp [Value.ownBlock] at h
          omega
      go_roundw
      case rel => exact ⟨k + 1, _, _, _, _, _, _, _, _, rfl, rfl, by go_num, by omega, Lib.hid (by rw [HNO.out.1]; exact HI.out.push (by have := HNP.out.1; omega) (-1) rb), Lib.hid (HRUN.out.trans (run_ok HX.out (by rw [HST.out, HRB.out]))), HBW⟩
      case measure => simp [intOf]; omega
    have hob2 : opensB io = false := by simpa using hob
    rw [hob2]
    have hgw : g < wr.heap.size := by have := hB0.size; omega
    by_cases h27 : io = 27
    case pos =>
      have d27 : (io == 27) = true := by simpa using h27
      by_cases hp : np = 0
      case pos =>
        have HRR : Hid (blkRun (-1) code 0 [] [] code = ([], (k : Int), 5)) := HRUN.out.trans (run_no HX.out (by rw [blkStep, if_neg (by rw [hob2]; decide), if_pos (by exact h27)]; rw [List.eq_nil_of_length_eq_zero (show op.length = 0 by have := HNP.out.1; omega)]; rfl) (by decide))
        subst hp
        clear hob h27
        go_wp2_with fail
        go_quiet (fail)
        have HSD := Lib.hid (HSA.out.step (below_drewN (Below.refl _ _) nq))
        go_wp2_with fail
        go_ret3
        unfold BlkQ
        rw [HRR.out]
        exact ⟨_, rfl, nil_cb _ _ (by have := hB0.size; have := HSD.out.below.size; omega) _ _ (by decide), hB0.trans (HSD.out.below.mono hB0.size)⟩
      obtain ⟨m, rfl⟩ : ∃ m, np = m + 1 := ⟨np - 1, by omega⟩
      obtain ⟨j, hj, hjm⟩ := at_lt HNP.out.1 (show m < m + 1 by omega)
      have hjl := HI.out.lt j hjm
      obtain ⟨b, hb, _⟩ := at_lt rfl hjl
      obtain ⟨a0, ha0, hak⟩ := HI.out.at_ j b hb
      obtain ⟨ba, be, bd, bh, rb⟩ := b
      replace ha0 : ba = (a0 : Int) := ha0
      subst ha0
      obtain ⟨i2, hi2, _⟩ := at_lt HN.out (show a0 < n by omega)
      obtain ⟨jo, ja⟩ := i2
      have HL : Hid (op[op.length - 1]? = some j) := by show _ = _; rw [← HNP.out.1]; exact hj
      have HBJ := Lib.hid hb
      have HOA : Hid (opAt code (a0 : Int) = jo) := opAt_eq hi2
      have HI2 := Lib.hid hi2
      have HJ := Lib.hid hj
      have hm0 : ¬ ((m : Int) < 0) := by omega
      have hm1 : decide ((m : Int) < 0) = false := decide_eq_false hm0
      have hms : ((m + 1 : Nat) : Int) - 1 = (m : Int) := by omega
      have hmz : ((m : Int) + 1 == 0) = false := by simp; omega
      have hmy : ¬ ((m : Int) + 1 = 0) := by omega
      have hmm : m < m + 1 := Nat.lt_succ_self m
      have hjn : j < no := by have := HNO.out.1; omega
      have han : a0 < n := by omega
      have hjn2 : (j : Int) < (no : Int) := by omega
      have han2 : (a0 : Int) < (n : Int) := by omega
      clear hb hi2 hj hjm hjl
      have e0 : wa.cell? ⟨gp, m, none⟩ = some (.int .i64 (j : Int)) := (owns_cell HSA.out.opn (ixV_get HJ.out)).1
      have f0 : wa.cell? ⟨go, j * 5, none⟩ = some (.int .i64 (a0 : Int)) := (owns_cell HSA.out.out ((cbV_get HBJ.out (f := 0) (by decide)).trans rfl)).1
      have f1 : wa.cell? ⟨go, j * 5 + 1, none⟩ = some (.int .i64 be) := (owns_cell HSA.out.out ((cbV_get HBJ.out (f := 1) (by decide)).trans rfl)).1
      have f2 : wa.cell? ⟨go, j * 5 + 2, none⟩ = some (.int .i64 bd) := (owns_cell HSA.out.out ((cbV_get HBJ.out (f := 2) (by decide)).trans rfl)).1
      have f3 : wa.cell? ⟨go, j * 5 + 3, none⟩ = some (.int .i64 bh) := (owns_cell HSA.out.out ((cbV_get HBJ.out (f := 3) (by decide)).trans rfl)).1
      have f4 : wa.cell? ⟨go, j * 5 + 4, none⟩ = some (.bool rb) := (owns_cell HSA.out.out ((cbV_get HBJ.out (f := 4) (by decide)).trans rfl)).1
      have g0 : wa.cell? ⟨g, off + a0 * 2, none⟩ = some (.int .i64 jo) := ((insAt_below HAT.out (hba) (by omega)) a0 _ HI2.out).1
      have d5 : wa.cell? ⟨w.heap.size, 4, none⟩ = some (.slice (some ⟨g, off, none⟩) n c) := (HBP.out.below HSA.out.below (by have := HZ.out; omega)).cell 4
      by_cases hc : jo ≠ 26 ∨ 0 ≤ be
      case pos =>
        have HRR : Hid (blkRun (-1) code 0 [] [] code = ([], (k : Int), 5)) := HRUN.out.trans (run_no HX.out (by rw [blkStep, if_neg (by rw [hob2]; decide), if_pos (by exact h27)]; rw [HL.out]; simp only [HBJ.out]; rw [HOA.out, if_pos hc]) (by decide))
        clear hob h27
        by_cases h26 : jo = 26
        case pos =>
          have k1 : (jo != 26) = false := by simpa using h26
          have k2 : decide ((0 : Int) ≤ be) = true := decide_eq_true (by rcases hc with h | h; exact absurd h26 h; exact h)
          clear hc h26
          go_wp2_with fail
          go_quiet (fail)
          have HSD := Lib.hid (HSA.out.step (below_drewN (Below.refl _ _) nq))
          go_wp2_with fail
          go_ret3
          unfold BlkQ
          rw [HRR.out]
          exact ⟨_, rfl, nil_cb _ _ (by have := hB0.size; have := HSD.out.below.size; omega) _ _ (by decide), hB0.trans (HSD.out.below.mono hB0.size)⟩
        case neg =>
          have k1 : (jo != 26) = true := by simpa using h26
          clear hc h26
          go_wp2_with fail
          go_quiet (fail)
          have HSD := Lib.hid (HSA.out.step (below_drewN (Below.refl _ _) nq))
          go_wp2_with fail
          go_ret3
          unfold BlkQ
          rw [HRR.out]
          exact ⟨_, rfl, nil_cb _ _ (by have := hB0.size; have := HSD.out.below.size; omega) _ _ (by decide), hB0.trans (HSD.out.below.mono hB0.size)⟩
      have h26 : jo = 26 := by omega
      have hbe : ¬ 0 ≤ be := by omega
      have HST : Hid (blkStep (-1) code k bs op ⟨io, ia⟩ = (0, bs.set j ⟨(a0 : Int), (k : Int), bd, bh, rb⟩, op)) := by show _ = _; rw [blkStep, if_neg (by rw [hob2]; decide), if_pos (by exact h27)]; rw [HL.out]; simp only [HBJ.out]; rw [HOA.out, if_neg hc]
      have k1 : (jo != 26) = false := by simpa using h26
      have k2 : decide ((0 : Int) ≤ be) = false := decide_eq_false hbe
      clear hc h26 hbe hob h27
      go_wp2_with fail
      go_quiet (fail)
      obtain ⟨wd, hwd⟩ : ∃ V, V = wa.drewN nq := ⟨_, rfl⟩
      rw [← hwd]
      have hda : Below wa.heap.size wa wd := by rw [hwd]; exact below_drewN (Below.refl _ _) _
      have HSD := Lib.hid (HSA.out.step hda)
      clear e0 f0 f1 f2 f3 f4 g0 d5
      have e0 : wd.cell? ⟨gp, m, none⟩ = some (.int .i64 (j : Int)) := (owns_cell HSD.out.opn (ixV_get HJ.out)).1
      have f0 : wd.cell? ⟨go, j * 5, none⟩ = some (.int .i64 (a0 : Int)) := (owns_cell HSD.out.out ((cbV_get HBJ.out (f := 0) (by decide)).trans rfl)).1
      have f1 : wd.cell? ⟨go, j * 5 + 1, none⟩ = some (.int .i64 be) := (owns_cell HSD.out.out ((cbV_get HBJ.out (f := 1) (by decide)).trans rfl)).1
      have f2 : wd.cell? ⟨go, j * 5 + 2, none⟩ = some (.int .i64 bd) := (owns_cell HSD.out.out ((cbV_get HBJ.out (f := 2) (by decide)).trans rfl)).1
      have f3 : wd.cell? ⟨go, j * 5 + 3, none⟩ = some (.int .i64 bh) := (owns_cell HSD.out.out ((cbV_get HBJ.out (f := 3) (by decide)).trans rfl)).1
      have f4 : wd.cell? ⟨go, j * 5 + 4, none⟩ = some (.bool rb) := (owns_cell HSD.out.out ((cbV_get HBJ.out (f := 4) (by decide)).trans rfl)).1
      have g0 : wd.cell? ⟨g, off + a0 * 2, none⟩ = some (.int .i64 jo) := ((insAt_below HAT.out (hba.trans (hda.mono hba.size)) (by omega)) a0 _ HI2.out).1
      have d5 : wd.cell? ⟨w.heap.size, 4, none⟩ = some (.slice (some ⟨g, off, none⟩) n c) := (HBP.out.below HSD.out.below (by have := HZ.out; omega)).cell 4
      have fz := (owns_cell HSD.out.out ((cbV_get HBJ.out (f := 1) (by decide)).trans rfl)).2
      clear hwd
      go_wp2_with fail
      go_roundw
      case rel => exact ⟨k + 1, _, _, _, _, _, _, _, _, rfl, rfl, by go_num, by omega, Lib.hid (HI.out.set (b2 := ⟨(a0 : Int), (k : Int), bd, bh, rb⟩) HBJ.out rfl), Lib.hid (HRUN.out.trans (run_ok HX.out HST.out)), Lib.hid (HSD.out.put (b2 := ⟨(a0 : Int), (k : Int), bd, bh, rb⟩) (u := .int .i64 (k : Int)) HBJ.out (f := 1) (by decide) rfl)⟩
      case measure => simp [intOf]; omega
    have d27 : (io == 27) = false := by simpa using h27
    by_cases h28 : io = 28
    case pos =>
      have d28 : (io == 28) = true := by simpa using h28
      by_cases hp : np = 0
      case pos =>
        have HRR : Hid (blkRun (-1) code 0 [] [] code = ([], (k : Int), 5)) := HRUN.out.trans (run_no HX.out (by rw [blkStep, if_neg (by rw [hob2]; decide), if_neg (by exact h27), if_pos (by exact h28)]; rw [List.eq_nil_of_length_eq_zero (show op.length = 0 by have := HNP.out.1; omega)]; rfl) (by decide))
        subst hp
        clear hob h27 h28
        go_wp2_with fail
        go_ret3
        unfold BlkQ
        rw [HRR.out]
        exact ⟨_, rfl, nil_cb _ _ (by have := hB0.size; have := HSA.out.below.size; omega) _ _ (by decide), hB0.trans (HSA.out.below.mono hB0.size)⟩
      obtain ⟨m, rfl⟩ : ∃ m, np = m + 1 := ⟨np - 1, by omega⟩
      obtain ⟨j, hj, hjm⟩ := at_lt HNP.out.1 (show m < m + 1 by omega)
      have hjl := HI.out.lt j hjm
      obtain ⟨b, hb, _⟩ := at_lt rfl hjl
      obtain ⟨a0, ha0, hak⟩ := HI.out.at_ j b hb
      obtain ⟨ba, be, bd, bh, rb⟩ := b
      replace ha0 : ba = (a0 : Int) := ha0
      subst ha0
      obtain ⟨i2, hi2, _⟩ := at_lt HN.out (show a0 < n by omega)
      obtain ⟨jo, ja⟩ := i2
      have HL : Hid (op[op.length - 1]? = some j) := by show _ = _; rw [← HNP.out.1]; exact hj
      have HBJ := Lib.hid hb
      have HOA : Hid (opAt code (a0 : Int) = jo) := opAt_eq hi2
      have HI2 := Lib.hid hi2
      have HJ := Lib.hid hj
      have hm0 : ¬ ((m : Int) < 0) := by omega
      have hm1 : decide ((m : Int) < 0) = false := decide_eq_false hm0
      have hms : ((m + 1 : Nat) : Int) - 1 = (m : Int) := by omega
      have hmz : ((m : Int) + 1 == 0) = false := by simp; omega
      have hmy : ¬ ((m : Int) + 1 = 0) := by omega
      have hmm : m < m + 1 := Nat.lt_succ_self m
      have hjn : j < no := by have := HNO.out.1; omega
      have han : a0 < n := by omega
      have hjn2 : (j : Int) < (no : Int) := by omega
      have han2 : (a0 : Int) < (n : Int) := by omega
      clear hb hi2 hj hjm hjl
      have e0 : wa.cell? ⟨gp, m, none⟩ = some (.int .i64 (j : Int)) := (owns_cell HSA.out.opn (ixV_get HJ.out)).1
      have f0 : wa.cell? ⟨go, j * 5, none⟩ = some (.int .i64 (a0 : Int)) := (owns_cell HSA.out.out ((cbV_get HBJ.out (f := 0) (by decide)).trans rfl)).1
      have f1 : wa.cell? ⟨go, j * 5 + 1, none⟩ = some (.int .i64 be) := (owns_cell HSA.out.out ((cbV_get HBJ.out (f := 1) (by decide)).trans rfl)).1
      have f2 : wa.cell? ⟨go, j * 5 + 2, none⟩ = some (.int .i64 bd) := (owns_cell HSA.out.out ((cbV_get HBJ.out (f := 2) (by decide)).trans rfl)).1
      have f3 : wa.cell? ⟨go, j * 5 + 3, none⟩ = some (.int .i64 bh) := (owns_cell HSA.out.out ((cbV_get HBJ.out (f := 3) (by decide)).trans rfl)).1
      have f4 : wa.cell? ⟨go, j * 5 + 4, none⟩ = some (.bool rb) := (owns_cell HSA.out.out ((cbV_get HBJ.out (f := 4) (by decide)).trans rfl)).1
      have g0 : wa.cell? ⟨g, off + a0 * 2, none⟩ = some (.int .i64 jo) := ((insAt_below HAT.out (hba) (by omega)) a0 _ HI2.out).1
      have d5 : wa.cell? ⟨w.heap.size, 4, none⟩ = some (.slice (some ⟨g, off, none⟩) n c) := (HBP.out.below HSA.out.below (by have := HZ.out; omega)).cell 4
      by_cases h26 : jo = 26
      case neg =>
        have HST : Hid (blkStep (-1) code k bs op ⟨io, ia⟩ = (0, bs.set j ⟨(a0 : Int), be, (k : Int), bh, rb⟩, op.dropLast)) := by show _ = _; rw [blkStep, if_neg (by rw [hob2]; decide), if_neg (by exact h27), if_pos (by exact h28)]; rw [HL.out]; simp only [HBJ.out]; rw [HOA.out, if_neg (fun h => h26 h.1)]
        have k1 : (jo == 26) = false := by simpa using h26
        clear h26
        have hmc : m ≤ cp := by have := HNP.out.2.2.2; have := HNP.out.1; omega
        have hcp0 : ¬ cp = 0 := by have := HNP.out.2.2.2; have := HNP.out.1; omega
        clear hob h27 h28
        obtain ⟨wb, hwb⟩ : ∃ W, W = wa.alloc (.cells #[.int .i64 (a0 : Int), .int .i64 be, .int .i64 bd, .int .i64 bh, .bool rb] 89) := ⟨_, rfl⟩
        have bb : Blk wb wa.heap.size 89 #[.int .i64 (a0 : Int), .int .i64 be, .int .i64 bd, .int .i64 bh, .bool rb] := by rw [hwb]; exact Blk.new wa _ _
        have hbb : Below wa.heap.size wa wb := by rw [hwb]; exact (Below.refl _ _).alloc (Nat.le_refl _) _
        have HSB := Lib.hid (HSA.out.step hbb)
        have E0 : wb.cell? ⟨gp, m, none⟩ = some (.int .i64 (j : Int)) := (owns_cell HSB.out.opn (ixV_get HJ.out)).1
        have F0 : wb.cell? ⟨go, j * 5, none⟩ = some (.int .i64 (a0 : Int)) := (owns_cell HSB.out.out ((cbV_get HBJ.out (f := 0) (by decide)).trans rfl)).1
        have F1 : wb.cell? ⟨go, j * 5 + 1, none⟩ = some (.int .i64 be) := (owns_cell HSB.out.out ((cbV_get HBJ.out (f := 1) (by decide)).trans rfl)).1
        have F2 : wb.cell? ⟨go, j * 5 + 2, none⟩ = some (.int .i64 bd) := (owns_cell HSB.out.out ((cbV_get HBJ.out (f := 2) (by decide)).trans rfl)).1
        have F3 : wb.cell? ⟨go, j * 5 + 3, none⟩ = some (.int .i64 bh) := (owns_cell HSB.out.out ((cbV_get HBJ.out (f := 3) (by decide)).trans rfl)).1
        have F4 : wb.cell? ⟨go, j * 5 + 4, none⟩ = some (.bool rb) := (owns_cell HSB.out.out ((cbV_get HBJ.out (f := 4) (by decide)).trans rfl)).1
        have G0 : wb.cell? ⟨g, off + a0 * 2, none⟩ = some (.int .i64 jo) := ((insAt_below HAT.out (hba.trans (hbb.mono hba.size)) (by omega)) a0 _ HI2.out).1
        have D5 : wb.cell? ⟨w.heap.size, 4, none⟩ = some (.slice (some ⟨g, off, none⟩) n c) := (HBP.out.below HSB.out.below (by have := HZ.out; omega)).cell 4
        have t0 : wb.cell? ⟨wa.heap.size, 0, none⟩ = some (.int .i64 (a0 : Int)) := bb.cell 0
        have t1 : wb.cell? ⟨wa.heap.size, 1, none⟩ = some (.int .i64 be) := bb.cell 1
        have t4 : wb.cell? ⟨wa.heap.size, 4, none⟩ = some (.bool rb) := bb.cell 4
        have fz := (owns_cell HSB.out.out ((cbV_get HBJ.out (f := 2) (by decide)).trans rfl)).2
        have HSD := HSB
        clear bb hbb
        subst hwb
        go_wp2_with fail
        go_roundw
        case rel => exact ⟨k + 1, _, _, _, _, _, _, _, _, rfl, rfl, by go_num, by omega, Lib.hid (HI.out.set (b2 := ⟨(a0 : Int), be, (k : Int), bh, rb⟩) HBJ.out rfl).pop, Lib.hid (HRUN.out.trans (run_ok HX.out HST.out)), Lib.hid (HSD.out.put (b2 := ⟨(a0 : Int), be, (k : Int), bh, rb⟩) (u := .int .i64 (k : Int)) HBJ.out (f := 2) (by decide) rfl).pop⟩
        case measure => simp [intOf]; omega
      have k1 : (jo == 26) = true := by simpa using h26
      cases rb with
      | false =>
        have HST : Hid (blkStep (-1) code k bs op ⟨io, ia⟩ = (0, bs.set j ⟨(a0 : Int), be, (k : Int), bh, false⟩, op.dropLast)) := by show _ = _; rw [blkStep, if_neg (by rw [hob2]; decide), if_neg (by exact h27), if_pos (by exact h28)]; rw [HL.out]; simp only [HBJ.out]; rw [HOA.out, if_neg (fun h => by cases h.2.1)]
        clear h26
        have hmc : m ≤ cp := by have := HNP.out.2.2.2; have := HNP.out.1; omega
        have hcp0 : ¬ cp = 0 := by have := HNP.out.2.2.2; have := HNP.out.1; omega
        clear hob h27 h28
        obtain ⟨wb, hwb⟩ : ∃ W, W = wa.alloc (.cells #[.int .i64 (a0 : Int), .int .i64 be, .int .i64 bd, .int .i64 bh, .bool false] 89) := ⟨_, rfl⟩
        have bb : Blk wb wa.heap.size 89 #[.int .i64 (a0 : Int), .int .i64 be, .int .i64 bd, .int .i64 bh, .bool false] := by rw [hwb]; exact Blk.new wa _ _
        have hbb : Below wa.heap.size wa wb := by rw [hwb]; exact (Below.refl _ _).alloc (Nat.le_refl _) _
        have HSB := Lib.hid (HSA.out.step hbb)
        have E0 : wb.cell? ⟨gp, m, none⟩ = some (.int .i64 (j : Int)) := (owns_cell HSB.out.opn (ixV_get HJ.out)).1
        have F0 : wb.cell? ⟨go, j * 5, none⟩ = some (.int .i64 (a0 : Int)) := (owns_cell HSB.out.out ((cbV_get HBJ.out (f := 0) (by decide)).trans rfl)).1
        have F1 : wb.cell? ⟨go, j * 5 + 1, none⟩ = some (.int .i64 be) := (owns_cell HSB.out.out ((cbV_get HBJ.out (f := 1) (by decide)).trans rfl)).1
        have F2 : wb.cell? ⟨go, j * 5 + 2, none⟩ = some (.int .i64 bd) := (owns_cell HSB.out.out ((cbV_get HBJ.out (f := 2) (by decide)).trans rfl)).1
        have F3 : wb.cell? ⟨go, j * 5 + 3, none⟩ = some (.int .i64 bh) := (owns_cell HSB.out.out ((cbV_get HBJ.out (f := 3) (by decide)).trans rfl)).1
        have F4 : wb.cell? ⟨go, j * 5 + 4, none⟩ = some (.bool false) := (owns_cell HSB.out.out ((cbV_get HBJ.out (f := 4) (by decide)).trans rfl)).1
        have G0 : wb.cell? ⟨g, off + a0 * 2, none⟩ = some (.int .i64 jo) := ((insAt_below HAT.out (hba.trans (hbb.mono hba.size)) (by omega)) a0 _ HI2.out).1
        have D5 : wb.cell? ⟨w.heap.size, 4, none⟩ = some (.slice (some ⟨g, off, none⟩) n c) := (HBP.out.below HSB.out.below (by have := HZ.out; omega)).cell 4
        have t0 : wb.cell? ⟨wa.heap.size, 0, none⟩ = some (.int .i64 (a0 : Int)) := bb.cell 0
        have t1 : wb.cell? ⟨wa.heap.size, 1, none⟩ = some (.int .i64 be) := bb.cell 1
        have t4 : wb.cell? ⟨wa.heap.size, 4, none⟩ = some (.bool false) := bb.cell 4
        have fz := (owns_cell HSB.out.out ((cbV_get HBJ.out (f := 2) (by decide)).trans rfl)).2
        have HSD := HSB
        clear bb hbb
        subst hwb
        go_wp2_with fail
        go_roundw
        case rel => exact ⟨k + 1, _, _, _, _, _, _, _, _, rfl, rfl, by go_num, by omega, Lib.hid (HI.out.set (b2 := ⟨(a0 : Int), be, (k : Int), bh, false⟩) HBJ.out rfl).pop, Lib.hid (HRUN.out.trans (run_ok HX.out HST.out)), Lib.hid (HSD.out.put (b2 := ⟨(a0 : Int), be, (k : Int), bh, false⟩) (u := .int .i64 (k : Int)) HBJ.out (f := 2) (by decide) rfl).pop⟩
        case measure => simp [intOf]; omega
      | true =>
        by_cases hbe : be < 0
        case neg =>
          have HST : Hid (blkStep (-1) code k bs op ⟨io, ia⟩ = (0, bs.set j ⟨(a0 : Int), be, (k : Int), bh, true⟩, op.dropLast)) := by show _ = _; rw [blkStep, if_neg (by rw [hob2]; decide), if_neg (by exact h27), if_pos (by exact h28)]; rw [HL.out]; simp only [HBJ.out]; rw [HOA.out, if_neg (fun h => hbe h.2.2)]
          have k2 : decide (be < 0) = false := decide_eq_false hbe
          clear h26 hbe
          have hmc : m ≤ cp := by have := HNP.out.2.2.2; have := HNP.out.1; omega
          have hcp0 : ¬ cp = 0 := by have := HNP.out.2.2.2; have := HNP.out.1; omega
          clear hob h27 h28
          obtain ⟨wb, hwb⟩ : ∃ W, W = wa.alloc (.cells #[.int .i64 (a0 : Int), .int .i64 be, .int .i64 bd, .int .i64 bh, .bool true] 89) := ⟨_, rfl⟩
          have bb : Blk wb wa.heap.size 89 #[.int .i64 (a0 : Int), .int .i64 be, .int .i64 bd, .int .i64 bh, .bool true] := by rw [hwb]; exact Blk.new wa _ _
          have hbb : Below wa.heap.size wa wb := by rw [hwb]; exact (Below.refl _ _).alloc (Nat.le_refl _) _
          have HSB := Lib.hid (HSA.out.step hbb)
          have E0 : wb.cell? ⟨gp, m, none⟩ = some (.int .i64 (j : Int)) := (owns_cell HSB.out.opn (ixV_get HJ.out)).1
          have F0 : wb.cell? ⟨go, j * 5, none⟩ = some (.int .i64 (a0 : Int)) := (owns_cell HSB.out.out ((cbV_get HBJ.out (f := 0) (by decide)).trans rfl)).1
          have F1 : wb.cell? ⟨go, j * 5 + 1, none⟩ = some (.int .i64 be) := (owns_cell HSB.out.out ((cbV_get HBJ.out (f := 1) (by decide)).trans rfl)).1
          have F2 : wb.cell? ⟨go, j * 5 + 2, none⟩ = some (.int .i64 bd) := (owns_cell HSB.out.out ((cbV_get HBJ.out (f := 2) (by decide)).trans rfl)).1
          have F3 : wb.cell? ⟨go, j * 5 + 3, none⟩ = some (.int .i64 bh) := (owns_cell HSB.out.out ((cbV_get HBJ.out (f := 3) (by decide)).trans rfl)).1
          have F4 : wb.cell? ⟨go, j * 5 + 4, none⟩ = some (.bool true) := (owns_cell HSB.out.out ((cbV_get HBJ.out (f := 4) (by decide)).trans rfl)).1
          have G0 : wb.cell? ⟨g, off + a0 * 2, none⟩ = some (.int .i64 jo) := ((insAt_below HAT.out (hba.trans (hbb.mono hba.size)) (by omega)) a0 _ HI2.out).1
          have D5 : wb.cell? ⟨w.heap.size, 4, none⟩ = some (.slice (some ⟨g, off, none⟩) n c) := (HBP.out.below HSB.out.below (by have := HZ.out; omega)).cell 4
          have t0 : wb.cell? ⟨wa.heap.size, 0, none⟩ = some (.int .i64 (a0 : Int)) := bb.cell 0
          have t1 : wb.cell? ⟨wa.heap.size, 1, none⟩ = some (.int .i64 be) := bb.cell 1
          have t4 : wb.cell? ⟨wa.heap.size, 4, none⟩ = some (.bool true) := bb.cell 4
          have fz := (owns_cell HSB.out.out ((cbV_get HBJ.out (f := 2) (by decide)).trans rfl)).2
          have HSD := HSB
          clear bb hbb
          subst hwb
          go_wp2_with fail
          go_roundw
          case rel => exact ⟨k + 1, _, _, _, _, _, _, _, _, rfl, rfl, by go_num, by omega, Lib.hid (HI.out.set (b2 := ⟨(a0 : Int), be, (k : Int), bh, true⟩) HBJ.out rfl).pop, Lib.hid (HRUN.out.trans (run_ok HX.out HST.out)), Lib.hid (HSD.out.put (b2 := ⟨(a0 : Int), be, (k : Int), bh, true⟩) (u := .int .i64 (k : Int)) HBJ.out (f := 2) (by decide) rfl).pop⟩
          case measure => simp [intOf]; omega
        case pos =>
          have HRR : Hid (blkRun (-1) code 0 [] [] code = ([], (k : Int), 7)) := HRUN.out.trans (run_no HX.out (by rw [blkStep, if_neg (by rw [hob2]; decide), if_neg (by exact h27), if_pos (by exact h28)]; rw [HL.out]; simp only [HBJ.out]; rw [HOA.out, if_pos ⟨h26, by first | rfl | trivial, hbe⟩]) (by decide))
          have k2 : decide (be < 0) = true := decide_eq_true hbe
          clear hob h27 h28 h26 hbe
          obtain ⟨wb, hwb⟩ : ∃ W, W = wa.alloc (.cells #[.int .i64 (a0 : Int), .int .i64 be, .int .i64 bd, .int .i64 bh, .bool true] 89) := ⟨_, rfl⟩
          have bb : Blk wb wa.heap.size 89 #[.int .i64 (a0 : Int), .int .i64 be, .int .i64 bd, .int .i64 bh, .bool true] := by rw [hwb]; exact Blk.new wa _ _
          have hbb : Below wa.heap.size wa wb := by rw [hwb]; exact (Below.refl _ _).alloc (Nat.le_refl _) _
          have HSB := Lib.hid (HSA.out.step hbb)
          have E0 : wb.cell? ⟨gp, m, none⟩ = some (.int .i64 (j : Int)) := (owns_cell HSB.out.opn (ixV_get HJ.out)).1
          have F0 : wb.cell? ⟨go, j * 5, none⟩ = some (.int .i64 (a0 : Int)) := (owns_cell HSB.out.out ((cbV_get HBJ.out (f := 0) (by decide)).trans rfl)).1
          have F1 : wb.cell? ⟨go, j * 5 + 1, none⟩ = some (.int .i64 be) := (owns_cell HSB.out.out ((cbV_get HBJ.out (f := 1) (by decide)).trans rfl)).1
          have F2 : wb.cell? ⟨go, j * 5 + 2, none⟩ = some (.int .i64 bd) := (owns_cell HSB.out.out ((cbV_get HBJ.out (f := 2) (by decide)).trans rfl)).1
          have F3 : wb.cell? ⟨go, j * 5 + 3, none⟩ = some (.int .i64 bh) := (owns_cell HSB.out.out ((cbV_get HBJ.out (f := 3) (by decide)).trans rfl)).1
          have F4 : wb.cell? ⟨go, j * 5 + 4, none⟩ = some (.bool true) := (owns_cell HSB.out.out ((cbV_get HBJ.out (f := 4) (by decide)).trans rfl)).1
          have G0 : wb.cell? ⟨g, off + a0 * 2, none⟩ = some (.int .i64 jo) := ((insAt_below HAT.out (hba.trans (hbb.mono hba.size)) (by omega)) a0 _ HI2.out).1
          have D5 : wb.cell? ⟨w.heap.size, 4, none⟩ = some (.slice (some ⟨g, off, none⟩) n c) := (HBP.out.below HSB.out.below (by have := HZ.out; omega)).cell 4
          have t0 : wb.cell? ⟨wa.heap.size, 0, none⟩ = some (.int .i64 (a0 : Int)) := bb.cell 0
          have t1 : wb.cell? ⟨wa.heap.size, 1, none⟩ = some (.int .i64 be) := bb.cell 1
          have t4 : wb.cell? ⟨wa.heap.size, 4, none⟩ = some (.bool true) := bb.cell 4
          have fz := (owns_cell HSB.out.out ((cbV_get HBJ.out (f := 2) (by decide)).trans rfl)).2
          have HSD := HSB
          clear bb hbb
          subst hwb
          go_wp2_with fail
          go_ret3
          unfold BlkQ
          rw [HRR.out]
          exact ⟨_, rfl, nil_cb _ _ (by have := hB0.size; have := HSB.out.below.size; omega) _ _ (by decide), hB0.trans (HSB.out.below.mono hB0.size)⟩
    have d28 : (io == 28) = false := by simpa using h28
    have HST : Hid (blkStep (-1) code k bs op ⟨io, ia⟩ = (0, bs, op)) := by show _ = _; rw [blkStep, if_neg (by rw [hob2]; decide), if_neg (by exact h27), if_neg (by exact h28)]
    clear hob h27 h28
    go_wp2_with fail
    go_roundw
    case rel => exact ⟨k + 1, _, _, _, _, _, _, _, _, rfl, rfl, by go_num, by omega, Lib.hid HI.out.next, Lib.hid (HRUN.out.trans (run_ok HX.out HST.out)), HSA⟩
    case measure => simp [intOf]; omega
end Go.Proofs.Ytnedcpoengcbaaa

