/-
  slices.IndexFunc and slices.DeleteFunc at []Section: the walks; spec.l17Strip; StripOwn.
-/
import Derived.Test.YtlkfaednolmfkaaDel
namespace Go.Proofs.Ytlkfaednolmfkaa
open Go.RowKit
set_option linter.unusedVariables false
set_option linter.unusedSimpArgs false
set_option linter.unnecessarySimpa false
set_option maxRecDepth 16000

theorem own_cases (p : Section → Bool) : ∀ ts : List Section, (∀ (j : Nat) (t : Section), ts[j]? = some t → p t = false) ∨ ∃ (k : Nat) (t : Section), ts[k]? = some t ∧ p t = true ∧ ∀ (j : Nat) (t : Section), j < k → ts[j]? = some t → p t = false
  | [] => .inl (by simp)
  | t :: l => by
    cases hb : p t
    · rcases own_cases p l with h | ⟨k, x, h1, h2, h3⟩
      · refine .inl fun j u hu => ?_
        cases j with
        | zero => simp at hu; subst hu; exact hb
        | succ j => exact h j u (by simpa using hu)
      · refine .inr ⟨k + 1, x, by simpa using h1, h2, fun j u hj hu => ?_⟩
        cases j with
        | zero => simp at hu; subst hu; exact hb
        | succ j => exact h3 j u (by omega) (by simpa using hu)
    · exact .inr ⟨0, t, by simp, hb, fun j u hj => by omega⟩
def PredS (fid : Nat) (caps : Array Value) : Prop := ∀ (id : Int) (name bytes : ByteArray) (W : World),
  Calls Try.prog fid (#[.agg #[.int .i64 id, .string name, .string bytes]] ++ caps) W fun e w' => e = .returned (.bool (isOwnB ⟨id, name, bytes⟩)) ∧ Below W.heap.size W w'
def EnterS (fid : Nat) : Prop := ∀ a W, Sem.run Try.prog (callFunc fid a) W = .ok (.enter fid a) W

set_option maxHeartbeats 1600000 in
theorem idxfS_any (fid : Nat) (caps : Array Value) {B : Nat} {v : Value} {ts : List Section} {w : World} (hB : B ≤ w.heap.size) (h : Rep w B (.row 3 (ts.flatMap Section.pd)) v) (hcf0 : EnterS fid) (hp : PredS fid caps) :
    Calls Try.prog 77 #[v, .func (.func fid) #[] caps] w fun e w' => e = .returned (.int .i64 (idxP isOwnB ts)) ∧ Below w.heap.size w w' := by
  have hcf : ∀ a W, Sem.run Try.prog (callFunc fid a) W = .ok (.enter fid a) W := hcf0
  obtain ⟨A, n, c, rfl, hnl, hm, hat⟩ := rep_row Section.pd_length (by decide) h
  unfold maxLen at hm
  have HN := Lib.hid hnl
  have HP := Lib.hid hp
  clear h hnl hp
  go_enter Try.func77, Try.ntmps77
  go_wp2_with fail
  go_loopw [8] (fun i wr => ∃ k : Nat, k ≤ n ∧ i = .int .i64 k ∧ Hid (∀ (j : Nat) (t : Section), j < k → ts[j]? = some t → isOwnB t = false) ∧ Below w.heap.size w wr) (fun i _ => n - (intOf i).toNat)
  case atStart => exact ⟨0, Nat.zero_le _, rfl, Lib.hid fun j t h => absurd h (by omega), Below.refl _ _⟩
  case round =>
    obtain ⟨k, hk, rfl, HQ, hbr⟩ := hrel
    have hsz := hbr.size
    by_cases hlt : k < n
    · obtain ⟨g, off, rfl, hg, hcell⟩ := hat (by omega)
      obtain ⟨t, hx, hmem⟩ := at_lt HN.out hlt
      obtain ⟨id, name, bytes⟩ := t
      have c_id : wr.cell? ⟨g, off + k * 3, none⟩ = some (.int .i64 id) := cell_lit hbr (by omega) (hcell k 0 _ _ hx (by rw [Section.pd_mk]; rfl))
      have c_name : wr.cell? ⟨g, off + k * 3 + 1, none⟩ = some (.string name) := cell_lit hbr (by omega) (hcell k 1 _ _ hx (by rw [Section.pd_mk]; rfl))
      have c_bytes : wr.cell? ⟨g, off + k * 3 + 2, none⟩ = some (.string bytes) := cell_lit hbr (by omega) (hcell k 2 _ _ hx (by rw [Section.pd_mk]; rfl))
      have HX := Lib.hid hx
      have HM := Lib.hid hmem
      clear hx hmem
      clear hcell
      have hlt' : (k : Int) < (n : Int) := by omega
      go_wp2_with fail
      refine (HP.out id name bytes _).mono ?_
      rintro e w2 ⟨rfl, hb2⟩
      have hB2 := hbr.trans (hb2.mono hbr.size)
      cases hb : isOwnB ⟨id, name, bytes⟩
      · have HR := Lib.hid (pre_next HQ.out HX.out hb)
        go_wp2_with fail
        go_roundw
        case rel => exact ⟨k + 1, by omega, by go_num, HR, hB2⟩
        case measure => simp [intOf]; omega
      · have HF := Lib.hid (idxP_hit HQ.out HX.out hb)
        go_wp2_with fail
        go_ret
        exact ⟨ret_int HF.out.symm, hB2⟩
    · have hkn : k = n := by omega
      have HF : Hid (idxP isOwnB ts = -1) := idxP_none fun j t hx => HQ.out j t (by have := (List.getElem?_eq_some_iff.1 hx).1; have := HN.out; omega) hx
      subst hkn
      go_wp2_with fail
      go_ret
      exact ⟨ret_int HF.out.symm, hbr⟩

set_option maxHeartbeats 3200000 in
theorem delfS_any (fid : Nat) (caps : Array Value) {lo hi : Nat} {v : Value} {ts : List Section} {w : World} (hlo : lo ≤ w.heap.size) (h : Lv w lo hi (.row 3 (ts.flatMap Section.pd)) v) (hcf0 : EnterS fid) (hp : PredS fid caps) :
    Calls Try.prog 56 #[v, .func (.func fid) #[] caps] w fun e w' => ∃ u, e = .returned u ∧ Rep w' w'.heap.size (.row 3 ((stripL ts).flatMap Section.pd)) u ∧ Below lo w w' := by
  have hcf : ∀ a W, Sem.run Try.prog (callFunc fid a) W = .ok (.enter fid a) W := hcf0
  have hrep := h.is
  have HI := Lib.hid (idxfS_any fid caps (Nat.le_refl _) hrep hcf0 hp)
  have HR := Lib.hid hrep
  have HP := Lib.hid hp
  obtain ⟨F, hF, hin, hhi⟩ := h
  rw [pd_secC, Hold] at hF
  obtain ⟨A, n, c, rfl, hl, hc, hm, hcase⟩ := hF
  rw [List.length_map, flatMap_length secC_length] at hl
  have hnl : n = ts.length := by omega
  have HN := Lib.hid hnl
  unfold maxLen at hm
  clear hrep hcf0 hp hl hnl
  rcases own_cases isOwnB ts with hno | ⟨k, t, hx, hb, hpre⟩
  · rw [idxP_none hno] at HI
    have HS := Lib.hid (stripL_none hno)
    clear hno hcase hin
    go_enter Try.func56, Try.ntmps56
    go_wp2_with fail
    refine HI.out.mono ?_
    rintro e w1 ⟨rfl, hb1⟩
    go_wp2_with fail
    go_ret
    exact ⟨_, rfl, by rw [HS.out]; exact (HR.out.below hb1).more hb1.size, hb1.mono hlo⟩
  rw [idxP_hit hpre hx hb] at HI
  have hkl := (List.getElem?_eq_some_iff.1 hx).1
  have hkn : k < n := by have := HN.out; omega
  rcases hcase with ⟨h0, _⟩ | ⟨h0, g, off, F', cs, rfl, rfl, ho, hr⟩
  · omega
  obtain ⟨rfl, rfl⟩ := holdL_lits hr
  have hg := hin.2 g (by simp)
  have HO := Lib.hid (fun W (hb1 : Below w.heap.size w W) => Mid.start (ho.below hb1 (by omega)) hx hb hpre)
  have hgl : g < w.heap.size := by omega
  clear ho hr hx hb hpre hin hkl
  have hk1 : ((k : Int) == -1) = false := by simp
  go_enter Try.func56, Try.ntmps56
  go_wp2_with fail
  refine HI.out.mono ?_
  rintro e w1 ⟨rfl, hb1⟩
  have HM0 := Lib.hid (HO.out w1 hb1)
  have hB1 := hb1.mono hlo
  go_wp2_with fail
  go_loopw [5, 6] (fun i j wr => ∃ (a b : Nat), i = .int .i64 a ∧ j = .int .i64 b ∧ a < b ∧ b ≤ n ∧ Hid (Mid wr g off ts a b) ∧ Below lo w wr) (fun _ j _ => n - (intOf j).toNat)
  case atStart => exact ⟨k, k + 1, rfl, by go_num, by omega, by omega, HM0, hB1⟩
  case round =>
    clear hB1 hb1 hk1
    obtain ⟨a, b, rfl, rfl, hab, hbn, HM, hbr⟩ := hrel
    have hsz := hbr.size
    by_cases hlt : b < n
    · obtain ⟨t, hx, _⟩ := at_lt HN.out hlt
      obtain ⟨id, name, bytes⟩ := t
      obtain ⟨c0, c1, c2⟩ := HM.out.read hx
      have HX := Lib.hid hx
      have hlt' : (b : Int) < (n : Int) := by omega
      have hgw := HM.out.lt
      clear hx
      go_wp2_with fail
      have bX : Blk (wr.alloc (.cells #[.int .i64 id, .string name, .string bytes] 64)) wr.heap.size 64 #[.int .i64 id, .string name, .string bytes] := Blk.new wr _ _
      refine (HP.out id name bytes _).mono ?_
      rintro e w2 ⟨rfl, hb2⟩
      have bX2 := bX.step hb2
      have x0 : w2.cell? ⟨wr.heap.size, 0, none⟩ = some (.int .i64 id) := bX2.cell 0
      have x1 : w2.cell? ⟨wr.heap.size, 1, none⟩ = some (.string name) := bX2.cell 1
      have x2 : w2.cell? ⟨wr.heap.size, 2, none⟩ = some (.string bytes) := bX2.cell 2
      have hb2' : Below wr.heap.size wr w2 := ((Below.refl _ _).alloc (Nat.le_refl _) _).trans (hb2.mono (by simp))
      have HM2 := Lib.hid (HM.out.step (hb2'.block g hgw))
      have hB2 := hbr.trans (hb2'.mono (by omega))
      clear bX bX2 c0 c1 c2
      cases hb : isOwnB ⟨id, name, bytes⟩
      · have HK := Lib.hid (HM2.out.keep1 hab HX.out hb)
        have f0 := HM2.out.frozen (off + a * 3)
        have f1 := HM2.out.frozen (off + a * 3 + 1)
        have f2 := HM2.out.frozen (off + a * 3 + 2)
        obtain ⟨u0, d0⟩ := HM2.out.some_ (x := a * 3) (by have := HN.out; omega)
        obtain ⟨u1, d1⟩ := HM2.out.some_ (x := a * 3 + 1) (by have := HN.out; omega)
        obtain ⟨u2, d2⟩ := HM2.out.some_ (x := a * 3 + 2) (by have := HN.out; omega)
        rw [← Nat.add_assoc] at d1 d2
        have hal : (a : Int) < (n : Int) := by omega
        have hB3 := ((hB2.setCell (p := ⟨g, off + a * 3, none⟩) (by show lo ≤ g; omega) (.int .i64 id)).setCell (p := ⟨g, off + a * 3 + 1, none⟩) (by show lo ≤ g; omega) (.string name)).setCell (p := ⟨g, off + a * 3 + 2, none⟩) (by show lo ≤ g; omega) (.string bytes)
        go_wp2_with fail
        go_roundw
        case rel => exact ⟨a + 1, b + 1, by go_num, by go_num, by omega, by omega, HK, hB3⟩
        case measure => simp [intOf]; omega
      · have HK := Lib.hid (HM2.out.skip HX.out hb)
        go_wp2_with fail
        go_roundw
        case rel => exact ⟨a, b + 1, rfl, by go_num, by omega, by omega, HK, hB2⟩
        case measure => simp [intOf]; omega
    · have hbn' : b = n := by omega
      subst hbn'
      have hZ := run_clear_sec wr g (off + a * 3) (b - a) (c - a) (by omega) (fun j hj => by obtain ⟨u, hu⟩ := HM.out.some_ (x := a * 3 + j) (by have := HN.out; omega); rw [Nat.add_assoc, hu]; rfl) (fun j hj => HM.out.frozen _)
      obtain ⟨Z, hcl⟩ := hZ
      have hab' : (a : Int) ≤ (b : Int) := by omega
      have hac : (a : Int) ≤ (c : Int) := by omega
      have hgw := HM.out.lt
      go_wp2_with fail
      go_ret
      exact ⟨_, rfl, HM.out.rep HN.out (by have := HN.out; unfold maxLen; omega) (fun x hx => World.cell?_setCells_out g Z _ wr ⟨g, off + x, none⟩ (fun _ _ => .inl (by show off + x < _; omega))) (by rw [size_setCells']; exact hgw), below_setCells hg.1 _ _ hbr⟩
end Go.Proofs.Ytlkfaednolmfkaa

