/-
  Decimal numerals: spec.l15Digits; strconv.FormatInt, impl.decimal.
-/
import Derived.Test.YtdnadmncbicpdaaDoorTabI
import Derived.Test.YtdnadmncbicpdaaDoorSmall
import Derived.Shelf.Strconv.Itoa4
import Derived.Laws.BytesArg
import Derived.Laws.Concat
import Derived.Laws.Shifts
import Derived.Lib.ItoaLen
import Derived.Deep.RegionHeld3
import Derived.Deep.RegionWith
namespace Go.Proofs.YtdnadmncbicpdaaDoor
open Go.RowKit Go.Shelf
set_option linter.unusedVariables false
set_option linter.unusedSimpArgs false
set_option linter.unnecessarySimpa false
set_option maxRecDepth 16000

/-! ### decimal numerals -/
def itoaB (n : Int) : ByteArray := ⟨(Lib.itoa n).toArray⟩
theorem itoaB_size {n : Int} (h0 : -9223372036854775808 ≤ n) (h1 : n ≤ 9223372036854775807) : (itoaB n).size ≤ 21 := by
  have := Lib.itoa_length_le n h0 h1
  simpa [itoaB, ByteArray.size] using this
theorem byteOf {x : Nat} (h : x < 256) : UInt8.ofNat x = UInt8.ofNat ((x : Nat) : Int).toNat := by simp
theorem itoaB_one {n : Int} (h0 : 0 ≤ n) (h1 : n < 10) : itoaB n = strOfNums [48 + n] := by
  obtain ⟨k, rfl⟩ := Int.eq_ofNat_of_zero_le h0
  have hk : (k : Int).toNat = k := by simp
  rw [itoaB, Lib.itoa, if_neg (by omega), hk, Lib.decDigits, dif_pos (by omega)]
  simp only [strOfNums, List.map_cons, List.map_nil]
  rw [show ((48 : Int) + (k : Int)).toNat = 48 + k by omega]
theorem itoaB_more {n : Int} (h0 : 10 ≤ n) : itoaB n = itoaB (n / 10) ++ strOfNums [48 + n % 10] := by
  obtain ⟨k, rfl⟩ := Int.eq_ofNat_of_zero_le (show 0 ≤ n by omega)
  have hk : (k : Int).toNat = k := by simp
  have hq : ((k : Int) / 10).toNat = k / 10 := by omega
  rw [itoaB, itoaB, Lib.itoa, Lib.itoa, if_neg (by omega), if_neg (by omega), hk, hq, Lib.decDigits, dif_neg (by omega)]
  simp only [strOfNums, List.map_cons, List.map_nil]
  rw [show ((48 : Int) + (k : Int) % 10).toNat = 48 + k % 10 by omega]
  simp [ByteArray.ext_iff]
theorem itoaB_neg {n : Int} (h : n < 0) : itoaB n = ⟨#[45]⟩ ++ itoaB (-n) := by
  rw [itoaB, itoaB, Lib.itoa, Lib.itoa, if_pos h, if_neg (by omega), show (-n).toNat = n.natAbs by omega]
  simp [ByteArray.ext_iff]
theorem itoaB_min : itoaB (-9223372036854775808) = ⟨#[45, 57, 50, 50, 51, 51, 55, 50, 48, 51, 54, 56, 53, 52, 55, 55, 53, 56, 48, 56]⟩ := by
  have : Lib.itoa (-9223372036854775808) = [45, 57, 50, 50, 51, 51, 55, 50, 48, 51, 54, 56, 53, 52, 55, 55, 53, 56, 48, 56] := by kernel_rfl
  rw [itoaB, this]
theorem strBlk {w : World} {g : Nat} {x : Int} (h : Blk w g 5 #[.int .u8 x]) : (convert 54 9 (.slice (some ⟨g, 0, none⟩) 1 1)).run Tryd.prog w = .ok (.string (strOfNums [x])) w := by
  refine run_convert_bytes_arg _ _ _ Tryd.underlying54 Tryd.underlying5 _ 0 1 1 [x] rfl (fun i hi => ?_) _ Tryd.underlying9
  refine (h.cell (0 + i)).trans ?_
  have : i = 0 := by omega
  subst this
  rfl
set_option maxHeartbeats 3200000 in
theorem digits_pos : ∀ (k : Nat) (n : Int), n.toNat ≤ k → 0 ≤ n → n ≤ 9223372036854775807 → ∀ w : World, Calls Tryd.prog 25 #[.int .i64 n] w fun e w' => e = .returned (.string (itoaB n)) ∧ Below w.heap.size w w' := by
  intro k
  induction k with
  | zero =>
    intro n hk h0 h1 w
    have hn : n = 0 := by omega
    subst hn
    rw [show itoaB 0 = strOfNums [48] from itoaB_one (by decide) (by decide)]
    have hst := strBlk (Blk.new w 5 #[.int .u8 48])
    have hw : IntKind.u8.wrap 48 = 48 := by rw [IntKind.wrap_u8]; omega
    go_enter Tryd.func25, Tryd.ntmps25
    go_wp2_with fail
    go_ret
    exact ⟨rfl, (Below.refl _ _).alloc (Nat.le_refl _) _⟩
  | succ k ih =>
    intro n hk h0 h1 w
    by_cases h10 : n < 10
    · rw [itoaB_one h0 h10]
      have hst := strBlk (Blk.new w 5 #[.int .u8 (48 + n)])
      have hw : IntKind.u8.wrap (48 + n) = 48 + n := by rw [IntKind.wrap_u8]; omega
      have hn0 : ¬ n < 0 := by omega
      go_enter Tryd.func25, Tryd.ntmps25
      go_wp2_with fail
      go_ret
      exact ⟨rfl, (Below.refl _ _).alloc (Nat.le_refl _) _⟩
    · have HI := Lib.hid (ih (n / 10) (by omega) (by omega) (by omega))
      rw [itoaB_more (by omega)]
      have hz := itoaB_size (n := n / 10) (by omega) (by omega)
      obtain ⟨a, ha⟩ : ∃ a, a = itoaB (n / 10) := ⟨_, rfl⟩
      rw [← ha] at HI hz ⊢
      clear ha ih
      have hsz : (strOfNums [48 + n % 10]).size = 1 := strOfNums_size _
      have hsum : (9223372036854775807 < a.size + (strOfNums [48 + n % 10]).size) = False := by rw [hsz]; simp; omega
      have hw : IntKind.u8.wrap (48 + n % 10) = 48 + n % 10 := by rw [IntKind.wrap_u8]; omega
      have hn0 : ¬ n < 0 := by omega
      have hq : n.tdiv 10 = n / 10 := by rw [Int.tdiv_eq_ediv_of_nonneg h0]
      have hr : n.tmod 10 = n % 10 := by rw [Int.tmod_eq_emod_of_nonneg h0]
      have hi64 : IntKind.i64.wrap (48 + n % 10) = 48 + n % 10 := IntWalk.i64_in _ (by omega)
      have hi64q : IntKind.i64.wrap (n / 10) = n / 10 := IntWalk.i64_in _ (by omega)
      have hB0 : Below w.heap.size w w.drew := (Below.refl _ _).drew
      have hB1 : Below w.heap.size w (w.alloc (.cells #[.int .u8 (48 + n % 10)] 5)).drew := ((Below.refl _ _).alloc (Nat.le_refl _) _).drew
      have bA : Blk (w.alloc (.cells #[.int .u8 (48 + n % 10)] 5)).drew w.heap.size 5 #[.int .u8 (48 + n % 10)] := (Blk.new w _ _).drew
      have hst0 := strBlk bA
      obtain ⟨b, hb⟩ : ∃ b, b = strOfNums [48 + n % 10] := ⟨_, rfl⟩
      rw [← hb] at hst0 hsum ⊢
      have HST := Lib.hid (fun (W : World) (g : Nat) (h : Blk W g 5 #[.int .u8 (48 + n % 10)]) => (strBlk h : _))
      rw [← hb] at HST
      clear hb hsz
      go_enter Tryd.func25, Tryd.ntmps25
      go_wp2_with fail
      go_region_with (first
        | (go_at_call 25; refine (HI.out w.drew).mono ?_; rintro e wq ⟨rfl, hbq⟩; have hBq := hB0.trans hbq; have hstq := HST.out _ _ (Blk.new wq 5 #[.int .u8 (48 + n % 10)]))
        | (go_at_call 25; refine (HI.out (w.alloc (.cells #[.int .u8 (48 + n % 10)] 5)).drew).mono ?_; rintro e wq ⟨rfl, hbq⟩; have hBq := hB1.trans (hbq.mono hB1.size); have hstq := HST.out _ _ (bA.step hbq)))
      all_goals
        go_wp2_with fail
        go_ret
        first | exact ⟨rfl, hBq⟩ | exact ⟨rfl, hBq.alloc hBq.size _⟩
theorem digits_any (n : Int) (h : (Lit.int .i64 n).wf = true) (w : World) : Calls Tryd.prog 25 #[.int .i64 n] w fun e w' => e = .returned (.string (itoaB n)) ∧ Below w.heap.size w w' := by
  have hb := wf64 h
  by_cases h0 : 0 ≤ n
  · exact digits_pos n.toNat n (Nat.le_refl _) h0 hb.2 w
  by_cases hm : n = -9223372036854775808
  · subst hm
    rw [itoaB_min]
    go_enter Tryd.func25, Tryd.ntmps25
    go_wp2_with fail
    go_ret
    exact ⟨rfl, Below.refl _ _⟩
  have HP := Lib.hid (digits_pos (-n).toNat (-n) (Nat.le_refl _) (by omega) (by omega) w)
  rw [itoaB_neg (by omega)]
  have hz := itoaB_size (n := -n) (by omega) (by omega)
  obtain ⟨a, ha⟩ : ∃ a, a = itoaB (-n) := ⟨_, rfl⟩
  rw [← ha] at HP hz ⊢
  have hneg : IntKind.i64.wrap (-n) = -n := IntWalk.i64_in _ (by omega)
  have hn0 : n < 0 := by omega
  have hmb : (n == -9223372036854775808) = false := by simpa using hm
  clear ha
  go_enter Tryd.func25, Tryd.ntmps25
  go_wp2_with fail
  refine HP.out.mono ?_
  rintro e w1 ⟨rfl, hb1⟩
  go_wp2_with fail
  go_ret
  exact ⟨rfl, hb1⟩

/-! ### strconv.FormatInt -/

def fm_ren : Go.Shelf.Ren := ⟨fun
    | 129 => 63 | 173 => 33 | 246 => 46 | 283 => 57 | 284 => 58 | 285 => 59 | 286 => 60 | 317 => 62 | 318 => 64 | 319 => 65 | 320 => 66 | 337 => 67 | 338 => 68 | n => n, fun
    | 0 => 0 | 2 => 2 | 3 => 3 | 4 => 4 | 5 => 5 | 9 => 9 | 20 => 20 | 37 => 54 | 46 => 57 | 51 => 61 | 53 => 65 | 171 => 90 | 173 => 93 | 212 => 102 | 213 => 103 | 232 => 107 | 233 => 108 | n => n, fun
    | 17 => 5 | 18 => 6 | 19 => 7 | n => n⟩
set_option maxHeartbeats 4000000 in
theorem fm_lays0 : Lays.n173 Tryd.prog fm_ren where
  mixed := by kernel_rfl
  f129 := Tryd.func63.trans (congrArg some (by kernel_rfl))
  f173 := Tryd.func33.trans (congrArg some (by kernel_rfl))
  f246 := Tryd.func46.trans (congrArg some (by kernel_rfl))
  f283 := Tryd.func57.trans (congrArg some (by kernel_rfl))
  f284 := Tryd.func58.trans (congrArg some (by kernel_rfl))
  f285 := Tryd.func59.trans (congrArg some (by kernel_rfl))
  f286 := Tryd.func60.trans (congrArg some (by kernel_rfl))
  f317 := Tryd.func62.trans (congrArg some (by kernel_rfl))
  f318 := Tryd.func64.trans (congrArg some (by kernel_rfl))
  f319 := Tryd.func65.trans (congrArg some (by kernel_rfl))
  f320 := Tryd.func66.trans (congrArg some (by kernel_rfl))
  f337 := Tryd.func67.trans (congrArg some (by kernel_rfl))
  f338 := Tryd.func68.trans (congrArg some (by kernel_rfl))
  t0 := by kernel_rfl
  a0 := fun _ => by kernel_rfl
  z0 := fun _ => by kernel_rfl
  v0 := fun _ => by kernel_rfl
  t2 := by kernel_rfl
  a2 := fun _ => by kernel_rfl
  z2 := fun _ => by kernel_rfl
  v2 := fun _ => by kernel_rfl
  t3 := by kernel_rfl
  a3 := fun _ => by kernel_rfl
  z3 := fun _ => by kernel_rfl
  v3 := fun _ => by kernel_rfl
  t4 := by kernel_rfl
  a4 := fun _ => by kernel_rfl
  z4 := fun _ => by kernel_rfl
  v4 := fun _ => by kernel_rfl
  t5 := by kernel_rfl
  a5 := fun _ => by kernel_rfl
  z5 := fun _ => by kernel_rfl
  v5 := fun _ => by kernel_rfl
  t9 := by kernel_rfl
  a9 := fun _ => by kernel_rfl
  z9 := fun _ => by kernel_rfl
  v9 := fun _ => by kernel_rfl
  t20 := by kernel_rfl
  a20 := fun _ => by kernel_rfl
  z20 := fun _ => by kernel_rfl
  v20 := fun _ => by kernel_rfl
  t37 := by kernel_rfl
  a37 := fun _ => by kernel_rfl
  z37 := fun _ => by kernel_rfl
  v37 := fun _ => by kernel_rfl
  t46 := by kernel_rfl
  a46 := fun _ => by kernel_rfl
  z46 := fun _ => by kernel_rfl
  v46 := fun _ => by kernel_rfl
  t51 := by kernel_rfl
  a51 := fun _ => by kernel_rfl
  z51 := fun _ => by kernel_rfl
  v51 := fun _ => by kernel_rfl
  t53 := by kernel_rfl
  a53 := fun _ => by kernel_rfl
  z53 := fun _ => by kernel_rfl
  v53 := fun _ => by kernel_rfl
  t171 := by kernel_rfl
  a171 := fun _ => by kernel_rfl
  z171 := fun _ => by kernel_rfl
  v171 := fun _ => by kernel_rfl
  t173 := by kernel_rfl
  a173 := fun _ => by kernel_rfl
  z173 := fun _ => by kernel_rfl
  v173 := fun _ => by kernel_rfl
  t212 := by kernel_rfl
  a212 := fun _ => by kernel_rfl
  z212 := fun _ => by kernel_rfl
  v212 := fun _ => by kernel_rfl
  t213 := by kernel_rfl
  a213 := fun _ => by kernel_rfl
  z213 := fun _ => by kernel_rfl
  t232 := by kernel_rfl
  a232 := fun _ => by kernel_rfl
  z232 := fun _ => by kernel_rfl
  v232 := fun _ => by kernel_rfl
  t233 := by kernel_rfl
  a233 := fun _ => by kernel_rfl
  z233 := fun _ => by kernel_rfl
  v233 := fun _ => by kernel_rfl
  g17 := by kernel_rfl
  g18 := by kernel_rfl
  g19 := by kernel_rfl
theorem fm_lays : LaysM.n173 Tryd.prog fm_ren := { fm_lays0 with i0 := by kernel_rfl, i2 := by kernel_rfl, i3 := by kernel_rfl, i4 := by kernel_rfl, i5 := by kernel_rfl, i9 := by kernel_rfl, i20 := by kernel_rfl, i37 := by kernel_rfl, i46 := by kernel_rfl, i51 := by kernel_rfl, i53 := by kernel_rfl, i171 := by kernel_rfl, i173 := by kernel_rfl, i212 := by kernel_rfl, i232 := by kernel_rfl, i233 := by kernel_rfl, m17 := by kernel_rfl, m18 := by kernel_rfl, m19 := by kernel_rfl }
theorem below_grown (w : World) (k : Nat) (os : Array Obj) : Below w.heap.size w (Go.Sort.grow (w.drewN k) os) :=
  (below_drewN (Below.refl w.heap.size w) k).trans ⟨rfl, rfl, rfl, by simp [Go.Sort.grow], fun i hi => by
    show ((w.drewN k).heap ++ os)[i]? = _
    have h : i < (w.drewN k).heap.size := by simpa using hi
    rw [Array.getElem?_append, if_pos h]⟩
def TabP (w : World) : Prop := Lib.TabIs Tryd.prog w "internal/strconv.uint64pow10" .u64 Lib.pow10Tab
theorem TabP.below {w w' : World} (h : TabP w) (hb : Below w.heap.size w w') : TabP w' := tabIs_below h hb
theorem pow_data : (Rows.laid_internal_strconv_uint64pow10 : DataW Unit) = Lib.tabData .u64 Lib.pow10Tab := by kernel_rfl
theorem tabP_reads {l : List (String × DataW Unit)} (hp : (l.all fun x => x.2.handleName?.isNone) = true) (hm2 : ("internal/strconv.uint64pow10", (Rows.laid_internal_strconv_uint64pow10 : DataW Unit)) ∈ l) {w : World} (h : laidMetH Tryd.prog l w) : TabP w := by
  rw [MakeChecks.laidMetH_plain _ _ _ hp] at h
  have h1 := Lib.laidMet.reads h hm2
  rw [pow_data] at h1
  exact tabIs_reads (g := 5) (t := 102) (e := 65) (n := 20) (by kernel_rfl) (by kernel_rfl) (by kernel_rfl) (by kernel_rfl) (by kernel_rfl) (by kernel_rfl) h1
theorem formatInt_any (n : Int) (h : (Lit.int .i64 n).wf = true) (w : World) (hT : TabP w) : Calls Tryd.prog 33 #[.int .i64 n, .int .i64 10] w fun e w' => e = .returned (.string (itoaB n)) ∧ Below w.heap.size w w' := by
  have hb := wf64 h
  refine (Any.strconv_FormatInt_10 fm_lays n hb.1 hb.2 w hT).mono ?_
  rintro e w' ⟨rfl, k, os, rfl⟩
  exact ⟨rfl, below_grown w k os⟩
theorem decimal_any (n : Int) (h : (Lit.int .i64 n).wf = true) (w : World) (hT : TabP w) : Calls Tryd.prog 21 #[.int .i64 n] w fun e w' => e = .returned (.string (itoaB n)) ∧ Below w.heap.size w w' := by
  have HF := Lib.hid (formatInt_any n h w hT)
  go_enter Tryd.func21, Tryd.ntmps21
  go_wp2_with fail
  refine HF.out.mono ?_
  rintro e w1 ⟨rfl, hb1⟩
  go_wp2_with fail
  go_ret
  exact ⟨rfl, hb1⟩
end Go.Proofs.YtdnadmncbicpdaaDoor

