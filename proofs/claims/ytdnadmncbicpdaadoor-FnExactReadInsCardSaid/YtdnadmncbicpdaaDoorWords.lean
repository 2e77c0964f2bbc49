/-
  The mnemonics: spec.l15Words, impl.opWords (strings.Fields), OpWord (by program: gen_words.py).
-/
import Derived.Test.YtdnadmncbicpdaaDoorSmall
import Derived.Test.YtdnadmncbicpdaaDoorTabI
import Derived.Shelf.Strings.Fields
namespace Go.Proofs.YtdnadmncbicpdaaDoor
open Go.RowKit Go.Shelf
set_option linter.unusedVariables false
set_option linter.unusedSimpArgs false
set_option linter.unnecessarySimpa false
set_option maxRecDepth 16000

def words : List ByteArray := [⟨#[99, 111, 110, 115, 116]⟩, ⟨#[103, 101, 116]⟩, ⟨#[115, 101, 116]⟩, ⟨#[116, 101, 101]⟩, ⟨#[100, 114, 111, 112]⟩, ⟨#[97, 100, 100]⟩, ⟨#[115, 117, 98]⟩, ⟨#[109, 117, 108]⟩, ⟨#[100, 105, 118]⟩, ⟨#[114, 101, 109]⟩, ⟨#[97, 110, 100]⟩, ⟨#[111, 114]⟩, ⟨#[120, 111, 114]⟩, ⟨#[115, 104, 108]⟩, ⟨#[115, 104, 114]⟩, ⟨#[101, 113]⟩, ⟨#[110, 101]⟩, ⟨#[108, 116]⟩, ⟨#[103, 116]⟩, ⟨#[108, 101]⟩, ⟨#[103, 101]⟩, ⟨#[101, 113, 122]⟩, ⟨#[115, 101, 108, 101, 99, 116]⟩, ⟨#[98, 108, 111, 99, 107]⟩, ⟨#[108, 111, 111, 112]⟩, ⟨#[105, 102]⟩, ⟨#[101, 108, 115, 101]⟩, ⟨#[101, 110, 100]⟩, ⟨#[98, 114]⟩, ⟨#[98, 114, 105, 102]⟩, ⟨#[114, 101, 116, 117, 114, 110]⟩, ⟨#[99, 97, 108, 108]⟩, ⟨#[104, 111, 115, 116]⟩, ⟨#[108, 111, 97, 100, 56]⟩, ⟨#[108, 111, 97, 100, 51, 50]⟩, ⟨#[108, 111, 97, 100, 54, 52]⟩, ⟨#[115, 116, 111, 114, 101, 56]⟩, ⟨#[115, 116, 111, 114, 101, 51, 50]⟩, ⟨#[115, 116, 111, 114, 101, 54, 52]⟩, ⟨#[116, 114, 97, 112]⟩]
theorem words_len : words.length = 40 := rfl
def TabW (w : World) : Prop := Lib.TabIs Tryd.prog w "strings.asciiSpace" .u8 Lib.asciiSpaceTab
theorem TabW.below {w w' : World} (h : TabW w) (hb : Below w.heap.size w w') : TabW w' := tabIs_below h hb
theorem ascii_data : (Rows.laid_strings_asciiSpace : DataW Unit) = Lib.tabData .u8 Lib.asciiSpaceTab := by kernel_rfl
theorem tabW_reads {l : List (String × DataW Unit)} (hp : (l.all fun x => x.2.handleName?.isNone) = true) (hm : ("strings.asciiSpace", (Rows.laid_strings_asciiSpace : DataW Unit)) ∈ l) {w : World} (h : laidMetH Tryd.prog l w) : TabW w := by
  rw [MakeChecks.laidMetH_plain _ _ _ hp] at h
  have h1 := Lib.laidMet.reads h hm
  rw [ascii_data] at h1
  exact tabIs_reads (g := 0) (t := 49) (e := 5) (n := 256) (by kernel_rfl) (by kernel_rfl) (by kernel_rfl) (by kernel_rfl) (by kernel_rfl) (by kernel_rfl) h1

def fi_ren : Go.Shelf.Ren := ⟨fun
    | 157 => 19 | 199 => 30 | 229 => 29 | 261 => 40 | 311 => 50 | 312 => 51 | n => n, fun
    | 0 => 0 | 3 => 3 | 4 => 4 | 5 => 5 | 9 => 9 | 21 => 21 | 31 => 31 | 40 => 51 | 46 => 57 | 49 => 77 | 51 => 61 | 119 => 49 | 141 => 63 | 152 => 58 | 154 => 60 | 193 => 73 | 194 => 74 | 196 => 76 | 198 => 79 | 201 => 82 | 226 => 95 | 227 => 96 | n => n, fun
    | 0 => 0 | 6 => 2 | n => n⟩
set_option maxHeartbeats 4000000 in
theorem fi_lays : Lays.n157 Tryd.prog fi_ren where
  mixed := by kernel_rfl
  f157 := Tryd.func19.trans (congrArg some (by kernel_rfl))
  f199 := Tryd.func30.trans (congrArg some (by kernel_rfl))
  f229 := Tryd.func29.trans (congrArg some (by kernel_rfl))
  f261 := Tryd.func40.trans (congrArg some (by kernel_rfl))
  f311 := Tryd.func50.trans (congrArg some (by kernel_rfl))
  f312 := Tryd.func51.trans (congrArg some (by kernel_rfl))
  t0 := by kernel_rfl
  a0 := fun _ => by kernel_rfl
  z0 := fun _ => by kernel_rfl
  v0 := fun _ => by kernel_rfl
  t3 := by kernel_rfl
  a3 := fun _ => by kernel_rfl
  z3 := fun _ => by kernel_rfl
  v3 := fun _ => by kernel_rfl
  t4 := by kernel_rfl
  a4 := fun _ => by kernel_rfl
  z4 := fun _ => by kernel_rfl
  v4 := fun _ => by kernel_rfl
  t5 := by kernel_rfl
  a5 := fun _ => by kernel_rfl
  z5 := fun _ => by kernel_rfl
  v5 := fun _ => by kernel_rfl
  t9 := by kernel_rfl
  a9 := fun _ => by kernel_rfl
  z9 := fun _ => by kernel_rfl
  v9 := fun _ => by kernel_rfl
  t21 := by kernel_rfl
  a21 := fun _ => by kernel_rfl
  z21 := fun _ => by kernel_rfl
  v21 := fun _ => by kernel_rfl
  t31 := by kernel_rfl
  a31 := fun _ => by kernel_rfl
  z31 := fun _ => by kernel_rfl
  v31 := fun _ => by kernel_rfl
  t40 := by kernel_rfl
  a40 := fun _ => by kernel_rfl
  z40 := fun _ => by kernel_rfl
  v40 := fun _ => by kernel_rfl
  t46 := by kernel_rfl
  a46 := fun _ => by kernel_rfl
  z46 := fun _ => by kernel_rfl
  v46 := fun _ => by kernel_rfl
  t49 := by kernel_rfl
  a49 := fun _ => by kernel_rfl
  z49 := fun _ => by kernel_rfl
  v49 := fun _ => by kernel_rfl
  t51 := by kernel_rfl
  a51 := fun _ => by kernel_rfl
  z51 := fun _ => by kernel_rfl
  v51 := fun _ => by kernel_rfl
  t119 := by kernel_rfl
  a119 := fun _ => by kernel_rfl
  z119 := fun _ => by kernel_rfl
  t141 := by kernel_rfl
  a141 := fun _ => by kernel_rfl
  z141 := fun _ => by kernel_rfl
  v141 := fun _ => by kernel_rfl
  t152 := by kernel_rfl
  a152 := fun _ => by kernel_rfl
  z152 := fun _ => by kernel_rfl
  v152 := fun _ => by kernel_rfl
  t154 := by kernel_rfl
  a154 := fun _ => by kernel_rfl
  z154 := fun _ => by kernel_rfl
  v154 := fun _ => by kernel_rfl
  t193 := by kernel_rfl
  a193 := fun _ => by kernel_rfl
  z193 := fun _ => by kernel_rfl
  v193 := fun _ => by kernel_rfl
  t194 := by kernel_rfl
  a194 := fun _ => by kernel_rfl
  z194 := fun _ => by kernel_rfl
  v194 := fun _ => by kernel_rfl
  t196 := by kernel_rfl
  a196 := fun _ => by kernel_rfl
  z196 := fun _ => by kernel_rfl
  v196 := fun _ => by kernel_rfl
  t198 := by kernel_rfl
  a198 := fun _ => by kernel_rfl
  z198 := fun _ => by kernel_rfl
  v198 := fun _ => by kernel_rfl
  t201 := by kernel_rfl
  a201 := fun _ => by kernel_rfl
  z201 := fun _ => by kernel_rfl
  v201 := fun _ => by kernel_rfl
  t226 := by kernel_rfl
  a226 := fun _ => by kernel_rfl
  z226 := fun _ => by kernel_rfl
  v226 := fun _ => by kernel_rfl
  t227 := by kernel_rfl
  a227 := fun _ => by kernel_rfl
  z227 := fun _ => by kernel_rfl
  v227 := fun _ => by kernel_rfl
  g0 := by kernel_rfl
  g6 := by kernel_rfl
theorem fi9 : (Tryd.prog.info? (fi_ren.t 9)).map (fun i => (i.zero, i.size, i.bytes)) = some (some (.string ByteArray.empty), 1, 16) := by kernel_rfl
def fieldsOk (s : ByteArray) (W : List (List UInt8)) : Bool := decide (s.size < 4294967281) && s.data.toList.all (fun b => decide (b.toNat < 128)) && (Lib.fields s.data.toList == W)
def words1 : List ByteArray := ⟨#[45]⟩ :: words
theorem fields_any (s : ByteArray) (h : fieldsOk s (words1.map fun x => x.data.toList) = true) (w : World) (hT : TabW w) : Calls Tryd.prog 19 #[.string s] w fun e w' => e = .returned (.slice (some ⟨w.heap.size, 0, none⟩) 41 41) ∧ (∀ (j : Nat) (x : ByteArray), words1[j]? = some x → w'.cell? ⟨w.heap.size, j, none⟩ = some (.string x)) ∧ Below w.heap.size w w' := by
  simp only [fieldsOk, Bool.and_eq_true, decide_eq_true_eq, List.all_eq_true, beq_iff_eq] at h
  obtain ⟨⟨h1, h2⟩, h3⟩ := h
  refine (Any.strings_Fields fi_lays fi9 (by kernel_rfl) s w h1 (fun j b hj => h2 b (List.mem_of_getElem? hj)) hT).mono ?_
  rintro e w' ⟨he, rfl⟩
  rw [h3] at he ⊢
  refine ⟨he, fun j x hx => ?_, (Below.refl _ _).alloc (Nat.le_refl _) _⟩
  refine (Blk.cell (Blk.new w _ _) j).trans ?_
  simp [hx]
theorem opWords_any (w : World) (hT : TabW w) : Calls Tryd.prog 10 #[] w fun e w' => e = .returned (.slice (some ⟨w.heap.size, 0, none⟩) 41 41) ∧ (∀ (j : Nat) (x : ByteArray), words1[j]? = some x → w'.cell? ⟨w.heap.size, j, none⟩ = some (.string x)) ∧ Below w.heap.size w w' := by
  go_enter Tryd.func10, Tryd.ntmps10
  go_wp2_with fail
  refine (fields_any _ (by kernel_rfl) w hT).mono ?_
  rintro e w1 ⟨rfl, hc, hb1⟩
  go_wp2_with fail
  go_ret
  exact ⟨rfl, hc, hb1⟩
theorem l15Words_any (w : World) : Calls Tryd.prog 24 #[] w fun e w' => e = .returned (.slice (some ⟨w.heap.size, 0, none⟩) 40 40) ∧ (∀ (j : Nat) (x : ByteArray), words[j]? = some x → w'.cell? ⟨w.heap.size, j, none⟩ = some (.string x)) ∧ Below w.heap.size w w' := by
  go_enter Tryd.func24, Tryd.ntmps24
  go_wp2_with fail
  go_ret
  refine ⟨rfl, fun j x hx => ?_, (Below.refl _ _).alloc (Nat.le_refl _) _⟩
  refine (Blk.cell (Blk.new w _ _) j).trans ?_
  show (words.map Value.string).toArray[j]? = _
  simp [hx]
def opWordR (n : Int) : ByteArray := if inB n 1 40 = true then (words[(n - 1).toNat]?).getD ⟨#[]⟩ else ⟨#[]⟩
theorem opWord_no {n : Int} (h : inB n 1 40 = false) : opWordR n = ⟨#[]⟩ := by rw [opWordR, if_neg (by rw [h]; decide)]
theorem opWord_yes {j : Nat} {x : ByteArray} (h : words[j]? = some x) : opWordR ((j + 1 : Nat) : Int) = x := by
  have hj := (List.getElem?_eq_some_iff.1 h).1
  rw [words_len] at hj
  rw [opWordR, if_pos (inB_yes (by omega) (by omega)), show (((j + 1 : Nat) : Int) - 1).toNat = j by omega, h]; rfl
theorem op_split {n : Int} (h : inB n 1 40 = true) : ∃ (j : Nat) (x : ByteArray), n = ((j + 1 : Nat) : Int) ∧ j < 40 ∧ words[j]? = some x := by
  have := inB_iff.1 h
  obtain ⟨x, hx, _⟩ := at_lt (xs := words) (k := (n - 1).toNat) (n := 40) rfl (by omega)
  exact ⟨(n - 1).toNat, x, by omega, by omega, hx⟩
def laidOp : List (String × DataW Unit) := [("unicode.White_Space", Rows.laid_unicode_White_Space), ("strings.asciiSpace", Rows.laid_strings_asciiSpace)]
theorem tabOp_of {w : World} (h : laidMetH Tryd.prog laidOp w) : TabW w := tabW_reads (by kernel_rfl) (.tail _ (.head _)) h
end Go.Proofs.YtdnadmncbicpdaaDoor

