/-
  The text of a module: plain.
-/
import Derived.Test.YtflpfcnpjadccaaGreatDoorMoMath
import Derived.Test.YtflpfcnpjadccaaGreatDoorInsT
namespace Go.Proofs.YtflpfcnpjadccaaGreatDoor
open Go.RowKit
set_option linter.unusedVariables false
set_option linter.unusedSimpArgs false
set_option linter.unnecessarySimpa false

def catB : List ByteArray → ByteArray
  | [] => ⟨#[]⟩
  | x :: r => x ++ catB r
theorem app_nil (s : ByteArray) : s ++ (⟨#[]⟩ : ByteArray) = s := by simp [ByteArray.ext_iff]
theorem nil_app (s : ByteArray) : (⟨#[]⟩ : ByteArray) ++ s = s := by simp [ByteArray.ext_iff]
theorem app_assoc (a b c : ByteArray) : (a ++ b) ++ c = a ++ (b ++ c) := by simp [ByteArray.ext_iff, Array.append_assoc]
theorem catB_snoc : ∀ (l : List ByteArray) (x : ByteArray), catB (l ++ [x]) = catB l ++ x
  | [], x => by show x ++ (⟨#[]⟩ : ByteArray) = ⟨#[]⟩ ++ x; rw [app_nil, nil_app]
  | y :: l, x => by
    show y ++ catB (l ++ [x]) = (y ++ catB l) ++ x
    rw [catB_snoc l x, app_assoc]
theorem catB_take {α : Type} {f : α → ByteArray} {l : List α} {k : Nat} {x : α} (h : l[k]? = some x) : catB ((l.take (k + 1)).map f) = catB ((l.take k).map f) ++ f x := by
  rw [List.take_add_one, h, List.map_append]
  exact catB_snoc _ _
theorem catB_le {α : Type} {f : α → ByteArray} {K : Nat} : ∀ {l : List α}, (∀ x ∈ l, (f x).size ≤ K) → (catB (l.map f)).size ≤ K * l.length
  | [], _ => Nat.zero_le _
  | x :: l, h => by
    have h1 := h x (by simp)
    have h2 := catB_le (l := l) fun y hy => h y (by simp [hy])
    show (f x ++ catB (l.map f)).size ≤ K * (l.length + 1)
    rw [ByteArray.size_append, Nat.mul_add]
    omega
def txMod : ByteArray := ⟨#[109, 111, 100, 117, 108, 101, 32]⟩
def txImp : ByteArray := ⟨#[105, 109, 112, 111, 114, 116, 32]⟩
def txCore : ByteArray := ⟨#[99, 111, 114, 101, 32]⟩
def txSp : ByteArray := ⟨#[32]⟩
def txNl : ByteArray := ⟨#[10]⟩
def bitT (b : Bool) : ByteArray := if b then ⟨#[49]⟩ else ⟨#[48]⟩
theorem bitT_size (b : Bool) : (bitT b).size = 1 := by cases b <;> rfl
def impL : Imp → ByteArray | .mk name params result => (((((txImp ++ name) ++ txSp) ++ itoaB params) ++ txSp) ++ bitT result) ++ txNl
def coreL : Core → ByteArray | .mk name params locals result code => (((((((txCore ++ name) ++ txSp) ++ itoaB params) ++ txSp) ++ itoaB locals) ++ txSp) ++ bitT result) ++ txNl
def insL (i : Ins) : ByteArray := insTR i.op i.a ++ txNl
def coreT : Core → ByteArray | .mk name params locals result code => coreL (.mk name params locals result code) ++ catB (code.map insL)
def modH (pages : Int) : ByteArray := (txMod ++ itoaB pages) ++ txNl
def modT : Mod → ByteArray | .mk pages imports cores => (modH pages ++ catB (imports.map impL)) ++ catB (cores.map coreT)
def modTR (m : Mod) : ByteArray := if modB m = true then modT m else ⟨#[]⟩
theorem modTR_no {m : Mod} (h : modB m = false) : modTR m = ⟨#[]⟩ := if_neg (by rw [h]; decide)
theorem modTR_yes {m : Mod} (h : modB m = true) : modTR m = modT m := if_pos h
def bitI (b : Bool) : Int := if b then 1 else 0
theorem bitI_T (b : Bool) : itoaB (bitI b) = bitT b := by
  cases b
  · exact (itoaB_one (n := 0) (by decide) (by decide)).trans rfl
  · exact (itoaB_one (n := 1) (by decide) (by decide)).trans rfl
theorem inB_rng {n lo hi : Int} (h : inB n lo hi = true) : lo ≤ n ∧ n ≤ hi := by
  rw [inB, Bool.and_eq_true, decide_eq_true_eq, decide_eq_true_eq] at h; exact h
theorem word_le {s : ByteArray} (h : wordOk s = true) : s.size ≤ 40 := by
  rw [wordOk, Bool.and_eq_true] at h
  have := inB_rng h.2
  omega
structure CoreF (c : Core) : Prop where
  name : c.name.size ≤ 40
  params : 0 ≤ c.params ∧ c.params ≤ 8
  locals : 0 ≤ c.locals ∧ c.locals ≤ 8
  code : c.code.length ≤ 120
  ins : ∀ i ∈ c.code, insOk i.op i.a = true
structure ImpF (x : Imp) : Prop where
  name : x.name.size ≤ 40
  params : 0 ≤ x.params ∧ x.params ≤ 8
structure ModF (m : Mod) : Prop where
  pages : 1 ≤ m.pages ∧ m.pages ≤ 16
  nimp : m.imports.length ≤ 12
  ncore : m.cores.length ≤ 8
  imp : ∀ x ∈ m.imports, ImpF x
  core : ∀ c ∈ m.cores, CoreF c
theorem any_not {α : Type} {p : α → Bool} {l : List α} (h : (!l.any fun x => !p x) = true) : ∀ x ∈ l, p x = true := fun x hx => by
  rw [Bool.not_eq_true', List.any_eq_false] at h
  have := h x hx
  simpa using this
theorem modF {m : Mod} (h : modB m = true) : ModF m := by
  rw [modB] at h
  simp only [Bool.and_eq_true, decide_eq_true_eq] at h
  obtain ⟨h1, h2, h3, h4, h5, h6, h7⟩ := h
  rw [namesB, Bool.and_eq_true] at h6 h7
  have n6 := any_not h6.2
  have n7 := any_not h7.2
  have i4 := any_not h4
  have c5 := any_not h5
  refine ⟨inB_rng h1, h2, h3, fun x hx => ⟨word_le (n6 _ (List.mem_map.2 ⟨x, hx, rfl⟩)), inB_rng (i4 x hx)⟩, fun c hc => ?_⟩
  have hcb := c5 c hc
  rw [coreB] at hcb
  simp only [Bool.and_eq_true, decide_eq_true_eq] at hcb
  obtain ⟨k1, k2, k3, k4⟩ := hcb
  exact ⟨word_le (n7 _ (List.mem_map.2 ⟨c, hc, rfl⟩)), inB_rng k1, inB_rng k2, k3, any_not k4⟩
theorem itoa_sz {n : Int} (h : 0 ≤ n ∧ n ≤ 16) : (itoaB n).size ≤ 21 := itoaB_size (by omega) (by omega)
theorem impL_sz {x : Imp} (h : ImpF x) : (impL x).size ≤ 72 := by
  obtain ⟨name, params, result⟩ := x
  have h1 := h.name
  have h2 := itoa_sz (n := params) (by have := h.params; simp only at this; omega)
  have h3 := bitT_size result
  simp only at h1
  simp only [impL, ByteArray.size_append, txImp, txSp, txNl]
  have e1 : (⟨#[105, 109, 112, 111, 114, 116, 32]⟩ : ByteArray).size = 7 := rfl
  have e2 : (⟨#[32]⟩ : ByteArray).size = 1 := rfl
  have e3 : (⟨#[10]⟩ : ByteArray).size = 1 := rfl
  omega
theorem coreL_sz {c : Core} (h : CoreF c) : (coreL c).size ≤ 92 := by
  obtain ⟨name, params, locals, result, code⟩ := c
  have h1 := h.name
  have h2 := itoa_sz (n := params) (by have := h.params; simp only at this; omega)
  have h4 := itoa_sz (n := locals) (by have := h.locals; simp only at this; omega)
  have h3 := bitT_size result
  simp only at h1
  simp only [coreL, ByteArray.size_append, txCore, txSp, txNl]
  have e1 : (⟨#[99, 111, 114, 101, 32]⟩ : ByteArray).size = 5 := rfl
  have e2 : (⟨#[32]⟩ : ByteArray).size = 1 := rfl
  have e3 : (⟨#[10]⟩ : ByteArray).size = 1 := rfl
  omega
theorem ins_rng2 {op a : Int} (h : insOk op a = true) : -9223372036854775808 ≤ a ∧ a ≤ 9223372036854775807 := by
  rw [insOk, Bool.and_eq_true] at h
  have h2 := inB_rng h.2
  have h3 : -9223372036854775808 ≤ opLo op := by unfold opLo; split <;> decide
  have h4 : opHi op ≤ 9223372036854775807 := by unfold opHi; repeat' (first | decide | split)
  omega
theorem insT_sz {op a : Int} (h : insOk op a = true) : (insTR op a).size ≤ 30 := by
  have hr := ins_rng2 h
  have hz := itoaB_size hr.1 hr.2
  have h40 : inB op 1 40 = true := by rw [insOk, Bool.and_eq_true] at h; exact h.1
  obtain ⟨j, x, rfl, hj, hx⟩ := op_split h40
  have hw := word_size hx
  have ho := opWord_yes hx
  cases hh : opHas ((j + 1 : Nat) : Int) with
  | false => rw [insT_0 h hh, ho]; omega
  | true =>
    rw [insT_1 h hh, ho, ByteArray.size_append, ByteArray.size_append]
    have e2 : (⟨#[32]⟩ : ByteArray).size = 1 := rfl
    omega
theorem insL_sz {i : Ins} (h : insOk i.op i.a = true) : (insL i).size ≤ 31 := by
  have := insT_sz h
  rw [insL, ByteArray.size_append]
  have e2 : txNl.size = 1 := rfl
  omega
theorem code_sz {code : List Ins} (h : ∀ i ∈ code, insOk i.op i.a = true) : (catB (code.map insL)).size ≤ 31 * code.length := catB_le fun i hi => insL_sz (h i hi)
theorem coreT_sz {c : Core} (h : CoreF c) : (coreT c).size ≤ 3812 := by
  obtain ⟨name, params, locals, result, code⟩ := c
  have h1 := coreL_sz h
  have h2 := code_sz h.ins
  have h3 := h.code
  simp only at h2 h3
  rw [coreT, ByteArray.size_append]
  omega
theorem modH_sz {p : Int} (h : 1 ≤ p ∧ p ≤ 16) : (modH p).size ≤ 29 := by
  have := itoa_sz (n := p) (by omega)
  rw [modH, ByteArray.size_append, ByteArray.size_append]
  have e2 : txNl.size = 1 := rfl
  have e3 : txMod.size = 7 := rfl
  omega
theorem take_mem {α : Type} {l : List α} {k : Nat} {x : α} (h : x ∈ l.take k) : x ∈ l := List.mem_of_mem_take h
theorem imps_sz {l : List Imp} (h : ∀ x ∈ l, ImpF x) (k : Nat) : (catB ((l.take k).map impL)).size ≤ 72 * k := by
  have h1 := catB_le (f := impL) (K := 72) (l := l.take k) fun x hx => impL_sz (h x (take_mem hx))
  have h2 : (l.take k).length ≤ k := by rw [List.length_take]; omega
  have := Nat.mul_le_mul_left 72 h2
  omega
theorem cores_sz {l : List Core} (h : ∀ x ∈ l, CoreF x) (k : Nat) : (catB ((l.take k).map coreT)).size ≤ 3812 * k := by
  have h1 := catB_le (f := coreT) (K := 3812) (l := l.take k) fun x hx => coreT_sz (h x (take_mem hx))
  have h2 : (l.take k).length ≤ k := by rw [List.length_take]; omega
  have := Nat.mul_le_mul_left 3812 h2
  omega
theorem inss_sz {l : List Ins} (h : ∀ i ∈ l, insOk i.op i.a = true) (k : Nat) : (catB ((l.take k).map insL)).size ≤ 31 * k := by
  have h1 := catB_le (f := insL) (K := 31) (l := l.take k) fun x hx => insL_sz (h x (take_mem hx))
  have h2 : (l.take k).length ≤ k := by rw [List.length_take]; omega
  have := Nat.mul_le_mul_left 31 h2
  omega
end Go.Proofs.YtflpfcnpjadccaaGreatDoor

