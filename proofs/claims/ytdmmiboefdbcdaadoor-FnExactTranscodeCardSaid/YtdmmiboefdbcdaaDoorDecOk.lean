/-
  Decode, Transcode (by program: gen_decode.py).
-/
import Derived.Test.YtdmmiboefdbcdaaDoorDecJ
import Derived.Test.YtdmmiboefdbcdaaDoorDecS
namespace Go.Proofs.YtdmmiboefdbcdaaDoor
open Go.RowKit
set_option linter.unusedVariables false
set_option linter.unusedSimpArgs false
set_option linter.unnecessarySimpa false
set_option maxRecDepth 16000

theorem specDecode_any (n : Int) (hn : n = 1 ∨ n = 2 ∨ n = 3) (s : ByteArray) (hs : s.size ≤ 1048576) (w : World) : Calls Tryd.prog 32 #[.int .i64 n, .string s] w fun e w' => e = txtRes (decT n s) ∧ Below w.heap.size w w' := by
  rcases hn with rfl | rfl | rfl
  · exact decS_1 s hs w
  · exact decS_2 s hs w
  · exact decS_3 s hs w
theorem implDecode_any (n : Int) (hn : n = 1 ∨ n = 2 ∨ n = 3) (s : ByteArray) (hs : s.size ≤ 1048576) (w : World) (hT : TabW w) : Calls Tryd.prog 33 #[.int .i64 n, .string s] w fun e w' => e = txtRes (decT n s) ∧ Below w.heap.size w w' := by
  rcases hn with rfl | rfl | rfl
  · exact decI_1 s hs w hT
  · exact decI_2 s hs w
  · exact decI_3 s hs w
def oR (o : Option ByteArray) : ByteArray × Int := match o with | none => (⟨#[]⟩, 19) | some t => (t, 0)
theorem txt_oR (o : Option ByteArray) : txtRes o = .returned (.tuple #[.string (oR o).1, .int .i64 (oR o).2]) := by cases o <;> rfl
theorem enc_oR (o : Option ByteArray) : encRes o = .returned (.tuple #[.string (oR o).1, .int .i64 (oR o).2]) := by cases o <;> rfl
def decR (n : Int) (s : ByteArray) : ByteArray × Int := if inB n 1 3 = true then oR (decT n s) else (⟨#[]⟩, 1)
def traR (n k : Int) (s : ByteArray) : ByteArray × Int := if inB n 1 3 = true ∧ inB k 1 3 = true then oR ((decT n s).bind fun t => encT k t) else (⟨#[]⟩, 1)
theorem specDecode_ok (n : Int) (s : ByteArray) (h_n : (Lit.int .i64 n).wf = true) (hs : s.size ≤ 1048576) : ∀ B w, B ≤ w.heap.size → TabW w → Calls Tryd.prog 17 #[.int .i64 n, .string s] w fun e w' => e = .returned (.tuple #[.string (decR n s).1, .int .i64 (decR n s).2]) ∧ Below w.heap.size w w' := by
  intro B w _ hT
  have HE := fun W => specEnOk_any n W
  rw [decR]
  cases hin : inB n 1 3
  case false =>
    rw [hin] at HE
    rw [if_neg (by decide)]
    clear hs
    go_enter Tryd.func17, Tryd.ntmps17
    go_wp2_with fail
    refine (HE _).mono ?_
    rintro e w1 ⟨rfl, rfl⟩
    go_wp2_with fail
    go_ret2
    exact ⟨rfl, Below.refl _ _⟩
  rw [hin] at HE
  have hn := inB_iff.1 hin
  have HD := Lib.hid (specDecode_any n (by omega) s hs w)
  rw [txt_oR] at HD
  rw [if_pos rfl]
  obtain ⟨r, hr⟩ : ∃ r, r = oR (decT n s) := ⟨_, rfl⟩
  rw [← hr] at HD ⊢
  obtain ⟨r1, r2⟩ := r
  clear hr hs
  go_enter Tryd.func17, Tryd.ntmps17
  go_wp2_with fail
  refine (HE _).mono ?_
  rintro e w1 ⟨rfl, rfl⟩
  go_wp2_with fail
  refine HD.out.mono ?_
  rintro e w1 ⟨rfl, hb1⟩
  go_wp2_with fail
  go_ret2
  exact ⟨rfl, hb1⟩
theorem specTranscode_ok (n k : Int) (s : ByteArray) (h_n : (Lit.int .i64 n).wf = true) (h_k : (Lit.int .i64 k).wf = true) (hs : s.size ≤ 1048576) : ∀ B w, B ≤ w.heap.size → TabW w → Calls Tryd.prog 19 #[.int .i64 n, .int .i64 k, .string s] w fun e w' => e = .returned (.tuple #[.string (traR n k s).1, .int .i64 (traR n k s).2]) ∧ Below w.heap.size w w' := by
  intro B w _ hT
  have HE := fun W => specEnOk_any n W
  have HK := fun W => specEnOk_any k W
  rw [traR]
  cases hin : inB n 1 3
  case false =>
    rw [hin] at HE
    rw [if_neg fun e => absurd e.1 (by decide)]
    clear hs HK
    go_enter Tryd.func19, Tryd.ntmps19
    go_wp2_with fail
    refine (HE _).mono ?_
    rintro e w1 ⟨rfl, rfl⟩
    go_wp2_with fail
    go_ret2
    exact ⟨rfl, Below.refl _ _⟩
  rw [hin] at HE
  cases hik : inB k 1 3
  case false =>
    rw [hik] at HK
    rw [if_neg fun e => absurd e.2 (by decide)]
    clear hs
    go_enter Tryd.func19, Tryd.ntmps19
    go_wp2_with fail
    refine (HE _).mono ?_
    rintro e w1 ⟨rfl, rfl⟩
    go_wp2_with fail
    refine (HK _).mono ?_
    rintro e w1 ⟨rfl, rfl⟩
    go_wp2_with fail
    go_ret2
    exact ⟨rfl, Below.refl _ _⟩
  rw [hik] at HK
  have hn := inB_iff.1 hin
  have hk := inB_iff.1 hik
  have HD := Lib.hid (specDecode_any n (by omega) s hs w)
  rw [if_pos ⟨rfl, rfl⟩]
  cases hd : decT n s with
  | none =>
    rw [hd] at HD
    clear hd hs
    go_enter Tryd.func19, Tryd.ntmps19
    go_wp2_with fail
    refine (HE _).mono ?_
    rintro e w1 ⟨rfl, rfl⟩
    go_wp2_with fail
    refine (HK _).mono ?_
    rintro e w1 ⟨rfl, rfl⟩
    go_wp2_with fail
    refine HD.out.mono ?_
    rintro e w1 ⟨he, hb1⟩
    replace he : e = .returned (.tuple #[.string ⟨#[]⟩, .int .i64 19]) := he
    obtain rfl := he
    go_wp2_with fail
    go_ret2
    exact ⟨rfl, hb1⟩
  | some t =>
    rw [hd] at HD
    obtain ⟨xs, hx, hsz⟩ := text_yes (decT_text hd)
    have HC := Lib.hid (fun W => l11Encode_any k t xs (by omega) hx hsz W)
    rw [enc_oR] at HC
    show Calls _ _ _ _ fun e w' => e = .returned (.tuple #[.string (oR (encT k t)).1, .int .i64 (oR (encT k t)).2]) ∧ _
    obtain ⟨r, hr⟩ : ∃ r, r = oR (encT k t) := ⟨_, rfl⟩
    rw [← hr] at HC ⊢
    obtain ⟨r1, r2⟩ := r
    clear hr hd hx hs
    go_enter Tryd.func19, Tryd.ntmps19
    go_wp2_with fail
    refine (HE _).mono ?_
    rintro e w1 ⟨rfl, rfl⟩
    go_wp2_with fail
    refine (HK _).mono ?_
    rintro e w1 ⟨rfl, rfl⟩
    go_wp2_with fail
    refine HD.out.mono ?_
    rintro e w1 ⟨he, hb1⟩
    replace he : e = .returned (.tuple #[.string t, .int .i64 0]) := he
    obtain rfl := he
    go_wp2_with fail
    refine (HC.out _).mono ?_
    rintro e w2 ⟨rfl, hb2⟩
    go_wp2_with fail
    go_ret2
    exact ⟨rfl, hb1.trans (hb2.mono hb1.size)⟩
theorem implDecode_ok (n : Int) (s : ByteArray) (h_n : (Lit.int .i64 n).wf = true) (hs : s.size ≤ 1048576) : ∀ B w, B ≤ w.heap.size → TabW w → Calls Tryd.prog 18 #[.int .i64 n, .string s] w fun e w' => e = .returned (.tuple #[.string (decR n s).1, .int .i64 (decR n s).2]) ∧ Below w.heap.size w w' := by
  intro B w _ hT
  have HE := fun W => implEnOk_any n W
  rw [decR]
  cases hin : inB n 1 3
  case false =>
    rw [hin] at HE
    rw [if_neg (by decide)]
    clear hs
    go_enter Tryd.func18, Tryd.ntmps18
    go_wp2_with fail
    refine (HE _).mono ?_
    rintro e w1 ⟨rfl, rfl⟩
    go_wp2_with fail
    go_ret2
    exact ⟨rfl, Below.refl _ _⟩
  rw [hin] at HE
  have hn := inB_iff.1 hin
  have HD := Lib.hid (implDecode_any n (by omega) s hs w hT)
  rw [txt_oR] at HD
  rw [if_pos rfl]
  obtain ⟨r, hr⟩ : ∃ r, r = oR (decT n s) := ⟨_, rfl⟩
  rw [← hr] at HD ⊢
  obtain ⟨r1, r2⟩ := r
  clear hr hs
  go_enter Tryd.func18, Tryd.ntmps18
  go_wp2_with fail
  refine (HE _).mono ?_
  rintro e w1 ⟨rfl, rfl⟩
  go_wp2_with fail
  refine HD.out.mono ?_
  rintro e w1 ⟨rfl, hb1⟩
  go_wp2_with fail
  go_ret2
  exact ⟨rfl, hb1⟩
theorem implTranscode_ok (n k : Int) (s : ByteArray) (h_n : (Lit.int .i64 n).wf = true) (h_k : (Lit.int .i64 k).wf = true) (hs : s.size ≤ 1048576) : ∀ B w, B ≤ w.heap.size → TabW w → Calls Tryd.prog 20 #[.int .i64 n, .int .i64 k, .string s] w fun e w' => e = .returned (.tuple #[.string (traR n k s).1, .int .i64 (traR n k s).2]) ∧ Below w.heap.size w w' := by
  intro B w _ hT
  have HE := fun W => implEnOk_any n W
  have HK := fun W => implEnOk_any k W
  rw [traR]
  cases hin : inB n 1 3
  case false =>
    rw [hin] at HE
    rw [if_neg fun e => absurd e.1 (by decide)]
    clear hs HK
    go_enter Tryd.func20, Tryd.ntmps20
    go_wp2_with fail
    refine (HE _).mono ?_
    rintro e w1 ⟨rfl, rfl⟩
    go_wp2_with fail
    go_ret2
    exact ⟨rfl, Below.refl _ _⟩
  rw [hin] at HE
  cases hik : inB k 1 3
  case false =>
    rw [hik] at HK
    rw [if_neg fun e => absurd e.2 (by decide)]
    clear hs
    go_enter Tryd.func20, Tryd.ntmps20
    go_wp2_with fail
    refine (HE _).mono ?_
    rintro e w1 ⟨rfl, rfl⟩
    go_wp2_with fail
    refine (HK _).mono ?_
    rintro e w1 ⟨rfl, rfl⟩
    go_wp2_with fail
    go_ret2
    exact ⟨rfl, Below.refl _ _⟩
  rw [hik] at HK
  have hn := inB_iff.1 hin
  have hk := inB_iff.1 hik
  have HD := Lib.hid (implDecode_any n (by omega) s hs w hT)
  rw [if_pos ⟨rfl, rfl⟩]
  cases hd : decT n s with
  | none =>
    rw [hd] at HD
    clear hd hs
    go_enter Tryd.func20, Tryd.ntmps20
    go_wp2_with fail
    refine (HE _).mono ?_
    rintro e w1 ⟨rfl, rfl⟩
    go_wp2_with fail
    refine (HK _).mono ?_
    rintro e w1 ⟨rfl, rfl⟩
    go_wp2_with fail
    refine HD.out.mono ?_
    rintro e w1 ⟨he, hb1⟩
    replace he : e = .returned (.tuple #[.string ⟨#[]⟩, .int .i64 19]) := he
    obtain rfl := he
    go_wp2_with fail
    go_ret2
    exact ⟨rfl, hb1⟩
  | some t =>
    rw [hd] at HD
    obtain ⟨xs, hx, hsz⟩ := text_yes (decT_text hd)
    have HC := Lib.hid (fun W => encode_any k t xs (by omega) hx hsz W)
    rw [enc_oR] at HC
    show Calls _ _ _ _ fun e w' => e = .returned (.tuple #[.string (oR (encT k t)).1, .int .i64 (oR (encT k t)).2]) ∧ _
    obtain ⟨r, hr⟩ : ∃ r, r = oR (encT k t) := ⟨_, rfl⟩
    rw [← hr] at HC ⊢
    obtain ⟨r1, r2⟩ := r
    clear hr hd hx hs
    go_enter Tryd.func20, Tryd.ntmps20
    go_wp2_with fail
    refine (HE _).mono ?_
    rintro e w1 ⟨rfl, rfl⟩
    go_wp2_with fail
    refine (HK _).mono ?_
    rintro e w1 ⟨rfl, rfl⟩
    go_wp2_with fail
    refine HD.out.mono ?_
    rintro e w1 ⟨he, hb1⟩
    replace he : e = .returned (.tuple #[.string t, .int .i64 0]) := he
    obtain rfl := he
    go_wp2_with fail
    refine (HC.out _).mono ?_
    rintro e w2 ⟨rfl, hb2⟩
    go_wp2_with fail
    go_ret2
    exact ⟨rfl, hb1.trans (hb2.mono hb1.size)⟩
end Go.Proofs.YtdmmiboefdbcdaaDoor

