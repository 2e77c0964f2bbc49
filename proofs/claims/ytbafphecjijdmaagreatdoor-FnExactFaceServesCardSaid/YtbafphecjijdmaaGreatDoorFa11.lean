/-
  Contracts of the small number functions: bounds, encodings, sizes, number kinds.
  Decimal numerals: spec.l15Digits; strconv.FormatInt, impl.decimal.
  Why one type cannot stand for another: plain. No program in sight.
-/
import Derived.Test.YtbafphecjijdmaaGreatDoorRows
import Derived.Test.YtbafphecjijdmaaGreatDoorFa01
import Derived.Test.YtbafphecjijdmaaGreatDoorFa10
import Derived.Shelf.Strconv.Itoa4
import Derived.Laws.BytesArg
import Derived.Laws.Concat
import Derived.Laws.Shifts
import Derived.Lib.ItoaLen
import Derived.Deep.RegionHeld3
import Derived.Deep.RegionWith
import Derived.Test.YtbafphecjijdmaaGreatDoorFa09
namespace Go.Proofs.YtbafphecjijdmaaGreatDoor
open Go.RowKit
set_option linter.unusedVariables false
set_option linter.unusedSimpArgs false
set_option linter.unnecessarySimpa false
theorem oh (n lo hi:Int) (w:World):
  Calls Tryz.prog 123 #[.int .i64 n,.int .i64 lo,.int .i64 hi] w fun e w'=>e=.returned (.bool (inB n lo hi))∧w=w':=by
 by_cases h1:lo≤n<;>by_cases h2:n≤hi
 all_goals
  go_enter Tryz.func123,Tryz.ntmps123
  go_wp2
  go_ret
  exact⟨ah (by simp[inB,h1,h2]),rfl⟩
theorem ng (n lo hi:Int) (w:World):
  Calls Tryz.prog 128 #[.int .i64 n,.int .i64 lo,.int .i64 hi] w fun e w'=>e=.returned (.bool (inB n lo hi))∧w=w':=by
 by_cases h1:lo≤n<;>by_cases h2:n≤hi
 all_goals
  go_enter Tryz.func128,Tryz.ntmps128
  go_wp2
  go_ret
  exact⟨ah (by simp[inB,h1,h2]),rfl⟩
end Go.Proofs.YtbafphecjijdmaaGreatDoor
namespace Go.Proofs.YtbafphecjijdmaaGreatDoor
open Go.RowKit Go.Shelf
set_option linter.unusedVariables false
set_option linter.unusedSimpArgs false
set_option linter.unnecessarySimpa false
set_option maxRecDepth 16000
def abn (n:Int):ByteArray:=⟨(Lib.itoa n).toArray⟩
theorem aie {n:Int} (h0:-9223372036854775808≤n) (h1:n≤9223372036854775807):(abn n).size≤21:=by
 have:=Lib.itoa_length_le n h0 h1
 simpa [abn,ByteArray.size] using this
theorem ao7 {n:Int} (h0:0≤n) (h1:n < 10):abn n=strOfNums [48+n]:=by
 obtain⟨k,rfl⟩:=Int.eq_ofNat_of_zero_le h0
 have hk:(k:Int).toNat=k:=by simp
 rw[abn,Lib.itoa,if_neg (by omega),hk,Lib.decDigits,dif_pos (by omega)]
 simp only[strOfNums,List.map_cons,List.map_nil]
 rw[show((48:Int)+(k:Int)).toNat=48+k by omega]
theorem aws {n:Int} (h0:10≤n):abn n=abn (n / 10) ++strOfNums [48+n % 10]:=by
 obtain⟨k,rfl⟩:=Int.eq_ofNat_of_zero_le (show 0≤n by omega)
 have hk:(k:Int).toNat=k:=by simp
 have hq:((k:Int) / 10).toNat=k / 10:=by omega
 rw[abn,abn,Lib.itoa,Lib.itoa,if_neg (by omega),if_neg (by omega),hk,hq,Lib.decDigits,dif_neg (by omega)]
 simp only[strOfNums,List.map_cons,List.map_nil]
 rw[show((48:Int)+(k:Int) % 10).toNat=48+k % 10 by omega]
 simp[ByteArray.ext_iff]
theorem a6q {n:Int} (h:n < 0):abn n=⟨#[45]⟩ ++abn (-n):=by
 rw[abn,abn,Lib.itoa,Lib.itoa,if_pos h,if_neg (by omega),show(-n).toNat=n.natAbs by omega]
 simp[ByteArray.ext_iff]
theorem a6r:abn (-9223372036854775808)=⟨#[45,57,50,50,51,51,55,50,48,51,54,56,53,52,55,55,53,56,48,56]⟩:=by
 have:Lib.itoa (-9223372036854775808)=[45,57,50,50,51,51,55,50,48,51,54,56,53,52,55,55,53,56,48,56]:=by kernel_rfl
 rw[abn,this]
theorem anq {w:World} {g:Nat} {x:Int} (h:Blk w g 5 #[.int .u8 x]):(convert 174 9 (.slice (some ⟨g,0,none⟩) 1 1)).run Tryz.prog w=.ok (.string (strOfNums [x])) w:=by
 refine run_convert_bytes_arg _ _ _ Tryz.underlying174 Tryz.underlying5 _ 0 1 1 [x] rfl (fun i hi=>?_) _ Tryz.underlying9
 refine(h.cell (0+i)).trans ?_
 have:i=0:=by omega
 subst this
 rfl
set_option maxHeartbeats 3200000 in
theorem awt:∀ (k:Nat) (n:Int),n.toNat≤k→0≤n→n≤9223372036854775807→∀ w:World,Calls Tryz.prog 134 #[.int .i64 n] w fun e w'=>e=.returned (.string (abn n))∧Below w.heap.size w w':=by
 intro k
 induction k with
 | zero=>
  intro n hk h0 h1 w
  have hn:n=0:=by omega
  subst hn
  rw[show abn 0=strOfNums [48] from ao7 (by decide) (by decide)]
  have hst:=anq (Blk.new w 5 #[.int .u8 48])
  have hw:IntKind.u8.wrap 48=48:=by rw[IntKind.wrap_u8];omega
  go_enter Tryz.func134,Tryz.ntmps134
  go_wp2_with fail
  go_ret
  exact⟨rfl,(Below.refl _ _).alloc (Nat.le_refl _) _⟩
 | succ k ih=>
  intro n hk h0 h1 w
  by_cases h10:n < 10
  ·rw[ao7 h0 h10]
   have hst:=anq (Blk.new w 5 #[.int .u8 (48+n)])
   have hw:IntKind.u8.wrap (48+n)=48+n:=by rw[IntKind.wrap_u8];omega
   have hn0:¬ n < 0:=by omega
   go_enter Tryz.func134,Tryz.ntmps134
   go_wp2_with fail
   go_ret
   exact⟨rfl,(Below.refl _ _).alloc (Nat.le_refl _) _⟩
  ·have HI:=Lib.hid (ih (n / 10) (by omega) (by omega) (by omega))
   rw[aws (by omega)]
   have hz:=aie (n:=n / 10) (by omega) (by omega)
   obtain⟨a,ha⟩:∃ a,a=abn (n / 10):=⟨_,rfl⟩
   rw[← ha] at HI hz ⊢
   clear ha ih
   have hsz:(strOfNums [48+n % 10]).size=1:=strOfNums_size _
   have hsum:(9223372036854775807 < a.size+(strOfNums [48+n % 10]).size)=False:=by rw[hsz];simp;omega
   have hw:IntKind.u8.wrap (48+n % 10)=48+n % 10:=by rw[IntKind.wrap_u8];omega
   have hn0:¬ n < 0:=by omega
   have hq:n.tdiv 10=n / 10:=by rw[Int.tdiv_eq_ediv_of_nonneg h0]
   have hr:n.tmod 10=n % 10:=by rw[Int.tmod_eq_emod_of_nonneg h0]
   have hi64:IntKind.i64.wrap (48+n % 10)=48+n % 10:=IntWalk.i64_in _ (by omega)
   have hi64q:IntKind.i64.wrap (n / 10)=n / 10:=IntWalk.i64_in _ (by omega)
   have hB0:Below w.heap.size w w.drew:=(Below.refl _ _).drew
   have hB1:Below w.heap.size w (w.alloc (.cells #[.int .u8 (48+n % 10)] 5)).drew:=((Below.refl _ _).alloc (Nat.le_refl _) _).drew
   have bA:Blk (w.alloc (.cells #[.int .u8 (48+n % 10)] 5)).drew w.heap.size 5 #[.int .u8 (48+n % 10)]:=(Blk.new w _ _).drew
   have hst0:=anq bA
   obtain⟨b,hb⟩:∃ b,b=strOfNums [48+n % 10]:=⟨_,rfl⟩
   rw[← hb] at hst0 hsum ⊢
   have HST:=Lib.hid (fun(W:World) (g:Nat) (h:Blk W g 5 #[.int .u8 (48+n % 10)])=>(anq h:_))
   rw[← hb] at HST
   clear hb hsz
   go_enter Tryz.func134,Tryz.ntmps134
   go_wp2_with fail
   go_region_with (first
    | (go_at_call 134;refine(HI.out w.drew).mono ?_;rintro e wq ⟨rfl,hbq⟩;have hBq:=hB0.trans hbq;have hstq:=HST.out _ _ (Blk.new wq 5 #[.int .u8 (48+n % 10)]))
    | (go_at_call 134;refine(HI.out (w.alloc (.cells #[.int .u8 (48+n % 10)] 5)).drew).mono ?_;rintro e wq ⟨rfl,hbq⟩;have hBq:=hB1.trans (hbq.mono hB1.size);have hstq:=HST.out _ _ (bA.step hbq)))
   all_goals
    go_wp2_with fail
    go_ret
    first|exact⟨rfl,hBq⟩|exact⟨rfl,hBq.alloc hBq.size _⟩
theorem a5f (n:Int) (h:(Lit.int .i64 n).wf=true) (w:World):Calls Tryz.prog 134 #[.int .i64 n] w fun e w'=>e=.returned (.string (abn n))∧Below w.heap.size w w':=by
 have hb:=wf64 h
 by_cases h0:0≤n
 ·exact awt n.toNat n (Nat.le_refl _) h0 hb.2 w
 by_cases hm:n=-9223372036854775808
 ·subst hm
  rw[a6r]
  go_enter Tryz.func134,Tryz.ntmps134
  go_wp2_with fail
  go_ret
  exact⟨rfl,Below.refl _ _⟩
 have HP:=Lib.hid (awt (-n).toNat (-n) (Nat.le_refl _) (by omega) (by omega) w)
 rw[a6q (by omega)]
 have hz:=aie (n:=-n) (by omega) (by omega)
 obtain⟨a,ha⟩:∃ a,a=abn (-n):=⟨_,rfl⟩
 rw[← ha] at HP hz ⊢
 have hneg:IntKind.i64.wrap (-n)=-n:=IntWalk.i64_in _ (by omega)
 have hn0:n < 0:=by omega
 have hmb:(n ==-9223372036854775808)=false:=by simpa using hm
 clear ha
 go_enter Tryz.func134,Tryz.ntmps134
 go_wp2_with fail
 refine HP.out.mono ?_
 rintro e w1 ⟨rfl,hb1⟩
 go_wp2_with fail
 go_ret
 exact⟨rfl,hb1⟩
def fm_ren:Go.Shelf.Ren:=⟨fun
  | 129=>194|173=>160|246=>174|283=>195|284=>196|285=>197|286=>198|317=>214|318=>215|319=>216|320=>217|337=>222|338=>223|n=>n,fun
  | 0=>0|2=>2|3=>3|4=>4|5=>5|9=>9|20=>20|37=>174|46=>183|51=>204|53=>189|171=>207|173=>209|212=>224|213=>225|232=>240|233=>241|n=>n,fun
  | 17=>3|18=>6|19=>7|n=>n⟩
set_option maxHeartbeats 4000000 in
theorem a8q:Lays.n173 Tryz.prog fm_ren where
 mixed:=by kernel_rfl
 f129:=Tryz.func194.trans (congrArg some (by kernel_rfl))
 f173:=Tryz.func160.trans (congrArg some (by kernel_rfl))
 f246:=Tryz.func174.trans (congrArg some (by kernel_rfl))
 f283:=Tryz.func195.trans (congrArg some (by kernel_rfl))
 f284:=Tryz.func196.trans (congrArg some (by kernel_rfl))
 f285:=Tryz.func197.trans (congrArg some (by kernel_rfl))
 f286:=Tryz.func198.trans (congrArg some (by kernel_rfl))
 f317:=Tryz.func214.trans (congrArg some (by kernel_rfl))
 f318:=Tryz.func215.trans (congrArg some (by kernel_rfl))
 f319:=Tryz.func216.trans (congrArg some (by kernel_rfl))
 f320:=Tryz.func217.trans (congrArg some (by kernel_rfl))
 f337:=Tryz.func222.trans (congrArg some (by kernel_rfl))
 f338:=Tryz.func223.trans (congrArg some (by kernel_rfl))
 t0:=by kernel_rfl
 a0:=fun _=>by kernel_rfl
 z0:=fun _=>by kernel_rfl
 v0:=fun _=>by kernel_rfl
 t2:=by kernel_rfl
 a2:=fun _=>by kernel_rfl
 z2:=fun _=>by kernel_rfl
 v2:=fun _=>by kernel_rfl
 t3:=by kernel_rfl
 a3:=fun _=>by kernel_rfl
 z3:=fun _=>by kernel_rfl
 v3:=fun _=>by kernel_rfl
 t4:=by kernel_rfl
 a4:=fun _=>by kernel_rfl
 z4:=fun _=>by kernel_rfl
 v4:=fun _=>by kernel_rfl
 t5:=by kernel_rfl
 a5:=fun _=>by kernel_rfl
 z5:=fun _=>by kernel_rfl
 v5:=fun _=>by kernel_rfl
 t9:=by kernel_rfl
 a9:=fun _=>by kernel_rfl
 z9:=fun _=>by kernel_rfl
 v9:=fun _=>by kernel_rfl
 t20:=by kernel_rfl
 a20:=fun _=>by kernel_rfl
 z20:=fun _=>by kernel_rfl
 v20:=fun _=>by kernel_rfl
 t37:=by kernel_rfl
 a37:=fun _=>by kernel_rfl
 z37:=fun _=>by kernel_rfl
 v37:=fun _=>by kernel_rfl
 t46:=by kernel_rfl
 a46:=fun _=>by kernel_rfl
 z46:=fun _=>by kernel_rfl
 v46:=fun _=>by kernel_rfl
 t51:=by kernel_rfl
 a51:=fun _=>by kernel_rfl
 z51:=fun _=>by kernel_rfl
 v51:=fun _=>by kernel_rfl
 t53:=by kernel_rfl
 a53:=fun _=>by kernel_rfl
 z53:=fun _=>by kernel_rfl
 v53:=fun _=>by kernel_rfl
 t171:=by kernel_rfl
 a171:=fun _=>by kernel_rfl
 z171:=fun _=>by kernel_rfl
 v171:=fun _=>by kernel_rfl
 t173:=by kernel_rfl
 a173:=fun _=>by kernel_rfl
 z173:=fun _=>by kernel_rfl
 v173:=fun _=>by kernel_rfl
 t212:=by kernel_rfl
 a212:=fun _=>by kernel_rfl
 z212:=fun _=>by kernel_rfl
 v212:=fun _=>by kernel_rfl
 t213:=by kernel_rfl
 a213:=fun _=>by kernel_rfl
 z213:=fun _=>by kernel_rfl
 t232:=by kernel_rfl
 a232:=fun _=>by kernel_rfl
 z232:=fun _=>by kernel_rfl
 v232:=fun _=>by kernel_rfl
 t233:=by kernel_rfl
 a233:=fun _=>by kernel_rfl
 z233:=fun _=>by kernel_rfl
 v233:=fun _=>by kernel_rfl
 g17:=by kernel_rfl
 g18:=by kernel_rfl
 g19:=by kernel_rfl
theorem fm_lays:LaysM.n173 Tryz.prog fm_ren:={a8q with i0:=by kernel_rfl,i2:=by kernel_rfl,i3:=by kernel_rfl,i4:=by kernel_rfl,i5:=by kernel_rfl,i9:=by kernel_rfl,i20:=by kernel_rfl,i37:=by kernel_rfl,i46:=by kernel_rfl,i51:=by kernel_rfl,i53:=by kernel_rfl,i171:=by kernel_rfl,i173:=by kernel_rfl,i212:=by kernel_rfl,i232:=by kernel_rfl,i233:=by kernel_rfl,m17:=by kernel_rfl,m18:=by kernel_rfl,m19:=by kernel_rfl}
theorem below_grown (w:World) (k:Nat) (os:Array Obj):Below w.heap.size w (Go.Sort.grow (w.drewN k) os):=
 (below_drewN (Below.refl w.heap.size w) k).trans ⟨rfl,rfl,rfl,by simp[Go.Sort.grow],fun i hi=>by
  show((w.drewN k).heap ++os)[i]?=_
  have h:i < (w.drewN k).heap.size:=by simpa using hi
  rw[Array.getElem?_append,if_pos h]⟩
def aex (w:World):Prop:=Lib.TabIs Tryz.prog w "internal/strconv.uint64pow10" .u64 Lib.pow10Tab
theorem aex.below {w w':World} (h:aex w) (hb:Below w.heap.size w w'):aex w':=a3b h hb
theorem a8r:(Rows.laid_internal_strconv_uint64pow10:DataW Unit)=Lib.tabData .u64 Lib.pow10Tab:=by kernel_rfl
theorem a5g {l:List (String×DataW Unit)} (hp:(l.all fun x=>x.2.handleName?.isNone)=true) (hm2:("internal/strconv.uint64pow10",(Rows.laid_internal_strconv_uint64pow10:DataW Unit)) ∈ l) {w:World} (h:laidMetH Tryz.prog l w):aex w:=by
 rw[MakeChecks.laidMetH_plain _ _ _ hp] at h
 have h1:=Lib.laidMet.reads h hm2
 rw[a8r] at h1
 exact a3a (g:=3) (t:=224) (e:=189) (n:=20) (by kernel_rfl) (by kernel_rfl) (by kernel_rfl) (by kernel_rfl) (by kernel_rfl) (by kernel_rfl) h1
theorem aze (n:Int) (h:(Lit.int .i64 n).wf=true) (w:World) (hT:aex w):Calls Tryz.prog 160 #[.int .i64 n,.int .i64 10] w fun e w'=>e=.returned (.string (abn n))∧Below w.heap.size w w':=by
 have hb:=wf64 h
 refine(Any.strconv_FormatInt_10 fm_lays n hb.1 hb.2 w hT).mono ?_
 rintro e w' ⟨rfl,k,os,rfl⟩
 exact⟨rfl,below_grown w k os⟩
theorem au4 (n:Int) (h:(Lit.int .i64 n).wf=true) (w:World) (hT:aex w):Calls Tryz.prog 146 #[.int .i64 n] w fun e w'=>e=.returned (.string (abn n))∧Below w.heap.size w w':=by
 have HF:=Lib.hid (aze n h w hT)
 go_enter Tryz.func146,Tryz.ntmps146
 go_wp2_with fail
 refine HF.out.mono ?_
 rintro e w1 ⟨rfl,hb1⟩
 go_wp2_with fail
 go_ret
 exact⟨rfl,hb1⟩
end Go.Proofs.YtbafphecjijdmaaGreatDoor
namespace Go.Proofs.YtbafphecjijdmaaGreatDoor
set_option linter.unusedVariables false
set_option linter.unusedSimpArgs false
set_option linter.unnecessarySimpa false
abbrev Why:=Option (Int×ByteArray)
def whyN:Why→Int|none=>0|some r=>r.1
def whyS:Why→ByteArray|none=>⟨#[]⟩|some r=>r.2
def whyB:Why→Bool|none=>false|some _=>true
theorem ags {r:Why} (h:whyB r=false):r=none:=by cases r with|none=>rfl|some r=>cases h
theorem agt {r:Why} (h:whyB r=true):r=some (whyN r,whyS r):=by cases r with|none=>cases h|some r=>rfl
def aax (f:Nat→Why):Nat→Why
 | 0=>none
 | k+1=>match aax f k with
  | some r=>some r
  | none=>f k
theorem aew {f:Nat→Why} {k:Nat} (h:aax f k=none) (hk:f k=none):aax f (k+1)=none:=by rw[aax,h];exact hk
theorem adt {f:Nat→Why} {k:Nat} {r:Int×ByteArray} (h:aax f k=none) (hk:f k=some r):∀ n,k < n→aax f n=some r
 | 0,hn=>absurd hn (by omega)
 | n+1,hn=>by
  by_cases e:k=n
  ·subst e;rw[aax,h];exact hk
  ·rw[aax,adt h hk n (by omega)]
def ae1 (k:Int):Int:=if k=4 then -128 else if k=6 then -32768 else if k=8 then -2147483648 else if k=9 then -9223372036854775808 else 0
def ae2 (k:Int):Int:=if k=3 then 255 else if k=4 then 127 else if k=5 then 65535 else if k=6 then 32767 else if k=7 then 4294967295 else if k=8 then 2147483647 else if k=9 then 9223372036854775807 else 0
def isNum (k:Int):Bool:=inB k 3 9
theorem air {k:Int} (h:isNum k=false):ae1 k=0:=by rw[isNum,afx] at h;rw[ae1,if_neg (by omega),if_neg (by omega),if_neg (by omega),if_neg (by omega)]
theorem ais {k:Int} (h:isNum k=false):ae2 k=0:=by rw[isNum,afx] at h;rw[ae2,if_neg (by omega),if_neg (by omega),if_neg (by omega),if_neg (by omega),if_neg (by omega),if_neg (by omega),if_neg (by omega)]
def dotS:ByteArray:=⟨#[46]⟩
def ait (at_ l:ByteArray):ByteArray:=(at_ ++dotS) ++l
def ahy (rec:Ty→Ty→ByteArray→Why) (kind:Int) (at_:ByteArray) (xl:List ByteArray) (xk:List Ty) (yl:List ByteArray) (yk:List Ty) (k:Nat):Why:=
 match xl[k]? with
 | none=>none
 | some l=>if ab6 (strEq l) yl < 0 then some (kind,ait at_ l)else if xk.length=0 then none else
  match xk[k]?,yk[(ab6 (strEq l) yl).toNat]? with
  | some x,some y=>rec x y (ait at_ l)
  | _,_=>none
def ajq (rec:Ty→Ty→ByteArray→Why) (kind:Int) (at_:ByteArray) (xl:List ByteArray) (xk:List Ty) (yl:List ByteArray) (yk:List Ty):Why:=
 aax (ahy rec kind at_ xl xk yl yk) xl.length
def an2 (rec:Ty→Ty→ByteArray→Why) (at_:ByteArray) (xk yk:List Ty) (k:Nat):Why:=
 match xk[k]?,yk[k]? with
 | some x,some y=>rec x y (ait at_ (abn k))
 | _,_=>none
def ami (rec:Ty→Ty→ByteArray→Why) (at_:ByteArray) (xk yk:List Ty) (k:Nat):Why:=
 match xk[k]?,yk[k]? with
 | some x,some y=>rec x y at_
 | _,_=>none
def adx (rec:Ty→Ty→ByteArray→Why) (kind:Int) (an:ByteArray) (al:List ByteArray) (ak:List Ty) (bn:ByteArray) (bl:List ByteArray) (bk:List Ty) (at_:ByteArray):Why:=
 if kind=12 then ami rec (at_ ++⟨#[91,93]⟩) ak bk 0
 else if kind=13 then ami rec (at_ ++⟨#[63]⟩) ak bk 0
 else if kind=14 then
  match ami rec (at_ ++⟨#[46,111,107]⟩) ak bk 0 with
  | some r=>some r
  | none=>ami rec (at_ ++⟨#[46,101,114,114]⟩) ak bk 1
 else if kind=15 then
  if ak.length=bk.length then aax (an2 rec at_ ak bk) ak.length else some (3,at_)
 else if kind=16 then ajq (fun x y=>rec y x) 4 at_ bl bk al ak
 else if kind=17∨kind=18∨kind=19 then ajq rec 5 at_ al ak bl bk
 else if kind=20∨kind=21 then (if an=bn then none else some (6,at_))
 else if kind=22∨kind=23 then
  match ak[0]?,bk[0]? with
  | some x,some y=>if ae6 100 x y then none else some (3,at_)
  | _,_=>none
 else none
def agf:Nat→Ty→Ty→ByteArray→Why
 | 0,_,_,_=>none
 | n+1,⟨ak,an,al,aks⟩,⟨bk,bn,bl,bks⟩,at_=>
  if isNum ak && isNum bk then (if ae1 bk≤ae1 ak∧ae2 ak≤ae2 bk then none else some (2,at_))
  else if ak=bk then adx (agf n) ak an al aks bn bl bks at_ else some (1,at_)
theorem axx {ls:List ByteArray} {t:ByteArray} (h:0≤ab6 (strEq t) ls):∃ j:Nat,ab6 (strEq t) ls=(j:Int)∧j < ls.length:=by
 refine⟨(ab6 (strEq t) ls).toNat,by omega,?_⟩
 have h2:∀ (xs:List ByteArray),ab6 (strEq t) xs < (xs.length:Int):=by
  intro xs
  induction xs with
  | nil=>simp[ab6]
  | cons x r ih=>
   rw[ab6]
   split
   ·simp
   ·dsimp only
    split<;>simp<;>omega
 have:=h2 ls
 omega
section
variable {rec:Ty→Ty→ByteArray→Why} {kind:Int} {at_:ByteArray} {xl:List ByteArray} {xk:List Ty} {yl:List ByteArray} {yk:List Ty} {k j:Nat} {l:ByteArray} {x y:Ty}
theorem ao8 (hl:xl[k]?=some l) (h:ab6 (strEq l) yl < 0):ahy rec kind at_ xl xk yl yk k=some (kind,ait at_ l):=by simp only[ahy,hl];rw[if_pos h]
theorem ayr (hl:xl[k]?=some l) (h:¬ ab6 (strEq l) yl < 0) (hk:xk.length=0):ahy rec kind at_ xl xk yl yk k=none:=by simp only[ahy,hl];rw[if_neg h,if_pos hk]
theorem avl (hl:xl[k]?=some l) (h:ab6 (strEq l) yl=(j:Int)) (hk:xk[k]?=some x) (hy:yk[j]?=some y):ahy rec kind at_ xl xk yl yk k=rec x y (ait at_ l):=by
 have hne:¬ xk.length=0:=fun e=>by rw[List.length_eq_zero_iff.1 e] at hk;cases hk
 simp only[ahy,hl,h,Int.toNat_natCast]
 rw[if_neg (by omega),if_neg hne]
 simp only[hk,hy]
theorem a4c (hk:xk[k]?=some x) (hy:yk[k]?=some y):an2 rec at_ xk yk k=rec x y (ait at_ (abn k)):=by simp only[an2,hk,hy]
theorem al4 (hk:xk[k]?=some x) (hy:yk[k]?=some y):ami rec at_ xk yk k=rec x y at_:=by simp only[ami,hk,hy]
end
theorem a0t {ls:List ByteArray} (h:abg ls=true):ls.length≤16∧∀ l ∈ ls,l.size≤12:=by
 simp only[abg,Bool.and_eq_true,af4,List.all_eq_true] at h
 exact⟨by omega,fun l hl=>(ahq (h.1.2 l hl)).2⟩
structure ShF (kind:Int) (labels:List ByteArray) (kids:List Ty):Prop where
 all:∀ t ∈ kids,t.shapes=true
 right:jo kind labels.length kids=true
 labs:inB kind 16 19=true→labels.length≤16∧∀ l ∈ labels,l.size≤12
theorem shF {kind:Int} {name:ByteArray} {labels:List ByteArray} {kids:List Ty} (h:Ty.shapes ⟨kind,name,labels,kids⟩=true):ShF kind labels kids:=by
 rw[Ty.shapes,Bool.and_eq_true,ak2,List.all_eq_true] at h
 obtain⟨h1,h2⟩:=h
 have h1':((if named kind then zy name else decide (name.size=0)) && (if inB kind 16 19 then abg labels else decide (labels.length=0)) && jo kind labels.length kids)=true:=h1
 simp only[Bool.and_eq_true] at h1'
 refine⟨h2,h1'.2,fun hk=>?_⟩
 have:=h1'.1.2
 rw[if_pos hk] at this
 exact a0t this
theorem ahn {kind:Int} {n:Nat} {kids:List Ty} (hk:kind=12∨kind=13∨kind=22∨kind=23) (h:jo kind n kids=true):kids.length=1:=by
 rcases hk with rfl|rfl|rfl|rfl<;>simp[jo] at h<;>exact h.1
theorem aqp {n:Nat} {kids:List Ty} (h:jo 14 n kids=true):kids.length=2:=by simpa [jo] using h
theorem a0u {n:Nat} {kids:List Ty} (h:jo 15 n kids=true):kids.length≤6:=by
 simp[jo,inB] at h
 omega
theorem akk {kind:Int} {n:Nat} {kids:List Ty} (hk:kind=16∨kind=17) (h:jo kind n kids=true):kids.length=n:=by
 rcases hk with rfl|rfl<;>simp[jo] at h
 ·exact h.1
 ·exact h
theorem ays {kind:Int} {n:Nat} {kids:List Ty} (hk:kind=18∨kind=19) (h:jo kind n kids=true):kids.length=0:=by
 rcases hk with rfl|rfl<;>simp[jo] at h<;>simp[h.2]
theorem in_lab {kind:Int} (h:kind=18∨kind=19):inB kind 16 19=true:=by rcases h with rfl|rfl<;>rfl
theorem a5h {kind:Int} {name:ByteArray} {labels:List ByteArray} {kids:List Ty} {n:Nat} (h:(Ty.mk kind name labels kids).height≤n+1):∀ t ∈ kids,t.height≤n:=fun t ht=>by
 have:=awo ht
 rw[Ty.height] at h
 omega
theorem aqr {n:Nat} {ak:Int} {an:ByteArray} {al:List ByteArray} {aks:List Ty} {bk:Int} {bn:ByteArray} {bl:List ByteArray} {bks:List Ty} {at_:ByteArray} (h1:isNum ak=true) (h2:isNum bk=true):
  agf (n+1) ⟨ak,an,al,aks⟩ ⟨bk,bn,bl,bks⟩ at_=if ae1 bk≤ae1 ak∧ae2 ak≤ae2 bk then none else some (2,at_):=by rw[agf,h1,h2];exact if_pos rfl
theorem ayt {n:Nat} {ak:Int} {an:ByteArray} {al:List ByteArray} {aks:List Ty} {bk:Int} {bn:ByteArray} {bl:List ByteArray} {bks:List Ty} {at_:ByteArray} (h:(isNum ak && isNum bk)=false) (hk:¬ ak=bk):
  agf (n+1) ⟨ak,an,al,aks⟩ ⟨bk,bn,bl,bks⟩ at_=some (1,at_):=by rw[agf,h,if_neg (by decide),if_neg hk]
theorem ayu {n:Nat} {ak:Int} {an:ByteArray} {al:List ByteArray} {aks:List Ty} {bn:ByteArray} {bl:List ByteArray} {bks:List Ty} {at_:ByteArray} (h:isNum ak=false):
  agf (n+1) ⟨ak,an,al,aks⟩ ⟨ak,bn,bl,bks⟩ at_=adx (agf n) ak an al aks bn bl bks at_:=by rw[agf,h,Bool.false_and,if_neg (by decide),if_pos rfl]
end Go.Proofs.YtbafphecjijdmaaGreatDoor
