/-
  Contracts of the small number functions: bounds, encodings, sizes, number kinds.
  Decimal numerals: spec.l15Digits; strconv.FormatInt, impl.decimal.
  Why one type cannot stand for another: plain. No program in sight.
-/
import Derived.Test.YtbafphecjijdmaaGreatDoorRows
import Derived.Test.YtbafphecjijdmaaGreatDoorWa01
import Derived.Test.YtbafphecjijdmaaGreatDoorWa10
import Derived.Shelf.Strconv.Itoa4
import Derived.Laws.BytesArg
import Derived.Laws.Concat
import Derived.Laws.Shifts
import Derived.Lib.ItoaLen
import Derived.Deep.RegionHeld3
import Derived.Deep.RegionWith
import Derived.Test.YtbafphecjijdmaaGreatDoorWa09
namespace Go.Proofs.YtbafphecjijdmaaGreatDoor
open Go.RowKit
set_option linter.unusedVariables false
set_option linter.unusedSimpArgs false
set_option linter.unnecessarySimpa false
theorem oh (n lo hi:Int) (w:World):
  Calls Tryz.prog 123 #[.int .i64 n,.int .i64 lo,.int .i64 hi] w fun e w'=>e=.returned (.bool (inB n lo hi))∧w=w':=by
 by_cases h1:lo≤n<;>by_cases h2:n≤hi
 all_goals
  go_enter Tryz.func123,Tryz.ntmps123
  go_wp2
  go_ret
  exact⟨ah (by simp[inB,h1,h2]),rfl⟩
theorem ng (n lo hi:Int) (w:World):
  Calls Tryz.prog 128 #[.int .i64 n,.int .i64 lo,.int .i64 hi] w fun e w'=>e=.returned (.bool (inB n lo hi))∧w=w':=by
 by_cases h1:lo≤n<;>by_cases h2:n≤hi
 all_goals
  go_enter Tryz.func128,Tryz.ntmps128
  go_wp2
  go_ret
  exact⟨ah (by simp[inB,h1,h2]),rfl⟩
end Go.Proofs.YtbafphecjijdmaaGreatDoor
namespace Go.Proofs.YtbafphecjijdmaaGreatDoor
open Go.RowKit Go.Shelf
set_option linter.unusedVariables false
set_option linter.unusedSimpArgs false
set_option linter.unnecessarySimpa false
set_option maxRecDepth 16000
def abr (n:Int):ByteArray:=⟨(Lib.itoa n).toArray⟩
theorem aii {n:Int} (h0:-9223372036854775808≤n) (h1:n≤9223372036854775807):(abr n).size≤21:=by
 have:=Lib.itoa_length_le n h0 h1
 simpa [abr,ByteArray.size] using this
theorem apg {n:Int} (h0:0≤n) (h1:n < 10):abr n=strOfNums [48+n]:=by
 obtain⟨k,rfl⟩:=Int.eq_ofNat_of_zero_le h0
 have hk:(k:Int).toNat=k:=by simp
 rw[abr,Lib.itoa,if_neg (by omega),hk,Lib.decDigits,dif_pos (by omega)]
 simp only[strOfNums,List.map_cons,List.map_nil]
 rw[show((48:Int)+(k:Int)).toNat=48+k by omega]
theorem aw5 {n:Int} (h0:10≤n):abr n=abr (n / 10) ++strOfNums [48+n % 10]:=by
 obtain⟨k,rfl⟩:=Int.eq_ofNat_of_zero_le (show 0≤n by omega)
 have hk:(k:Int).toNat=k:=by simp
 have hq:((k:Int) / 10).toNat=k / 10:=by omega
 rw[abr,abr,Lib.itoa,Lib.itoa,if_neg (by omega),if_neg (by omega),hk,hq,Lib.decDigits,dif_neg (by omega)]
 simp only[strOfNums,List.map_cons,List.map_nil]
 rw[show((48:Int)+(k:Int) % 10).toNat=48+k % 10 by omega]
 simp[ByteArray.ext_iff]
theorem a95 {n:Int} (h:n < 0):abr n=⟨#[45]⟩ ++abr (-n):=by
 rw[abr,abr,Lib.itoa,Lib.itoa,if_pos h,if_neg (by omega),show(-n).toNat=n.natAbs by omega]
 simp[ByteArray.ext_iff]
theorem a96:abr (-9223372036854775808)=⟨#[45,57,50,50,51,51,55,50,48,51,54,56,53,52,55,55,53,56,48,56]⟩:=by
 have:Lib.itoa (-9223372036854775808)=[45,57,50,50,51,51,55,50,48,51,54,56,53,52,55,55,53,56,48,56]:=by kernel_rfl
 rw[abr,this]
theorem anz {w:World} {g:Nat} {x:Int} (h:Blk w g 5 #[.int .u8 x]):(convert 174 9 (.slice (some ⟨g,0,none⟩) 1 1)).run Tryz.prog w=.ok (.string (strOfNums [x])) w:=by
 refine run_convert_bytes_arg _ _ _ Tryz.underlying174 Tryz.underlying5 _ 0 1 1 [x] rfl (fun i hi=>?_) _ Tryz.underlying9
 refine(h.cell (0+i)).trans ?_
 have:i=0:=by omega
 subst this
 rfl
set_option maxHeartbeats 3200000 in
theorem aw6:∀ (k:Nat) (n:Int),n.toNat≤k→0≤n→n≤9223372036854775807→∀ w:World,Calls Tryz.prog 134 #[.int .i64 n] w fun e w'=>e=.returned (.string (abr n))∧Below w.heap.size w w':=by
 intro k
 induction k with
 | zero=>
  intro n hk h0 h1 w
  have hn:n=0:=by omega
  subst hn
  rw[show abr 0=strOfNums [48] from apg (by decide) (by decide)]
  have hst:=anz (Blk.new w 5 #[.int .u8 48])
  have hw:IntKind.u8.wrap 48=48:=by rw[IntKind.wrap_u8];omega
  go_enter Tryz.func134,Tryz.ntmps134
  go_wp2_with fail
  go_ret
  exact⟨rfl,(Below.refl _ _).alloc (Nat.le_refl _) _⟩
 | succ k ih=>
  intro n hk h0 h1 w
  by_cases h10:n < 10
  ·rw[apg h0 h10]
   have hst:=anz (Blk.new w 5 #[.int .u8 (48+n)])
   have hw:IntKind.u8.wrap (48+n)=48+n:=by rw[IntKind.wrap_u8];omega
   have hn0:¬ n < 0:=by omega
   go_enter Tryz.func134,Tryz.ntmps134
   go_wp2_with fail
   go_ret
   exact⟨rfl,(Below.refl _ _).alloc (Nat.le_refl _) _⟩
  ·have HI:=Lib.hid (ih (n / 10) (by omega) (by omega) (by omega))
   rw[aw5 (by omega)]
   have hz:=aii (n:=n / 10) (by omega) (by omega)
   obtain⟨a,ha⟩:∃ a,a=abr (n / 10):=⟨_,rfl⟩
   rw[← ha] at HI hz ⊢
   clear ha ih
   have hsz:(strOfNums [48+n % 10]).size=1:=strOfNums_size _
   have hsum:(9223372036854775807 < a.size+(strOfNums [48+n % 10]).size)=False:=by rw[hsz];simp;omega
   have hw:IntKind.u8.wrap (48+n % 10)=48+n % 10:=by rw[IntKind.wrap_u8];omega
   have hn0:¬ n < 0:=by omega
   have hq:n.tdiv 10=n / 10:=by rw[Int.tdiv_eq_ediv_of_nonneg h0]
   have hr:n.tmod 10=n % 10:=by rw[Int.tmod_eq_emod_of_nonneg h0]
   have hi64:IntKind.i64.wrap (48+n % 10)=48+n % 10:=IntWalk.i64_in _ (by omega)
   have bmt:IntKind.i64.wrap (n / 10)=n / 10:=IntWalk.i64_in _ (by omega)
   have hB0:Below w.heap.size w w.drew:=(Below.refl _ _).drew
   have hB1:Below w.heap.size w (w.alloc (.cells #[.int .u8 (48+n % 10)] 5)).drew:=((Below.refl _ _).alloc (Nat.le_refl _) _).drew
   have bA:Blk (w.alloc (.cells #[.int .u8 (48+n % 10)] 5)).drew w.heap.size 5 #[.int .u8 (48+n % 10)]:=(Blk.new w _ _).drew
   have bcx:=anz bA
   obtain⟨b,hb⟩:∃ b,b=strOfNums [48+n % 10]:=⟨_,rfl⟩
   rw[← hb] at bcx hsum ⊢
   have HST:=Lib.hid (fun(W:World) (g:Nat) (h:Blk W g 5 #[.int .u8 (48+n % 10)])=>(anz h:_))
   rw[← hb] at HST
   clear hb hsz
   go_enter Tryz.func134,Tryz.ntmps134
   go_wp2_with fail
   go_region_with (first
    | (go_at_call 134;refine(HI.out w.drew).mono ?_;rintro e wq ⟨rfl,hbq⟩;have hBq:=hB0.trans hbq;have bcy:=HST.out _ _ (Blk.new wq 5 #[.int .u8 (48+n % 10)]))
    | (go_at_call 134;refine(HI.out (w.alloc (.cells #[.int .u8 (48+n % 10)] 5)).drew).mono ?_;rintro e wq ⟨rfl,hbq⟩;have hBq:=hB1.trans (hbq.mono hB1.size);have bcy:=HST.out _ _ (bA.step hbq)))
   all_goals
    go_wp2_with fail
    go_ret
    first|exact⟨rfl,hBq⟩|exact⟨rfl,hBq.alloc hBq.size _⟩
theorem a7q (n:Int) (h:(Lit.int .i64 n).wf=true) (w:World):Calls Tryz.prog 134 #[.int .i64 n] w fun e w'=>e=.returned (.string (abr n))∧Below w.heap.size w w':=by
 have hb:=wf64 h
 by_cases h0:0≤n
 ·exact aw6 n.toNat n (Nat.le_refl _) h0 hb.2 w
 by_cases hm:n=-9223372036854775808
 ·subst hm
  rw[a96]
  go_enter Tryz.func134,Tryz.ntmps134
  go_wp2_with fail
  go_ret
  exact⟨rfl,Below.refl _ _⟩
 have HP:=Lib.hid (aw6 (-n).toNat (-n) (Nat.le_refl _) (by omega) (by omega) w)
 rw[a95 (by omega)]
 have hz:=aii (n:=-n) (by omega) (by omega)
 obtain⟨a,ha⟩:∃ a,a=abr (-n):=⟨_,rfl⟩
 rw[← ha] at HP hz ⊢
 have hneg:IntKind.i64.wrap (-n)=-n:=IntWalk.i64_in _ (by omega)
 have hn0:n < 0:=by omega
 have hmb:(n ==-9223372036854775808)=false:=by simpa using hm
 clear ha
 go_enter Tryz.func134,Tryz.ntmps134
 go_wp2_with fail
 refine HP.out.mono ?_
 rintro e w1 ⟨rfl,hb1⟩
 go_wp2_with fail
 go_ret
 exact⟨rfl,hb1⟩
def a97:Go.Shelf.Ren:=⟨fun
  | 129=>194|173=>160|246=>174|283=>195|284=>196|285=>197|286=>198|317=>214|318=>215|319=>216|320=>217|337=>222|338=>223|n=>n,fun
  | 0=>0|2=>2|3=>3|4=>4|5=>5|9=>9|20=>20|37=>174|46=>183|51=>204|53=>189|171=>207|173=>209|212=>224|213=>225|232=>240|233=>241|n=>n,fun
  | 17=>3|18=>6|19=>7|n=>n⟩
set_option maxHeartbeats 4000000 in
theorem bcz:Lays.n173 Tryz.prog a97 where
 mixed:=by kernel_rfl
 f129:=Tryz.func194.trans (congrArg some (by kernel_rfl))
 f173:=Tryz.func160.trans (congrArg some (by kernel_rfl))
 f246:=Tryz.func174.trans (congrArg some (by kernel_rfl))
 f283:=Tryz.func195.trans (congrArg some (by kernel_rfl))
 f284:=Tryz.func196.trans (congrArg some (by kernel_rfl))
 f285:=Tryz.func197.trans (congrArg some (by kernel_rfl))
 f286:=Tryz.func198.trans (congrArg some (by kernel_rfl))
 f317:=Tryz.func214.trans (congrArg some (by kernel_rfl))
 f318:=Tryz.func215.trans (congrArg some (by kernel_rfl))
 f319:=Tryz.func216.trans (congrArg some (by kernel_rfl))
 f320:=Tryz.func217.trans (congrArg some (by kernel_rfl))
 f337:=Tryz.func222.trans (congrArg some (by kernel_rfl))
 f338:=Tryz.func223.trans (congrArg some (by kernel_rfl))
 t0:=by kernel_rfl
 a0:=fun _=>by kernel_rfl
 z0:=fun _=>by kernel_rfl
 v0:=fun _=>by kernel_rfl
 t2:=by kernel_rfl
 a2:=fun _=>by kernel_rfl
 z2:=fun _=>by kernel_rfl
 v2:=fun _=>by kernel_rfl
 t3:=by kernel_rfl
 a3:=fun _=>by kernel_rfl
 z3:=fun _=>by kernel_rfl
 v3:=fun _=>by kernel_rfl
 t4:=by kernel_rfl
 a4:=fun _=>by kernel_rfl
 z4:=fun _=>by kernel_rfl
 v4:=fun _=>by kernel_rfl
 t5:=by kernel_rfl
 a5:=fun _=>by kernel_rfl
 z5:=fun _=>by kernel_rfl
 v5:=fun _=>by kernel_rfl
 t9:=by kernel_rfl
 a9:=fun _=>by kernel_rfl
 z9:=fun _=>by kernel_rfl
 v9:=fun _=>by kernel_rfl
 t20:=by kernel_rfl
 a20:=fun _=>by kernel_rfl
 z20:=fun _=>by kernel_rfl
 v20:=fun _=>by kernel_rfl
 t37:=by kernel_rfl
 a37:=fun _=>by kernel_rfl
 z37:=fun _=>by kernel_rfl
 v37:=fun _=>by kernel_rfl
 t46:=by kernel_rfl
 a46:=fun _=>by kernel_rfl
 z46:=fun _=>by kernel_rfl
 v46:=fun _=>by kernel_rfl
 t51:=by kernel_rfl
 a51:=fun _=>by kernel_rfl
 z51:=fun _=>by kernel_rfl
 v51:=fun _=>by kernel_rfl
 t53:=by kernel_rfl
 a53:=fun _=>by kernel_rfl
 z53:=fun _=>by kernel_rfl
 v53:=fun _=>by kernel_rfl
 t171:=by kernel_rfl
 a171:=fun _=>by kernel_rfl
 z171:=fun _=>by kernel_rfl
 v171:=fun _=>by kernel_rfl
 t173:=by kernel_rfl
 a173:=fun _=>by kernel_rfl
 z173:=fun _=>by kernel_rfl
 v173:=fun _=>by kernel_rfl
 t212:=by kernel_rfl
 a212:=fun _=>by kernel_rfl
 z212:=fun _=>by kernel_rfl
 v212:=fun _=>by kernel_rfl
 t213:=by kernel_rfl
 a213:=fun _=>by kernel_rfl
 z213:=fun _=>by kernel_rfl
 t232:=by kernel_rfl
 a232:=fun _=>by kernel_rfl
 z232:=fun _=>by kernel_rfl
 v232:=fun _=>by kernel_rfl
 t233:=by kernel_rfl
 a233:=fun _=>by kernel_rfl
 z233:=fun _=>by kernel_rfl
 v233:=fun _=>by kernel_rfl
 g17:=by kernel_rfl
 g18:=by kernel_rfl
 g19:=by kernel_rfl
theorem bg9:LaysM.n173 Tryz.prog a97:={bcz with i0:=by kernel_rfl,i2:=by kernel_rfl,i3:=by kernel_rfl,i4:=by kernel_rfl,i5:=by kernel_rfl,i9:=by kernel_rfl,i20:=by kernel_rfl,i37:=by kernel_rfl,i46:=by kernel_rfl,i51:=by kernel_rfl,i53:=by kernel_rfl,i171:=by kernel_rfl,i173:=by kernel_rfl,i212:=by kernel_rfl,i232:=by kernel_rfl,i233:=by kernel_rfl,m17:=by kernel_rfl,m18:=by kernel_rfl,m19:=by kernel_rfl}
theorem below_grown (w:World) (k:Nat) (os:Array Obj):Below w.heap.size w (Go.Sort.grow (w.drewN k) os):=
 (below_drewN (Below.refl w.heap.size w) k).trans ⟨rfl,rfl,rfl,by simp[Go.Sort.grow],fun i hi=>by
  show((w.drewN k).heap ++os)[i]?=_
  have h:i < (w.drewN k).heap.size:=by simpa using hi
  rw[Array.getElem?_append,if_pos h]⟩
def ae3 (w:World):Prop:=Lib.TabIs Tryz.prog w "internal/strconv.uint64pow10" .u64 Lib.pow10Tab
theorem ae3.below {w w':World} (h:ae3 w) (hb:Below w.heap.size w w'):ae3 w':=a4r h hb
theorem bc4:(Rows.laid_internal_strconv_uint64pow10:DataW Unit)=Lib.tabData .u64 Lib.pow10Tab:=by kernel_rfl
theorem a7r {l:List (String×DataW Unit)} (hp:(l.all fun x=>x.2.handleName?.isNone)=true) (hm2:("internal/strconv.uint64pow10",(Rows.laid_internal_strconv_uint64pow10:DataW Unit)) ∈ l) {w:World} (h:laidMetH Tryz.prog l w):ae3 w:=by
 rw[MakeChecks.laidMetH_plain _ _ _ hp] at h
 have h1:=Lib.laidMet.reads h hm2
 rw[bc4] at h1
 exact a4q (g:=3) (t:=224) (e:=189) (n:=20) (by kernel_rfl) (by kernel_rfl) (by kernel_rfl) (by kernel_rfl) (by kernel_rfl) (by kernel_rfl) h1
theorem az4 (n:Int) (h:(Lit.int .i64 n).wf=true) (w:World) (hT:ae3 w):Calls Tryz.prog 160 #[.int .i64 n,.int .i64 10] w fun e w'=>e=.returned (.string (abr n))∧Below w.heap.size w w':=by
 have hb:=wf64 h
 refine(Any.strconv_FormatInt_10 bg9 n hb.1 hb.2 w hT).mono ?_
 rintro e w' ⟨rfl,k,os,rfl⟩
 exact⟨rfl,below_grown w k os⟩
theorem avd (n:Int) (h:(Lit.int .i64 n).wf=true) (w:World) (hT:ae3 w):Calls Tryz.prog 146 #[.int .i64 n] w fun e w'=>e=.returned (.string (abr n))∧Below w.heap.size w w':=by
 have HF:=Lib.hid (az4 n h w hT)
 go_enter Tryz.func146,Tryz.ntmps146
 go_wp2_with fail
 refine HF.out.mono ?_
 rintro e w1 ⟨rfl,hb1⟩
 go_wp2_with fail
 go_ret
 exact⟨rfl,hb1⟩
end Go.Proofs.YtbafphecjijdmaaGreatDoor
namespace Go.Proofs.YtbafphecjijdmaaGreatDoor
set_option linter.unusedVariables false
set_option linter.unusedSimpArgs false
set_option linter.unnecessarySimpa false
abbrev Why:=Option (Int×ByteArray)
def a1p:Why→Int|none=>0|some r=>r.1
def a1q:Why→ByteArray|none=>⟨#[]⟩|some r=>r.2
def as2:Why→Bool|none=>false|some _=>true
theorem agx {r:Why} (h:as2 r=false):r=none:=by cases r with|none=>rfl|some r=>cases h
theorem agy {r:Why} (h:as2 r=true):r=some (a1p r,a1q r):=by cases r with|none=>cases h|some r=>rfl
def aa0 (f:Nat→Why):Nat→Why
 | 0=>none
 | k+1=>match aa0 f k with
  | some r=>some r
  | none=>f k
theorem ae2 {f:Nat→Why} {k:Nat} (h:aa0 f k=none) (hk:f k=none):aa0 f (k+1)=none:=by rw[aa0,h];exact hk
theorem ad1 {f:Nat→Why} {k:Nat} {r:Int×ByteArray} (h:aa0 f k=none) (hk:f k=some r):∀ n,k < n→aa0 f n=some r
 | 0,hn=>absurd hn (by omega)
 | n+1,hn=>by
  by_cases e:k=n
  ·subst e;rw[aa0,h];exact hk
  ·rw[aa0,ad1 h hk n (by omega)]
def ae6 (k:Int):Int:=if k=4 then -128 else if k=6 then -32768 else if k=8 then -2147483648 else if k=9 then -9223372036854775808 else 0
def ae7 (k:Int):Int:=if k=3 then 255 else if k=4 then 127 else if k=5 then 65535 else if k=6 then 32767 else if k=7 then 4294967295 else if k=8 then 2147483647 else if k=9 then 9223372036854775807 else 0
def isNum (k:Int):Bool:=inB k 3 9
theorem aiw {k:Int} (h:isNum k=false):ae6 k=0:=by rw[isNum,af4] at h;rw[ae6,if_neg (by omega),if_neg (by omega),if_neg (by omega),if_neg (by omega)]
theorem aix {k:Int} (h:isNum k=false):ae7 k=0:=by rw[isNum,af4] at h;rw[ae7,if_neg (by omega),if_neg (by omega),if_neg (by omega),if_neg (by omega),if_neg (by omega),if_neg (by omega),if_neg (by omega)]
def boh:ByteArray:=⟨#[46]⟩
def aiy (at_ l:ByteArray):ByteArray:=(at_ ++boh) ++l
def ahz (rec:Ty→Ty→ByteArray→Why) (kind:Int) (at_:ByteArray) (xl:List ByteArray) (xk:List Ty) (yl:List ByteArray) (yk:List Ty) (k:Nat):Why:=
 match xl[k]? with
 | none=>none
 | some l=>if acg (strEq l) yl < 0 then some (kind,aiy at_ l)else if xk.length=0 then none else
  match xk[k]?,yk[(acg (strEq l) yl).toNat]? with
  | some x,some y=>rec x y (aiy at_ l)
  | _,_=>none
def ajt (rec:Ty→Ty→ByteArray→Why) (kind:Int) (at_:ByteArray) (xl:List ByteArray) (xk:List Ty) (yl:List ByteArray) (yk:List Ty):Why:=
 aa0 (ahz rec kind at_ xl xk yl yk) xl.length
def an8 (rec:Ty→Ty→ByteArray→Why) (at_:ByteArray) (xk yk:List Ty) (k:Nat):Why:=
 match xk[k]?,yk[k]? with
 | some x,some y=>rec x y (aiy at_ (abr k))
 | _,_=>none
def amn (rec:Ty→Ty→ByteArray→Why) (at_:ByteArray) (xk yk:List Ty) (k:Nat):Why:=
 match xk[k]?,yk[k]? with
 | some x,some y=>rec x y at_
 | _,_=>none
def ad5 (rec:Ty→Ty→ByteArray→Why) (kind:Int) (an:ByteArray) (al:List ByteArray) (ak:List Ty) (bn:ByteArray) (bl:List ByteArray) (bk:List Ty) (at_:ByteArray):Why:=
 if kind=12 then amn rec (at_ ++⟨#[91,93]⟩) ak bk 0
 else if kind=13 then amn rec (at_ ++⟨#[63]⟩) ak bk 0
 else if kind=14 then
  match amn rec (at_ ++⟨#[46,111,107]⟩) ak bk 0 with
  | some r=>some r
  | none=>amn rec (at_ ++⟨#[46,101,114,114]⟩) ak bk 1
 else if kind=15 then
  if ak.length=bk.length then aa0 (an8 rec at_ ak bk) ak.length else some (3,at_)
 else if kind=16 then ajt (fun x y=>rec y x) 4 at_ bl bk al ak
 else if kind=17∨kind=18∨kind=19 then ajt rec 5 at_ al ak bl bk
 else if kind=20∨kind=21 then (if an=bn then none else some (6,at_))
 else if kind=22∨kind=23 then
  match ak[0]?,bk[0]? with
  | some x,some y=>if afa 100 x y then none else some (3,at_)
  | _,_=>none
 else none
def agl:Nat→Ty→Ty→ByteArray→Why
 | 0,_,_,_=>none
 | n+1,⟨ak,an,al,aks⟩,⟨bk,bn,bl,bks⟩,at_=>
  if isNum ak && isNum bk then (if ae6 bk≤ae6 ak∧ae7 ak≤ae7 bk then none else some (2,at_))
  else if ak=bk then ad5 (agl n) ak an al aks bn bl bks at_ else some (1,at_)
theorem aya {ls:List ByteArray} {t:ByteArray} (h:0≤acg (strEq t) ls):∃ j:Nat,acg (strEq t) ls=(j:Int)∧j < ls.length:=by
 refine⟨(acg (strEq t) ls).toNat,by omega,?_⟩
 have h2:∀ (xs:List ByteArray),acg (strEq t) xs < (xs.length:Int):=by
  intro xs
  induction xs with
  | nil=>simp[acg]
  | cons x r ih=>
   rw[acg]
   split
   ·simp
   ·dsimp only
    split<;>simp<;>omega
 have:=h2 ls
 omega
section
variable {rec:Ty→Ty→ByteArray→Why} {kind:Int} {at_:ByteArray} {xl:List ByteArray} {xk:List Ty} {yl:List ByteArray} {yk:List Ty} {k j:Nat} {l:ByteArray} {x y:Ty}
theorem aph (hl:xl[k]?=some l) (h:acg (strEq l) yl < 0):ahz rec kind at_ xl xk yl yk k=some (kind,aiy at_ l):=by simp only[ahz,hl];rw[if_pos h]
theorem azd (hl:xl[k]?=some l) (h:¬ acg (strEq l) yl < 0) (hk:xk.length=0):ahz rec kind at_ xl xk yl yk k=none:=by simp only[ahz,hl];rw[if_neg h,if_pos hk]
theorem avu (hl:xl[k]?=some l) (h:acg (strEq l) yl=(j:Int)) (hk:xk[k]?=some x) (hy:yk[j]?=some y):ahz rec kind at_ xl xk yl yk k=rec x y (aiy at_ l):=by
 have hne:¬ xk.length=0:=fun e=>by rw[List.length_eq_zero_iff.1 e] at hk;cases hk
 simp only[ahz,hl,h,Int.toNat_natCast]
 rw[if_neg (by omega),if_neg hne]
 simp only[hk,hy]
theorem a5s (hk:xk[k]?=some x) (hy:yk[k]?=some y):an8 rec at_ xk yk k=rec x y (aiy at_ (abr k)):=by simp only[an8,hk,hy]
theorem al8 (hk:xk[k]?=some x) (hy:yk[k]?=some y):amn rec at_ xk yk k=rec x y at_:=by simp only[amn,hk,hy]
end
theorem a1r {ls:List ByteArray} (h:abn ls=true):ls.length≤16∧∀ l ∈ ls,l.size≤12:=by
 simp only[abn,Bool.and_eq_true,af9,List.all_eq_true] at h
 exact⟨by omega,fun l hl=>(ahs (h.1.2 l hl)).2⟩
structure ShF (kind:Int) (labels:List ByteArray) (kids:List Ty):Prop where
 all:∀ t ∈ kids,t.shapes=true
 right:jo kind labels.length kids=true
 ayb:inB kind 16 19=true→labels.length≤16∧∀ l ∈ labels,l.size≤12
theorem shF {kind:Int} {name:ByteArray} {labels:List ByteArray} {kids:List Ty} (h:Ty.shapes ⟨kind,name,labels,kids⟩=true):ShF kind labels kids:=by
 rw[Ty.shapes,Bool.and_eq_true,ak4,List.all_eq_true] at h
 obtain⟨h1,h2⟩:=h
 have h1':((if named kind then aag name else decide (name.size=0)) && (if inB kind 16 19 then abn labels else decide (labels.length=0)) && jo kind labels.length kids)=true:=h1
 simp only[Bool.and_eq_true] at h1'
 refine⟨h2,h1'.2,fun hk=>?_⟩
 have:=h1'.1.2
 rw[if_pos hk] at this
 exact a1r this
theorem aho {kind:Int} {n:Nat} {kids:List Ty} (hk:kind=12∨kind=13∨kind=22∨kind=23) (h:jo kind n kids=true):kids.length=1:=by
 rcases hk with rfl|rfl|rfl|rfl<;>simp[jo] at h<;>exact h.1
theorem aq0 {n:Nat} {kids:List Ty} (h:jo 14 n kids=true):kids.length=2:=by simpa [jo] using h
theorem a1s {n:Nat} {kids:List Ty} (h:jo 15 n kids=true):kids.length≤6:=by
 simp[jo,inB] at h
 omega
theorem akm {kind:Int} {n:Nat} {kids:List Ty} (hk:kind=16∨kind=17) (h:jo kind n kids=true):kids.length=n:=by
 rcases hk with rfl|rfl<;>simp[jo] at h
 ·exact h.1
 ·exact h
theorem aze {kind:Int} {n:Nat} {kids:List Ty} (hk:kind=18∨kind=19) (h:jo kind n kids=true):kids.length=0:=by
 rcases hk with rfl|rfl<;>simp[jo] at h<;>simp[h.2]
theorem a98 {kind:Int} (h:kind=18∨kind=19):inB kind 16 19=true:=by rcases h with rfl|rfl<;>rfl
theorem a7s {kind:Int} {name:ByteArray} {labels:List ByteArray} {kids:List Ty} {n:Nat} (h:(Ty.mk kind name labels kids).height≤n+1):∀ t ∈ kids,t.height≤n:=fun t ht=>by
 have:=aw1 ht
 rw[Ty.height] at h
 omega
theorem aq1 {n:Nat} {ak:Int} {an:ByteArray} {al:List ByteArray} {aks:List Ty} {bk:Int} {bn:ByteArray} {bl:List ByteArray} {bks:List Ty} {at_:ByteArray} (h1:isNum ak=true) (h2:isNum bk=true):
  agl (n+1) ⟨ak,an,al,aks⟩ ⟨bk,bn,bl,bks⟩ at_=if ae6 bk≤ae6 ak∧ae7 ak≤ae7 bk then none else some (2,at_):=by rw[agl,h1,h2];exact if_pos rfl
theorem azf {n:Nat} {ak:Int} {an:ByteArray} {al:List ByteArray} {aks:List Ty} {bk:Int} {bn:ByteArray} {bl:List ByteArray} {bks:List Ty} {at_:ByteArray} (h:(isNum ak && isNum bk)=false) (hk:¬ ak=bk):
  agl (n+1) ⟨ak,an,al,aks⟩ ⟨bk,bn,bl,bks⟩ at_=some (1,at_):=by rw[agl,h,if_neg (by decide),if_neg hk]
theorem azg {n:Nat} {ak:Int} {an:ByteArray} {al:List ByteArray} {aks:List Ty} {bn:ByteArray} {bl:List ByteArray} {bks:List Ty} {at_:ByteArray} (h:isNum ak=false):
  agl (n+1) ⟨ak,an,al,aks⟩ ⟨ak,bn,bl,bks⟩ at_=ad5 (agl n) ak an al aks bn bl bks at_:=by rw[agl,h,Bool.false_and,if_neg (by decide),if_pos rfl]
end Go.Proofs.YtbafphecjijdmaaGreatDoor
