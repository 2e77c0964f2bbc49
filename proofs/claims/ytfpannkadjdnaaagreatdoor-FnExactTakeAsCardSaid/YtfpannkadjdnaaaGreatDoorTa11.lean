/-
  Decimal numerals: spec.l15Digits; strconv.FormatInt, impl.decimal. (and 3 more texts)
-/
import Derived.Test.YtfpannkadjdnaaaGreatDoorTa10
import Derived.Shelf.Strconv.Itoa4
import Derived.Laws.BytesArg
import Derived.Laws.Concat
import Derived.Laws.Shifts
import Derived.Lib.ItoaLen
import Derived.Deep.RegionHeld3
import Derived.Deep.RegionWith
import Derived.Test.YtfpannkadjdnaaaGreatDoorTa09
import Derived.Test.YtfpannkadjdnaaaGreatDoorTa04
namespace Go.Proofs.YtfpannkadjdnaaaGreatDoor
open Go.RowKit Go.Shelf
set_option linter.all false
set_option maxRecDepth 16000
def ae3 (n:Int):ByteArray:=⟨(Lib.itoa n).toArray⟩
theorem amy {n:Int} (h0:-9223372036854775808≤n) (h1:n≤9223372036854775807):(ae3 n).size≤21:=by
 have:=Lib.itoa_length_le n h0 h1;simpa [ae3,ByteArray.size] using this
theorem aww {n:Int} (h0:0≤n) (h1:n < 10):ae3 n=strOfNums [48+n]:=by
 obtain⟨k,rfl⟩:=Int.eq_ofNat_of_zero_le h0;have hk:(k:Int).toNat=k:=by simp
 rw[ae3,Lib.itoa,if_neg (by omega),hk,Lib.decDigits,dif_pos (by omega)];simp only[strOfNums,List.map_cons,List.map_nil];rw[show((48:Int)+(k:Int)).toNat=48+k by omega]
theorem a2e {n:Int} (h0:10≤n):ae3 n=ae3 (n / 10) ++strOfNums [48+n % 10]:=by
 obtain⟨k,rfl⟩:=Int.eq_ofNat_of_zero_le (show 0≤n by omega);have hk:(k:Int).toNat=k:=by simp
 have hq:((k:Int) / 10).toNat=k / 10:=by omega
 rw[ae3,ae3,Lib.itoa,Lib.itoa,if_neg (by omega),if_neg (by omega),hk,hq,Lib.decDigits,dif_neg (by omega)];simp only[strOfNums,List.map_cons,List.map_nil];rw[show((48:Int)+(k:Int) % 10).toNat=48+k % 10 by omega];simp[ByteArray.ext_iff]
theorem a4y {n:Int} (h:n < 0):ae3 n=⟨#[45]⟩ ++ae3 (-n):=by
 rw[ae3,ae3,Lib.itoa,Lib.itoa,if_pos h,if_neg (by omega),show(-n).toNat=n.natAbs by omega];simp[ByteArray.ext_iff]
theorem a4z:ae3 (-9223372036854775808)=⟨#[45,57,50,50,51,51,55,50,48,51,54,56,53,52,55,55,53,56,48,56]⟩:=by
 have:Lib.itoa (-9223372036854775808)=[45,57,50,50,51,51,55,50,48,51,54,56,53,52,55,55,53,56,48,56]:=by kernel_rfl
 rw[ae3,this]
theorem aul {w:World} {g:Nat} {x:Int} (h:Blk w g 5 #[.int .u8 x]):(convert 94 9 (.slice (some ⟨g,0,none⟩) 1 1)).run Tryz.prog w=.ok (.string (strOfNums [x])) w:=by
 refine run_convert_bytes_arg _ _ _ Tryz.underlying94 Tryz.underlying5 _ 0 1 1 [x] rfl (fun i hi=>?_) _ Tryz.underlying9;refine(h.cell (0+i)).trans ?_;have:i=0:=by omega
 subst this;rfl
set_option maxHeartbeats 3200000 in
theorem aum:∀ (k:Nat) (n:Int),n.toNat≤k→0≤n→n≤9223372036854775807→∀ w:World,Calls Tryz.prog 89 #[.int .i64 n] w fun e w'=>e=.returned (.string (ae3 n))∧Below w.heap.size w w':=by
 intro k
 induction k with
 | zero=>
  intro n hk h0 h1 w;have hn:n=0:=by omega
  subst hn;rw[show ae3 0=strOfNums [48] from aww (by decide) (by decide)];have hst:=aul (Blk.new w 5 #[.int .u8 48]);have hw:IntKind.u8.wrap 48=48:=by rw[IntKind.wrap_u8];omega
  go_enter Tryz.func89,Tryz.ntmps89
  go_wp2_with fail
  go_ret
  exact⟨rfl,(zqf _ _).alloc (zql _) _⟩
 | succ k ih=>
  intro n hk h0 h1 w;by_cases h10:n < 10
  ·rw[aww h0 h10]
   have hst:=aul (Blk.new w 5 #[.int .u8 (48+n)]);have hw:IntKind.u8.wrap (48+n)=48+n:=by rw[IntKind.wrap_u8];omega
   have hn0:¬ n < 0:=by omega
   go_enter Tryz.func89,Tryz.ntmps89
   go_wp2_with fail
   go_ret
   exact⟨rfl,(zqf _ _).alloc (zql _) _⟩
  ·have HI:=zqd (ih (n / 10) (by omega) (by omega) (by omega))
   rw[a2e (by omega)];have hz:=amy (n:=n / 10) (by omega) (by omega);obtain⟨a,ha⟩:∃ a,a=ae3 (n / 10):=⟨_,rfl⟩;rw[← ha] at HI hz ⊢;clear ha ih;have hsz:(strOfNums [48+n % 10]).size=1:=strOfNums_size _;have hsum:(9223372036854775807 < a.size+(strOfNums [48+n % 10]).size)=False:=by rw[hsz];simp;omega
   have hw:IntKind.u8.wrap (48+n % 10)=48+n % 10:=by rw[IntKind.wrap_u8];omega
   have hn0:¬ n < 0:=by omega
   have hq:n.tdiv 10=n / 10:=by rw[Int.tdiv_eq_ediv_of_nonneg h0]
   have hr:n.tmod 10=n % 10:=by rw[Int.tmod_eq_emod_of_nonneg h0]
   have hi64:IntKind.i64.wrap (48+n % 10)=48+n % 10:=IntWalk.i64_in _ (by omega);have b3h:IntKind.i64.wrap (n / 10)=n / 10:=IntWalk.i64_in _ (by omega);have hB0:Below w.heap.size w w.drew:=(zqf _ _).drew;have hB1:Below w.heap.size w (w.alloc (.cells #[.int .u8 (48+n % 10)] 5)).drew:=((zqf _ _).alloc (zql _) _).drew;have bA:Blk (w.alloc (.cells #[.int .u8 (48+n % 10)] 5)).drew w.heap.size 5 #[.int .u8 (48+n % 10)]:=(Blk.new w _ _).drew;have bx8:=aul bA;obtain⟨b,hb⟩:∃ b,b=strOfNums [48+n % 10]:=⟨_,rfl⟩;rw[← hb] at bx8 hsum ⊢;have HST:=zqd (fun(W:World) (g:Nat) (h:Blk W g 5 #[.int .u8 (48+n % 10)])=>(aul h:_));rw[← hb] at HST;clear hb hsz;go_enter Tryz.func89,Tryz.ntmps89
   go_wp2_with fail
   go_region_with (first
    | (go_at_call 89;refine(HI.out w.drew).mono ?_;rintro e wq ⟨rfl,hbq⟩;have hBq:=hB0.trans hbq;have bx9:=HST.out _ _ (Blk.new wq 5 #[.int .u8 (48+n % 10)]))
    | (go_at_call 89;refine(HI.out (w.alloc (.cells #[.int .u8 (48+n % 10)] 5)).drew).mono ?_;rintro e wq ⟨rfl,hbq⟩;have hBq:=hB1.trans (hbq.mono hB1.size);have bx9:=HST.out _ _ (bA.step hbq)))
   all_goals
    go_wp2_with fail
    go_ret
    first|exact⟨rfl,hBq⟩|exact⟨rfl,hBq.alloc hBq.size _⟩
theorem a2f (n:Int) (h:(Lit.int .i64 n).wf=true) (w:World):Calls Tryz.prog 89 #[.int .i64 n] w fun e w'=>e=.returned (.string (ae3 n))∧Below w.heap.size w w':=by
 have hb:=wf64 h;by_cases h0:0≤n
 ·exact aum n.toNat n (zql _) h0 hb.2 w
 by_cases hm:n=-9223372036854775808
 ·subst hm
  rw[a4z];go_enter Tryz.func89,Tryz.ntmps89
  go_wp2_with fail
  go_ret
  exact⟨rfl,zqf _ _⟩
 have HP:=zqd (aum (-n).toNat (-n) (zql _) (by omega) (by omega) w);rw[a4y (by omega)];have hz:=amy (n:=-n) (by omega) (by omega);obtain⟨a,ha⟩:∃ a,a=ae3 (-n):=⟨_,rfl⟩;rw[← ha] at HP hz ⊢;have hneg:IntKind.i64.wrap (-n)=-n:=IntWalk.i64_in _ (by omega);have hn0:n < 0:=by omega
 have hmb:(n ==-9223372036854775808)=false:=by simpa using hm
 clear ha;go_enter Tryz.func89,Tryz.ntmps89
 go_wp2_with fail
 refine HP.out.mono ?_;rintro e w1 ⟨rfl,hb1⟩;go_wp2_with fail
 go_ret
 exact⟨rfl,hb1⟩
def a5a:Go.Shelf.Ren:=⟨fun
  | 129=>140|173=>114|246=>122|283=>126|284=>127|285=>128|286=>129|317=>141|318=>142|319=>143|320=>144|337=>151|338=>152|n=>n,fun
  | 0=>0|2=>2|3=>3|4=>4|5=>5|9=>9|20=>20|37=>94|46=>65|51=>122|53=>121|171=>133|173=>136|212=>150|213=>151|232=>162|233=>163|n=>n,fun
  | 17=>2|18=>3|19=>4|n=>n⟩
set_option maxHeartbeats 4000000 in
theorem bc8:Lays.n173 Tryz.prog a5a where
 mixed:=by kernel_rfl
 f129:=Tryz.func140.trans (congrArg some (by kernel_rfl))
 f173:=Tryz.func114.trans (congrArg some (by kernel_rfl))
 f246:=Tryz.func122.trans (congrArg some (by kernel_rfl))
 f283:=Tryz.func126.trans (congrArg some (by kernel_rfl))
 f284:=Tryz.func127.trans (congrArg some (by kernel_rfl))
 f285:=Tryz.func128.trans (congrArg some (by kernel_rfl))
 f286:=Tryz.func129.trans (congrArg some (by kernel_rfl))
 f317:=Tryz.func141.trans (congrArg some (by kernel_rfl))
 f318:=Tryz.func142.trans (congrArg some (by kernel_rfl))
 f319:=Tryz.func143.trans (congrArg some (by kernel_rfl))
 f320:=Tryz.func144.trans (congrArg some (by kernel_rfl))
 f337:=Tryz.func151.trans (congrArg some (by kernel_rfl))
 f338:=Tryz.func152.trans (congrArg some (by kernel_rfl))
 t0:=by kernel_rfl
 a0:=fun _=>by kernel_rfl
 z0:=fun _=>by kernel_rfl
 v0:=fun _=>by kernel_rfl
 t2:=by kernel_rfl
 a2:=fun _=>by kernel_rfl
 z2:=fun _=>by kernel_rfl
 v2:=fun _=>by kernel_rfl
 t3:=by kernel_rfl
 a3:=fun _=>by kernel_rfl
 z3:=fun _=>by kernel_rfl
 v3:=fun _=>by kernel_rfl
 t4:=by kernel_rfl
 a4:=fun _=>by kernel_rfl
 z4:=fun _=>by kernel_rfl
 v4:=fun _=>by kernel_rfl
 t5:=by kernel_rfl
 a5:=fun _=>by kernel_rfl
 z5:=fun _=>by kernel_rfl
 v5:=fun _=>by kernel_rfl
 t9:=by kernel_rfl
 a9:=fun _=>by kernel_rfl
 z9:=fun _=>by kernel_rfl
 v9:=fun _=>by kernel_rfl
 t20:=by kernel_rfl
 a20:=fun _=>by kernel_rfl
 z20:=fun _=>by kernel_rfl
 v20:=fun _=>by kernel_rfl
 t37:=by kernel_rfl
 a37:=fun _=>by kernel_rfl
 z37:=fun _=>by kernel_rfl
 v37:=fun _=>by kernel_rfl
 t46:=by kernel_rfl
 a46:=fun _=>by kernel_rfl
 z46:=fun _=>by kernel_rfl
 v46:=fun _=>by kernel_rfl
 t51:=by kernel_rfl
 a51:=fun _=>by kernel_rfl
 z51:=fun _=>by kernel_rfl
 v51:=fun _=>by kernel_rfl
 t53:=by kernel_rfl
 a53:=fun _=>by kernel_rfl
 z53:=fun _=>by kernel_rfl
 v53:=fun _=>by kernel_rfl
 t171:=by kernel_rfl
 a171:=fun _=>by kernel_rfl
 z171:=fun _=>by kernel_rfl
 v171:=fun _=>by kernel_rfl
 t173:=by kernel_rfl
 a173:=fun _=>by kernel_rfl
 z173:=fun _=>by kernel_rfl
 v173:=fun _=>by kernel_rfl
 t212:=by kernel_rfl
 a212:=fun _=>by kernel_rfl
 z212:=fun _=>by kernel_rfl
 v212:=fun _=>by kernel_rfl
 t213:=by kernel_rfl
 a213:=fun _=>by kernel_rfl
 z213:=fun _=>by kernel_rfl
 t232:=by kernel_rfl
 a232:=fun _=>by kernel_rfl
 z232:=fun _=>by kernel_rfl
 v232:=fun _=>by kernel_rfl
 t233:=by kernel_rfl
 a233:=fun _=>by kernel_rfl
 z233:=fun _=>by kernel_rfl
 v233:=fun _=>by kernel_rfl
 g17:=by kernel_rfl
 g18:=by kernel_rfl
 g19:=by kernel_rfl
theorem bo4:LaysM.n173 Tryz.prog a5a:={bc8 with i0:=by kernel_rfl,i2:=by kernel_rfl,i3:=by kernel_rfl,i4:=by kernel_rfl,i5:=by kernel_rfl,i9:=by kernel_rfl,i20:=by kernel_rfl,i37:=by kernel_rfl,i46:=by kernel_rfl,i51:=by kernel_rfl,i53:=by kernel_rfl,i171:=by kernel_rfl,i173:=by kernel_rfl,i212:=by kernel_rfl,i232:=by kernel_rfl,i233:=by kernel_rfl,m17:=by kernel_rfl,m18:=by kernel_rfl,m19:=by kernel_rfl}
theorem below_grown (w:World) (k:Nat) (os:Array Obj):Below w.heap.size w (Go.Sort.grow (w.drewN k) os):=
 (below_drewN (Below.refl w.heap.size w) k).trans ⟨rfl,rfl,rfl,by simp[Go.Sort.grow],fun i hi=>by
  show((w.drewN k).heap ++os)[i]?=_;have h:i < (w.drewN k).heap.size:=by simpa using hi
  rw[Array.getElem?_append,if_pos h]⟩
def ad2 (w:World):Prop:=Lib.TabIs Tryz.prog w "internal/strconv.uint64pow10" .u64 Lib.pow10Tab
theorem ad2.below {w w':World} (h:ad2 w) (hb:Below w.heap.size w w'):ad2 w':=a0w h hb
theorem bc9:(Rows.laid_internal_strconv_uint64pow10:DataW Unit)=Lib.tabData .u64 Lib.pow10Tab:=by kernel_rfl
theorem a2g {l:List (String×DataW Unit)} (hp:(l.all fun x=>x.2.handleName?.isNone)=true) (hm2:("internal/strconv.uint64pow10",(Rows.laid_internal_strconv_uint64pow10:DataW Unit)) ∈ l) {w:World} (h:laidMetH Tryz.prog l w):ad2 w:=by
 rw[MakeChecks.laidMetH_plain _ _ _ hp] at h;have h1:=Lib.laidMet.reads h hm2;rw[bc9] at h1;exact a0v (g:=2) (t:=150) (e:=121) (n:=20) (by kernel_rfl) (by kernel_rfl) (by kernel_rfl) (by kernel_rfl) (by kernel_rfl) (by kernel_rfl) h1
theorem axp (n:Int) (h:(Lit.int .i64 n).wf=true) (w:World) (hT:ad2 w):Calls Tryz.prog 114 #[.int .i64 n,.int .i64 10] w fun e w'=>e=.returned (.string (ae3 n))∧Below w.heap.size w w':=by
 have hb:=wf64 h;refine(Any.strconv_FormatInt_10 bo4 n hb.1 hb.2 w hT).mono ?_;rintro e w' ⟨rfl,k,os,rfl⟩;exact⟨rfl,below_grown w k os⟩
theorem a0x (n:Int) (h:(Lit.int .i64 n).wf=true) (w:World) (hT:ad2 w):Calls Tryz.prog 99 #[.int .i64 n] w fun e w'=>e=.returned (.string (ae3 n))∧Below w.heap.size w w':=by
 have HF:=zqd (axp n h w hT);go_enter Tryz.func99,Tryz.ntmps99
 go_wp2_with fail
 refine HF.out.mono ?_;rintro e w1 ⟨rfl,hb1⟩;go_wp2_with fail
 go_ret
 exact⟨rfl,hb1⟩
end Go.Proofs.YtfpannkadjdnaaaGreatDoor
namespace Go.Proofs.YtfpannkadjdnaaaGreatDoor
set_option linter.all false
abbrev Why:=Option (Int×ByteArray)
def bda:Why→Int|none=>0|some r=>r.1
def bdb:Why→ByteArray|none=>⟨#[]⟩|some r=>r.2
def asx:Why→Bool|none=>false|some _=>true
theorem aj7 {r:Why} (h:asx r=false):r=none:=by cases r with|none=>rfl|some r=>cases h
theorem aj8 {r:Why} (h:asx r=true):r=some (bda r,bdb r):=by cases r with|none=>cases h|some r=>rfl
def ab3 (f:Nat→Why):Nat→Why
 | 0=>none
 | k+1=>match ab3 f k with
  | some r=>some r
  | none=>f k
theorem ahr {f:Nat→Why} {k:Nat} (h:ab3 f k=none) (hk:f k=none):ab3 f (k+1)=none:=by rw[ab3,h];exact hk
theorem agj {f:Nat→Why} {k:Nat} {r:Int×ByteArray} (h:ab3 f k=none) (hk:f k=some r):∀ n,k < n→ab3 f n=some r
 | 0,hn=>absurd hn (by omega)
 | n+1,hn=>by
  by_cases e:k=n
  ·subst e;rw[ab3,h];exact hk
  ·rw[ab3,agj h hk n (by omega)]
def zu (k:Int):Int:=if k=4 then -128 else if k=6 then -32768 else if k=8 then -2147483648 else if k=9 then -9223372036854775808 else 0
def zx (k:Int):Int:=if k=3 then 255 else if k=4 then 127 else if k=5 then 65535 else if k=6 then 32767 else if k=7 then 4294967295 else if k=8 then 2147483647 else if k=9 then 9223372036854775807 else 0
def isNum (k:Int):Bool:=inB k 3 9
theorem ahs {k:Int} (h:isNum k=false):zu k=0:=by rw[isNum,aec] at h;rw[zu,if_neg (by omega),if_neg (by omega),if_neg (by omega),if_neg (by omega)]
theorem aht {k:Int} (h:isNum k=false):zx k=0:=by rw[isNum,aec] at h;rw[zx,if_neg (by omega),if_neg (by omega),if_neg (by omega),if_neg (by omega),if_neg (by omega),if_neg (by omega),if_neg (by omega)]
def bya:ByteArray:=⟨#[46]⟩
def alo (at_ l:ByteArray):ByteArray:=(at_ ++bya) ++l
def agx (rec:Ty→Ty→ByteArray→Why) (kind:Int) (at_:ByteArray) (xl:List ByteArray) (xk:List Ty) (yl:List ByteArray) (yk:List Ty) (k:Nat):Why:=
 match xl[k]? with
 | none=>none
 | some l=>if aav (strEq l) yl < 0 then some (kind,alo at_ l)else if xk.length=0 then none else
  match xk[k]?,yk[(aav (strEq l) yl).toNat]? with
  | some x,some y=>rec x y (alo at_ l)
  | _,_=>none
def agy (rec:Ty→Ty→ByteArray→Why) (kind:Int) (at_:ByteArray) (xl:List ByteArray) (xk:List Ty) (yl:List ByteArray) (yk:List Ty):Why:=
 ab3 (agx rec kind at_ xl xk yl yk) xl.length
def aj9 (rec:Ty→Ty→ByteArray→Why) (at_:ByteArray) (xk yk:List Ty) (k:Nat):Why:=
 match xk[k]?,yk[k]? with
 | some x,some y=>rec x y (alo at_ (ae3 k))
 | _,_=>none
def ahu (rec:Ty→Ty→ByteArray→Why) (at_:ByteArray) (xk yk:List Ty) (k:Nat):Why:=
 match xk[k]?,yk[k]? with
 | some x,some y=>rec x y at_
 | _,_=>none
def abj (rec:Ty→Ty→ByteArray→Why) (kind:Int) (an:ByteArray) (al:List ByteArray) (ak:List Ty) (bn:ByteArray) (bl:List ByteArray) (bk:List Ty) (at_:ByteArray):Why:=
 if kind=12 then ahu rec (at_ ++⟨#[91,93]⟩) ak bk 0
 else if kind=13 then ahu rec (at_ ++⟨#[63]⟩) ak bk 0
 else if kind=14 then
  match ahu rec (at_ ++⟨#[46,111,107]⟩) ak bk 0 with
  | some r=>some r
  | none=>ahu rec (at_ ++⟨#[46,101,114,114]⟩) ak bk 1
 else if kind=15 then
  if ak.length=bk.length then ab3 (aj9 rec at_ ak bk) ak.length else some (3,at_)
 else if kind=16 then agy (fun x y=>rec y x) 4 at_ bl bk al ak
 else if kind=17∨kind=18∨kind=19 then agy rec 5 at_ al ak bl bk
 else if kind=20∨kind=21 then (if an=bn then none else some (6,at_))
 else if kind=22∨kind=23 then
  match ak[0]?,bk[0]? with
  | some x,some y=>if aei 100 x y then none else some (3,at_)
  | _,_=>none
 else none
def aew:Nat→Ty→Ty→ByteArray→Why
 | 0,_,_,_=>none
 | n+1,⟨ak,an,al,aks⟩,⟨bk,bn,bl,bks⟩,at_=>
  if isNum ak && isNum bk then (if zu bk≤zu ak∧zx ak≤zx bk then none else some (2,at_))
  else if ak=bk then abj (aew n) ak an al aks bn bl bks at_ else some (1,at_)
theorem ark {ls:List ByteArray} {t:ByteArray} (h:0≤aav (strEq t) ls):∃ j:Nat,aav (strEq t) ls=(j:Int)∧j < ls.length:=by
 refine⟨(aav (strEq t) ls).toNat,by omega,?_⟩
 have h2:∀ (xs:List ByteArray),aav (strEq t) xs < (xs.length:Int):=by
  intro xs
  induction xs with
  | nil=>simp[aav]
  | cons x r ih=>
   rw[aav];split
   ·simp
   ·dsimp only
    split<;>simp<;>omega
 have:=h2 ls;omega
section
variable {rec:Ty→Ty→ByteArray→Why} {kind:Int} {at_:ByteArray} {xl:List ByteArray} {xk:List Ty} {yl:List ByteArray} {yk:List Ty} {k j:Nat} {l:ByteArray} {x y:Ty}
theorem akr (hl:xl[k]?=some l) (h:aav (strEq l) yl < 0):agx rec kind at_ xl xk yl yk k=some (kind,alo at_ l):=by simp only[agx,hl];rw[if_pos h]
theorem awx (hl:xl[k]?=some l) (h:¬ aav (strEq l) yl < 0) (hk:xk.length=0):agx rec kind at_ xl xk yl yk k=none:=by simp only[agx,hl];rw[if_neg h,if_pos hk]
theorem ana (hl:xl[k]?=some l) (h:aav (strEq l) yl=(j:Int)) (hk:xk[k]?=some x) (hy:yk[j]?=some y):agx rec kind at_ xl xk yl yk k=rec x y (alo at_ l):=by
 have hne:¬ xk.length=0:=fun e=>by rw[List.length_eq_zero_iff.1 e] at hk;cases hk
 simp only[agx,hl,h,Int.toNat_natCast];rw[if_neg (by omega),if_neg hne];simp only[hk,hy]
theorem avt (hk:xk[k]?=some x) (hy:yk[k]?=some y):aj9 rec at_ xk yk k=rec x y (alo at_ (ae3 k)):=by simp only[aj9,hk,hy]
theorem ajm (hk:xk[k]?=some x) (hy:yk[k]?=some y):ahu rec at_ xk yk k=rec x y at_:=by simp only[ahu,hk,hy]
end
theorem ay1 {ls:List ByteArray} (h:aaj ls=true):ls.length≤16∧∀ l ∈ ls,l.size≤12:=by
 simp only[aaj,Bool.and_eq_true,abm,List.all_eq_true] at h;exact⟨by omega,fun l hl=>(asa (h.1.2 l hl)).2⟩
structure ShF (kind:Int) (labels:List ByteArray) (kids:List Ty):Prop where
 all:∀ t ∈ kids,t.shapes=true
 right:jk kind labels.length kids=true
 asy:inB kind 16 19=true→labels.length≤16∧∀ l ∈ labels,l.size≤12
theorem shF {kind:Int} {name:ByteArray} {labels:List ByteArray} {kids:List Ty} (h:Ty.shapes ⟨kind,name,labels,kids⟩=true):ShF kind labels kids:=by
 rw[Ty.shapes,Bool.and_eq_true,ak5,List.all_eq_true] at h;obtain⟨h1,h2⟩:=h;have h1':((if named kind then abh name else decide (name.size=0)) && (if inB kind 16 19 then aaj labels else decide (labels.length=0)) && jk kind labels.length kids)=true:=h1;simp only[Bool.and_eq_true] at h1';refine⟨h2,h1'.2,fun hk=>?_⟩;have:=h1'.1.2;rw[if_pos hk] at this;exact ay1 this
theorem ade {kind:Int} {n:Nat} {kids:List Ty} (hk:kind=12∨kind=13∨kind=22∨kind=23) (h:jk kind n kids=true):kids.length=1:=by
 rcases hk with rfl|rfl|rfl|rfl<;>simp[jk] at h<;>exact h.1
theorem ai7 {n:Nat} {kids:List Ty} (h:jk 14 n kids=true):kids.length=2:=by simpa [jk] using h
theorem asz {n:Nat} {kids:List Ty} (h:jk 15 n kids=true):kids.length≤6:=by
 simp[jk,inB] at h;omega
theorem afz {kind:Int} {n:Nat} {kids:List Ty} (hk:kind=16∨kind=17) (h:jk kind n kids=true):kids.length=n:=by
 rcases hk with rfl|rfl<;>simp[jk] at h
 ·exact h.1
 ·exact h
theorem awy {kind:Int} {n:Nat} {kids:List Ty} (hk:kind=18∨kind=19) (h:jk kind n kids=true):kids.length=0:=by
 rcases hk with rfl|rfl<;>simp[jk] at h<;>simp[h.2]
theorem a5b {kind:Int} (h:kind=18∨kind=19):inB kind 16 19=true:=by rcases h with rfl|rfl<;>rfl
theorem a2h {kind:Int} {name:ByteArray} {labels:List ByteArray} {kids:List Ty} {n:Nat} (h:(Ty.mk kind name labels kids).height≤n+1):∀ t ∈ kids,t.height≤n:=fun t ht=>by
 have:=auh ht;rw[Ty.height] at h;omega
theorem ao9 {n:Nat} {ak:Int} {an:ByteArray} {al:List ByteArray} {aks:List Ty} {bk:Int} {bn:ByteArray} {bl:List ByteArray} {bks:List Ty} {at_:ByteArray} (h1:isNum ak=true) (h2:isNum bk=true):
  aew (n+1) ⟨ak,an,al,aks⟩ ⟨bk,bn,bl,bks⟩ at_=if zu bk≤zu ak∧zx ak≤zx bk then none else some (2,at_):=by rw[aew,h1,h2];exact if_pos rfl
theorem awz {n:Nat} {ak:Int} {an:ByteArray} {al:List ByteArray} {aks:List Ty} {bk:Int} {bn:ByteArray} {bl:List ByteArray} {bks:List Ty} {at_:ByteArray} (h:(isNum ak && isNum bk)=false) (hk:¬ ak=bk):
  aew (n+1) ⟨ak,an,al,aks⟩ ⟨bk,bn,bl,bks⟩ at_=some (1,at_):=by rw[aew,h,if_neg (by decide),if_neg hk]
theorem aw0 {n:Nat} {ak:Int} {an:ByteArray} {al:List ByteArray} {aks:List Ty} {bn:ByteArray} {bl:List ByteArray} {bks:List Ty} {at_:ByteArray} (h:isNum ak=false):
  aew (n+1) ⟨ak,an,al,aks⟩ ⟨ak,bn,bl,bks⟩ at_=abj (aew n) ak an al aks bn bl bks at_:=by rw[aew,h,Bool.false_and,if_neg (by decide),if_pos rfl]
end Go.Proofs.YtfpannkadjdnaaaGreatDoor
namespace Go.Proofs.YtfpannkadjdnaaaGreatDoor
open Go.RowKit
set_option linter.all false
def WQ (R:Why) (w:World) (e:Ending) (w':World):Prop:=e=.returned (.tuple #[.agg #[.int .i64 (bda R),.string (bdb R)],.bool (asx R)])∧Below w.heap.size w w'
def OkT (n:Nat) (t:Ty):Prop:=t.height≤n∧t.shapes=true
theorem qg {n:Nat} {kind:Int} {name:ByteArray} {labels:List ByteArray} {kids:List Ty} (h:OkT (n+1) ⟨kind,name,labels,kids⟩):∀ t ∈ kids,OkT n t:=fun t ht=>⟨a2h h.1 t ht,(shF h.2).all t ht⟩
def afb (fid:Nat) (rec:Ty→Ty→ByteArray→Why) (n M:Nat):Prop:=∀ (x y:Ty) (at_:ByteArray) (B:Nat) (cs ds:List Value) (w:World),B≤w.heap.size→ad2 w→OkT n x→OkT n y→at_.size≤M→jq w B (Ty.pd x) cs→jq w B (Ty.pd y) ds→
 Calls Tryz.prog fid #[.agg cs.toArray,.agg ds.toArray,.string at_] w fun e w'=>WQ (rec x y at_) w e w'
theorem kb {lo hi B:Nat} {w w':World} (h:Keep lo hi w w') (hB:B≤lo∧lo≤w.heap.size):Below B w w':=(h.below hB.2).mono hB.1
theorem Keep.new {lo hi:Nat} {w w':World} (h:Keep lo hi w w') {p:Addr} (hp:w.heap.size≤p.block) (u:Value):Keep lo hi w (w'.setCell p u):=
 ⟨h.os,h.tape,h.output,by simpa [World.setCell] using h.size,fun k hk ho=>(Below.heap_setCell _ _ _ _ (by omega)).trans (h.block k hk ho)⟩
theorem Keep.setAt {lo:Nat} {w w':World} (h:Keep lo (lo+1) w w') (off:Nat) (u:Value):Keep lo (lo+1) w (w'.setCell ⟨lo,off,none⟩ u):=h.setCell (p:=⟨lo,off,none⟩) (zql _) (Nat.lt_succ_self _) u
theorem Keep.newAt {lo hi g:Nat} {w w':World} (h:Keep lo hi w w') (hp:w.heap.size≤g) (off:Nat) (u:Value):Keep lo hi w (w'.setCell ⟨g,off,none⟩ u):=h.new (p:=⟨g,off,none⟩) hp u
theorem a5c {a w:World} (h:Below a.heap.size a w) (o:Obj):Below a.heap.size a (w.alloc o):=h.alloc h.size o
theorem adt {B P:Nat} {a w:World} (h:Below B a w) (hP:B≤P) (off:Nat) (u:Value):Below B a (w.setCell ⟨P,off,none⟩ u):=h.setCell (p:=⟨P,off,none⟩) hP u
theorem aex (w:World) (ta:TypeId) (va vb:Array Value):∃ w0,w0=((w.alloc (.cells va ta)).alloc (.cells vb ta)).alloc (.cells #[.int .i64 0,.string {data:=#[]}] 61)∧Blk w0 w.heap.size ta va∧Blk w0 (w.heap.size+1) ta vb∧Blk w0 (w.heap.size+1+1) 61 #[.int .i64 0,.string {data:=#[]}]∧Below w.heap.size w w0∧w.heap.size+1+1 < w0.heap.size:=by
 refine⟨_,rfl,((Blk.new w _ _).alloc _).alloc _,?_,?_,(((zqf _ _).alloc (zql _) _).alloc (by simp) _).alloc (by simp;omega) _,by simp⟩
 ·have:=(Blk.new (w.alloc (.cells va ta)) ta vb).alloc (.cells #[.int .i64 0,.string {data:=#[]}] 61)
  simpa using this
 ·have:=Blk.new ((w.alloc (.cells va ta)).alloc (.cells vb ta)) 61 #[.int .i64 0,.string {data:=#[]}]
  simpa using this
theorem zr {W:World} {b:Nat} (h:Blk W b 61 #[.int .i64 0,.string {data:=#[]}]):W.cell? ⟨b,0,none⟩=some (.int .i64 0)∧W.cell? ⟨b,1,none⟩=some (.string {data:=#[]})∧W.frozen? ⟨b,0,none⟩=false∧W.frozen? ⟨b,1,none⟩=false:=⟨h.cell 0,h.cell 1,h.frozen 0,h.frozen 1⟩
theorem rq {W:World} {b:Nat} {k:Int} {s:ByteArray} (h:Blk W b 61 #[.int .i64 k,.string s]):W.cell? ⟨b,0,none⟩=some (.int .i64 k)∧W.cell? ⟨b,1,none⟩=some (.string s):=⟨h.cell 0,h.cell 1⟩
theorem acw {w V:World} {b:Nat} (bR:Blk V b 61 #[.int .i64 0,.string {data:=#[]}]) (hB:Below w.heap.size w V) (hb:w.heap.size≤b) (k:Int) (s:ByteArray):
  ((V.setCell ⟨b,0,none⟩ (.int .i64 k)).setCell ⟨b,1,none⟩ (.string s)).cell? ⟨b,0,none⟩=some (.int .i64 k)∧((V.setCell ⟨b,0,none⟩ (.int .i64 k)).setCell ⟨b,1,none⟩ (.string s)).cell? ⟨b,1,none⟩=some (.string s)∧Below w.heap.size w ((V.setCell ⟨b,0,none⟩ (.int .i64 k)).setCell ⟨b,1,none⟩ (.string s)):=by
 have bN:Blk ((V.setCell ⟨b,0,none⟩ (.int .i64 k)).setCell ⟨b,1,none⟩ (.string s)) b 61 #[.int .i64 k,.string s]:=by
  have:=(bR.l7 0 (.int .i64 k)).l7 1 (.string s);simpa using this
 exact⟨bN.cell 0,bN.cell 1,adt (adt hB hb 0 _) hb 1 _⟩
theorem acs {w W:World} {B B0 g off k a0 a1 a2 a3:Nat} {ts:List Ty} {kind:Int} {name:ByteArray} {labels:List ByteArray} {kids:List Ty} (hb:Below B0 w W) (hg:g < B) (hB:B≤B0)
  (hcell:∀ (k j:Nat) (t:Ty) (x:PD),ts[k]?=some t→(Ty.pd t)[j]?=some x→∃ u,w.cell? ⟨g,off+(k * 4+j),none⟩=some u∧Rep w B x u) (hx:ts[k]?=some ⟨kind,name,labels,kids⟩)
  (e:a0=off+(k * 4+0)∧a1=off+(k * 4+1)∧a2=off+(k * 4+2)∧a3=off+(k * 4+3)):
  ∃ lV kV,W.cell? ⟨g,a0,none⟩=some (.int .i64 kind)∧W.cell? ⟨g,a1,none⟩=some (.string name)∧W.cell? ⟨g,a2,none⟩=some lV∧W.cell? ⟨g,a3,none⟩=some kV∧Rep W B (.row 1 (labels.flatMap aam)) lV∧Rep W B (.row 4 (kids.flatMap Ty.pd)) kV:=by
 obtain⟨rfl,rfl,rfl,rfl⟩:=e;obtain⟨lV,h2,r2⟩:=xq hb (Nat.lt_of_lt_of_le hg hB) hB (hcell k 2 _ _ hx (by rw[Ty.ji];rfl));obtain⟨kV,h3,r3⟩:=xq hb (Nat.lt_of_lt_of_le hg hB) hB (hcell k 3 _ _ hx (by rw[Ty.ji];rfl));exact⟨lV,kV,ng hb (Nat.lt_of_lt_of_le hg hB) (hcell k 0 _ _ hx (by rw[Ty.ji];rfl)),ng hb (Nat.lt_of_lt_of_le hg hB) (hcell k 1 _ _ hx (by rw[Ty.ji];rfl)),h2,h3,r2,r3⟩
theorem aha (R:Why):∃ (k:Int) (s:ByteArray) (b:Bool),Hid (bda R=k)∧Hid (bdb R=s)∧Hid (asx R=b):=⟨_,_,_,rfl,rfl,rfl⟩
theorem zl {a b:Int} {s t:ByteArray} {c d:Bool} (h1:a=b) (h2:s=t) (h3:c=d):Ending.returned (.tuple #[.agg #[.int .i64 a,.string s],.bool c])=.returned (.tuple #[.agg #[.int .i64 b,.string t],.bool d]):=by rw[h1,h2,h3]
theorem a1e {rec:Ty→Ty→ByteArray→Why} {an bn at_:ByteArray} {al bl:List ByteArray} {ak bk:List Ty}:abj rec 12 an al ak bn bl bk at_=ahu rec (at_ ++⟨#[91,93]⟩) ak bk 0:=rfl
theorem a1f {rec:Ty→Ty→ByteArray→Why} {an bn at_:ByteArray} {al bl:List ByteArray} {ak bk:List Ty}:abj rec 13 an al ak bn bl bk at_=ahu rec (at_ ++⟨#[63]⟩) ak bk 0:=rfl
theorem aov {rec:Ty→Ty→ByteArray→Why} {an bn at_:ByteArray} {al bl:List ByteArray} {ak bk:List Ty}:abj rec 14 an al ak bn bl bk at_=match ahu rec (at_ ++⟨#[46,111,107]⟩) ak bk 0 with
  | some r=>some r
  | none=>ahu rec (at_ ++⟨#[46,101,114,114]⟩) ak bk 1:=rfl
def ami (rec:Ty→Ty→ByteArray→Why) (at_:ByteArray) (ak bk:List Ty):Why:=if ak.length=bk.length then ab3 (aj9 rec at_ ak bk) ak.length else some (3,at_)
theorem avu {rec:Ty→Ty→ByteArray→Why} {an bn at_:ByteArray} {al bl:List ByteArray} {ak bk:List Ty}:abj rec 15 an al ak bn bl bk at_=ami rec at_ ak bk:=rfl
theorem avv {rec:Ty→Ty→ByteArray→Why} {an bn at_:ByteArray} {al bl:List ByteArray} {ak bk:List Ty}:abj rec 16 an al ak bn bl bk at_=agy (fun x y=>rec y x) 4 at_ bl bk al ak:=rfl
theorem alp {rec:Ty→Ty→ByteArray→Why} {c:Int} {an bn at_:ByteArray} {al bl:List ByteArray} {ak bk:List Ty} (h:c=17∨c=18∨c=19):abj rec c an al ak bn bl bk at_=agy rec 5 at_ al ak bl bk:=by rcases h with rfl|rfl|rfl<;>rfl
theorem apa {rec:Ty→Ty→ByteArray→Why} {c:Int} {an bn at_:ByteArray} {al bl:List ByteArray} {ak bk:List Ty} (h:c=20∨c=21):abj rec c an al ak bn bl bk at_=if an=bn then none else some (6,at_):=by rcases h with rfl|rfl<;>rfl
theorem ay2 {rec:Ty→Ty→ByteArray→Why} {c:Int} {an bn at_:ByteArray} {al bl:List ByteArray} {ak bk:List Ty} {x y:Ty} (h:c=22∨c=23) (hx:ak[0]?=some x) (hy:bk[0]?=some y):abj rec c an al ak bn bl bk at_=if aei 100 x y then none else some (3,at_):=by
 rcases h with rfl|rfl<;>simp[abj,hx,hy]
theorem aw1 {rec:Ty→Ty→ByteArray→Why} {c:Int} {an bn at_:ByteArray} {al bl:List ByteArray} {ak bk:List Ty} (h:¬ (12≤c∧c≤23)):abj rec c an al ak bn bl bk at_=none:=by
 rw[abj,if_neg (by omega),if_neg (by omega),if_neg (by omega),if_neg (by omega),if_neg (by omega),if_neg (by omega),if_neg (by omega),if_neg (by omega)]
def apb (p:ByteArray):Why→Why
 | none=>none
 | some r=>some (r.1,p ++r.2)
theorem ay3 (p a l:ByteArray):alo (p ++a) l=p ++alo a l:=by simp only[alo,ByteArray.append_assoc]
theorem apc {p:ByteArray} {f g:Nat→Why} (h:∀ k,g k=apb p (f k)):∀ n,ab3 g n=apb p (ab3 f n)
 | 0=>rfl
 | n+1=>by
  rw[ab3,ab3,apc h n,h n];cases ab3 f n<;>rfl
def avw (rec:Ty→Ty→ByteArray→Why):Prop:=∀ (x y:Ty) (p a:ByteArray),rec x y (p ++a)=apb p (rec x y a)
theorem ay4 {rec:Ty→Ty→ByteArray→Why} (h:avw rec) (kind:Int) (p a:ByteArray) (xl:List ByteArray) (xk:List Ty) (yl:List ByteArray) (yk:List Ty):
  agy rec kind (p ++a) xl xk yl yk=apb p (agy rec kind a xl xk yl yk):=by
 refine apc (fun k=>?_) _;simp only[agx];cases xl[k]? with
 | none=>rfl
 | some l=>
  simp only[ay3];split
  ·rfl
  ·split
   ·rfl
   ·cases xk[k]?<;>cases yk[(aav (strEq l) yl).toNat]?<;>first|rfl|exact h _ _ _ _
theorem bdc {rec:Ty→Ty→ByteArray→Why} (h:avw rec) (p a:ByteArray) (xk yk:List Ty) (k:Nat):ahu rec (p ++a) xk yk k=apb p (ahu rec a xk yk k):=by
 simp only[ahu];cases xk[k]?<;>cases yk[k]?<;>first|rfl|exact h _ _ _ _
theorem bdd {rec:Ty→Ty→ByteArray→Why} (h:avw rec) (p a:ByteArray) (xk yk:List Ty) (k:Nat):aj9 rec (p ++a) xk yk k=apb p (aj9 rec a xk yk k):=by
 simp only[aj9,ay3];cases xk[k]?<;>cases yk[k]?<;>first|rfl|exact h _ _ _ _
theorem bde {rec:Ty→Ty→ByteArray→Why} (h:avw rec) (kind:Int) (an:ByteArray) (al:List ByteArray) (ak:List Ty) (bn:ByteArray) (bl:List ByteArray) (bk:List Ty) (p a:ByteArray):
  abj rec kind an al ak bn bl bk (p ++a)=apb p (abj rec kind an al ak bn bl bk a):=by
 have hs:avw (fun x y=>rec y x):=fun x y p a=>h y x p a;simp only[abj,ByteArray.append_assoc,bdc h,ay4 h,ay4 hs];split
 ·rfl
 split
 ·rfl
 split
 ·cases ahu rec ⟨#[46,111,107]⟩ ak bk 0<;>rfl
 split
 ·split
  ·exact apc (fun k=>bdd h p a ak bk k) _
  ·rfl
 split
 ·rfl
 split
 ·rfl
 split
 ·split<;>rfl
 split
 ·cases ak[0]?<;>cases bk[0]?<;>first|rfl|(dsimp only;split<;>rfl)
 ·rfl
theorem ay5:∀ n,avw (aew n)
 | 0=>fun _ _ _ _=>rfl
 | n+1=>fun x y p a=>by
  obtain⟨ak,an,al,aks⟩:=x;obtain⟨bk,bn,bl,bks⟩:=y;rw[aew,aew];split
  ·split<;>rfl
  ·split
   ·exact bde (ay5 n) ak an al aks bn bl bks p a
   ·rfl
end Go.Proofs.YtfpannkadjdnaaaGreatDoor
