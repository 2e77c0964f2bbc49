/-
  Decimal numerals: spec.l15Digits; strconv.FormatInt, impl.decimal.
  InsText: spec.l15Digits, l15InsText; strconv.FormatInt, impl.insText (by program: gen_insT.py).
  The text of a module: plain.
  The bytes of a string, as numbers. No program in sight.
-/
import Derived.Test.YtlpcocfadppkhaaGreatDoorRa06
import Derived.Test.YtlpcocfadppkhaaGreatDoorRa05
import Derived.Shelf.Strconv.Itoa4
import Derived.Laws.BytesArg
import Derived.Laws.Concat
import Derived.Laws.Shifts
import Derived.Lib.ItoaLen
import Derived.Deep.RegionHeld3
import Derived.Deep.RegionWith
import Derived.Test.YtlpcocfadppkhaaGreatDoorRa01
import Derived.Lib.RabinKarpLaws
namespace Go.Proofs.YtlpcocfadppkhaaGreatDoor
open Go.RowKit Go.Shelf
set_option linter.unusedVariables false
set_option linter.unusedSimpArgs false
set_option linter.unnecessarySimpa false
set_option maxRecDepth 16000
def ay (n:Int):ByteArray:=⟨(Lib.itoa n).toArray⟩
theorem aar {n:Int} (h0:-9223372036854775808≤n) (h1:n≤9223372036854775807):(ay n).size≤21:=by
 have:=Lib.itoa_length_le n h0 h1
 simpa [ay,ByteArray.size] using this
theorem ae7 {n:Int} (h0:0≤n) (h1:n < 10):ay n=strOfNums [48+n]:=by
 obtain⟨k,rfl⟩:=Int.eq_ofNat_of_zero_le h0
 have hk:(k:Int).toNat=k:=by simp
 rw[ay,Lib.itoa,if_neg (by omega),hk,Lib.decDigits,dif_pos (by omega)]
 simp only[strOfNums,List.map_cons,List.map_nil]
 rw[show((48:Int)+(k:Int)).toNat=48+k by omega]
theorem apz {n:Int} (h0:10≤n):ay n=ay (n / 10) ++strOfNums [48+n % 10]:=by
 obtain⟨k,rfl⟩:=Int.eq_ofNat_of_zero_le (show 0≤n by omega)
 have hk:(k:Int).toNat=k:=by simp
 have hq:((k:Int) / 10).toNat=k / 10:=by omega
 rw[ay,ay,Lib.itoa,Lib.itoa,if_neg (by omega),if_neg (by omega),hk,hq,Lib.decDigits,dif_neg (by omega)]
 simp only[strOfNums,List.map_cons,List.map_nil]
 rw[show((48:Int)+(k:Int) % 10).toNat=48+k % 10 by omega]
 simp[ByteArray.ext_iff]
theorem aq0 {n:Int} (h:n < 0):ay n=⟨#[45]⟩ ++ay (-n):=by
 rw[ay,ay,Lib.itoa,Lib.itoa,if_pos h,if_neg (by omega),show(-n).toNat=n.natAbs by omega]
 simp[ByteArray.ext_iff]
theorem aq1:ay (-9223372036854775808)=⟨#[45,57,50,50,51,51,55,50,48,51,54,56,53,52,55,55,53,56,48,56]⟩:=by
 have:Lib.itoa (-9223372036854775808)=[45,57,50,50,51,51,55,50,48,51,54,56,53,52,55,55,53,56,48,56]:=by kernel_rfl
 rw[ay,this]
theorem ajr {w:World} {g:Nat} {x:Int} (h:Blk w g 5 #[.int .u8 x]):(convert 74 9 (.slice (some ⟨g,0,none⟩) 1 1)).run Tryz.prog w=.ok (.string (strOfNums [x])) w:=by
 refine run_convert_bytes_arg _ _ _ Tryz.underlying74 Tryz.underlying5 _ 0 1 1 [x] rfl (fun i hi=>?_) _ Tryz.underlying9
 refine(h.cell (0+i)).trans ?_
 have:i=0:=by omega
 subst this
 rfl
set_option maxHeartbeats 3200000 in
theorem ajs:∀ (k:Nat) (n:Int),n.toNat≤k→0≤n→n≤9223372036854775807→∀ w:World,Calls Tryz.prog 31 #[.int .i64 n] w fun e w'=>e=.returned (.string (ay n))∧Below w.heap.size w w':=by
 intro k
 induction k with
 | zero=>
  intro n hk h0 h1 w
  have hn:n=0:=by omega
  subst hn
  rw[show ay 0=strOfNums [48] from ae7 (by decide) (by decide)]
  have hst:=ajr (Blk.new w 5 #[.int .u8 48])
  have hw:IntKind.u8.wrap 48=48:=by rw[IntKind.wrap_u8];omega
  go_enter Tryz.func31,Tryz.ntmps31
  go_wp2_with fail
  go_ret
  exact⟨rfl,(Below.refl _ _).alloc (Nat.le_refl _) _⟩
 | succ k ih=>
  intro n hk h0 h1 w
  by_cases h10:n < 10
  ·rw[ae7 h0 h10]
   have hst:=ajr (Blk.new w 5 #[.int .u8 (48+n)])
   have hw:IntKind.u8.wrap (48+n)=48+n:=by rw[IntKind.wrap_u8];omega
   have hn0:¬ n < 0:=by omega
   go_enter Tryz.func31,Tryz.ntmps31
   go_wp2_with fail
   go_ret
   exact⟨rfl,(Below.refl _ _).alloc (Nat.le_refl _) _⟩
  ·have HI:=Lib.hid (ih (n / 10) (by omega) (by omega) (by omega))
   rw[apz (by omega)]
   have hz:=aar (n:=n / 10) (by omega) (by omega)
   obtain⟨a,ha⟩:∃ a,a=ay (n / 10):=⟨_,rfl⟩
   rw[← ha] at HI hz ⊢
   clear ha ih
   have hsz:(strOfNums [48+n % 10]).size=1:=strOfNums_size _
   have hsum:(9223372036854775807 < a.size+(strOfNums [48+n % 10]).size)=False:=by rw[hsz];simp;omega
   have hw:IntKind.u8.wrap (48+n % 10)=48+n % 10:=by rw[IntKind.wrap_u8];omega
   have hn0:¬ n < 0:=by omega
   have hq:n.tdiv 10=n / 10:=by rw[Int.tdiv_eq_ediv_of_nonneg h0]
   have hr:n.tmod 10=n % 10:=by rw[Int.tmod_eq_emod_of_nonneg h0]
   have hi64:IntKind.i64.wrap (48+n % 10)=48+n % 10:=IntWalk.i64_in _ (by omega)
   have a6j:IntKind.i64.wrap (n / 10)=n / 10:=IntWalk.i64_in _ (by omega)
   have hB0:Below w.heap.size w w.drew:=(Below.refl _ _).drew
   have hB1:Below w.heap.size w (w.alloc (.cells #[.int .u8 (48+n % 10)] 5)).drew:=((Below.refl _ _).alloc (Nat.le_refl _) _).drew
   have bA:Blk (w.alloc (.cells #[.int .u8 (48+n % 10)] 5)).drew w.heap.size 5 #[.int .u8 (48+n % 10)]:=(Blk.new w _ _).drew
   have a0p:=ajr bA
   obtain⟨b,hb⟩:∃ b,b=strOfNums [48+n % 10]:=⟨_,rfl⟩
   rw[← hb] at a0p hsum ⊢
   have HST:=Lib.hid (fun(W:World) (g:Nat) (h:Blk W g 5 #[.int .u8 (48+n % 10)])=>(ajr h:_))
   rw[← hb] at HST
   clear hb hsz
   go_enter Tryz.func31,Tryz.ntmps31
   go_wp2_with fail
   go_region_with (first
    | (go_at_call 31;refine(HI.out w.drew).mono ?_;rintro e wq ⟨rfl,hbq⟩;have hBq:=hB0.trans hbq;have a0q:=HST.out _ _ (Blk.new wq 5 #[.int .u8 (48+n % 10)]))
    | (go_at_call 31;refine(HI.out (w.alloc (.cells #[.int .u8 (48+n % 10)] 5)).drew).mono ?_;rintro e wq ⟨rfl,hbq⟩;have hBq:=hB1.trans (hbq.mono hB1.size);have a0q:=HST.out _ _ (bA.step hbq)))
   all_goals
    go_wp2_with fail
    go_ret
    first|exact⟨rfl,hBq⟩|exact⟨rfl,hBq.alloc hBq.size _⟩
theorem aas (n:Int) (h:(Lit.int .i64 n).wf=true) (w:World):Calls Tryz.prog 31 #[.int .i64 n] w fun e w'=>e=.returned (.string (ay n))∧Below w.heap.size w w':=by
 have hb:=wf64 h
 by_cases h0:0≤n
 ·exact ajs n.toNat n (Nat.le_refl _) h0 hb.2 w
 by_cases hm:n=-9223372036854775808
 ·subst hm
  rw[aq1]
  go_enter Tryz.func31,Tryz.ntmps31
  go_wp2_with fail
  go_ret
  exact⟨rfl,Below.refl _ _⟩
 have HP:=Lib.hid (ajs (-n).toNat (-n) (Nat.le_refl _) (by omega) (by omega) w)
 rw[aq0 (by omega)]
 have hz:=aar (n:=-n) (by omega) (by omega)
 obtain⟨a,ha⟩:∃ a,a=ay (-n):=⟨_,rfl⟩
 rw[← ha] at HP hz ⊢
 have hneg:IntKind.i64.wrap (-n)=-n:=IntWalk.i64_in _ (by omega)
 have hn0:n < 0:=by omega
 have hmb:(n ==-9223372036854775808)=false:=by simpa using hm
 clear ha
 go_enter Tryz.func31,Tryz.ntmps31
 go_wp2_with fail
 refine HP.out.mono ?_
 rintro e w1 ⟨rfl,hb1⟩
 go_wp2_with fail
 go_ret
 exact⟨rfl,hb1⟩
def aq2:Go.Shelf.Ren:=⟨fun
  | 129=>130|173=>75|246=>97|283=>119|284=>120|285=>121|286=>122|317=>129|318=>131|319=>132|320=>133|337=>139|338=>140|n=>n,fun
  | 0=>0|2=>2|3=>3|4=>4|5=>5|9=>9|20=>20|37=>74|46=>112|51=>141|53=>109|171=>133|173=>136|212=>154|213=>155|232=>182|233=>183|n=>n,fun
  | 17=>7|18=>8|19=>9|n=>n⟩
set_option maxHeartbeats 4000000 in
theorem ar7:Lays.n173 Tryz.prog aq2 where
 mixed:=by kernel_rfl
 f129:=Tryz.func130.trans (congrArg some (by kernel_rfl))
 f173:=Tryz.func75.trans (congrArg some (by kernel_rfl))
 f246:=Tryz.func97.trans (congrArg some (by kernel_rfl))
 f283:=Tryz.func119.trans (congrArg some (by kernel_rfl))
 f284:=Tryz.func120.trans (congrArg some (by kernel_rfl))
 f285:=Tryz.func121.trans (congrArg some (by kernel_rfl))
 f286:=Tryz.func122.trans (congrArg some (by kernel_rfl))
 f317:=Tryz.func129.trans (congrArg some (by kernel_rfl))
 f318:=Tryz.func131.trans (congrArg some (by kernel_rfl))
 f319:=Tryz.func132.trans (congrArg some (by kernel_rfl))
 f320:=Tryz.func133.trans (congrArg some (by kernel_rfl))
 f337:=Tryz.func139.trans (congrArg some (by kernel_rfl))
 f338:=Tryz.func140.trans (congrArg some (by kernel_rfl))
 t0:=by kernel_rfl
 a0:=fun _=>by kernel_rfl
 z0:=fun _=>by kernel_rfl
 v0:=fun _=>by kernel_rfl
 t2:=by kernel_rfl
 a2:=fun _=>by kernel_rfl
 z2:=fun _=>by kernel_rfl
 v2:=fun _=>by kernel_rfl
 t3:=by kernel_rfl
 a3:=fun _=>by kernel_rfl
 z3:=fun _=>by kernel_rfl
 v3:=fun _=>by kernel_rfl
 t4:=by kernel_rfl
 a4:=fun _=>by kernel_rfl
 z4:=fun _=>by kernel_rfl
 v4:=fun _=>by kernel_rfl
 t5:=by kernel_rfl
 a5:=fun _=>by kernel_rfl
 z5:=fun _=>by kernel_rfl
 v5:=fun _=>by kernel_rfl
 t9:=by kernel_rfl
 a9:=fun _=>by kernel_rfl
 z9:=fun _=>by kernel_rfl
 v9:=fun _=>by kernel_rfl
 t20:=by kernel_rfl
 a20:=fun _=>by kernel_rfl
 z20:=fun _=>by kernel_rfl
 v20:=fun _=>by kernel_rfl
 t37:=by kernel_rfl
 a37:=fun _=>by kernel_rfl
 z37:=fun _=>by kernel_rfl
 v37:=fun _=>by kernel_rfl
 t46:=by kernel_rfl
 a46:=fun _=>by kernel_rfl
 z46:=fun _=>by kernel_rfl
 v46:=fun _=>by kernel_rfl
 t51:=by kernel_rfl
 a51:=fun _=>by kernel_rfl
 z51:=fun _=>by kernel_rfl
 v51:=fun _=>by kernel_rfl
 t53:=by kernel_rfl
 a53:=fun _=>by kernel_rfl
 z53:=fun _=>by kernel_rfl
 v53:=fun _=>by kernel_rfl
 t171:=by kernel_rfl
 a171:=fun _=>by kernel_rfl
 z171:=fun _=>by kernel_rfl
 v171:=fun _=>by kernel_rfl
 t173:=by kernel_rfl
 a173:=fun _=>by kernel_rfl
 z173:=fun _=>by kernel_rfl
 v173:=fun _=>by kernel_rfl
 t212:=by kernel_rfl
 a212:=fun _=>by kernel_rfl
 z212:=fun _=>by kernel_rfl
 v212:=fun _=>by kernel_rfl
 t213:=by kernel_rfl
 a213:=fun _=>by kernel_rfl
 z213:=fun _=>by kernel_rfl
 t232:=by kernel_rfl
 a232:=fun _=>by kernel_rfl
 z232:=fun _=>by kernel_rfl
 v232:=fun _=>by kernel_rfl
 t233:=by kernel_rfl
 a233:=fun _=>by kernel_rfl
 z233:=fun _=>by kernel_rfl
 v233:=fun _=>by kernel_rfl
 g17:=by kernel_rfl
 g18:=by kernel_rfl
 g19:=by kernel_rfl
theorem avc:LaysM.n173 Tryz.prog aq2:={ar7 with i0:=by kernel_rfl,i2:=by kernel_rfl,i3:=by kernel_rfl,i4:=by kernel_rfl,i5:=by kernel_rfl,i9:=by kernel_rfl,i20:=by kernel_rfl,i37:=by kernel_rfl,i46:=by kernel_rfl,i51:=by kernel_rfl,i53:=by kernel_rfl,i171:=by kernel_rfl,i173:=by kernel_rfl,i212:=by kernel_rfl,i232:=by kernel_rfl,i233:=by kernel_rfl,m17:=by kernel_rfl,m18:=by kernel_rfl,m19:=by kernel_rfl}
theorem below_grown (w:World) (k:Nat) (os:Array Obj):Below w.heap.size w (Go.Sort.grow (w.drewN k) os):=
 (below_drewN (Below.refl w.heap.size w) k).trans ⟨rfl,rfl,rfl,by simp[Go.Sort.grow],fun i hi=>by
  show((w.drewN k).heap ++os)[i]?=_
  have h:i < (w.drewN k).heap.size:=by simpa using hi
  rw[Array.getElem?_append,if_pos h]⟩
def ail (w:World):Prop:=Lib.TabIs Tryz.prog w "internal/strconv.uint64pow10" .u64 Lib.pow10Tab
theorem ail.below {w w':World} (h:ail w) (hb:Below w.heap.size w w'):ail w':=ah8 h hb
theorem ar8:(Rows.laid_internal_strconv_uint64pow10:DataW Unit)=Lib.tabData .u64 Lib.pow10Tab:=by kernel_rfl
theorem ap0 {l:List (String×DataW Unit)} (hp:(l.all fun x=>x.2.handleName?.isNone)=true) (hm2:("internal/strconv.uint64pow10",(Rows.laid_internal_strconv_uint64pow10:DataW Unit)) ∈ l) {w:World} (h:laidMetH Tryz.prog l w):ail w:=by
 rw[MakeChecks.laidMetH_plain _ _ _ hp] at h
 have h1:=Lib.laidMet.reads h hm2
 rw[ar8] at h1
 exact ah7 (g:=7) (t:=154) (e:=109) (n:=20) (by kernel_rfl) (by kernel_rfl) (by kernel_rfl) (by kernel_rfl) (by kernel_rfl) (by kernel_rfl) h1
theorem al8 (n:Int) (h:(Lit.int .i64 n).wf=true) (w:World) (hT:ail w):Calls Tryz.prog 75 #[.int .i64 n,.int .i64 10] w fun e w'=>e=.returned (.string (ay n))∧Below w.heap.size w w':=by
 have hb:=wf64 h
 refine(Any.strconv_FormatInt_10 avc n hb.1 hb.2 w hT).mono ?_
 rintro e w' ⟨rfl,k,os,rfl⟩
 exact⟨rfl,below_grown w k os⟩
theorem aa0 (n:Int) (h:(Lit.int .i64 n).wf=true) (w:World) (hT:ail w):Calls Tryz.prog 55 #[.int .i64 n] w fun e w'=>e=.returned (.string (ay n))∧Below w.heap.size w w':=by
 have HF:=Lib.hid (al8 n h w hT)
 go_enter Tryz.func55,Tryz.ntmps55
 go_wp2_with fail
 refine HF.out.mono ?_
 rintro e w1 ⟨rfl,hb1⟩
 go_wp2_with fail
 go_ret
 exact⟨rfl,hb1⟩
def aa5 (w:World):Prop:=aik w∧ail w
theorem aa5.below {w w':World} (h:aa5 w) (hb:Below w.heap.size w w'):aa5 w':=⟨h.1.below hb,h.2.below hb⟩
theorem ap1 {l:List (String×DataW Unit)} (hp:(l.all fun x=>x.2.handleName?.isNone)=true) (hm:("strings.asciiSpace",(Rows.laid_strings_asciiSpace:DataW Unit)) ∈ l) (hm2:("internal/strconv.uint64pow10",(Rows.laid_internal_strconv_uint64pow10:DataW Unit)) ∈ l) {w:World} (h:laidMetH Tryz.prog l w):aa5 w:=⟨apx hp hm h,ap0 hp hm2 h⟩
def og (op a:Int):ByteArray:=if gy op a=true then (if aa8 op=true then ab7 op ++(⟨#[32]⟩ ++ay a)else ab7 op)else ⟨#[]⟩
theorem ao6 {op a:Int} (h:gy op a=false):og op a=⟨#[]⟩:=if_neg (by rw[h];decide)
theorem afo {op a:Int} (h:gy op a=true) (h2:aa8 op=false):og op a=ab7 op:=by rw[og,if_pos h,if_neg (by rw[h2];decide)]
theorem ag7 {op a:Int} (h:gy op a=true) (h2:aa8 op=true):og op a=ab7 op ++(⟨#[32]⟩ ++ay a):=by rw[og,if_pos h,if_pos h2]
theorem aog:(words.all fun x=>decide (x.size≤8))=true:=by kernel_rfl
theorem ag8 {j:Nat} {x:ByteArray} (h:words[j]?=some x):x.size≤8:=by
 have:=List.all_eq_true.1 aog x (List.mem_of_getElem? h)
 simpa using this
set_option maxHeartbeats 3200000 in
theorem adb (op a:Int) (ha:(Lit.int .i64 a).wf=true) (hok:gy op a=true) (w:World):Calls Tryz.prog 33 #[.agg #[.int .i64 op,.int .i64 a]] w fun e w'=>e=.returned (.string (og op a))∧Below w.heap.size w w':=by
 have h40:inB op 1 40=true:=by rw[gy,Bool.and_eq_true] at hok;exact hok.1
 obtain⟨j,x,hop,hj,hx⟩:=aej h40
 have hop2:op=(j:Int)+1:=by omega
 have hwd:ab7 op=x:=by rw[hop];exact acz hx
 clear hop
 subst hop2
 have hwx:=ag8 hx
 obtain⟨Z,hZ⟩:∃ Z,Z=og ((j:Int)+1) a:=⟨_,rfl⟩
 have HZ:=Lib.hid hZ
 rw[← hZ]
 have HOK:=Lib.hid hok
 have HWD:=Lib.hid hwd
 have HA:=Lib.hid ha
 have hba:=wf64 ha
 have hsz:=aar (n:=a) hba.1 hba.2
 have HW:=Lib.hid (fun(W:World)=>aei W)
 have HO:=Lib.hid (fun W=>ajo ((j:Int)+1) W)
 have HX:=Lib.hid hx
 have hs:IntKind.i64.wrap ((j:Int)+1 - 1)=(j:Int):=by rw[IntWalk.i64_in _ (by omega)];omega
 have hs2:IntKind.i64.wrap (j:Int)=(j:Int):=IntWalk.i64_in _ (by omega)
 have hj0:(0:Int)≤(j:Int):=by omega
 have hj1:(j:Int) < 40:=by omega
 have hj2:(0:Int)≤(j:Int)+1:=by omega
 have hj3:(j:Int)+1 < 41:=by omega
 clear hZ hwd hok h40 ha hba hx
 go_enter Tryz.func33,Tryz.ntmps33
 go_wp2_with fail
 obtain⟨w0,hw0⟩:∃ W,W=w.alloc (.cells #[.int .i64 ((j:Int)+1),.int .i64 a] 54):=⟨_,rfl⟩
 rw[← hw0]
 have bA:Blk w0 w.heap.size 54 #[.int .i64 ((j:Int)+1),.int .i64 a]:=by rw[hw0];exact Blk.new w _ _
 have hB0:Below w.heap.size w w0:=by rw[hw0];exact(Below.refl _ _).alloc (Nat.le_refl _) _
 clear hw0
 have hBd:Below w.heap.size w w0.drew:=hB0.drew
 have bD:=bA.drew
 have hlt:=bA.lt
 have q0:w0.drew.cell? ⟨w.heap.size,0,none⟩=some (.int .i64 ((j:Int)+1)):=bD.cell 0
 go_region_with (first|(go_at_call 50;refine(HW.out _).mono ?_;rintro e wq ⟨rfl,hcq,hbq⟩;have hBq:=hBd.trans (hbq.mono hBd.size);have bQ:=bD.step hbq;have c0:wq.cell? ⟨w.heap.size,0,none⟩=some (.int .i64 ((j:Int)+1)):=bQ.cell 0;have hcx:wq.cell? ⟨w0.heap.size,j,none⟩=some (.string x):=hcq (j) x HX.out))
 all_goals
  have hsx:=aar (n:=a) (wf64 HA.out).1 (wf64 HA.out).2
  have q1:wq.cell? ⟨w.heap.size,1,none⟩=some (.int .i64 a):=bQ.cell 1
  cases hh:aa8 ((j:Int)+1)
  case false=>
   have HF:Hid (Z=x):=by show _=_;rw[HZ.out,afo HOK.out hh,HWD.out]
   rw[hh] at HO
   clear hh
   go_wp2_with fail
   refine(HO.out wq).mono ?_
   rintro e w2 ⟨rfl,hw2⟩
   have ain:=hw2.symm
   clear hw2
   subst ain
   go_wp2_with fail
   go_ret
   exact⟨aa2 HF.out.symm,hBq⟩
  have HF:Hid (Z=x ++(⟨#[32]⟩ ++ay a)):=by show _=_;rw[HZ.out,ag7 HOK.out hh,HWD.out]
  have HD:=Lib.hid (aas a HA.out wq)
  rw[hh] at HO
  obtain⟨d,hd⟩:∃ d,d=ay a:=⟨_,rfl⟩
  rw[← hd] at HF HD hsx
  clear hh hd hsz
  have z2:((⟨#[32]⟩:ByteArray) ++d).size=1+d.size:=by rw[ByteArray.size_append];rfl
  go_wp2_with fail
  refine(HO.out wq).mono ?_
  rintro e w2 ⟨rfl,hw2⟩
  have ain:=hw2.symm
  clear hw2
  subst ain
  go_wp2_with fail
  refine HD.out.mono ?_
  rintro e w3 ⟨rfl,hb3⟩
  go_wp2_with fail
  go_ret
  exact⟨aa2 HF.out.symm,hBq.trans (hb3.mono hBq.size)⟩
set_option maxHeartbeats 3200000 in
theorem aia (op a:Int) (ha:(Lit.int .i64 a).wf=true) (hok:gy op a=true) (w:World) (hT:aa5 w):Calls Tryz.prog 66 #[.agg #[.int .i64 op,.int .i64 a]] w fun e w'=>e=.returned (.string (og op a))∧Below w.heap.size w w':=by
 have h40:inB op 1 40=true:=by rw[gy,Bool.and_eq_true] at hok;exact hok.1
 obtain⟨j,x,hop,hj,hx⟩:=aej h40
 have hop2:op=(j:Int)+1:=by omega
 have hwd:ab7 op=x:=by rw[hop];exact acz hx
 clear hop
 subst hop2
 have hwx:=ag8 hx
 obtain⟨Z,hZ⟩:∃ Z,Z=og ((j:Int)+1) a:=⟨_,rfl⟩
 have HZ:=Lib.hid hZ
 rw[← hZ]
 have HOK:=Lib.hid hok
 have HWD:=Lib.hid hwd
 have HA:=Lib.hid ha
 have hba:=wf64 ha
 have hsz:=aar (n:=a) hba.1 hba.2
 have HW:=Lib.hid (fun(W:World) (h:aa5 W)=>ah9 W h.1)
 have HO:=Lib.hid (fun W=>ajp ((j:Int)+1) W)
 have HX:=Lib.hid hx
 have hj0:(0:Int)≤(j:Int):=by omega
 have hj1:(j:Int) < 40:=by omega
 have hj2:(0:Int)≤(j:Int)+1:=by omega
 have hj3:(j:Int)+1 < 41:=by omega
 clear hZ hwd hok h40 ha hba hx
 go_enter Tryz.func66,Tryz.ntmps66
 go_wp2_with fail
 obtain⟨w0,hw0⟩:∃ W,W=w.alloc (.cells #[.int .i64 ((j:Int)+1),.int .i64 a] 54):=⟨_,rfl⟩
 rw[← hw0]
 have bA:Blk w0 w.heap.size 54 #[.int .i64 ((j:Int)+1),.int .i64 a]:=by rw[hw0];exact Blk.new w _ _
 have hB0:Below w.heap.size w w0:=by rw[hw0];exact(Below.refl _ _).alloc (Nat.le_refl _) _
 clear hw0
 have hBd:Below w.heap.size w w0.drew:=hB0.drew
 have hTd:aa5 w0.drew:=hT.below hBd
 have bD:=bA.drew
 have hlt:=bA.lt
 have q0:w0.drew.cell? ⟨w.heap.size,0,none⟩=some (.int .i64 ((j:Int)+1)):=bD.cell 0
 go_region_with (first|(go_at_call 58;refine(HW.out _ hTd).mono ?_;rintro e wq ⟨rfl,hcq,hbq⟩;have hBq:=hBd.trans (hbq.mono hBd.size);have bQ:=bD.step hbq;have c0:wq.cell? ⟨w.heap.size,0,none⟩=some (.int .i64 ((j:Int)+1)):=bQ.cell 0;have hcx:wq.cell? ⟨w0.heap.size,j+1,none⟩=some (.string x):=hcq (j+1) x HX.out))
 all_goals
  have hsx:=aar (n:=a) (wf64 HA.out).1 (wf64 HA.out).2
  have q1:wq.cell? ⟨w.heap.size,1,none⟩=some (.int .i64 a):=bQ.cell 1
  cases hh:aa8 ((j:Int)+1)
  case false=>
   have HF:Hid (Z=x):=by show _=_;rw[HZ.out,afo HOK.out hh,HWD.out]
   rw[hh] at HO
   clear hh
   go_wp2_with fail
   refine(HO.out wq).mono ?_
   rintro e w2 ⟨rfl,hw2⟩
   have ain:=hw2.symm
   clear hw2
   subst ain
   go_wp2_with fail
   go_ret
   exact⟨aa2 HF.out.symm,hBq⟩
  have HF:Hid (Z=x ++(⟨#[32]⟩ ++ay a)):=by show _=_;rw[HZ.out,ag7 HOK.out hh,HWD.out]
  have HD:=Lib.hid (aa0 a HA.out wq (hT.below hBq).2)
  rw[hh] at HO
  obtain⟨d,hd⟩:∃ d,d=ay a:=⟨_,rfl⟩
  rw[← hd] at HF HD hsx
  clear hh hd hsz
  have z2:((⟨#[32]⟩:ByteArray) ++d).size=1+d.size:=by rw[ByteArray.size_append];rfl
  go_wp2_with fail
  refine(HO.out wq).mono ?_
  rintro e w2 ⟨rfl,hw2⟩
  have ain:=hw2.symm
  clear hw2
  subst ain
  go_wp2_with fail
  refine HD.out.mono ?_
  rintro e w3 ⟨rfl,hb3⟩
  go_wp2_with fail
  go_ret
  exact⟨aa2 HF.out.symm,hBq.trans (hb3.mono hBq.size)⟩
set_option maxHeartbeats 1600000 in
set_option maxHeartbeats 1600000 in
theorem ajt (op a:Int) (ha:(Lit.int .i64 a).wf=true) (w:World) (hT:aa5 w):Calls Tryz.prog 59 #[.agg #[.int .i64 op,.int .i64 a]] w fun e w'=>e=.returned (.string (og op a))∧Below w.heap.size w w':=by
 obtain⟨Z,hZ⟩:∃ Z,Z=og op a:=⟨_,rfl⟩
 have HC:=Lib.hid (fun(W:World) (hok:gy op a=true) (h:aa5 W)=>aia op a ha hok W h)
 have HZ:=Lib.hid hZ
 rw[← hZ] at HC ⊢
 clear hZ ha
 go_enter Tryz.func59,Tryz.ntmps59
 go_wp2_with fail
 obtain⟨w0,hw0⟩:∃ W,W=w.alloc (.cells #[.int .i64 op,.int .i64 a] 54):=⟨_,rfl⟩
 rw[← hw0]
 have bA:Blk w0 w.heap.size 54 #[.int .i64 op,.int .i64 a]:=by rw[hw0];exact Blk.new w _ _
 have hB0:Below w.heap.size w w0:=by rw[hw0];exact(Below.refl _ _).alloc (Nat.le_refl _) _
 clear hw0
 refine(agw op a _).mono ?_
 rintro e w1 ⟨rfl,hb1⟩
 have hB1:=hB0.trans (hb1.mono hB0.size)
 replace bA:=bA.step hb1
 cases hok:gy op a
 ·have HF:Hid (Z=⟨#[]⟩):=by show _=_;rw[HZ.out,ao6 hok]
  go_wp2_with fail
  go_ret
  exact⟨aa2 HF.out.symm,hB1⟩
 have b0:w1.cell? ⟨w.heap.size,0,none⟩=some (.int .i64 op):=bA.cell 0
 have b1:w1.cell? ⟨w.heap.size,1,none⟩=some (.int .i64 a):=bA.cell 1
 go_wp2_with fail
 refine(HC.out w1 hok (hT.below hB1)).mono ?_
 rintro e w2 ⟨rfl,hb2⟩
 go_wp2_with fail
 go_ret
 exact⟨rfl,hB1.trans (hb2.mono hB1.size)⟩
end Go.Proofs.YtlpcocfadppkhaaGreatDoor
namespace Go.Proofs.YtlpcocfadppkhaaGreatDoor
open Go.RowKit
set_option linter.unusedVariables false
set_option linter.unusedSimpArgs false
set_option linter.unnecessarySimpa false
def jo:List ByteArray→ByteArray
 | []=>⟨#[]⟩
 | x ::r=>x ++jo r
theorem ab8 (s:ByteArray):s ++(⟨#[]⟩:ByteArray)=s:=by simp[ByteArray.ext_iff]
theorem akt (s:ByteArray):(⟨#[]⟩:ByteArray) ++s=s:=by simp[ByteArray.ext_iff]
theorem x9 (a b c:ByteArray):(a ++b) ++c=a ++(b ++c):=by simp[ByteArray.ext_iff,Array.append_assoc]
theorem alk:∀ (l:List ByteArray) (x:ByteArray),jo (l ++[x])=jo l ++x
 | [],x=>by show x ++(⟨#[]⟩:ByteArray)=⟨#[]⟩ ++x;rw[ab8,akt]
 | y ::l,x=>by
  show y ++jo (l ++[x])=(y ++jo l) ++x
  rw[alk l x,x9]
theorem ab9 {α:Type} {f:α→ByteArray} {l:List α} {k:Nat} {x:α} (h:l[k]?=some x):jo ((l.take (k+1)).map f)=jo ((l.take k).map f) ++f x:=by
 rw[List.take_add_one,h,List.map_append]
 exact alk _ _
theorem afp {α:Type} {f:α→ByteArray} {K:Nat}:∀ {l:List α},(∀ x ∈ l,(f x).size≤K)→(jo (l.map f)).size≤K * l.length
 | [],_=>Nat.zero_le _
 | x ::l,h=>by
  have h1:=h x (by simp)
  have h2:=afp (l:=l) fun y hy=>h y (by simp[hy])
  show(f x ++jo (l.map f)).size≤K * (l.length+1)
  rw[ByteArray.size_append,Nat.mul_add]
  omega
def aju:ByteArray:=⟨#[109,111,100,117,108,101,32]⟩
def ajv:ByteArray:=⟨#[105,109,112,111,114,116,32]⟩
def ag9:ByteArray:=⟨#[99,111,114,101,32]⟩
def zf:ByteArray:=⟨#[32]⟩
def adw:ByteArray:=⟨#[10]⟩
def zu (b:Bool):ByteArray:=if b then ⟨#[49]⟩else ⟨#[48]⟩
theorem acd (b:Bool):(zu b).size=1:=by cases b<;>rfl
def ac0:Imp→ByteArray|.mk name params result=>(((((ajv ++name) ++zf) ++ay params) ++zf) ++zu result) ++adw
def ae8:Core→ByteArray|.mk name params locals result code=>(((((((ag9 ++name) ++zf) ++ay params) ++zf) ++ay locals) ++zf) ++zu result) ++adw
def insL (i:Ins):ByteArray:=og i.op i.a ++adw
def abq:Core→ByteArray|.mk name params locals result code=>ae8 (.mk name params locals result code) ++jo (code.map insL)
def adx (pages:Int):ByteArray:=(aju ++ay pages) ++adw
def aak:Mod→ByteArray|.mk pages imports cores=>(adx pages ++jo (imports.map ac0)) ++jo (cores.map abq)
def ajw (m:Mod):ByteArray:=if uy m=true then aak m else ⟨#[]⟩
theorem ams {m:Mod} (h:uy m=false):ajw m=⟨#[]⟩:=if_neg (by rw[h];decide)
theorem aha {m:Mod} (h:uy m=true):ajw m=aak m:=if_pos h
def aku (b:Bool):Int:=if b then 1 else 0
theorem aq3 (b:Bool):ay (aku b)=zu b:=by
 cases b
 ·exact(ae7 (n:=0) (by decide) (by decide)).trans rfl
 ·exact(ae7 (n:=1) (by decide) (by decide)).trans rfl
theorem ad7 {n lo hi:Int} (h:inB n lo hi=true):lo≤n∧n≤hi:=by
 rw[inB,Bool.and_eq_true,decide_eq_true_eq,decide_eq_true_eq] at h;exact h
theorem ao7 {s:ByteArray} (h:jv s=true):s.size≤40:=by
 rw[jv,Bool.and_eq_true] at h
 have:=ad7 h.2
 omega
structure amf (c:Core):Prop where
 name:c.name.size≤40
 params:0≤c.params∧c.params≤8
 locals:0≤c.locals∧c.locals≤8
 code:c.code.length≤120
 ins:∀ i ∈ c.code,gy i.op i.a=true
structure ar9 (x:Imp):Prop where
 name:x.name.size≤40
 params:0≤x.params∧x.params≤8
structure a0r (m:Mod):Prop where
 pages:1≤m.pages∧m.pages≤16
 axk:m.imports.length≤12
 aul:m.cores.length≤8
 imp:∀ x ∈ m.imports,ar9 x
 core:∀ c ∈ m.cores,amf c
theorem ade {α:Type} {p:α→Bool} {l:List α} (h:(!l.any fun x=>!p x)=true):∀ x ∈ l,p x=true:=fun x hx=>by
 rw[Bool.not_eq_true',List.any_eq_false] at h
 have:=h x hx
 simpa using this
theorem asa {m:Mod} (h:uy m=true):a0r m:=by
 rw[uy] at h
 simp only[Bool.and_eq_true,decide_eq_true_eq] at h
 obtain⟨h1,h2,h3,h4,h5,h6,h7⟩:=h
 rw[oq,Bool.and_eq_true] at h6 h7
 have n6:=ade h6.2
 have n7:=ade h7.2
 have i4:=ade h4
 have c5:=ade h5
 refine⟨ad7 h1,h2,h3,fun x hx=>⟨ao7 (n6 _ (List.mem_map.2 ⟨x,hx,rfl⟩)),ad7 (i4 x hx)⟩,fun c hc=>?_⟩
 have hcb:=c5 c hc
 rw[yt] at hcb
 simp only[Bool.and_eq_true,decide_eq_true_eq] at hcb
 obtain⟨k1,k2,k3,k4⟩:=hcb
 exact⟨ao7 (n7 _ (List.mem_map.2 ⟨c,hc,rfl⟩)),ad7 k1,ad7 k2,k3,ade k4⟩
theorem aap {n:Int} (h:0≤n∧n≤16):(ay n).size≤21:=aar (by omega) (by omega)
theorem avd {x:Imp} (h:ar9 x):(ac0 x).size≤72:=by
 obtain⟨name,params,result⟩:=x
 have h1:=h.name
 have h2:=aap (n:=params) (by have:=h.params;simp only at this;omega)
 have h3:=acd result
 simp only at h1
 simp only[ac0,ByteArray.size_append,ajv,zf,adw]
 have e1:(⟨#[105,109,112,111,114,116,32]⟩:ByteArray).size=7:=rfl
 have e2:(⟨#[32]⟩:ByteArray).size=1:=rfl
 have e3:(⟨#[10]⟩:ByteArray).size=1:=rfl
 omega
theorem asb {c:Core} (h:amf c):(ae8 c).size≤92:=by
 obtain⟨name,params,locals,result,code⟩:=c
 have h1:=h.name
 have h2:=aap (n:=params) (by have:=h.params;simp only at this;omega)
 have h4:=aap (n:=locals) (by have:=h.locals;simp only at this;omega)
 have h3:=acd result
 simp only at h1
 simp only[ae8,ByteArray.size_append,ag9,zf,adw]
 have e1:(⟨#[99,111,114,101,32]⟩:ByteArray).size=5:=rfl
 have e2:(⟨#[32]⟩:ByteArray).size=1:=rfl
 have e3:(⟨#[10]⟩:ByteArray).size=1:=rfl
 omega
theorem aio {op a:Int} (h:gy op a=true):-9223372036854775808≤a∧a≤9223372036854775807:=by
 rw[gy,Bool.and_eq_true] at h
 have h2:=ad7 h.2
 have h3:-9223372036854775808≤acw op:=by unfold acw;split<;>decide
 have h4:acy op≤9223372036854775807:=by unfold acy;repeat' (first|decide|split)
 omega
theorem akv {op a:Int} (h:gy op a=true):(og op a).size≤30:=by
 have hr:=aio h
 have hz:=aar hr.1 hr.2
 have h40:inB op 1 40=true:=by rw[gy,Bool.and_eq_true] at h;exact h.1
 obtain⟨j,x,rfl,hj,hx⟩:=aej h40
 have hw:=ag8 hx
 have ho:=acz hx
 cases hh:aa8 ((j+1:Nat):Int)with
 | false=>rw[afo h hh,ho];omega
 | true=>
  rw[ag7 h hh,ho,ByteArray.size_append,ByteArray.size_append]
  have e2:(⟨#[32]⟩:ByteArray).size=1:=rfl
  omega
theorem ao8 {i:Ins} (h:gy i.op i.a=true):(insL i).size≤31:=by
 have:=akv h
 rw[insL,ByteArray.size_append]
 have e2:adw.size=1:=rfl
 omega
theorem ave {code:List Ins} (h:∀ i ∈ code,gy i.op i.a=true):(jo (code.map insL)).size≤31 * code.length:=afp fun i hi=>ao8 (h i hi)
theorem asc {c:Core} (h:amf c):(abq c).size≤3812:=by
 obtain⟨name,params,locals,result,code⟩:=c
 have h1:=asb h
 have h2:=ave h.ins
 have h3:=h.code
 simp only at h2 h3
 rw[abq,ByteArray.size_append]
 omega
theorem ao9 {p:Int} (h:1≤p∧p≤16):(adx p).size≤29:=by
 have:=aap (n:=p) (by omega)
 rw[adx,ByteArray.size_append,ByteArray.size_append]
 have e2:adw.size=1:=rfl
 have e3:aju.size=7:=rfl
 omega
theorem aip {α:Type} {l:List α} {k:Nat} {x:α} (h:x ∈ l.take k):x ∈ l:=List.mem_of_mem_take h
theorem apa {l:List Imp} (h:∀ x ∈ l,ar9 x) (k:Nat):(jo ((l.take k).map ac0)).size≤72 * k:=by
 have h1:=afp (f:=ac0) (K:=72) (l:=l.take k) fun x hx=>avd (h x (aip hx))
 have h2:(l.take k).length≤k:=by rw[List.length_take];omega
 have:=Nat.mul_le_mul_left 72 h2
 omega
theorem amu {l:List Core} (h:∀ x ∈ l,amf x) (k:Nat):(jo ((l.take k).map abq)).size≤3812 * k:=by
 have h1:=afp (f:=abq) (K:=3812) (l:=l.take k) fun x hx=>asc (h x (aip hx))
 have h2:(l.take k).length≤k:=by rw[List.length_take];omega
 have:=Nat.mul_le_mul_left 3812 h2
 omega
theorem apb {l:List Ins} (h:∀ i ∈ l,gy i.op i.a=true) (k:Nat):(jo ((l.take k).map insL)).size≤31 * k:=by
 have h1:=afp (f:=insL) (K:=31) (l:=l.take k) fun x hx=>ao8 (h x (aip hx))
 have h2:(l.take k).length≤k:=by rw[List.length_take];omega
 have:=Nat.mul_le_mul_left 31 h2
 omega
def byt (s:ByteArray):List Int:=s.data.toList.map fun b=>(b.toNat:Int)
@[simp] theorem ru (s:ByteArray):(byt s).length=s.size:=by simp[byt]
theorem avf {s:ByteArray} {k:Nat} (h:k < s.size):(byt s)[k]?=some ((s[k].toNat:Nat):Int):=by
 rw[byt,List.getElem?_map,Go.Proofs.byte_at s k h];rfl
theorem avg {s:ByteArray} {x:Int} (h:x ∈ byt s):0≤x∧x≤255:=by
 simp only[byt,List.mem_map] at h
 obtain⟨b,_,rfl⟩:=h
 have:=b.toNat_lt
 omega
theorem jy (s:ByteArray):strOfNums (byt s)=s:=by
 apply ByteArray.ext
 simp only[strOfNums,byt,List.map_map]
 have:((fun n:Int=>UInt8.ofNat n.toNat) ∘ fun b:UInt8=>(b.toNat:Int))=id:=by
  funext b
  simp
 rw[this]
 simp
theorem al9 {l:List Int} (h:∀ x ∈ l,0≤x∧x≤255):byt (strOfNums l)=l:=by
 induction l with
 | nil=>rfl
 | cons x l ih=>
  have h1:=h x (by simp)
  have ih:=ih fun y hy=>h y (by simp[hy])
  simp only[byt,strOfNums,List.map_cons,List.map_map] at ih ⊢
  rw[ih]
  congr 1
  simp
  omega
theorem avh {s t:ByteArray} (h:byt s=byt t):s=t:=by rw[← jy s,← jy t,h]
theorem aib (s:ByteArray) (m:Nat):byt (s.extract 0 m)=(byt s).take m:=by
 simp[byt,List.map_take]
theorem alm (s:ByteArray) (a b:Nat):byt (s.extract a b)=((byt s).take b).drop a:=by
 simp only[byt,ByteArray.data_extract,Array.toList_extract,List.extract_eq_take_drop,List.map_drop,List.map_take]
 rw[List.drop_take]
theorem aiq (s:ByteArray) (a:Nat):byt (s.extract a s.size)=(byt s).drop a:=by
 rw[alm,List.take_of_length_le (by simp)]
theorem afq (s t:ByteArray):byt (s ++t)=byt s ++byt t:=by simp[byt]
theorem avi:byt ⟨#[]⟩=[]:=rfl
end Go.Proofs.YtlpcocfadppkhaaGreatDoor
