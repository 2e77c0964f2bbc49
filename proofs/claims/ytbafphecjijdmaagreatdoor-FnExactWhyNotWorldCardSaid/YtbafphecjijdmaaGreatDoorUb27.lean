/-
  Versions of the reference: l02Dec, l02Text, l02Num, VersionOk, Serves.
-/
import Derived.Test.YtbafphecjijdmaaGreatDoorUb24
import Derived.Test.YtbafphecjijdmaaGreatDoorUb10
import Derived.Test.YtbafphecjijdmaaGreatDoorUb09
namespace Go.Proofs.YtbafphecjijdmaaGreatDoor
open Go.RowKit Go.Shelf
set_option linter.all false
set_option maxRecDepth 16000
set_option maxHeartbeats 3200000 in
theorem avm:∀ (k:Nat) (n:Int),n.toNat≤k→0≤n→n≤9223372036854775807→∀ w:World,Calls Tryz.prog 149 #[.int .i64 n] w fun e w'=>e=.returned (.string (abz n))∧Below w.heap.size w w':=by
 intro k
 induction k with
 | zero=>
  intro n hk h0 h1 w
  have hn:n=0:=by omega
  subst hn
  rw[show abz 0=strOfNums [48] from aq7 (by decide) (by decide)]
  have hst:=apa (Blk.new w 5 #[.int .u8 48])
  have hw:IntKind.u8.wrap 48=48:=by rw[IntKind.wrap_u8];omega
  go_enter Tryz.func149,Tryz.ntmps149
  go_wp2_with fail
  go_ret
  exact⟨rfl,(zqf _ _).alloc (zql _) _⟩
 | succ k ih=>
  intro n hk h0 h1 w
  by_cases h10:n < 10
  ·rw[aq7 h0 h10]
   have hst:=apa (Blk.new w 5 #[.int .u8 (48+n)])
   have hw:IntKind.u8.wrap (48+n)=48+n:=by rw[IntKind.wrap_u8];omega
   go_enter Tryz.func149,Tryz.ntmps149
   go_wp2_with fail
   go_ret
   exact⟨rfl,(zqf _ _).alloc (zql _) _⟩
  ·have HI:=zqd (ih (n / 10) (by omega) (by omega) (by omega))
   rw[a0e (by omega)]
   have hz:=ais (n:=n / 10) (by omega) (by omega)
   obtain⟨a,ha⟩:∃ a,a=abz (n / 10):=⟨_,rfl⟩
   rw[← ha] at HI hz ⊢
   clear ha ih
   have hsz:(strOfNums [48+n % 10]).size=1:=strOfNums_size _
   have hsum:(9223372036854775807 < a.size+(strOfNums [48+n % 10]).size)=False:=by rw[hsz];simp;omega
   have hw:IntKind.u8.wrap (48+n % 10)=48+n % 10:=by rw[IntKind.wrap_u8];omega
   have hq:n.tdiv 10=n / 10:=by rw[Int.tdiv_eq_ediv_of_nonneg h0]
   have hr:n.tmod 10=n % 10:=by rw[Int.tmod_eq_emod_of_nonneg h0]
   have hi64:IntKind.i64.wrap (48+n % 10)=48+n % 10:=IntWalk.i64_in _ (by omega)
   have bs6:IntKind.i64.wrap (n / 10)=n / 10:=IntWalk.i64_in _ (by omega)
   have hB0:Below w.heap.size w w.drew:=(zqf _ _).drew
   have hB1:Below w.heap.size w (w.alloc (.cells #[.int .u8 (48+n % 10)] 5)).drew:=((zqf _ _).alloc (zql _) _).drew
   have bA:Blk (w.alloc (.cells #[.int .u8 (48+n % 10)] 5)).drew w.heap.size 5 #[.int .u8 (48+n % 10)]:=(Blk.new w _ _).drew
   have bix:=apa bA
   obtain⟨b,hb⟩:∃ b,b=strOfNums [48+n % 10]:=⟨_,rfl⟩
   rw[← hb] at bix hsum ⊢
   have HST:=zqd (fun(W:World) (g:Nat) (h:Blk W g 5 #[.int .u8 (48+n % 10)])=>(apa h:_))
   rw[← hb] at HST
   clear hb hsz
   go_enter Tryz.func149,Tryz.ntmps149
   go_wp2_with fail
   go_region_with (first
    | (go_at_call 149;refine(HI.out w.drew).mono ?_;rintro e wq ⟨rfl,hbq⟩;have hBq:=hB0.trans hbq;have biy:=HST.out _ _ (Blk.new wq 5 #[.int .u8 (48+n % 10)]))
    | (go_at_call 149;refine(HI.out (w.alloc (.cells #[.int .u8 (48+n % 10)] 5)).drew).mono ?_;rintro e wq ⟨rfl,hbq⟩;have hBq:=hB1.trans (hbq.mono hB1.size);have biy:=HST.out _ _ (bA.step hbq)))
   all_goals
    go_wp2_with fail
    go_ret
    first|exact⟨rfl,hBq⟩|exact⟨rfl,hBq.alloc hBq.size _⟩
set_option maxHeartbeats 3200000 in
theorem bd6 (v:Int) (h0:0≤v) (h1:v≤999999999) (w:World):Calls Tryz.prog 124 #[.int .i64 v] w fun e w'=>e=.returned (.string (anz v))∧Below w.heap.size w w':=by
 have ha:=ais (n:=v / 1000000) (by omega) (by omega)
 have hb:=ais (n:=v / 1000 % 1000) (by omega) (by omega)
 have hc:=ais (n:=v % 1000) (by omega) (by omega)
 have HA:=zqd (avm _ (v / 1000000) (zql _) (by omega) (by omega))
 have HB:=zqd (avm _ (v / 1000 % 1000) (zql _) (by omega) (by omega))
 have HC:=zqd (avm _ (v % 1000) (zql _) (by omega) (by omega))
 have q1:v.tdiv 1000000=v / 1000000:=by rw[Int.tdiv_eq_ediv_of_nonneg h0]
 have q2:v.tdiv 1000=v / 1000:=by rw[Int.tdiv_eq_ediv_of_nonneg h0]
 have q3:(v / 1000).tmod 1000=v / 1000 % 1000:=by rw[Int.tmod_eq_emod_of_nonneg (by omega)]
 have q4:v.tmod 1000=v % 1000:=by rw[Int.tmod_eq_emod_of_nonneg h0]
 have r1:IntKind.i64.wrap (v / 1000000)=v / 1000000:=IntWalk.i64_in _ (by omega)
 have r2:IntKind.i64.wrap (v / 1000)=v / 1000:=IntWalk.i64_in _ (by omega)
 have r3:IntKind.i64.wrap (v / 1000 % 1000)=v / 1000 % 1000:=IntWalk.i64_in _ (by omega)
 have r4:IntKind.i64.wrap (v % 1000)=v % 1000:=IntWalk.i64_in _ (by omega)
 have hv:anz v=(((abz (v / 1000000) ++aoj) ++abz (v / 1000 % 1000)) ++aoj) ++abz (v % 1000):=rfl
 rw[hv,show aoj=⟨#[46]⟩from rfl]
 obtain⟨a,ea⟩:∃ a,abz (v / 1000000)=a:=⟨_,rfl⟩
 obtain⟨b,eb⟩:∃ a,abz (v / 1000 % 1000)=a:=⟨_,rfl⟩
 obtain⟨c,ec⟩:∃ a,abz (v % 1000)=a:=⟨_,rfl⟩
 rw[ea] at ha HA ⊢
 rw[eb] at hb HB ⊢
 rw[ec] at hc HC ⊢
 clear hv ea eb ec
 have zd:(⟨#[46]⟩:ByteArray).size=1:=rfl
 have y1:(9223372036854775807 < a.size+(⟨#[46]⟩:ByteArray).size)=False:=eq_false (by omega)
 have x1:(9223372036854775807 < a.size+1)=False:=eq_false (by omega)
 obtain⟨p1,e1⟩:∃ p,a ++(⟨#[46]⟩:ByteArray)=p:=⟨_,rfl⟩
 have l1:p1.size≤22:=by rw[← e1,ByteArray.size_append];omega
 have y2:(9223372036854775807 < p1.size+b.size)=False:=eq_false (by omega)
 obtain⟨p2,e2⟩:∃ p,p1 ++b=p:=⟨_,rfl⟩
 have l2:p2.size≤43:=by rw[← e2,ByteArray.size_append];omega
 have y3:(9223372036854775807 < p2.size+(⟨#[46]⟩:ByteArray).size)=False:=eq_false (by omega)
 have x3:(9223372036854775807 < p2.size+1)=False:=eq_false (by omega)
 obtain⟨p3,e3⟩:∃ p,p2 ++(⟨#[46]⟩:ByteArray)=p:=⟨_,rfl⟩
 have l3:p3.size≤44:=by rw[← e3,ByteArray.size_append];omega
 have y4:(9223372036854775807 < p3.size+c.size)=False:=eq_false (by omega)
 rw[e1,e2,e3]
 clear zd l1 l2 l3 ha hb hc h1
 go_enter Tryz.func124,Tryz.ntmps124
 go_wp2_with fail
 refine(HA.out _).mono ?_
 rintro e wa ⟨rfl,hba⟩
 go_wp2_with fail
 refine(HB.out _).mono ?_
 rintro e wb ⟨rfl,hbb⟩
 go_wp2_with fail
 refine(HC.out _).mono ?_
 rintro e wc ⟨rfl,hbc⟩
 go_wp2_with fail
 go_ret
 exact⟨rfl,(hba.trans (hbb.mono hba.size)).trans (hbc.mono (Nat.le_trans hba.size hbb.size))⟩
theorem bri {s:ByteArray} {k:Nat} (h:k < s.size) (h2:k < 12):((byt s).take 12).drop k=((s[k].toNat:Nat):Int) ::((byt s).take 12).drop (k+1):=by
 have hk:k < ((byt s).take 12).length:=by rw[List.length_take,anx];omega
 rw[List.drop_eq_getElem_cons hk]
 congr 1
 have h3:=bnt h
 rw[List.getElem?_eq_getElem (by rw[anx];exact h)] at h3
 rw[List.getElem_take]
 exact Option.some.inj h3
theorem bd7 {s:ByteArray} {k:Nat} (h:¬ (k < s.size∧k < 12)):((byt s).take 12).drop k=[]:=List.drop_of_length_le (by rw[List.length_take,anx];omega)
theorem bn5 {r:List Int} {c n p:Int} {d:Nat} (h:c=46):agy (c ::r) n p d=agy r (ajw (ajw (n+p) * 1000)) 0 (d+1):=by rw[agy,if_pos h]
theorem bn6 {r:List Int} {c n p:Int} {d:Nat} (h:¬ c=46) (h2:c < 48∨57 < c):agy (c ::r) n p d=none:=by rw[agy,if_neg h,if_pos h2]
theorem brj {r:List Int} {c n p:Int} {d:Nat} (h:¬ c=46) (h2:¬ (c < 48∨57 < c)):agy (c ::r) n p d=agy r n (ajw (ajw (10 * p)+(c - 48))) d:=by rw[agy,if_neg h,if_neg h2]
set_option maxHeartbeats 6400000 in
theorem avn (s:ByteArray) (hs:s.size≤maxLen) (w:World):Calls Tryz.prog 91 #[.string s] w fun e w'=>e=.returned (.int .i64 (afh s))∧Below w.heap.size w w':=by
 unfold maxLen at hs
 rw[← bnv]
 obtain⟨R,hR⟩:∃ R:Int,R=bd2 s:=⟨_,rfl⟩
 rw[← hR]
 have HR:Hid (R=arf s (agy ((byt s).take 12) 0 0 0)):=hR
 clear hR
 go_enter Tryz.func91,Tryz.ntmps91
 go_wp2_with fail
 go_loop [3,4,5,6] (fun n p d i=>∃ (N P:Int) (D k:Nat),n=.int .i64 N∧p=.int .i64 P∧d=.int .i64 (D:Nat)∧i=.int .i64 (k:Nat)∧k≤s.size∧k≤12∧D≤k∧Hid (agy ((byt s).take 12) 0 0 0=agy (((byt s).take 12).drop k) N P D)) (fun _ _ _ i=>12 - (intOf i).toNat)
 case atStart=>exact⟨0,0,0,0,rfl,rfl,rfl,rfl,Nat.zero_le _,by omega,by omega,zqd rfl⟩
 case round=>
  obtain⟨N,P,D,k,rfl,rfl,rfl,rfl,hk,hk12,hD,HP⟩:=hrel
  by_cases hlt:k < s.size∧k < 12
  case neg=>
   have HF:Hid (R=arf s (some (N,P,D))):=by show _=_;rw[HR.out,HP.out,bd7 hlt,agy]
   have hend:k < s.size→¬ k < 12:=fun h h2=>hlt ⟨h,h2⟩
   have hfin:∀ (e:Ending) (w':World) (r:Int),(R=r)→e=.returned (.int .i64 r)→Below w.heap.size w w'→e=.returned (.int .i64 R)∧Below w.heap.size w w':=fun e w' r h1 h2 h3=>⟨by rw[h2,h1],h3⟩
   have arh:=zqd hfin
   clear hfin
   by_cases hD2:D=2
   case neg=>
    have HV:Hid (R=-1):=by show _=_;rw[HF.out,arf,if_neg fun h=>hD2 h.1]
    have hd:¬ (D:Int)=2:=by omega
    clear hD2
    rcases Nat.lt_or_ge k s.size with hc|hc
    ·have hc3:(k:Int) < s.size:=by omega
     have hc2:¬ (k:Int) < 12:=by have:=hend hc;omega
     clear hend hlt
     go_wp2_with fail
     go_ret
     exact arh.out _ _ _ HV.out rfl (zqf _ _)
    ·have hc2:¬ (k:Int) < s.size:=by omega
     clear hend hlt hc
     go_wp2_with fail
     go_ret
     exact arh.out _ _ _ HV.out rfl (zqf _ _)
   have hd:(D:Int)=2:=by omega
   by_cases hP:P≤999
   case neg=>
    have HV:Hid (R=-1):=by show _=_;rw[HF.out,arf,if_neg fun h=>hP h.2.1]
    have h9:999 < P:=by omega
    clear hP hD2
    rcases Nat.lt_or_ge k s.size with hc|hc
    ·have hc3:(k:Int) < s.size:=by omega
     have hc2:¬ (k:Int) < 12:=by have:=hend hc;omega
     clear hend hlt
     go_wp2_with fail
     go_ret
     exact arh.out _ _ _ HV.out rfl (zqf _ _)
    ·have hc2:¬ (k:Int) < s.size:=by omega
     clear hend hlt hc
     go_wp2_with fail
     go_ret
     exact arh.out _ _ _ HV.out rfl (zqf _ _)
   have h9:¬ 999 < P:=by omega
   obtain⟨V,hV⟩:∃ V,wrap64 (N+P)=V:=⟨_,rfl⟩
   cases hin:inB V 0 999999999
   case false=>
    have HV:Hid (R=-1):=by show _=_;rw[HF.out,arf,if_neg fun h=>by have:=h.2.2.1;rw[show ajw (N+P)=V from hV,hin] at this;cases this]
    clear hP hD2
    rcases Nat.lt_or_ge k s.size with hc|hc
    ·have hc3:(k:Int) < s.size:=by omega
     have hc2:¬ (k:Int) < 12:=by have:=hend hc;omega
     clear hend hlt
     go_wp2_with fail
     refine(oz _ _ _ _).mono ?_
     rintro e w' ⟨rfl,rfl⟩
     rw[hin]
     go_wp2_with fail
     go_ret
     exact arh.out _ _ _ HV.out rfl (zqf _ _)
    ·have hc2:¬ (k:Int) < s.size:=by omega
     clear hend hlt hc
     go_wp2_with fail
     refine(oz _ _ _ _).mono ?_
     rintro e w' ⟨rfl,rfl⟩
     rw[hin]
     go_wp2_with fail
     go_ret
     exact arh.out _ _ _ HV.out rfl (zqf _ _)
   obtain⟨hv0,hv1⟩:=agx.1 hin
   have HT:=zqd (bd6 V hv0 hv1)
   by_cases hs2:anz V=s
   case neg=>
    have HV:Hid (R=-1):=by show _=_;rw[HF.out,arf,if_neg fun h=>by have:=h.2.2.2;have e:ajw (N+P)=V:=hV;rw[e] at this;exact hs2 this]
    have hne:=aeu hs2
    clear hP hD2 hs2 hv0 hv1
    rcases Nat.lt_or_ge k s.size with hc|hc
    ·have hc3:(k:Int) < s.size:=by omega
     have hc2:¬ (k:Int) < 12:=by have:=hend hc;omega
     clear hend hlt
     go_wp2_with fail
     refine(oz _ _ _ _).mono ?_
     rintro e w' ⟨rfl,rfl⟩
     rw[hin]
     go_wp2_with fail
     refine(HT.out _).mono ?_
     rintro e w2 ⟨rfl,hb2⟩
     go_wp2_with fail
     go_ret
     exact arh.out _ _ _ HV.out rfl hb2
    ·have hc2:¬ (k:Int) < s.size:=by omega
     clear hend hlt hc
     go_wp2_with fail
     refine(oz _ _ _ _).mono ?_
     rintro e w' ⟨rfl,rfl⟩
     rw[hin]
     go_wp2_with fail
     refine(HT.out _).mono ?_
     rintro e w2 ⟨rfl,hb2⟩
     go_wp2_with fail
     go_ret
     exact arh.out _ _ _ HV.out rfl hb2
   have HV:Hid (R=V):=by show _=_;rw[HF.out,arf,if_pos ⟨hD2,hP,by(have e:ajw (N+P)=V:=hV;rw[e];exact hin),by(have e:ajw (N+P)=V:=hV;rw[e];exact hs2)⟩];exact hV
   rw[hs2] at HT
   clear hP hD2 hs2 hv0 hv1
   rcases Nat.lt_or_ge k s.size with hc|hc
   ·have hc3:(k:Int) < s.size:=by omega
    have hc2:¬ (k:Int) < 12:=by have:=hend hc;omega
    clear hend hlt
    go_wp2_with fail
    refine(oz _ _ _ _).mono ?_
    rintro e w' ⟨rfl,rfl⟩
    rw[hin]
    go_wp2_with fail
    refine(HT.out _).mono ?_
    rintro e w2 ⟨rfl,hb2⟩
    go_wp2_with fail
    go_ret
    exact arh.out _ _ _ HV.out (congrArg (fun z=>Ending.returned (.int .i64 z)) hV) hb2
   ·have hc2:¬ (k:Int) < s.size:=by omega
    clear hend hlt hc
    go_wp2_with fail
    refine(oz _ _ _ _).mono ?_
    rintro e w' ⟨rfl,rfl⟩
    rw[hin]
    go_wp2_with fail
    refine(HT.out _).mono ?_
    rintro e w2 ⟨rfl,hb2⟩
    go_wp2_with fail
    go_ret
    exact arh.out _ _ _ HV.out (congrArg (fun z=>Ending.returned (.int .i64 z)) hV) hb2
  obtain⟨hlt1,hlt2⟩:=hlt
  obtain⟨c,hc⟩:∃ c:Int,(s[k].toNat:Int)=c:=⟨_,rfl⟩
  have hc0:0≤c:=by omega
  have HDR:Hid (((byt s).take 12).drop k=c ::((byt s).take 12).drop (k+1)):=by show _=_;rw[bri hlt1 hlt2,hc]
  by_cases h46:c=46
  ·subst h46
   have HQ:Hid (agy ((byt s).take 12) 0 0 0=agy (((byt s).take 12).drop (k+1)) (ajw (ajw (N+P) * 1000)) 0 (D+1)):=by show _=_;rw[HP.out,HDR.out,bn5 rfl]
   go_wp2_with fail
   go_round
   case rel=>exact⟨_,_,D+1,k+1,rfl,rfl,by go_num,by go_num,by omega,by omega,by omega,HQ⟩
   case measure=>simp[intOf];omega
  have b3d:(c ==46)=false:=by simp;omega
  by_cases hbad:c < 48∨57 < c
  ·have HV:Hid (R=-1):=by show _=_;rw[HR.out,HP.out,HDR.out,bn6 (by omega) hbad];rfl
   rcases hbad with h|h
   ·go_wp2_with fail
    go_ret
    exact⟨by rw[HV.out];rfl,zqf _ _⟩
   ·have h2:¬ c < 48:=by omega
    go_wp2_with fail
    go_ret
    exact⟨by rw[HV.out];rfl,zqf _ _⟩
  have HQ:Hid (agy ((byt s).take 12) 0 0 0=agy (((byt s).take 12).drop (k+1)) N (ajw (ajw (10 * P)+(c - 48))) D):=by show _=_;rw[HP.out,HDR.out,brj (by omega) hbad]
  have h48:¬ c < 48:=by omega
  have h57:¬ 57 < c:=by omega
  have hu8:IntKind.u8.wrap (c - 48)=c - 48:=by rw[IntKind.wrap_u8];omega
  have hi8:IntKind.i64.wrap (c - 48)=c - 48:=IntWalk.i64_in _ (by omega)
  go_wp2_with fail
  go_round
  case rel=>exact⟨_,_,D,k+1,rfl,rfl,rfl,by go_num,by omega,by omega,by omega,HQ⟩
  case measure=>simp[intOf];omega
theorem ax3 (s:ByteArray) (hs:s.size≤maxLen) (w:World):Calls Tryz.prog 73 #[.string s] w fun e w'=>e=.returned (.bool (decide (0≤afh s)))∧Below w.heap.size w w':=by
 have HN:=zqd (avn s hs)
 obtain⟨x,hx⟩:∃ x,afh s=x:=⟨_,rfl⟩
 rw[hx] at HN ⊢
 clear hx
 go_enter Tryz.func73,Tryz.ntmps73
 go_wp2_with fail
 refine(HN.out _).mono ?_
 rintro e w1 ⟨rfl,hb1⟩
 go_wp2_with fail
 go_ret
 exact⟨ah (by simp),hb1⟩
set_option maxHeartbeats 3200000 in
theorem a8h (a b:ByteArray) (ha:a.size≤maxLen) (hb:b.size≤maxLen) (w:World):Calls Tryz.prog 56 #[.string a,.string b] w fun e w'=>e=.returned (.bool (ap2 a b))∧Below w.heap.size w w':=by
 have HA:=zqd (avn a ha)
 have HB:=zqd (avn b hb)
 have rx:=aok a
 have ry:=aok b
 unfold ap2
 obtain⟨x,hx⟩:∃ x,afh a=x:=⟨_,rfl⟩
 obtain⟨y,hy⟩:∃ x,afh b=x:=⟨_,rfl⟩
 rw[hx] at HA rx ⊢
 rw[hy] at HB ry ⊢
 clear hx hy ha hb
 have HE:=zqd (fun(V:World) (h:Below w.heap.size w V)=>h)
 go_enter Tryz.func56,Tryz.ntmps56
 go_wp2_with fail
 refine(HA.out _).mono ?_
 rintro e w1 ⟨rfl,hb1⟩
 go_wp2_with fail
 refine(HB.out _).mono ?_
 rintro e w2 ⟨rfl,hb2⟩
 have hB:=hb1.trans (hb2.mono hb1.size)
 by_cases x0:x < 0
 ·have HF:=zqd (bgo (y:=y) x0)
  go_wp2_with fail
  go_ret
  exact⟨ah HF.out.symm,hB⟩
 by_cases y0:y < 0
 ·have HF:=zqd (bgp (x:=x) y0)
  go_wp2_with fail
  go_ret
  exact⟨ah HF.out.symm,hB⟩
 by_cases xy:x < y
 ·have HF:=zqd (bcg xy)
  go_wp2_with fail
  go_ret
  exact⟨ah HF.out.symm,hB⟩
 have q1:x.tdiv 1000000=x / 1000000:=by rw[Int.tdiv_eq_ediv_of_nonneg (by omega)]
 have q2:y.tdiv 1000000=y / 1000000:=by rw[Int.tdiv_eq_ediv_of_nonneg (by omega)]
 have q3:x.tdiv 1000=x / 1000:=by rw[Int.tdiv_eq_ediv_of_nonneg (by omega)]
 have q4:y.tdiv 1000=y / 1000:=by rw[Int.tdiv_eq_ediv_of_nonneg (by omega)]
 have r1:IntKind.i64.wrap (x / 1000000)=x / 1000000:=IntWalk.i64_in _ (by omega)
 have r2:IntKind.i64.wrap (y / 1000000)=y / 1000000:=IntWalk.i64_in _ (by omega)
 have r3:IntKind.i64.wrap (x / 1000)=x / 1000:=IntWalk.i64_in _ (by omega)
 have r4:IntKind.i64.wrap (y / 1000)=y / 1000:=IntWalk.i64_in _ (by omega)
 by_cases h6:x / 1000000=y / 1000000
 case neg=>
  have HF:=zqd (bch h6)
  have hne:(x / 1000000 != y / 1000000)=true:=by simpa using h6
  go_wp2_with fail
  go_ret
  exact⟨ah HF.out.symm,hB⟩
 have HF:=zqd (a7z (show 0≤x by omega) (show 0≤y by omega) (show y≤x by omega) h6)
 have hne:(x / 1000000 != y / 1000000)=false:=by simpa using h6
 clear rx ry
 by_cases h7:1000000≤x
 ·have HG:Hid (ajm x y=true):=by show _=_;rw[HF.out,decide_eq_true h7];rfl
  clear h6
  go_wp2_with fail
  go_ret
  exact⟨ah HG.out.symm,hB⟩
 by_cases h8:x / 1000=y / 1000
 ·have HG:Hid (ajm x y=true):=by show _=_;rw[HF.out,decide_eq_true h8];simp
  have he:(x / 1000 ==y / 1000)=true:=by simpa using h8
  clear h6 h8
  go_wp2_with fail
  go_ret
  exact⟨ah HG.out.symm,hB⟩
 ·have HG:Hid (ajm x y=false):=by show _=_;rw[HF.out,decide_eq_false h7,decide_eq_false h8];rfl
  have he:(x / 1000 ==y / 1000)=false:=by simpa using h8
  clear h6 h8
  go_wp2_with fail
  go_ret
  exact⟨ah (by first|exact HG.out.symm|(rw[HG.out];exact decide_eq_false (by omega))),hB⟩
end Go.Proofs.YtbafphecjijdmaaGreatDoor
