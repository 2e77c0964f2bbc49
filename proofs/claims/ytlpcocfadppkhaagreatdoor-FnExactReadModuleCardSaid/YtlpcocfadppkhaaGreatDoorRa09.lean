/-
  spec's reading of numbers, words and instructions: l15Number l15Cut l15Op l15Read (by program: gen_dcs.py).
-/
import Derived.Test.YtlpcocfadppkhaaGreatDoorRa07
import Derived.Test.YtlpcocfadppkhaaGreatDoorRa08
import Derived.Test.YtlpcocfadppkhaaGreatDoorRa05
namespace Go.Proofs.YtlpcocfadppkhaaGreatDoor
open Go.RowKit
set_option linter.unusedVariables false
set_option linter.unusedSimpArgs false
set_option linter.unnecessarySimpa false
set_option maxRecDepth 16000
theorem ajy {s:ByteArray} {k:Nat} (h:k < s.size):(byt s).drop k=((s[k].toNat:Nat):Int) ::(byt s).drop (k+1):=by
 rw[List.drop_eq_getElem_cons (by rw[ru];exact h)]
 congr 1
 have:=avf h
 rw[List.getElem?_eq_getElem (by rw[ru];exact h)] at this
 exact Option.some.inj this
theorem afa {s:ByteArray} {k:Nat} (h:s.size≤k):(byt s).drop k=[]:=List.drop_of_length_le (by rw[ru];exact h)
theorem aiu (n:Int):(⟨(Lib.itoa n).toArray⟩:ByteArray)=ay n:=rfl
theorem asf {t:ByteArray} (h:(byt t).head?=some 45) (hl:t.size≤20):l9 t=aal true t (uz 9223372036854775808 0 ((byt t).drop 1)):=by
 rw[l9,if_pos h,aek,if_neg (by rw[List.length_drop,ru];omega)]
theorem amy {t:ByteArray} (h:¬ (byt t).head?=some 45) (hl:t.size≤19):l9 t=aal false t (uz 9223372036854775808 0 ((byt t).drop 0)):=by
 rw[l9,if_neg h,aek,if_neg (by rw[List.length_drop,ru];omega)]
theorem ama {t:ByteArray} (h:(byt t).head?=some 45) (hl:20 < t.size):l9 t=(0,false):=by
 rw[l9,if_pos h,aek,if_pos (by rw[List.length_drop,ru];omega)]
theorem agy {t:ByteArray} (h:¬ (byt t).head?=some 45) (hl:19 < t.size):l9 t=(0,false):=by
 rw[l9,if_neg h,aek,if_pos (by rw[List.length_drop,ru];omega)]
theorem aiv (M m:Nat):uz M m []=some m:=rfl
theorem adf {M m:Nat} {c:Int} {r:List Int} (h:c < 48∨57 < c):uz M m (c ::r)=none:=by rw[uz,if_pos h]
theorem aiw {M m d:Nat} {c:Int} {r:List Int} (h:¬ (c < 48∨57 < c)) (hd:(c - 48).toNat=d) (h2:M < 10 * m+d):uz M m (c ::r)=none:=by rw[uz,if_neg h,hd,if_pos h2]
theorem aky {M m d:Nat} {c:Int} {r:List Int} (h:¬ (c < 48∨57 < c)) (hd:(c - 48).toNat=d) (h2:¬ M < 10 * m+d):uz M m (c ::r)=uz M (10 * m+d) r:=by rw[uz,if_neg h,hd,if_neg h2]
theorem ad8 {a a':Int} {b b':Bool} (h1:a=a') (h2:b=b'):Ending.returned (.tuple #[.int .i64 a,.bool b])=.returned (.tuple #[.int .i64 a',.bool b']):=by rw[h1,h2]
set_option maxHeartbeats 12800000 in
theorem abx (t:ByteArray) (ht:t.size≤1048576) (w:World):Calls Tryz.prog 24 #[.string t] w fun e w'=>e=.returned (.tuple #[.int .i64 (l9 t).1,.bool (l9 t).2])∧Below w.heap.size w w':=by
 obtain⟨R,hR⟩:∃ R,R=l9 t:=⟨_,rfl⟩
 rw[← hR]
 have hz0:IntKind.i64.wrap (t.size:Int)=(t.size:Int):=IntWalk.i64_in _ (by omega)
 by_cases h0:0 < t.size
 case neg=>
  have hd0:decide ((0:Int) < (t.size:Int))=false:=decide_eq_false (by omega)
  have hh:¬ (byt t).head?=some 45:=by rw[show byt t=[] from List.eq_nil_of_length_eq_zero (by rw[ru];omega)];simp
  by_cases hlong:19 < t.size
  case pos=>
   have HF:Hid (R=(0,false)):=hR.trans (agy hh hlong)
   have hl:decide ((19:Int) < (t.size:Int))=true:=decide_eq_true (by omega)
   clear hR hh hlong
   go_enter Tryz.func24,Tryz.ntmps24
   go_wp2_with fail
   go_ret2
   exact⟨by rw[HF.out];rfl,Below.refl _ _⟩
  have hl:decide ((19:Int) < (t.size:Int))=false:=decide_eq_false (by omega)
  have HR:Hid (R=aal false t (uz 9223372036854775808 0 ((byt t).drop 0))):=hR.trans (amy hh (by omega))
  have axl:t.size≤20:=by omega
  clear hR hh hlong
  go_enter Tryz.func24,Tryz.ntmps24
  go_wp2_with fail
  go_loopw [4,7] (fun n i wr=>∃ (N:Int) (m k:Nat),n=.int .i64 N∧i=.int .i64 k∧k≤t.size∧m≤9223372036854775808∧Hid (N=-(m:Int))∧Hid (R=aal false t (uz 9223372036854775808 m ((byt t).drop k)))∧w=wr) (fun _ i _=>t.size - (intOf i).toNat)
  case atStart=>exact⟨0,0,0,rfl,rfl,by omega,by omega,Lib.hid rfl,HR,rfl⟩
  case round=>
   clear HR
   obtain⟨N,m,k,rfl,rfl,hk,hm,HN,HR,hw⟩:=hrel
   subst hw
   have hNw:(Lit.int .i64 N).wf=true:=WalkArith.wf_i64 (by have:=HN.out;omega)
   by_cases hlt:k < t.size
   case neg=>
    have hd:decide ((k:Int) < (t.size:Int))=false:=decide_eq_false (by omega)
    have HE:Hid (R=aal false t (some m)):=by show _=_;have h:=HR.out;rwa[afa (by omega),aiv] at h
    clear HR
    by_cases hmx:m=9223372036854775808
    case pos=>
     have HF:Hid (R=(0,false)):=by show _=_;rw[HE.out,hmx];rfl
     have hN:N=-9223372036854775808:=by have:=HN.out;omega
     subst hN
     clear HE HN
     go_wp2_with fail
     go_ret2
     exact⟨by rw[HF.out];rfl,Below.refl _ _⟩
    have hNb:(N ==-9223372036854775808)=false:=by have:=HN.out;simp;omega
    obtain⟨Z,hZ⟩:∃ Z:Int,Z=-N:=⟨_,rfl⟩
    have hZw:(Lit.int .i64 Z).wf=true:=WalkArith.wf_i64 (by have:=HN.out;omega)
    have hng:IntKind.i64.wrap (-N)=Z:=(IntWalk.i64_in _ (by have:=HN.out;omega)).trans hZ.symm
    have HE2:Hid (R=(Z,decide (ay Z=t))):=by show _=_;rw[HE.out,hZ,HN.out,Int.neg_neg,aal,if_neg (by decide),if_neg hmx];rfl
    clear HE hZ
    go_wp2_with fail
    refine(aas Z hZw _).mono ?_
    rintro e w1 ⟨rfl,hb1⟩
    by_cases heq:ay Z=t
    case pos=>
     rw[heq]
     go_wp2_with fail
     go_ret2
     exact⟨ad8 (by rw[HE2.out]) (by rw[HE2.out,heq];simp),hb1⟩
    have hne:=aa4 heq
    go_wp2_with fail
    go_ret2
    exact⟨ad8 (by rw[HE2.out]) (by rw[HE2.out,decide_eq_false heq]),hb1⟩
   have hd:decide ((k:Int) < (t.size:Int))=true:=decide_eq_true (by omega)
   have hdi:(k:Int) < (t.size:Int):=by omega
   have hki:IntKind.i64.wrap ((k:Int)+1)=(k:Int)+1:=IntWalk.i64_in _ (by omega)
   have hrest:=ajy hlt
   obtain⟨c,hc⟩:∃ c,t[k].toNat=c:=⟨_,rfl⟩
   have hc256:c < 256:=by rw[← hc];exact t[k].toNat_lt
   rw[hc] at hrest
   have HD:=Lib.hid hrest
   clear hrest
   by_cases axm:c < 48
   case pos=>
    have h48:decide ((c:Int) < 48)=true:=decide_eq_true (by omega)
    have HF:Hid (R=(0,false)):=by show _=_;rw[HR.out,HD.out,adf (.inl (by omega))];rfl
    clear HR HN
    go_wp2_with fail
    go_ret2
    exact⟨by rw[HF.out];rfl,Below.refl _ _⟩
   have h48:decide ((c:Int) < 48)=false:=decide_eq_false (by omega)
   by_cases axn:57 < c
   case pos=>
    have h57:decide ((57:Int) < (c:Int))=true:=decide_eq_true (by omega)
    have HF:Hid (R=(0,false)):=by show _=_;rw[HR.out,HD.out,adf (.inr (by omega))];rfl
    clear HR HN
    go_wp2_with fail
    go_ret2
    exact⟨by rw[HF.out];rfl,Below.refl _ _⟩
   have h57:decide ((57:Int) < (c:Int))=false:=decide_eq_false (by omega)
   obtain⟨d,hdc⟩:∃ d,d=c - 48:=⟨_,rfl⟩
   have hu8:IntKind.u8.wrap ((c:Int) - 48)=(d:Int):=(IntWalk.u8_in _ (by omega)).trans (by omega)
   have hdw:IntKind.i64.wrap (d:Int)=(d:Int):=IntWalk.i64_in _ (by omega)
   obtain⟨X,hX⟩:∃ X:Int,X=-9223372036854775808+(d:Int):=⟨_,rfl⟩
   have hXw:IntKind.i64.wrap (-9223372036854775808+(d:Int))=X:=(IntWalk.i64_in _ (by omega)).trans hX.symm
   obtain⟨q,hq⟩:∃ q:Nat,q=(9223372036854775808 - d) / 10:=⟨_,rfl⟩
   obtain⟨Y,hY⟩:∃ Y:Int,Y=-(q:Int):=⟨_,rfl⟩
   have hdv:X.tdiv 10=Y:=by rw[hX,hY,hq,show(-9223372036854775808+(d:Int))=-((9223372036854775808 - d:Nat):Int) by omega,Int.neg_tdiv,Int.tdiv_eq_ediv_of_nonneg (by omega)];omega
   have hYw:IntKind.i64.wrap Y=Y:=IntWalk.i64_in _ (by omega)
   by_cases hbig:9223372036854775808 < 10 * m+d
   case pos=>
    have hcmp:decide (N < Y)=true:=decide_eq_true (by have:=HN.out;omega)
    have HF:Hid (R=(0,false)):=by show _=_;rw[HR.out,HD.out,aiw (by omega) (by omega) hbig];rfl
    clear HR HN hX hY hq hdc
    go_wp2_with fail
    go_ret2
    exact⟨by rw[HF.out];rfl,Below.refl _ _⟩
   have hcmp:decide (N < Y)=false:=decide_eq_false (by have:=HN.out;omega)
   obtain⟨T,hT⟩:∃ T:Int,T=10 * N:=⟨_,rfl⟩
   have hTw:IntKind.i64.wrap (10 * N)=T:=(IntWalk.i64_in _ (by have:=HN.out;omega)).trans hT.symm
   obtain⟨U,hU⟩:∃ U:Int,U=T - (d:Int):=⟨_,rfl⟩
   have hUw:IntKind.i64.wrap (T - (d:Int))=U:=(IntWalk.i64_in _ (by have:=HN.out;omega)).trans hU.symm
   have HR2:Hid (R=aal false t (uz 9223372036854775808 (10 * m+d) ((byt t).drop (k+1)))):=by show _=_;rw[HR.out,HD.out,aky (by omega) (by omega) hbig]
   have HU:Hid (U=-((10 * m+d:Nat):Int)):=by show _=_;have:=HN.out;omega
   have hm2:10 * m+d≤9223372036854775808:=by omega
   clear HR HN hX hY hq hdc hT hU hbig
   go_wp2_with fail
   go_roundw
   case rel=>exact⟨U,10 * m+d,k+1,rfl,by go_num,by omega,hm2,HU,HR2,trivial⟩
   case measure=>simp[intOf];omega
 have hd0:decide ((0:Int) < (t.size:Int))=true:=decide_eq_true (by omega)
 have a6w:(0:Int) < (t.size:Int):=by omega
 have hz1:IntKind.i64.wrap ((t.size:Int) - 1)=((t.size - 1:Nat):Int):=(IntWalk.i64_in _ (by omega)).trans (by omega)
 have hhd:(byt t).head?=some ((t[0].toNat:Nat):Int):=by have:=ajy h0;rw[List.drop_zero] at this;rw[this];rfl
 obtain⟨b,hb⟩:∃ b,t[0].toNat=b:=⟨_,rfl⟩
 rw[hb] at hhd
 by_cases h45:b=45
 case pos=>
  subst h45
  have hh:(byt t).head?=some 45:=hhd
  clear hhd
  by_cases hlong:20 < t.size
  case pos=>
   have HF:Hid (R=(0,false)):=hR.trans (ama hh hlong)
   have hl:decide ((19:Int) < ((t.size - 1:Nat):Int))=true:=decide_eq_true (by omega)
   clear hR hh hlong
   go_enter Tryz.func24,Tryz.ntmps24
   go_wp2_with fail
   go_ret2
   exact⟨by rw[HF.out];rfl,Below.refl _ _⟩
  have hl:decide ((19:Int) < ((t.size - 1:Nat):Int))=false:=decide_eq_false (by omega)
  have HR:Hid (R=aal true t (uz 9223372036854775808 0 ((byt t).drop 1))):=hR.trans (asf hh (by omega))
  have axl:t.size≤20:=by omega
  clear hR hh hlong
  go_enter Tryz.func24,Tryz.ntmps24
  go_wp2_with fail
  go_loopw [4,7] (fun n i wr=>∃ (N:Int) (m k:Nat),n=.int .i64 N∧i=.int .i64 k∧k≤t.size∧m≤9223372036854775808∧Hid (N=-(m:Int))∧Hid (R=aal true t (uz 9223372036854775808 m ((byt t).drop k)))∧w=wr) (fun _ i _=>t.size - (intOf i).toNat)
  case atStart=>exact⟨0,0,1,rfl,rfl,by omega,by omega,Lib.hid rfl,HR,rfl⟩
  case round=>
   clear HR
   obtain⟨N,m,k,rfl,rfl,hk,hm,HN,HR,hw⟩:=hrel
   subst hw
   have hNw:(Lit.int .i64 N).wf=true:=WalkArith.wf_i64 (by have:=HN.out;omega)
   by_cases hlt:k < t.size
   case neg=>
    have hd:decide ((k:Int) < (t.size:Int))=false:=decide_eq_false (by omega)
    have HE:Hid (R=aal true t (some m)):=by show _=_;have h:=HR.out;rwa[afa (by omega),aiv] at h
    clear HR
    have HE2:Hid (R=(N,decide (ay N=t))):=by show _=_;rw[HE.out,HN.out];rfl
    clear HE
    go_wp2_with fail
    refine(aas N hNw _).mono ?_
    rintro e w1 ⟨rfl,hb1⟩
    by_cases heq:ay N=t
    case pos=>
     rw[heq]
     go_wp2_with fail
     go_ret2
     exact⟨ad8 (by rw[HE2.out]) (by rw[HE2.out,heq];simp),hb1⟩
    have hne:=aa4 heq
    go_wp2_with fail
    go_ret2
    exact⟨ad8 (by rw[HE2.out]) (by rw[HE2.out,decide_eq_false heq]),hb1⟩
   have hd:decide ((k:Int) < (t.size:Int))=true:=decide_eq_true (by omega)
   have hdi:(k:Int) < (t.size:Int):=by omega
   have hki:IntKind.i64.wrap ((k:Int)+1)=(k:Int)+1:=IntWalk.i64_in _ (by omega)
   have hrest:=ajy hlt
   obtain⟨c,hc⟩:∃ c,t[k].toNat=c:=⟨_,rfl⟩
   have hc256:c < 256:=by rw[← hc];exact t[k].toNat_lt
   rw[hc] at hrest
   have HD:=Lib.hid hrest
   clear hrest
   by_cases axm:c < 48
   case pos=>
    have h48:decide ((c:Int) < 48)=true:=decide_eq_true (by omega)
    have HF:Hid (R=(0,false)):=by show _=_;rw[HR.out,HD.out,adf (.inl (by omega))];rfl
    clear HR HN
    go_wp2_with fail
    go_ret2
    exact⟨by rw[HF.out];rfl,Below.refl _ _⟩
   have h48:decide ((c:Int) < 48)=false:=decide_eq_false (by omega)
   by_cases axn:57 < c
   case pos=>
    have h57:decide ((57:Int) < (c:Int))=true:=decide_eq_true (by omega)
    have HF:Hid (R=(0,false)):=by show _=_;rw[HR.out,HD.out,adf (.inr (by omega))];rfl
    clear HR HN
    go_wp2_with fail
    go_ret2
    exact⟨by rw[HF.out];rfl,Below.refl _ _⟩
   have h57:decide ((57:Int) < (c:Int))=false:=decide_eq_false (by omega)
   obtain⟨d,hdc⟩:∃ d,d=c - 48:=⟨_,rfl⟩
   have hu8:IntKind.u8.wrap ((c:Int) - 48)=(d:Int):=(IntWalk.u8_in _ (by omega)).trans (by omega)
   have hdw:IntKind.i64.wrap (d:Int)=(d:Int):=IntWalk.i64_in _ (by omega)
   obtain⟨X,hX⟩:∃ X:Int,X=-9223372036854775808+(d:Int):=⟨_,rfl⟩
   have hXw:IntKind.i64.wrap (-9223372036854775808+(d:Int))=X:=(IntWalk.i64_in _ (by omega)).trans hX.symm
   obtain⟨q,hq⟩:∃ q:Nat,q=(9223372036854775808 - d) / 10:=⟨_,rfl⟩
   obtain⟨Y,hY⟩:∃ Y:Int,Y=-(q:Int):=⟨_,rfl⟩
   have hdv:X.tdiv 10=Y:=by rw[hX,hY,hq,show(-9223372036854775808+(d:Int))=-((9223372036854775808 - d:Nat):Int) by omega,Int.neg_tdiv,Int.tdiv_eq_ediv_of_nonneg (by omega)];omega
   have hYw:IntKind.i64.wrap Y=Y:=IntWalk.i64_in _ (by omega)
   by_cases hbig:9223372036854775808 < 10 * m+d
   case pos=>
    have hcmp:decide (N < Y)=true:=decide_eq_true (by have:=HN.out;omega)
    have HF:Hid (R=(0,false)):=by show _=_;rw[HR.out,HD.out,aiw (by omega) (by omega) hbig];rfl
    clear HR HN hX hY hq hdc
    go_wp2_with fail
    go_ret2
    exact⟨by rw[HF.out];rfl,Below.refl _ _⟩
   have hcmp:decide (N < Y)=false:=decide_eq_false (by have:=HN.out;omega)
   obtain⟨T,hT⟩:∃ T:Int,T=10 * N:=⟨_,rfl⟩
   have hTw:IntKind.i64.wrap (10 * N)=T:=(IntWalk.i64_in _ (by have:=HN.out;omega)).trans hT.symm
   obtain⟨U,hU⟩:∃ U:Int,U=T - (d:Int):=⟨_,rfl⟩
   have hUw:IntKind.i64.wrap (T - (d:Int))=U:=(IntWalk.i64_in _ (by have:=HN.out;omega)).trans hU.symm
   have HR2:Hid (R=aal true t (uz 9223372036854775808 (10 * m+d) ((byt t).drop (k+1)))):=by show _=_;rw[HR.out,HD.out,aky (by omega) (by omega) hbig]
   have HU:Hid (U=-((10 * m+d:Nat):Int)):=by show _=_;have:=HN.out;omega
   have hm2:10 * m+d≤9223372036854775808:=by omega
   clear HR HN hX hY hq hdc hT hU hbig
   go_wp2_with fail
   go_roundw
   case rel=>exact⟨U,10 * m+d,k+1,rfl,by go_num,by omega,hm2,HU,HR2,trivial⟩
   case measure=>simp[intOf];omega
 have e45:((b:Int) ==45)=false:=by simp;omega
 have hh:¬ (byt t).head?=some 45:=by rw[hhd];intro h;injection h with h;omega
 clear hhd
 by_cases hlong:19 < t.size
 case pos=>
  have HF:Hid (R=(0,false)):=hR.trans (agy hh hlong)
  have hl:decide ((19:Int) < (t.size:Int))=true:=decide_eq_true (by omega)
  clear hR hh hlong
  go_enter Tryz.func24,Tryz.ntmps24
  go_wp2_with fail
  go_ret2
  exact⟨by rw[HF.out];rfl,Below.refl _ _⟩
 have hl:decide ((19:Int) < (t.size:Int))=false:=decide_eq_false (by omega)
 have HR:Hid (R=aal false t (uz 9223372036854775808 0 ((byt t).drop 0))):=hR.trans (amy hh (by omega))
 have axl:t.size≤20:=by omega
 clear hR hh hlong
 go_enter Tryz.func24,Tryz.ntmps24
 go_wp2_with fail
 go_loopw [4,7] (fun n i wr=>∃ (N:Int) (m k:Nat),n=.int .i64 N∧i=.int .i64 k∧k≤t.size∧m≤9223372036854775808∧Hid (N=-(m:Int))∧Hid (R=aal false t (uz 9223372036854775808 m ((byt t).drop k)))∧w=wr) (fun _ i _=>t.size - (intOf i).toNat)
 case atStart=>exact⟨0,0,0,rfl,rfl,by omega,by omega,Lib.hid rfl,HR,rfl⟩
 case round=>
  clear HR
  obtain⟨N,m,k,rfl,rfl,hk,hm,HN,HR,hw⟩:=hrel
  subst hw
  have hNw:(Lit.int .i64 N).wf=true:=WalkArith.wf_i64 (by have:=HN.out;omega)
  by_cases hlt:k < t.size
  case neg=>
   have hd:decide ((k:Int) < (t.size:Int))=false:=decide_eq_false (by omega)
   have HE:Hid (R=aal false t (some m)):=by show _=_;have h:=HR.out;rwa[afa (by omega),aiv] at h
   clear HR
   by_cases hmx:m=9223372036854775808
   case pos=>
    have HF:Hid (R=(0,false)):=by show _=_;rw[HE.out,hmx];rfl
    have hN:N=-9223372036854775808:=by have:=HN.out;omega
    subst hN
    clear HE HN
    go_wp2_with fail
    go_ret2
    exact⟨by rw[HF.out];rfl,Below.refl _ _⟩
   have hNb:(N ==-9223372036854775808)=false:=by have:=HN.out;simp;omega
   obtain⟨Z,hZ⟩:∃ Z:Int,Z=-N:=⟨_,rfl⟩
   have hZw:(Lit.int .i64 Z).wf=true:=WalkArith.wf_i64 (by have:=HN.out;omega)
   have hng:IntKind.i64.wrap (-N)=Z:=(IntWalk.i64_in _ (by have:=HN.out;omega)).trans hZ.symm
   have HE2:Hid (R=(Z,decide (ay Z=t))):=by show _=_;rw[HE.out,hZ,HN.out,Int.neg_neg,aal,if_neg (by decide),if_neg hmx];rfl
   clear HE hZ
   go_wp2_with fail
   refine(aas Z hZw _).mono ?_
   rintro e w1 ⟨rfl,hb1⟩
   by_cases heq:ay Z=t
   case pos=>
    rw[heq]
    go_wp2_with fail
    go_ret2
    exact⟨ad8 (by rw[HE2.out]) (by rw[HE2.out,heq];simp),hb1⟩
   have hne:=aa4 heq
   go_wp2_with fail
   go_ret2
   exact⟨ad8 (by rw[HE2.out]) (by rw[HE2.out,decide_eq_false heq]),hb1⟩
  have hd:decide ((k:Int) < (t.size:Int))=true:=decide_eq_true (by omega)
  have hdi:(k:Int) < (t.size:Int):=by omega
  have hki:IntKind.i64.wrap ((k:Int)+1)=(k:Int)+1:=IntWalk.i64_in _ (by omega)
  have hrest:=ajy hlt
  obtain⟨c,hc⟩:∃ c,t[k].toNat=c:=⟨_,rfl⟩
  have hc256:c < 256:=by rw[← hc];exact t[k].toNat_lt
  rw[hc] at hrest
  have HD:=Lib.hid hrest
  clear hrest
  by_cases axm:c < 48
  case pos=>
   have h48:decide ((c:Int) < 48)=true:=decide_eq_true (by omega)
   have HF:Hid (R=(0,false)):=by show _=_;rw[HR.out,HD.out,adf (.inl (by omega))];rfl
   clear HR HN
   go_wp2_with fail
   go_ret2
   exact⟨by rw[HF.out];rfl,Below.refl _ _⟩
  have h48:decide ((c:Int) < 48)=false:=decide_eq_false (by omega)
  by_cases axn:57 < c
  case pos=>
   have h57:decide ((57:Int) < (c:Int))=true:=decide_eq_true (by omega)
   have HF:Hid (R=(0,false)):=by show _=_;rw[HR.out,HD.out,adf (.inr (by omega))];rfl
   clear HR HN
   go_wp2_with fail
   go_ret2
   exact⟨by rw[HF.out];rfl,Below.refl _ _⟩
  have h57:decide ((57:Int) < (c:Int))=false:=decide_eq_false (by omega)
  obtain⟨d,hdc⟩:∃ d,d=c - 48:=⟨_,rfl⟩
  have hu8:IntKind.u8.wrap ((c:Int) - 48)=(d:Int):=(IntWalk.u8_in _ (by omega)).trans (by omega)
  have hdw:IntKind.i64.wrap (d:Int)=(d:Int):=IntWalk.i64_in _ (by omega)
  obtain⟨X,hX⟩:∃ X:Int,X=-9223372036854775808+(d:Int):=⟨_,rfl⟩
  have hXw:IntKind.i64.wrap (-9223372036854775808+(d:Int))=X:=(IntWalk.i64_in _ (by omega)).trans hX.symm
  obtain⟨q,hq⟩:∃ q:Nat,q=(9223372036854775808 - d) / 10:=⟨_,rfl⟩
  obtain⟨Y,hY⟩:∃ Y:Int,Y=-(q:Int):=⟨_,rfl⟩
  have hdv:X.tdiv 10=Y:=by rw[hX,hY,hq,show(-9223372036854775808+(d:Int))=-((9223372036854775808 - d:Nat):Int) by omega,Int.neg_tdiv,Int.tdiv_eq_ediv_of_nonneg (by omega)];omega
  have hYw:IntKind.i64.wrap Y=Y:=IntWalk.i64_in _ (by omega)
  by_cases hbig:9223372036854775808 < 10 * m+d
  case pos=>
   have hcmp:decide (N < Y)=true:=decide_eq_true (by have:=HN.out;omega)
   have HF:Hid (R=(0,false)):=by show _=_;rw[HR.out,HD.out,aiw (by omega) (by omega) hbig];rfl
   clear HR HN hX hY hq hdc
   go_wp2_with fail
   go_ret2
   exact⟨by rw[HF.out];rfl,Below.refl _ _⟩
  have hcmp:decide (N < Y)=false:=decide_eq_false (by have:=HN.out;omega)
  obtain⟨T,hT⟩:∃ T:Int,T=10 * N:=⟨_,rfl⟩
  have hTw:IntKind.i64.wrap (10 * N)=T:=(IntWalk.i64_in _ (by have:=HN.out;omega)).trans hT.symm
  obtain⟨U,hU⟩:∃ U:Int,U=T - (d:Int):=⟨_,rfl⟩
  have hUw:IntKind.i64.wrap (T - (d:Int))=U:=(IntWalk.i64_in _ (by have:=HN.out;omega)).trans hU.symm
  have HR2:Hid (R=aal false t (uz 9223372036854775808 (10 * m+d) ((byt t).drop (k+1)))):=by show _=_;rw[HR.out,HD.out,aky (by omega) (by omega) hbig]
  have HU:Hid (U=-((10 * m+d:Nat):Int)):=by show _=_;have:=HN.out;omega
  have hm2:10 * m+d≤9223372036854775808:=by omega
  clear HR HN hX hY hq hdc hT hU hbig
  go_wp2_with fail
  go_roundw
  case rel=>exact⟨U,10 * m+d,k+1,rfl,by go_num,by omega,hm2,HU,HR2,trivial⟩
  case measure=>simp[intOf];omega
theorem aq5 (p q:List Int) (X:List (List Int)):ac1 p (ac1 q X)=ac1 (p ++q) X:=by
 cases X with
 | nil=>rfl
 | cons x xs=>simp[ac1,List.append_assoc]
theorem amz {X:List (List Int)} (h:X≠[]):ac1 [] X=X:=by
 cases X with
 | nil=>exact absurd rfl h
 | cons x xs=>rfl
def bn (sep:Int) (s:ByteArray):List ByteArray:=(oh sep (byt s)).map strOfNums
theorem axo {s:ByteArray} {a b:Nat}:s.extract a b=strOfNums (((byt s).drop a).take (b - a)):=by
 rw[← jy (s.extract a b),alm,List.drop_take]
theorem asg {s:ByteArray} {a:Nat}:s.extract a s.size=strOfNums ((byt s).drop a):=by
 rw[axo,List.take_of_length_le (by rw[List.length_drop,ru];exact Nat.le_refl _)]
theorem take_snoc {l:List Int} {a k:Nat} {c:Int} {r:List Int} (hak:a≤k) (h:l.drop k=c ::r):(l.drop a).take (k+1 - a)=(l.drop a).take (k - a) ++[c]:=by
 have e:k+1 - a=(k - a)+1:=by omega
 have hg:(l.drop a)[k - a]?=some c:=by
  rw[List.getElem?_drop,show a+(k - a)=k by omega]
  have:=congrArg (fun x=>x[0]?) h
  simpa [List.getElem?_drop] using this
 rw[e,List.take_add_one,hg];rfl
theorem alo:(Tryz.prog.info? 9).map (fun i=>(i.zero,i.size,i.bytes))=some (some (.string {data:=#[]}),1,16):=by kernel_rfl
def am0 (sep:Int) (s:ByteArray) (w:World) (e:Ending) (w':World):Prop:=∃ v,e=.returned v∧w'.ownsRow w.heap.size 9 1 v (bn sep s).length (strs (bn sep s))∧Below w.heap.size w w'
set_option maxHeartbeats 6400000 in
theorem ajz {s:ByteArray} {sp:Nat} (hs:s.size≤1048576) (w:World):Calls Tryz.prog 10 #[.string s,.int .u8 (sp:Int)] w fun e w'=>am0 (sp:Int) s w e w':=by
 obtain⟨i0,hi,hz0,hz1,hz2⟩:=info_parts alo
 obtain⟨R,hR⟩:∃ R,R=oh (sp:Int) (byt s):=⟨_,rfl⟩
 have HQF:Hid (∀ e w',(∃ v,e=.returned v∧w'.ownsRow w.heap.size 9 1 v (R.map strOfNums).length (strs (R.map strOfNums))∧Below w.heap.size w w')→am0 (sp:Int) s w e w'):=fun e w' h=>by rw[hR] at h;exact h
 have HR0:Hid (R=[] ++ac1 (((byt s).drop 0).take (0 - 0)) (oh (sp:Int) ((byt s).drop 0))):=by
  show _=_
  rw[List.nil_append,Nat.sub_zero,List.take_zero,amz (ace _ _),List.drop_zero]
  exact hR
 have HO0:Hid ((w.alloc (.cells #[] 9)).ownsRow w.heap.size 9 1 (.slice (some ⟨w.heap.size,0,none⟩) 0 0) 0 (strs (([]:List (List Int)).map strOfNums))):=World.ownsRow_made w #[] 0 (Nat.le_refl _) (by simp) (by simp)
 have HB0:Hid (Below w.heap.size w (w.alloc (.cells #[] 9))):=(Below.refl _ _).alloc (Nat.le_refl _) _
 clear hR
 go_enter Tryz.func10,Tryz.ntmps10
 go_wp2_with fail
 go_loopw [5,6,7] (fun o f i wr=>∃ (u:Value) (fr k m:Nat) (acc:List (List Int)),u=o∧f=.int .i64 fr∧i=.int .i64 k∧fr≤k∧k≤s.size∧m≤k∧Hid (acc.length=m)∧Hid (R=acc ++ac1 (((byt s).drop fr).take (k - fr)) (oh (sp:Int) ((byt s).drop k)))∧Hid (wr.ownsRow w.heap.size 9 1 u m (strs (acc.map strOfNums)))∧Hid (Below w.heap.size w wr)) (fun _ _ i _=>s.size - (intOf i).toNat)
 case atStart=>exact⟨_,0,0,0,[],rfl,rfl,rfl,Nat.le_refl _,Nat.zero_le _,Nat.le_refl _,Lib.hid rfl,HR0,HO0,HB0⟩
 case round=>
  clear HR0 HO0 HB0
  obtain⟨u,fr,k,m,acc,rfl,rfl,rfl,hfk,hk,hmk,HA,HR,HO,HB⟩:=hrel
  obtain⟨uA,uN,uC,rfl,-,-,-⟩:=(Own.lu HO.out).form
  have hz:=HB.out.size
  have hf0:(0:Int)≤(fr:Int):=by omega
  have a6x:(fr:Int)≤(k:Int):=by omega
  have hfs:(fr:Int)≤(s.size:Int):=by omega
  have hks:(k:Int)≤(s.size:Int):=by omega
  by_cases hlt:k < s.size
  case neg=>
   have hd:decide ((k:Int) < (s.size:Int))=false:=decide_eq_false (by omega)
   have HE:Hid (R.map strOfNums=acc.map strOfNums ++[s.extract fr s.size]):=by
    show _=_
    rw[HR.out,afa (k:=k) (by omega),asg,List.map_append,show oh (sp:Int) []=[[]] from rfl]
    show _=_ ++[strOfNums ((byt s).drop fr)]
    rw[ac1,List.append_nil,List.take_of_length_le (by rw[List.length_drop,ru];omega)]
    rfl
   have HO2:Hid ((wr.alloc (.cells #[.string (s.extract fr s.size)] 9)).ownsRow w.heap.size 9 1 (.slice uA uN uC) m (strs (acc.map strOfNums))):=HO.out.alloc _
   have HSC:Hid (uw (wr.alloc (.cells #[.string (s.extract fr s.size)] 9)) (.slice (some ⟨wr.heap.size,0,none⟩) 1 1) 1 1 (strs [s.extract fr s.size])):=.inr ⟨⟨wr.heap.size,0,none⟩,1,rfl,rfl,World.news_of_block (heap_alloc_new wr _)⟩
   have HB2:Hid (Below w.heap.size w (wr.alloc (.cells #[.string (s.extract fr s.size)] 9))):=HB.out.alloc hz _
   go_wp2_with (at_builtin;refine aae rfl _ _ 32 rfl w.heap.size 9 i0 (.string {data:=#[]}) 1 16 Tryz.underlying32 hi hz0 hz1 hz2 rfl (by decide) _ _ _ rfl HO2.out _ _ _ rfl HSC.out (ait _) (by simp only[maxLen];omega) (by omega) HB2.out.size ?_;intro v' w3 hown' hgrow _)
   have HB3:=Lib.hid (HB2.out.grown hgrow HB2.out.size (fun g hg=>(HO2.out.lt g hg).1))
   go_ret
   refine HQF.out _ _ ⟨_,rfl,?_,HB3.out⟩
   rw[HE.out,List.length_append,List.length_map,HA.out,strs,List.map_append]
   exact hown'
  have hd:decide ((k:Int) < (s.size:Int))=true:=decide_eq_true (by omega)
  have hdi:(k:Int) < (s.size:Int):=by omega
  have hki:IntKind.i64.wrap ((k:Int)+1)=((k+1:Nat):Int):=(IntWalk.i64_in _ (by omega)).trans (by omega)
  have hrest:=ajy hlt
  obtain⟨c,hc⟩:∃ c,s[k].toNat=c:=⟨_,rfl⟩
  rw[hc] at hrest
  have HD:=Lib.hid hrest
  clear hrest
  by_cases hcs:c=sp
  case neg=>
   have hcb:(((c:Nat):Int) ==((sp:Nat):Int))=false:=by simp;omega
   have HR2:Hid (R=acc ++ac1 (((byt s).drop fr).take (k+1 - fr)) (oh (sp:Int) ((byt s).drop (k+1)))):=by
    show _=_
    rw[HR.out,take_snoc hfk HD.out,← aq5,HD.out,oh,if_neg (by omega)]
    cases hx:oh (sp:Int) ((byt s).drop (k+1))with
    | nil=>exact absurd hx (ace _ _)
    | cons q qs=>rfl
   clear HR HD
   go_wp2_with fail
   go_roundw
   case rel=>exact⟨.slice uA uN uC,fr,k+1,m,acc,rfl,rfl,rfl,by omega,by omega,by omega,HA,HR2,HO,HB⟩
   case measure=>simp[intOf];omega
  subst hcs
  have HR2:Hid (R=(acc ++[((byt s).drop fr).take (k - fr)]) ++ac1 (((byt s).drop (k+1)).take (k+1 - (k+1))) (oh (c:Int) ((byt s).drop (k+1)))):=by
   show _=_
   rw[HR.out,HD.out,amx,Nat.sub_self,List.take_zero,amz (ace _ _),ac1,List.append_nil,List.append_assoc]
   rfl
  have HX:Hid (s.extract fr k=strOfNums (((byt s).drop fr).take (k - fr))):=axo
  have HO2:Hid ((wr.alloc (.cells #[.string (s.extract fr k)] 9)).ownsRow w.heap.size 9 1 (.slice uA uN uC) m (strs (acc.map strOfNums))):=HO.out.alloc _
  have HSC:Hid (uw (wr.alloc (.cells #[.string (s.extract fr k)] 9)) (.slice (some ⟨wr.heap.size,0,none⟩) 1 1) 1 1 (strs [s.extract fr k])):=.inr ⟨⟨wr.heap.size,0,none⟩,1,rfl,rfl,World.news_of_block (heap_alloc_new wr _)⟩
  have HB2:Hid (Below w.heap.size w (wr.alloc (.cells #[.string (s.extract fr k)] 9))):=HB.out.alloc hz _
  clear HR HD
  go_wp2_with (at_builtin;refine aae rfl _ _ 32 rfl w.heap.size 9 i0 (.string {data:=#[]}) 1 16 Tryz.underlying32 hi hz0 hz1 hz2 rfl (by decide) _ _ _ rfl HO2.out _ _ _ rfl HSC.out (ait _) (by simp only[maxLen];omega) (by omega) HB2.out.size ?_;intro v' w3 hown' hgrow _)
  have HB3:=Lib.hid (HB2.out.grown hgrow HB2.out.size (fun g hg=>(HO2.out.lt g hg).1))
  have HO3:=Lib.hid hown'
  clear hown' hgrow
  go_roundw
  case rel=>exact⟨v',k+1,k+1,m+1,acc ++[((byt s).drop fr).take (k - fr)],rfl,rfl,rfl,Nat.le_refl _,by omega,by omega,Lib.hid (by rw[List.length_append,HA.out];rfl),HR2,Lib.hid (by rw[List.map_append,List.map_cons,List.map_nil,strs,List.map_append,← HX.out];exact HO3.out),HB3⟩
  case measure=>simp[intOf];omega
def opI:List ByteArray→Nat→ByteArray→Nat
 | [],_,_=>0
 | x ::r,n,t=>if x=t then n+1 else opI r (n+1) t
theorem ash {α:Type} {l:List α} {k:Nat} {x:α} (h:l[k]?=some x):l.drop k=x ::l.drop (k+1):=by
 obtain⟨h1,h2⟩:=List.getElem?_eq_some_iff.1 h
 rw[← h2]
 exact List.drop_eq_getElem_cons h1
theorem aq6:∀ (l:List ByteArray) (n:Nat) (t:ByteArray),opI l n t≤n+l.length
 | [],n,t=>by simp[opI]
 | x ::r,n,t=>by
  rw[opI]
  split
  ·simp only[List.length_cons];omega
  ·have:=aq6 r (n+1) t
   simp only[List.length_cons];omega
set_option maxHeartbeats 3200000 in
theorem aq7 (t:ByteArray) (w:World):Calls Tryz.prog 48 #[.string t] w fun e w'=>e=.returned (.int .i64 (opI words 0 t:Nat))∧Below w.heap.size w w':=by
 obtain⟨R,hR⟩:∃ R,R=opI words 0 t:=⟨_,rfl⟩
 rw[← hR]
 have HR0:Hid (R=opI (words.drop 0) 0 t):=hR
 clear hR
 go_enter Tryz.func48,Tryz.ntmps48
 go_wp2_with fail
 go_loopw [3] (fun i wr=>∃ k:Nat,i=.int .i64 k∧k≤40∧Hid (R=opI (words.drop k) k t)∧Below w.heap.size w wr) (fun i _=>40 - (intOf i).toNat)
 case atStart=>exact⟨0,rfl,by omega,HR0,Below.refl _ _⟩
 case round=>
  clear HR0
  obtain⟨k,rfl,hk,HR,hb⟩:=hrel
  have hz:=hb.size
  go_wp2_with fail
  refine(aei _).mono ?_
  rintro e w1 ⟨rfl,-,hb1⟩
  have hB1:=hb.trans (hb1.mono hz)
  have hz1:=hB1.size
  clear hb hb1
  by_cases hlt:k < 40
  case neg=>
   have hd:decide ((k:Int) < 40)=false:=decide_eq_false (by omega)
   have HF:Hid (R=0):=by show _=_;rw[HR.out,List.drop_of_length_le (by rw[ag6];omega)];rfl
   go_wp2_with fail
   go_ret
   exact⟨by rw[HF.out];rfl,hB1⟩
  have hd:decide ((k:Int) < 40)=true:=decide_eq_true (by omega)
  have hdi:(k:Int) < 40:=by omega
  have hki:IntKind.i64.wrap ((k:Int)+1)=((k+1:Nat):Int):=(IntWalk.i64_in _ (by omega)).trans (by omega)
  obtain⟨x,hx,_⟩:=l7 (xs:=words) ag6.symm hlt
  go_wp2_with fail
  refine(aei _).mono ?_
  rintro e w2 ⟨rfl,hc2,hb2⟩
  have hB2:=hB1.trans (hb2.mono hz1)
  have c0:=hc2 k x hx
  have HDR:=Lib.hid (ash hx)
  clear hb2 hc2 hB1 hx
  by_cases hxt:x=t
  case pos=>
   subst hxt
   have HF:Hid (R=k+1):=by show _=_;rw[HR.out,HDR.out,opI,if_pos rfl]
   go_wp2_with fail
   go_ret
   exact⟨by rw[HF.out];rfl,hB2⟩
  have hne:=aa4 hxt
  have HR2:Hid (R=opI (words.drop (k+1)) (k+1) t):=by show _=_;rw[HR.out,HDR.out,opI,if_neg hxt]
  go_wp2_with fail
  go_roundw
  case rel=>exact⟨k+1,rfl,by omega,HR2,hB2⟩
  case measure=>simp[intOf];omega
def zn (s:ByteArray) (op a:Int):Int×Int×Bool:=if gy op a=true∧og op a=s then (op,a,true)else (0,0,false)
def rdS (s:ByteArray):Int×Int×Bool:=
 let ps:=bn 32 s
 let op:Int:=(opI words 0 ((ps[0]?).getD ⟨#[]⟩):Nat)
 match ps[1]? with
 | none=>zn s op 0
 | some p=>if (l9 p).2=true then zn s op (l9 p).1 else (0,0,false)
theorem af7 {s:ByteArray} (h:(bn 32 s)[1]?=none):rdS s=zn s (opI words 0 (((bn 32 s)[0]?).getD ⟨#[]⟩):Nat) 0:=by simp only[rdS,h]
theorem akz {s p:ByteArray} (h:(bn 32 s)[1]?=some p) (hp:(l9 p).2=false):rdS s=(0,0,false):=by simp only[rdS,h];rw[if_neg (by rw[hp];decide)]
theorem af8 {s p:ByteArray} (h:(bn 32 s)[1]?=some p) (hp:(l9 p).2=true):rdS s=zn s (opI words 0 (((bn 32 s)[0]?).getD ⟨#[]⟩):Nat) (l9 p).1:=by simp only[rdS,h];rw[if_pos hp]
theorem afs {sep:Int} {s p:ByteArray} (h:p ∈ bn sep s):p.size≤s.size:=by
 obtain⟨l,hl,rfl⟩:=List.mem_map.1 h
 rw[strOfNums_size]
 have:=(ael hl).1
 rwa[ru] at this
theorem aix (sep:Int) (s:ByteArray):0 < (bn sep s).length:=by
 rw[bn,List.length_map]
 exact List.length_pos_iff.2 (ace _ _)
def ap5 (s:ByteArray) (w:World) (e:Ending) (w':World):Prop:=e=.returned (.tuple #[.agg #[.int .i64 (rdS s).1,.int .i64 (rdS s).2.1],.bool (rdS s).2.2])∧Below w.heap.size w w'
theorem ahc {s:ByteArray} (hs:s.size≤1048576) (w:World):Calls Tryz.prog 10 #[.string s,.int .u8 32] w fun e w'=>am0 32 s w e w':=ajz (sp:=32) hs w
set_option maxHeartbeats 12800000 in
theorem aoh {s:ByteArray} (hs:s.size≤1048576) (w:World):Calls Tryz.prog 25 #[.string s] w fun e w'=>ap5 s w e w':=by
 obtain⟨R,hR⟩:∃ R,R=rdS s:=⟨_,rfl⟩
 have HQF:Hid (∀ e w',e=.returned (.tuple #[.agg #[.int .i64 R.1,.int .i64 R.2.1],.bool R.2.2])∧Below w.heap.size w w'→ap5 s w e w'):=fun e w' h=>by rw[hR] at h;exact h
 have HRR:=Lib.hid hR
 obtain⟨w0,hw0⟩:∃ V,V=w.alloc (.cells #[.int .i64 0,.int .i64 0] 54):=⟨_,rfl⟩
 have HR0:Hid (Blk w0 w.heap.size 54 #[.int .i64 0,.int .i64 0]):=by show Blk _ _ _ _;rw[hw0];exact Blk.new w _ _
 have HB0:Hid (Below w.heap.size w w0):=by show Below _ _ _;rw[hw0];exact(Below.refl _ _).alloc (Nat.le_refl _) _
 have HW0:=Lib.hid hw0
 clear hR hw0
 go_enter Tryz.func25,Tryz.ntmps25
 go_wp2_with fail
 rw[← HW0.out]
 refine(ahc hs _).mono ?_
 rintro e w1 ⟨v,rfl,ho,hb⟩
 obtain⟨PS,hPS⟩:∃ PS,PS=bn 32 s:=⟨_,rfl⟩
 have hpos:0 < PS.length:=by rw[hPS];exact aix 32 s
 have hsz:∀ p ∈ PS,p.size≤1048576:=fun p hp=>by rw[hPS] at hp;have:=afs hp;omega
 rw[← hPS] at ho
 have HPS:=Lib.hid hPS
 have HSZ:=Lib.hid hsz
 obtain⟨A,n,cc,rfl,hn,hnc,hcm,hg⟩:=(Own.lu ho).form
 have hn2:n=PS.length:=by rw[strs,List.length_map] at hn;omega
 obtain⟨g,off,rfl,hlo,axp,hat⟩:=hg (by omega)
 have HN:=Lib.hid hn2
 have HAT:Hid (∀ (j:Nat) (x:ByteArray),PS[j]?=some x→w1.cell? ⟨g,off+j,none⟩=some (.string x)):=fun j x hx=>hat.cell (by rw[strs,List.getElem?_map,hx];rfl)
 have HR1:=Lib.hid (HR0.out.step hb)
 have HB1:=Lib.hid (HB0.out.trans (hb.mono HB0.out.size))
 have hz1:=HB1.out.size
 have hn0:0 < n:=by omega
 clear hPS hsz ho hb hn hn2 hg hat HR0 HB0 hpos hcm hlo
 obtain⟨p0,hp0,_⟩:=l7 HN.out hn0
 have c0:w1.cell? ⟨g,off,none⟩=some (.string p0):=HAT.out 0 p0 hp0
 have hni:(0:Int) < (n:Int):=by omega
 go_wp2_with fail
 refine(aq7 _ _).mono ?_
 rintro e w2 ⟨rfl,hb⟩
 obtain⟨OPN,asi⟩:∃ k,k=opI words 0 p0:=⟨_,rfl⟩
 rw[← asi]
 obtain⟨OP,hOP⟩:∃ k:Int,k=((OPN:Nat):Int):=⟨_,rfl⟩
 rw[← hOP]
 have HOP:Hid (OP=((opI words 0 ((PS[0]?).getD ⟨#[]⟩):Nat):Int)):=by show _=_;rw[hp0,hOP,asi];rfl
 have HR2:=Lib.hid (HR1.out.step hb)
 have HB2:=Lib.hid (HB1.out.trans (hb.mono hz1))
 have am1:Hid (∀ (j:Nat) (x:ByteArray),PS[j]?=some x→w2.cell? ⟨g,off+j,none⟩=some (.string x)):=fun j x hx=>(hb.cell (p:=⟨g,off+j,none⟩) axp).trans (HAT.out j x hx)
 have axq:g < w2.heap.size:=by have:=hb.size;omega
 clear hOP asi hb HAT HR1 HB1 c0 hp0 axp
 obtain⟨w3,hw3⟩:∃ V,V=w2.alloc (.cells #[.int .i64 OP,.int .i64 0] 54):=⟨_,rfl⟩
 have HX3:Hid (Blk w3 w2.heap.size 54 #[.int .i64 OP,.int .i64 0]):=by show Blk _ _ _ _;rw[hw3];exact Blk.new w2 _ _
 have HR3:Hid (Blk w3 w.heap.size 54 #[.int .i64 0,.int .i64 0]):=by show Blk _ _ _ _;rw[hw3];exact HR2.out.alloc _
 have HB3:Hid (Below w.heap.size w w3):=by show Below _ _ _;rw[hw3];exact HB2.out.alloc HB2.out.size _
 have axr:Hid (∀ (j:Nat) (x:ByteArray),PS[j]?=some x→w3.cell? ⟨g,off+j,none⟩=some (.string x)):=fun j x hx=>by rw[hw3];exact((Below.refl w2.heap.size w2).alloc (Nat.le_refl _) _ |>.cell (p:=⟨g,off+j,none⟩) axq).trans (am1.out j x hx)
 have HW3:=Lib.hid hw3
 have a0s:=HR2.out.lt
 clear hw3 HR2 am1
 by_cases h1:1 < n
 case neg=>
  have hd:decide ((1:Int) < (n:Int))=false:=decide_eq_false (by omega)
  have aem:Hid (R=zn s OP 0):=by
   show _=_
   have hnone:PS[1]?=none:=List.getElem?_eq_none (by have:=HN.out;omega)
   rw[HPS.out] at hnone
   rw[HRR.out,af7 hnone,HOP.out,HPS.out]
  have x0:w3.cell? ⟨w2.heap.size,0,none⟩=some (.int .i64 OP):=HX3.out.cell 0
  have x1:w3.cell? ⟨w2.heap.size,1,none⟩=some (.int .i64 0):=HX3.out.cell 1
  go_wp2_with fail
  rw[← HW3.out]
  refine(afg _ _ _).mono ?_
  rintro e w6 ⟨rfl,hb6⟩
  have HB6:=Lib.hid (HB3.out.trans (hb6.mono HB3.out.size))
  have HR6:=Lib.hid (HR3.out.step hb6)
  have HX6:=Lib.hid (HX3.out.step hb6)
  clear hb6
  have x0:w6.cell? ⟨w2.heap.size,0,none⟩=some (.int .i64 OP):=HX6.out.cell 0
  have x1:w6.cell? ⟨w2.heap.size,1,none⟩=some (.int .i64 0):=HX6.out.cell 1
  have r0:w6.cell? ⟨w.heap.size,0,none⟩=some (.int .i64 0):=HR6.out.cell 0
  have r1:w6.cell? ⟨w.heap.size,1,none⟩=some (.int .i64 0):=HR6.out.cell 1
  have f0:=HR6.out.frozen 0
  have f1:=HR6.out.frozen 1
  cases hok:gy OP 0
  case false=>
   have HF:Hid (R=(0,0,false)):=by show _=_;rw[aem.out,zn,if_neg (by rw[hok];simp)]
   clear hok
   go_wp2_with fail
   have bN:Blk ((w6.setCell ⟨w.heap.size,0,none⟩ (.int .i64 0)).setCell ⟨w.heap.size,1,none⟩ (.int .i64 0)) w.heap.size 54 #[.int .i64 0,.int .i64 0]:=by
    have:=(HR6.out.dh 0 (.int .i64 0)).dh 1 (.int .i64 0)
    simpa using this
   have n0:=bN.cell 0
   have n1:=bN.cell 1
   refine bodyPost_ret (v:=.tuple #[.agg #[.int .i64 0,.int .i64 0],.bool false]) (by simp[results,Tryz.results25,go_sem,n0,n1]) rfl (HQF.out _ _ ⟨by rw[HF.out],?_⟩)
   exact(HB6.out.setCell (p:=⟨w.heap.size,0,none⟩) (Nat.le_refl _) _).setCell (p:=⟨w.heap.size,1,none⟩) (Nat.le_refl _) _
  go_wp2_with fail
  refine(adb OP 0 (by decide) hok _).mono ?_
  rintro e w7 ⟨rfl,hb7⟩
  have HB7:=Lib.hid (HB6.out.trans (hb7.mono HB6.out.size))
  have HR7:=Lib.hid (HR6.out.step hb7)
  have HX7:=Lib.hid (HX6.out.step hb7)
  clear hb7 x0 x1 r0 r1 f0 f1
  have x0:w7.cell? ⟨w2.heap.size,0,none⟩=some (.int .i64 OP):=HX7.out.cell 0
  have x1:w7.cell? ⟨w2.heap.size,1,none⟩=some (.int .i64 0):=HX7.out.cell 1
  have r0:w7.cell? ⟨w.heap.size,0,none⟩=some (.int .i64 0):=HR7.out.cell 0
  have r1:w7.cell? ⟨w.heap.size,1,none⟩=some (.int .i64 0):=HR7.out.cell 1
  have f0:=HR7.out.frozen 0
  have f1:=HR7.out.frozen 1
  by_cases heq:og OP 0=s
  case pos=>
   have HF:Hid (R=(OP,0,true)):=by show _=_;rw[aem.out,zn,if_pos ⟨hok,heq⟩]
   rw[heq]
   clear hok heq
   go_wp2_with fail
   have bN:Blk ((w7.setCell ⟨w.heap.size,0,none⟩ (.int .i64 OP)).setCell ⟨w.heap.size,1,none⟩ (.int .i64 0)) w.heap.size 54 #[.int .i64 OP,.int .i64 0]:=by
    have:=(HR7.out.dh 0 (.int .i64 OP)).dh 1 (.int .i64 0)
    simpa using this
   have n0:=bN.cell 0
   have n1:=bN.cell 1
   refine bodyPost_ret (v:=.tuple #[.agg #[.int .i64 OP,.int .i64 0],.bool true]) (by simp[results,Tryz.results25,go_sem,n0,n1]) rfl (HQF.out _ _ ⟨by rw[HF.out],?_⟩)
   exact(HB7.out.setCell (p:=⟨w.heap.size,0,none⟩) (Nat.le_refl _) _).setCell (p:=⟨w.heap.size,1,none⟩) (Nat.le_refl _) _
  have HF:Hid (R=(0,0,false)):=by show _=_;rw[aem.out,zn,if_neg (fun h=>heq h.2)]
  have hne:=aa4 heq
  clear hok heq
  go_wp2_with fail
  have bN:Blk ((w7.setCell ⟨w.heap.size,0,none⟩ (.int .i64 0)).setCell ⟨w.heap.size,1,none⟩ (.int .i64 0)) w.heap.size 54 #[.int .i64 0,.int .i64 0]:=by
   have:=(HR7.out.dh 0 (.int .i64 0)).dh 1 (.int .i64 0)
   simpa using this
  have n0:=bN.cell 0
  have n1:=bN.cell 1
  refine bodyPost_ret (v:=.tuple #[.agg #[.int .i64 0,.int .i64 0],.bool false]) (by simp[results,Tryz.results25,go_sem,n0,n1]) rfl (HQF.out _ _ ⟨by rw[HF.out],?_⟩)
  exact(HB7.out.setCell (p:=⟨w.heap.size,0,none⟩) (Nat.le_refl _) _).setCell (p:=⟨w.heap.size,1,none⟩) (Nat.le_refl _) _
 have hd:decide ((1:Int) < (n:Int))=true:=decide_eq_true (by omega)
 have hdi:(1:Int) < (n:Int):=by omega
 obtain⟨p1,hp1,hm1⟩:=l7 HN.out h1
 have hs1:=HSZ.out p1 hm1
 have c1:w3.cell? ⟨g,off+1,none⟩=some (.string p1):=axr.out 1 p1 hp1
 have c1':w2.cell? ⟨g,off+1,none⟩=some (.string p1):=by have:=c1;rw[HW3.out] at this;exact((Below.refl w2.heap.size w2).alloc (Nat.le_refl _) (.cells #[.int .i64 OP,.int .i64 0] 54) |>.cell (p:=⟨g,off+1,none⟩) axq).symm.trans this
 have HP1:Hid ((bn 32 s)[1]?=some p1):=by show _=_;rw[← HPS.out];exact hp1
 clear hm1 hp1
 go_wp2_with fail
 rw[← HW3.out]
 refine(abx p1 hs1 _).mono ?_
 rintro e w4 ⟨rfl,hb⟩
 obtain⟨NA,hNA⟩:∃ k,k=(l9 p1).1:=⟨_,rfl⟩
 obtain⟨NB,hNB⟩:∃ k,k=(l9 p1).2:=⟨_,rfl⟩
 rw[← hNA,← hNB]
 have asj:(Lit.int .i64 NA).wf=true:=by rw[hNA];exact WalkArith.wf_i64 (amw p1)
 have HR4:=Lib.hid (HR3.out.step hb)
 have HB4:=Lib.hid (HB3.out.trans (hb.mono HB3.out.size))
 have HX4:=Lib.hid (HX3.out.step hb)
 have HNA:=Lib.hid hNA
 have HNB:=Lib.hid hNB
 clear hb hNA hNB HR3 HB3 HX3 axr c1 c1'
 cases NB with
 | false=>
  have HF:Hid (R=(0,0,false)):=by show _=_;rw[HRR.out,akz HP1.out HNB.out.symm]
  have r0:w4.cell? ⟨w.heap.size,0,none⟩=some (.int .i64 0):=HR4.out.cell 0
  have r1:w4.cell? ⟨w.heap.size,1,none⟩=some (.int .i64 0):=HR4.out.cell 1
  have f0:=HR4.out.frozen 0
  have f1:=HR4.out.frozen 1
  go_wp2_with fail
  have bN:Blk ((w4.setCell ⟨w.heap.size,0,none⟩ (.int .i64 0)).setCell ⟨w.heap.size,1,none⟩ (.int .i64 0)) w.heap.size 54 #[.int .i64 0,.int .i64 0]:=by
   have:=(HR4.out.dh 0 (.int .i64 0)).dh 1 (.int .i64 0)
   simpa using this
  have n0:=bN.cell 0
  have n1:=bN.cell 1
  refine bodyPost_ret (v:=.tuple #[.agg #[.int .i64 0,.int .i64 0],.bool false]) (by simp[results,Tryz.results25,go_sem,n0,n1]) rfl (HQF.out _ _ ⟨by rw[HF.out],?_⟩)
  exact(HB4.out.setCell (p:=⟨w.heap.size,0,none⟩) (Nat.le_refl _) _).setCell (p:=⟨w.heap.size,1,none⟩) (Nat.le_refl _) _
 | true=>
  have aem:Hid (R=zn s OP NA):=by show _=_;rw[HRR.out,af8 HP1.out HNB.out.symm,HOP.out,HPS.out,HNA.out]
  obtain⟨w5,hw5⟩:∃ V,V=w4.setCell ⟨w2.heap.size,1,none⟩ (.int .i64 NA):=⟨_,rfl⟩
  have hge:w.heap.size+1≤w2.heap.size:=a0s
  have HX5:Hid (Blk w5 w2.heap.size 54 #[.int .i64 OP,.int .i64 NA]):=by show Blk _ _ _ _;rw[hw5];have:=HX4.out.dh 1 (.int .i64 NA);simpa using this
  have HR5:Hid (Blk w5 w.heap.size 54 #[.int .i64 0,.int .i64 0]):=by show Blk _ _ _ _;rw[hw5];exact HR4.out.far (by show w.heap.size≠w2.heap.size;omega) _
  have HB5:Hid (Below w.heap.size w w5):=by show Below _ _ _;rw[hw5];exact HB4.out.setCell (p:=⟨w2.heap.size,1,none⟩) (by show w.heap.size≤w2.heap.size;omega) _
  have HW5:=Lib.hid hw5
  have x0:w4.cell? ⟨w2.heap.size,0,none⟩=some (.int .i64 OP):=HX4.out.cell 0
  have x1:w4.cell? ⟨w2.heap.size,1,none⟩=some (.int .i64 0):=HX4.out.cell 1
  have fx:=HX4.out.frozen 1
  have y0:w5.cell? ⟨w2.heap.size,0,none⟩=some (.int .i64 OP):=HX5.out.cell 0
  have y1:w5.cell? ⟨w2.heap.size,1,none⟩=some (.int .i64 NA):=HX5.out.cell 1
  have y0':=y0
  have y1':=y1
  rw[hw5] at y0' y1'
  clear hw5
  go_wp2_with fail
  rw[← HW5.out]
  clear y0' y1' y0 y1 x0 x1 fx
  refine(afg _ _ _).mono ?_
  rintro e w6 ⟨rfl,hb6⟩
  have HB6:=Lib.hid (HB5.out.trans (hb6.mono HB5.out.size))
  have HR6:=Lib.hid (HR5.out.step hb6)
  have HX6:=Lib.hid (HX5.out.step hb6)
  clear hb6
  have x0:w6.cell? ⟨w2.heap.size,0,none⟩=some (.int .i64 OP):=HX6.out.cell 0
  have x1:w6.cell? ⟨w2.heap.size,1,none⟩=some (.int .i64 NA):=HX6.out.cell 1
  have r0:w6.cell? ⟨w.heap.size,0,none⟩=some (.int .i64 0):=HR6.out.cell 0
  have r1:w6.cell? ⟨w.heap.size,1,none⟩=some (.int .i64 0):=HR6.out.cell 1
  have f0:=HR6.out.frozen 0
  have f1:=HR6.out.frozen 1
  cases hok:gy OP NA
  case false=>
   have HF:Hid (R=(0,0,false)):=by show _=_;rw[aem.out,zn,if_neg (by rw[hok];simp)]
   clear hok
   go_wp2_with fail
   have bN:Blk ((w6.setCell ⟨w.heap.size,0,none⟩ (.int .i64 0)).setCell ⟨w.heap.size,1,none⟩ (.int .i64 0)) w.heap.size 54 #[.int .i64 0,.int .i64 0]:=by
    have:=(HR6.out.dh 0 (.int .i64 0)).dh 1 (.int .i64 0)
    simpa using this
   have n0:=bN.cell 0
   have n1:=bN.cell 1
   refine bodyPost_ret (v:=.tuple #[.agg #[.int .i64 0,.int .i64 0],.bool false]) (by simp[results,Tryz.results25,go_sem,n0,n1]) rfl (HQF.out _ _ ⟨by rw[HF.out],?_⟩)
   exact(HB6.out.setCell (p:=⟨w.heap.size,0,none⟩) (Nat.le_refl _) _).setCell (p:=⟨w.heap.size,1,none⟩) (Nat.le_refl _) _
  go_wp2_with fail
  refine(adb OP NA asj hok _).mono ?_
  rintro e w7 ⟨rfl,hb7⟩
  have HB7:=Lib.hid (HB6.out.trans (hb7.mono HB6.out.size))
  have HR7:=Lib.hid (HR6.out.step hb7)
  have HX7:=Lib.hid (HX6.out.step hb7)
  clear hb7 x0 x1 r0 r1 f0 f1
  have x0:w7.cell? ⟨w2.heap.size,0,none⟩=some (.int .i64 OP):=HX7.out.cell 0
  have x1:w7.cell? ⟨w2.heap.size,1,none⟩=some (.int .i64 NA):=HX7.out.cell 1
  have r0:w7.cell? ⟨w.heap.size,0,none⟩=some (.int .i64 0):=HR7.out.cell 0
  have r1:w7.cell? ⟨w.heap.size,1,none⟩=some (.int .i64 0):=HR7.out.cell 1
  have f0:=HR7.out.frozen 0
  have f1:=HR7.out.frozen 1
  by_cases heq:og OP NA=s
  case pos=>
   have HF:Hid (R=(OP,NA,true)):=by show _=_;rw[aem.out,zn,if_pos ⟨hok,heq⟩]
   rw[heq]
   clear hok heq
   go_wp2_with fail
   have bN:Blk ((w7.setCell ⟨w.heap.size,0,none⟩ (.int .i64 OP)).setCell ⟨w.heap.size,1,none⟩ (.int .i64 NA)) w.heap.size 54 #[.int .i64 OP,.int .i64 NA]:=by
    have:=(HR7.out.dh 0 (.int .i64 OP)).dh 1 (.int .i64 NA)
    simpa using this
   have n0:=bN.cell 0
   have n1:=bN.cell 1
   refine bodyPost_ret (v:=.tuple #[.agg #[.int .i64 OP,.int .i64 NA],.bool true]) (by simp[results,Tryz.results25,go_sem,n0,n1]) rfl (HQF.out _ _ ⟨by rw[HF.out],?_⟩)
   exact(HB7.out.setCell (p:=⟨w.heap.size,0,none⟩) (Nat.le_refl _) _).setCell (p:=⟨w.heap.size,1,none⟩) (Nat.le_refl _) _
  have HF:Hid (R=(0,0,false)):=by show _=_;rw[aem.out,zn,if_neg (fun h=>heq h.2)]
  have hne:=aa4 heq
  clear hok heq
  go_wp2_with fail
  have bN:Blk ((w7.setCell ⟨w.heap.size,0,none⟩ (.int .i64 0)).setCell ⟨w.heap.size,1,none⟩ (.int .i64 0)) w.heap.size 54 #[.int .i64 0,.int .i64 0]:=by
   have:=(HR7.out.dh 0 (.int .i64 0)).dh 1 (.int .i64 0)
   simpa using this
  have n0:=bN.cell 0
  have n1:=bN.cell 1
  refine bodyPost_ret (v:=.tuple #[.agg #[.int .i64 0,.int .i64 0],.bool false]) (by simp[results,Tryz.results25,go_sem,n0,n1]) rfl (HQF.out _ _ ⟨by rw[HF.out],?_⟩)
  exact(HB7.out.setCell (p:=⟨w.heap.size,0,none⟩) (Nat.le_refl _) _).setCell (p:=⟨w.heap.size,1,none⟩) (Nat.le_refl _) _
end Go.Proofs.YtlpcocfadppkhaaGreatDoor
