/-
  The bytes of a string, as numbers. No program in sight. (and 3 more texts)
-/
import Derived.Test.YtfpannkadjdnaaaGreatDoorTa01
import Derived.Laws.BytesArg
import Derived.Lib.RabinKarpLaws
import Derived.Lib.RuneBytes
import Derived.Lib.ValidLaws
import Derived.Lib.TrimUEq
import Derived.Laws.BitsAllLaws
import Derived.Laws.BitsLemmas
import Derived.Laws.Bits128
import Derived.Laws.Shifts
import Derived.Test.YtfpannkadjdnaaaGreatDoorTa11
namespace Go.Proofs.YtfpannkadjdnaaaGreatDoor
open Go.RowKit
set_option linter.all false
def byt (s:ByteArray):List Int:=s.data.toList.map fun b=>(b.toNat:Int)
@[simp] theorem ak7 (s:ByteArray):(byt s).length=s.size:=by simp[byt]
theorem arl {s:ByteArray} {k:Nat} (h:k < s.size):(byt s)[k]?=some ((s[k].toNat:Nat):Int):=by
 rw[byt,List.getElem?_map,Go.Proofs.byte_at s k h];rfl
theorem amj (s:ByteArray):strOfNums (byt s)=s:=by
 apply ByteArray.ext;simp only[strOfNums,byt,List.map_map]
 have:((fun n:Int=>UInt8.ofNat n.toNat) ∘ fun b:UInt8=>(b.toNat:Int))=id:=by
  funext b
  simp
 rw[this];simp
theorem axq {l:List Int} (h:∀ x ∈ l,0≤x∧x≤255):byt (strOfNums l)=l:=by
 induction l with
 | nil=>rfl
 | cons x l ih=>
  have h1:=h x (by simp);have ih:=ih fun y hy=>h y (by simp[hy]);simp only[byt,strOfNums,List.map_cons,List.map_map] at ih ⊢;rw[ih];congr 1;simp;omega
theorem bo5 {s t:ByteArray} (h:byt s=byt t):s=t:=by rw[← amj s,← amj t,h]
theorem asb (s:ByteArray) (m:Nat):byt (s.extract 0 m)=(byt s).take m:=by
 simp[byt,List.map_take]
theorem ay6 {s:ByteArray} {l:List Int} {m:Nat} (hl:∀ x ∈ l,0≤x∧x≤255):strOfNums l=s.extract 0 m↔l=(byt s).take m:=by
 constructor
 ·intro h
  rw[← asb,← h,axq hl]
 ·intro h
  rw[h,← asb,amj]
theorem a5d (s:ByteArray) (a b:Nat):byt (s.extract a b)=((byt s).take b).drop a:=by
 simp only[byt,ByteArray.data_extract,Array.toList_extract,List.extract_eq_take_drop,List.map_drop,List.map_take];rw[List.drop_take]
theorem bdf (s:ByteArray) (a:Nat):byt (s.extract a s.size)=(byt s).drop a:=by
 rw[a5d,List.take_of_length_le (by simp)]
theorem bo6:byt ⟨#[]⟩=[]:=rfl
def ad7 (n:Int):Bool:=inB n 0 55295 ||inB n 57344 1114111
theorem ajx {n:Int} (h:ad7 n=true):(0≤n∧n≤55295)∨(57344≤n∧n≤1114111):=by
 simp only[ad7,Bool.or_eq_true,abm] at h;exact h
theorem an2 {n:Int} (h:(0≤n∧n≤55295)∨(57344≤n∧n≤1114111)):ad7 n=true:=by
 simp only[ad7,Bool.or_eq_true,abm];exact h
def encs (xs:List Int):List Int:=xs.flatMap Lib.encodeRuneZ
theorem ama (x:Int) (xs:List Int):encs (x ::xs)=Lib.encodeRuneZ x ++encs xs:=rfl
theorem ay7 (x:Int):∀ b ∈ Lib.encodeRuneZ x,0≤b∧b≤255:=fun b hb=>by
 have:=Lib.encodeRuneZ_byte x b hb;omega
def adz (b:Int):Nat:=if 240≤b then 4 else if 224≤b then 3 else if 192≤b then 2 else 1
def agk (b:Int):Int:=if 240≤b then b - 240 else if 224≤b then b - 224 else if 192≤b then b - 192 else b
def vvl (a:Int):List Int→Int
 | []=>a
 | c ::r=>vvl (a * 64+c % 64) r
def afl (l:List Int) (b:Int):Int:=vvl (agk b) ((l.take (adz b)).drop 1)
def pt1 (l:List Int):Option (Int×Nat):=
 match l with
 | []=>none
 | b ::r=>if adz b≤(b ::r).length∧ad7 (afl (b ::r) b)=true∧Lib.encodeRuneZ (afl (b ::r) b)=(b ::r).take (adz b)then some (afl (b ::r) b,adz b)else none
theorem anb {l:List Int} {n:Int} {m:Nat} (h:pt1 l=some (n,m)):ad7 n=true∧m=(Lib.encodeRuneZ n).length∧m≤l.length∧l=Lib.encodeRuneZ n ++l.drop m:=by
 cases l with
 | nil=>cases h
 | cons b r=>
  rw[pt1] at h;split at h
  ·rename_i hc
   obtain⟨h1,h2,h3⟩:=hc;injection h with h
   injection h with h4 h5
   subst h4 h5;refine⟨h2,?_,h1,?_⟩
   ·rw[h3,List.length_take];omega
   ·rw[h3,List.take_append_drop]
  ·cases h
theorem aw2 {x:Int} (h:ad7 x=true):
  (0≤x∧x≤127∧Lib.encodeRuneZ x=[x])∨(128≤x∧x≤2047∧Lib.encodeRuneZ x=[192+x / 64,128+x % 64])∨
  (2048≤x∧x≤65535∧Lib.encodeRuneZ x=[224+x / 4096,128+x / 64 % 64,128+x % 64])∨
  (65536≤x∧x≤1114111∧Lib.encodeRuneZ x=[240+x / 262144,128+x / 4096 % 64,128+x / 64 % 64,128+x % 64]):=by
 have:=ajx h;rcases(show x≤127∨(128≤x∧x≤2047)∨(2048≤x∧x≤65535)∨65536≤x by omega)with h1|h1|h1|h1
 ·exact .inl ⟨by omega,h1,Lib.encodeRuneZ_one (by omega) h1⟩
 ·exact .inr (.inl ⟨h1.1,h1.2,Lib.encodeRuneZ_two h1.1 h1.2⟩)
 ·exact .inr (.inr (.inl ⟨h1.1,h1.2,Lib.encodeRuneZ_three (by omega)⟩))
 ·exact .inr (.inr (.inr ⟨h1,by omega,Lib.encodeRuneZ_four h1 (by omega)⟩))
theorem avx {x:Int} (h:ad7 x=true) (r:List Int):pt1 (Lib.encodeRuneZ x ++r)=some (x,(Lib.encodeRuneZ x).length):=by
 rcases aw2 h with ⟨h0,h1,e⟩|⟨h0,h1,e⟩|⟨h0,h1,e⟩|⟨h0,h1,e⟩
 ·have hm:adz x=1:=by unfold adz;split<;>(try split)<;>(try split)<;>omega
  have hh:agk x=x:=by unfold agk;split<;>(try split)<;>(try split)<;>omega
  have hv:afl (x ::r) x=x:=by rw[afl,hm,hh];simp[vvl]
  rw[e];show pt1 (x ::r)=some (x,1);rw[pt1,hv,hm,if_pos ⟨by simp,h,by rw[e];simp⟩]
 ·obtain⟨b,hb⟩:∃ b,b=192+x / 64:=⟨_,rfl⟩
  have hm:adz b=2:=by unfold adz;split<;>(try split)<;>(try split)<;>omega
  have hh:agk b=b - 192:=by unfold agk;split<;>(try split)<;>(try split)<;>omega
  have hv:afl (b ::(128+x % 64) ::r) b=x:=by rw[afl,hm,hh];simp[vvl];omega
  rw[e];simp only[List.cons_append,List.nil_append];rw[← hb];show(if _∧_ then _ else _)=_;rw[hv,hm,if_pos ⟨by simp,h,by rw[e,hb];simp⟩];rfl
 ·obtain⟨b,hb⟩:∃ b,b=224+x / 4096:=⟨_,rfl⟩
  have hm:adz b=3:=by unfold adz;split<;>(try split)<;>(try split)<;>omega
  have hh:agk b=b - 224:=by unfold agk;split<;>(try split)<;>(try split)<;>omega
  have hv:afl (b ::(128+x / 64 % 64) ::(128+x % 64) ::r) b=x:=by rw[afl,hm,hh];simp[vvl];omega
  rw[e];simp only[List.cons_append,List.nil_append];rw[← hb];show(if _∧_ then _ else _)=_;rw[hv,hm,if_pos ⟨by simp,h,by rw[e,hb];simp⟩];rfl
 ·obtain⟨b,hb⟩:∃ b,b=240+x / 262144:=⟨_,rfl⟩
  have hm:adz b=4:=by unfold adz;split<;>(try split)<;>(try split)<;>omega
  have hh:agk b=b - 240:=by unfold agk;split<;>(try split)<;>(try split)<;>omega
  have hv:afl (b ::(128+x / 4096 % 64) ::(128+x / 64 % 64) ::(128+x % 64) ::r) b=x:=by rw[afl,hm,hh];simp[vvl];omega
  rw[e];simp only[List.cons_append,List.nil_append];rw[← hb];show(if _∧_ then _ else _)=_;rw[hv,hm,if_pos ⟨by simp,h,by rw[e,hb];simp⟩];rfl
def aoi:Nat→List Int→Option (List Int)
 | _,[]=>some []
 | 0,_ ::_=>none
 | f+1,b ::r=>match pt1 (b ::r)with
  | none=>none
  | some (n,m)=>(aoi f ((b ::r).drop m)).map (n ::·)
def agd (l:List Int):Option (List Int):=aoi l.length l
def Txt (l xs:List Int):Prop:=(∀ x ∈ xs,ad7 x=true)∧l=encs xs
theorem ay8:∀ (f:Nat) {l xs:List Int},aoi f l=some xs→Txt l xs
 | f,[],xs,h=>by
  have:xs=[]:=by cases f<;>(rw[aoi] at h;injection h with h;exact h.symm)
  subst this;exact⟨by simp,rfl⟩
 | 0,b ::r,xs,h=>by rw[aoi] at h;cases h
 | f+1,b ::r,xs,h=>by
  rw[aoi] at h;cases hp:pt1 (b ::r)with
  | none=>rw[hp] at h;cases h
  | some p=>
   obtain⟨n,m⟩:=p;rw[hp] at h;obtain⟨ys,hy,rfl⟩:=Option.map_eq_some_iff.1 h;obtain⟨h1,h2,h3,h4⟩:=anb hp;obtain⟨k1,k2⟩:=ay8 f hy;refine⟨fun x hx=>?_,?_⟩
   ·rcases List.mem_cons.1 hx with rfl|hx
    ·exact h1
    ·exact k1 x hx
   ·rw[ama,← k2];exact h4
theorem bsw (x:Int):∃ b r,Lib.encodeRuneZ x=b ::r:=by
 have:=(Lib.encodeRuneZ_length x).1;cases h:Lib.encodeRuneZ x with
 | nil=>rw[h] at this;simp at this
 | cons b r=>exact⟨b,r,rfl⟩
theorem a1g:∀ (xs:List Int) (f:Nat),(∀ x ∈ xs,ad7 x=true)→(encs xs).length≤f→aoi f (encs xs)=some xs
 | [],f,_,_=>by cases f<;>rfl
 | x ::xs,f,h,hf=>by
  have h1:=h x (by simp);have hl:=(Lib.encodeRuneZ_length x).1;have hp:=avx h1 (encs xs);obtain⟨b,r,hb⟩:=bsw x;rw[ama] at hf ⊢;rw[List.length_append] at hf;obtain⟨f',rfl⟩:∃ f',f=f'+1:=⟨f - 1,by omega⟩;have hd:(Lib.encodeRuneZ x ++encs xs).drop (Lib.encodeRuneZ x).length=encs xs:=by simp
  rw[hb,List.cons_append] at hp hd ⊢;rw[aoi,hp];simp only;rw[hd,a1g xs f' (fun y hy=>h y (by simp[hy])) (by omega)];rfl
theorem apd {l xs:List Int}:agd l=some xs↔Txt l xs:=by
 constructor
 ·exact ay8 _
 ·rintro⟨h1,rfl⟩
  exact a1g xs _ h1 (zql _)
theorem bdg:agd []=some []:=rfl
theorem aow {b:Int} {r:List Int} (h:pt1 (b ::r)=none):agd (b ::r)=none:=by
 show aoi (r.length+1) (b ::r)=none;rw[aoi,h]
theorem aw3 {l:List Int} {n:Int} {m:Nat} (h:pt1 l=some (n,m)):agd l=(agd (l.drop m)).map (n ::·):=by
 obtain⟨h1,h2,h3,h4⟩:=anb h;cases hq:agd (l.drop m)with
 | some xs=>
  obtain⟨k1,k2⟩:=apd.1 hq;refine apd.2 ⟨fun x hx=>?_,?_⟩
  ·rcases List.mem_cons.1 hx with rfl|hx
   ·exact h1
   ·exact k1 x hx
  ·rw[ama,← k2];exact h4
 | none=>
  cases hl:agd l with
  | none=>rfl
  | some ys=>
   obtain⟨k1,k2⟩:=apd.1 hl;cases ys with
   | nil=>
    have:=(Lib.encodeRuneZ_length n).1;rw[k2] at h3;simp[encs] at h3;omega
   | cons y ys=>
    have hp:=avx (k1 y (by simp)) (encs ys);rw[← ama,← k2,h] at hp;injection hp with hp
    injection hp with e1 e2
    subst e1;have:l.drop m=encs ys:=by rw[k2,ama,e2];simp
    rw[apd.2 ⟨fun x hx=>k1 x (by simp[hx]),this⟩] at hq;cases hq
theorem byb {b c d e:Int} {r:List Int} (hc:0≤c∧c≤255) (hd:0≤d∧d≤255) (he:0≤e∧e≤255) (hb:0≤b∧b≤255) (n:Nat) (l:List Int) (hl:l=b ::r) (hn:l.length=n)
  (h1:1 < n→l[1]?=some c) (h2:2 < n→l[2]?=some d) (h3:3 < n→l[3]?=some e):
  (pt1 l=none∧Lib.decodeN n b.toNat c.toNat d.toNat e.toNat=(65533,1))∨(∃ x m,pt1 l=some (x,m)∧Lib.decodeN n b.toNat c.toNat d.toNat e.toNat=(x.toNat,m)∧¬ (x=65533∧m=1)):=by
 cases hp:pt1 l with
 | some p=>
  obtain⟨x,m⟩:=p;obtain⟨k1,k2,k3,k4⟩:=anb hp;refine .inr ⟨x,m,rfl,?_⟩;rcases aw2 k1 with ⟨g0,g1,g⟩|⟨g0,g1,g⟩|⟨g0,g1,g⟩|⟨g0,g1,g⟩
  ·rw[g] at k2 k4
   simp only[List.length_cons,List.length_nil,Nat.zero_add] at k2;subst k2;rw[hl] at k4;simp only[List.cons_append,List.cons.injEq] at k4;obtain⟨rfl,_⟩:=k4;unfold Lib.decodeN;rw[if_pos (by omega)];exact⟨rfl,by omega⟩
  ·rw[g] at k2 k4
   simp only[List.length_cons,List.length_nil,Nat.zero_add] at k2;subst k2;have e1:=h1 (by omega);rw[k4] at e1;rw[hl] at k4;simp only[List.cons_append,List.cons.injEq,List.getElem?_cons_succ,List.getElem?_cons_zero,Option.some.injEq] at k4 e1;obtain⟨k5,_⟩:=k4;unfold Lib.decodeN;rw[if_neg (by omega),if_pos (by omega),if_pos (by omega)];exact⟨Prod.ext (by simp only;omega) rfl,by omega⟩
  ·rw[g] at k2 k4
   simp only[List.length_cons,List.length_nil,Nat.zero_add] at k2;subst k2;have e1:=h1 (by omega);have e2:=h2 (by omega);rw[k4] at e1 e2;rw[hl] at k4;simp only[List.cons_append,List.cons.injEq,List.getElem?_cons_succ,List.getElem?_cons_zero,Option.some.injEq] at k4 e1 e2;obtain⟨k5,_⟩:=k4;have kr:=ajx k1;unfold Lib.decodeN;rw[if_neg (by omega),if_neg (by omega),if_pos (by omega),if_pos (by omega)];exact⟨Prod.ext (by simp only;omega) rfl,by omega⟩
  ·rw[g] at k2 k4
   simp only[List.length_cons,List.length_nil,Nat.zero_add] at k2;subst k2;have e1:=h1 (by omega);have e2:=h2 (by omega);have e3:=h3 (by omega);rw[k4] at e1 e2 e3;rw[hl] at k4;simp only[List.cons_append,List.cons.injEq,List.getElem?_cons_succ,List.getElem?_cons_zero,Option.some.injEq] at k4 e1 e2 e3;obtain⟨k5,_⟩:=k4;have kr:=ajx k1;unfold Lib.decodeN;rw[if_neg (by omega),if_neg (by omega),if_neg (by omega),if_pos (by omega),if_pos (by omega)];exact⟨Prod.ext (by simp only;omega) rfl,by omega⟩
 | none=>
  refine .inl ⟨rfl,?_⟩;have hno:∀ x,ad7 x=true→∀ t,l≠Lib.encodeRuneZ x ++t:=fun x hx t e=>by rw[e,avx hx t] at hp;cases hp
  unfold Lib.decodeN;split
  ·rename_i hb1
   exact absurd (by rw[hl,Lib.encodeRuneZ_one (by omega) (by omega)];rfl) (hno b (an2 (by omega)) r)
  split
  ·split
   ·rename_i hb1 hb2 hb3
    have e1:=h1 hb2.2.1
    obtain⟨t,ht⟩:∃ t,l=b ::c ::t:=by
     rw[hl] at e1 ⊢
     match r,e1 with
     | y ::t,e1=>simp at e1;exact⟨t,by rw[e1]⟩
    refine absurd ?_ (hno (b % 32 * 64+c % 64) (an2 (by omega)) t);rw[ht,Lib.encodeRuneZ_two (by omega) (by omega)];simp only[List.cons_append,List.nil_append,List.cons.injEq,and_true];omega
   ·rfl
  split
  ·split
   ·rename_i hb1 _ hb2 hb3
    have e1:=h1 hb2.2.1.1;have e2:=h2 hb2.2.2.1
    obtain⟨t,ht⟩:∃ t,l=b ::c ::d ::t:=by
     rw[hl] at e1 e2 ⊢
     match r,e1,e2 with
     | y ::z ::t,e1,e2=>simp at e1 e2;exact⟨t,by rw[e1,e2]⟩
     | [y],e1,e2=>simp at e2
    refine absurd ?_ (hno (b % 16 * 4096+c % 64 * 64+d % 64) (an2 (by omega)) t);rw[ht,Lib.encodeRuneZ_three (by omega)];simp only[List.cons_append,List.nil_append,List.cons.injEq,and_true];omega
   ·rfl
  split
  ·split
   ·rename_i hb1 _ _ hb2 hb3
    have e1:=h1 hb2.2.1.1;have e2:=h2 hb2.2.2.1.1;have e3:=h3 hb2.2.2.2.1
    obtain⟨t,ht⟩:∃ t,l=b ::c ::d ::e ::t:=by
     rw[hl] at e1 e2 e3 ⊢
     match r,e1,e2,e3 with
     | y ::z ::u ::t,e1,e2,e3=>simp at e1 e2 e3;exact⟨t,by rw[e1,e2,e3]⟩
     | [y,z],e1,e2,e3=>simp at e3
     | [y],e1,e2,e3=>simp at e2
    refine absurd ?_ (hno (b % 8 * 262144+c % 64 * 4096+d % 64 * 64+e % 64) (an2 (by omega)) t);rw[ht,Lib.encodeRuneZ_four (by omega) (by omega)];simp only[List.cons_append,List.nil_append,List.cons.injEq,and_true];omega
   ·rfl
  ·rfl
def ints (l:List UInt8):List Int:=l.map fun b=>(b.toNat:Int)
theorem byc (l:List UInt8) (hne:l≠[]):(pt1 (ints l)=none∧Lib.decodeL l=(65533,1))∨(∃ x m,pt1 (ints l)=some (x,m)∧Lib.decodeL l=(x.toNat,m)∧¬ (x=65533∧m=1)):=by
 cases l with
 | nil=>exact absurd rfl hne
 | cons b r=>
  have hu:∀ k,0≤((((b ::r).getD k 0).toNat:Nat):Int)∧((((b ::r).getD k 0).toNat:Nat):Int)≤255:=fun k=>by have:=((b ::r).getD k 0).toNat_lt;omega
  have hk:∀ k,k < (b ::r).length→(ints (b ::r))[k]?=some ((((b ::r).getD k 0).toNat:Nat):Int):=fun k h=>by
   simp only[ints,List.getElem?_map,List.getElem?_eq_getElem h,Option.map_some,List.getD_eq_getElem?_getD,Option.getD_some]
  have:=byb (b:=((((b ::r).getD 0 0).toNat:Nat):Int)) (r:=ints r) (hu 1) (hu 2) (hu 3) (hu 0) (b ::r).length (ints (b ::r)) (by simp[ints]) (by simp[ints]) (hk 1) (hk 2) (hk 3);rw[Lib.decodeL_N];simpa using this
theorem auo:∀ (k:Nat) (l:List UInt8),l.length≤k→Lib.validD l=(agd (ints l)).isSome
 | _,[],_=>rfl
 | 0,b ::r,h=>by simp at h
 | k+1,b ::r,h=>by
  rw[Lib.validD_step _ (by simp)];rcases byc (b ::r) (by simp)with ⟨h1,h2⟩|⟨x,m,h1,h2,h3⟩
  ·rw[h2,if_pos ⟨rfl,rfl⟩]
   rw[show ints (b ::r)=(b.toNat:Int) ::ints r from rfl] at h1 ⊢;rw[aow h1];rfl
  ·obtain⟨g1,g2,g3,g4⟩:=anb h1
   have:=ajx g1;have hm:=(Lib.encodeRuneZ_length x).1;rw[h2,if_neg (by intro e;apply h3;simp only at e;omega),auo k _ (by simp at h ⊢;omega),aw3 h1];have:ints ((b ::r).drop m)=(ints (b ::r)).drop m:=by simp[ints,List.map_drop]
   rw[this];cases agd ((ints (b ::r)).drop m)<;>rfl
theorem a5e (s:ByteArray):Lib.validD s.data.toList=(agd (byt s)).isSome:=auo _ _ (zql _)
theorem aj1 (b:Int):(BitVec.ofInt 64 b).toNat=(b % 18446744073709551616).toNat:=by
 rw[BitVec.toNat_ofInt];rfl
theorem a5f {n:Int} (h0:-9223372036854775808≤n) (h1:n≤9223372036854775807):wrap64 n=n:=by rw[wrap64];omega
theorem ape (n:Int):IntKind.i64.wrap n=wrap64 n:=by rw[IntKind.wrap_i64,wrap64]
def as1 (s:ByteArray):Bool:=decide (s.size≤24) && (agd (byt s)).isSome
def a5g (kind:Int) (nl:Nat):Int:=
 if kind=2∨kind=13∨kind=14 then 1 else if isNum kind then zx kind else if kind=17∨kind=18 then (nl:Int) - 1
 else if kind=19 then 2 ^ nl - 1 else if kind=20∨kind=21∨kind=22∨kind=23 then 2147483647 else 0
def adu (kind:Int) (nl:Nat) (n:Int):Bool:=if kind=10 then ad7 n else inB n (zu kind) (a5g kind nl)
def caseT (kind num:Int) (kids:List Ty):Option Ty:=
 if kind=13 then (if num=0 then some ⟨1,⟨#[]⟩,[],[]⟩else if 0≤num - 1 then kids[(num - 1).toNat]? else none)
 else if 0≤num then kids[num.toNat]? else none
def ag9:Option Ty→List Ty
 | some t=>if t.kind=1 then [] else [t]
 | none=>[]
def og (kind num:Int) (nv:Nat) (kids:List Ty):List Ty:=
 if kind=12 then (List.replicate (min nv 8) kids).flatten
 else if kind=15∨kind=16 then kids
 else if kind=13∨kind=14∨kind=17 then ag9 (caseT kind num kids)
 else []
def ah1 (rec:Val→Ty→Bool) (vs:List Val) (ts:List Ty) (k:Nat):Bool:=match vs[k]?,ts[k]? with
 | some v,some t=>rec v t
 | _,_=>true
def xw (rec:Val→Ty→Bool) (vs:List Val) (ts:List Ty):Bool:=decide (ts.length=vs.length) && (List.range vs.length).all (ah1 rec vs ts)
def ay9 (rec:Val→Ty→Bool) (kind:Int) (nl:Nat) (kids:List Ty) (vn:Int) (vt:ByteArray) (vks:List Val):Bool:=
 adu kind nl vn && ((decide (vt.size=0) ||decide (kind=11)) && (as1 vt && xw rec vks (og kind vn vks.length kids)))
def uq:Nat→Val→Ty→Bool
 | 0,_,_=>false
 | n+1,⟨vk,vn,vt,vks⟩,⟨tk,tn,tl,tks⟩=>decide (vk=tk) && ay9 (uq n) tk tl.length tks vn vt vks
def ael:Val:=⟨0,0,⟨#[]⟩,[]⟩
def amz (num:Int) (k:Nat):Int:=num / 2 ^ k % 2
def aff (al bl:List ByteArray) (k:Nat):Nat:=match al[k]? with
 | some l=>(aav (strEq l) bl).toNat
 | none=>0
def ae4 (al bl:List ByteArray) (num:Int):Nat→Nat
 | 0=>0
 | k+1=>ae4 al bl num k+(if amz num k=1 then 2 ^ aff al bl k else 0)
def a2i (al bl:List ByteArray) (num:Int):Int:=match al[num.toNat]? with
 | some l=>aav (strEq l) bl
 | none=>0
def aah (kind:Int) (al bl:List ByteArray) (num:Int):Int:=
 if kind=17∨kind=18 then a2i al bl num else if kind=19 then (ae4 al bl num al.length:Nat)else num
def ae0 (rec:Ty→Ty→Val→Val) (vs:List Val) (ss ts:List Ty) (k:Nat):Val:=match vs[k]?,ss[k]?,ts[k]? with
 | some v,some s,some t=>rec s t v
 | _,_,_=>ael
def recAt (rec:Ty→Ty→Val→Val) (al:List ByteArray) (ak:List Ty) (bl:List ByteArray) (bk:List Ty) (vs:List Val) (k:Nat):Val:=match bl[k]?,bk[k]? with
 | some l,some t=>(match vs[(aav (strEq l) al).toNat]?,ak[(aav (strEq l) al).toNat]? with
  | some v,some s=>rec s t v
  | _,_=>ael)
 | _,_=>ael
def aik (rec:Ty→Ty→Val→Val) (ak:Int) (al:List ByteArray) (aks:List Ty) (bk:Int) (bl:List ByteArray) (bks:List Ty) (vn:Int) (vt:ByteArray) (vks:List Val):Val:=
 if ak=16 then ⟨bk,vn,vt,(List.range bl.length).map (recAt rec al aks bl bks vks)⟩
 else ⟨bk,aah ak al bl vn,vt,(List.range vks.length).map (ae0 rec vks (og ak vn vks.length aks) (og bk (aah ak al bl vn) vks.length bks))⟩
def ru:Nat→Ty→Ty→Val→Val
 | 0,_,_,v=>v
 | n+1,⟨ak,an,al,aks⟩,⟨bk,bn,bl,bks⟩,⟨vk,vn,vt,vks⟩=>aik (ru n) ak al aks bk bl bks vn vt vks
def agr (n:Nat) (a b:Ty):Prop:=aew n a b ⟨#[]⟩=none
theorem pre_none {p:ByteArray} {r:Why}:apb p r=none↔r=none:=by cases r<;>simp[apb]
theorem arn {n:Nat} {a b:Ty} (p:ByteArray):aew n a b p=none↔agr n a b:=by
 have h:=ay5 n a b p ⟨#[]⟩;rw[show p ++(⟨#[]⟩:ByteArray)=p by simp[ByteArray.ext_iff]] at h;rw[h,pre_none];exact Iff.rfl
theorem ak8 {f:Nat→Why}:∀ {n:Nat},ab3 f n=none→∀ k,k < n→f k=none
 | 0,_,k,hk=>absurd hk (by omega)
 | n+1,h,k,hk=>by
  rw[ab3] at h;cases hf:ab3 f n with
  | some r=>rw[hf] at h;cases h
  | none=>
   rw[hf] at h;by_cases e:k=n
   ·subst e;exact h
   ·exact ak8 hf k (by omega)
section
variable {n:Nat} {ak bk:Int} {an bn:ByteArray} {al bl:List ByteArray} {aks bks:List Ty}
theorem ai8 (h:agr (n+1) ⟨ak,an,al,aks⟩ ⟨bk,bn,bl,bks⟩):(isNum ak=true∧isNum bk=true)∨(ak=bk∧isNum ak=false∧abj (aew n) ak an al aks bn bl bks ⟨#[]⟩=none):=by
 rw[agr,aew] at h;cases h1:isNum ak
 ·right
  rw[h1,Bool.false_and,if_neg (by decide)] at h;by_cases e:ak=bk
  ·rw[if_pos e] at h;exact⟨e,rfl,h⟩
  ·rw[if_neg e] at h;cases h
 ·cases h2:isNum bk
  ·right
   rw[h1,h2,Bool.true_and,if_neg (by decide)] at h;by_cases e:ak=bk
   ·rw[← e,h1] at h2;cases h2
   ·rw[if_neg e] at h;cases h
  ·exact .inl ⟨rfl,rfl⟩
theorem apf {p:ByteArray} {k:Nat} (h:ahu (aew n) p aks bks k=none) {s t:Ty} (hs:aks[k]?=some s) (ht:bks[k]?=some t):agr n s t:=by
 rw[ajm hs ht] at h;exact(arn _).1 h
theorem bsx (h:abj (aew n) 12 an al aks bn bl bks ⟨#[]⟩=none) {s t:Ty} (hs:aks[0]?=some s) (ht:bks[0]?=some t):agr n s t:=apf h hs ht
theorem bsy (h:abj (aew n) 13 an al aks bn bl bks ⟨#[]⟩=none) {s t:Ty} (hs:aks[0]?=some s) (ht:bks[0]?=some t):agr n s t:=apf h hs ht
theorem bsz (h:abj (aew n) 14 an al aks bn bl bks ⟨#[]⟩=none) {k:Nat} (hk:k < 2) {s t:Ty} (hs:aks[k]?=some s) (ht:bks[k]?=some t):agr n s t:=by
 rw[aov] at h;cases h0:ahu (aew n) (⟨#[]⟩ ++⟨#[46,111,107]⟩) aks bks 0 with
 | some r=>rw[h0] at h;cases h
 | none=>
  rw[h0] at h;have h1:ahu (aew n) (⟨#[]⟩ ++⟨#[46,101,114,114]⟩) aks bks 1=none:=h
  match k,hk with
  | 0,_=>exact apf h0 hs ht
  | 1,_=>exact apf h1 hs ht
theorem bs0 (h:abj (aew n) 15 an al aks bn bl bks ⟨#[]⟩=none):aks.length=bks.length∧∀ (k:Nat) (s t:Ty),aks[k]?=some s→bks[k]?=some t→agr n s t:=by
 rw[avu,ami] at h;by_cases e:aks.length=bks.length
 ·rw[if_pos e] at h
  refine⟨e,fun k s t hs ht=>?_⟩;have h1:=ak8 h k (List.getElem?_eq_some_iff.1 hs).1;rw[avt hs ht] at h1;exact(arn _).1 h1
 ·rw[if_neg e] at h;cases h
theorem a5h {l:ByteArray} {ls:List ByteArray} (h:¬ aav (strEq l) ls < 0):∃ j:Nat,aav (strEq l) ls=(j:Int)∧j < ls.length:=ark (by omega)
theorem bs1 (h:abj (aew n) 16 an al aks bn bl bks ⟨#[]⟩=none) (hk:bks.length=bl.length) (hka:aks.length=al.length):∀ (k:Nat) (l:ByteArray),bl[k]?=some l→
  ∃ (i:Nat) (s t:Ty),aav (strEq l) al=(i:Int)∧i < al.length∧aks[i]?=some s∧bks[k]?=some t∧agr n s t:=fun k l hl=>by
 rw[avv,agy] at h;have hlt:=(List.getElem?_eq_some_iff.1 hl).1;have h1:=ak8 h k hlt;by_cases hn:aav (strEq l) al < 0
 ·rw[akr hl hn] at h1;cases h1
 ·obtain⟨i,hi,hil⟩:=a5h hn
  have hs:aks[i]?=some aks[i]:=List.getElem?_eq_getElem (by omega);have ht:bks[k]?=some bks[k]:=List.getElem?_eq_getElem (by omega);rw[ana hl hi ht hs] at h1;exact⟨i,_,_,hi,hil,hs,ht,(arn _).1 h1⟩
theorem avy {c:Int} (hc:c=17∨c=18∨c=19) (h:abj (aew n) c an al aks bn bl bks ⟨#[]⟩=none):∀ (k:Nat) (l:ByteArray),al[k]?=some l→∃ i:Nat,aav (strEq l) bl=(i:Int)∧i < bl.length:=fun k l hl=>by
 rw[alp hc,agy] at h;have h1:=ak8 h k (List.getElem?_eq_some_iff.1 hl).1;by_cases hn:aav (strEq l) bl < 0
 ·rw[akr hl hn] at h1;cases h1
 ·exact a5h hn
theorem bs2 (h:abj (aew n) 17 an al aks bn bl bks ⟨#[]⟩=none) {k i:Nat} {l:ByteArray} {s t:Ty} (hl:al[k]?=some l) (hi:aav (strEq l) bl=(i:Int)) (hs:aks[k]?=some s) (ht:bks[i]?=some t):agr n s t:=by
 rw[alp (.inl rfl),agy] at h;have h1:=ak8 h k (List.getElem?_eq_some_iff.1 hl).1;rw[ana hl hi hs ht] at h1;exact(arn _).1 h1
theorem bdh {s t:Ty} (h:agr (n+1) s t):s.kind=1↔t.kind=1:=by
 obtain⟨sk,sn,sl,sks⟩:=s;obtain⟨tk,tn,tl,tks⟩:=t;show sk=1↔tk=1;rcases ai8 h with ⟨h1,h2⟩|⟨rfl,_⟩
 ·constructor<;>intro e<;>subst e<;>first|exact absurd h1 (by decide)|exact absurd h2 (by decide)
 ·exact Iff.rfl
end
theorem a1h {l:ByteArray} {ls:List ByteArray} {i:Nat} (h:aav (strEq l) ls=(i:Int)):ls[i]?=some l:=by
 induction ls generalizing i with
 | nil=>simp[aav] at h
 | cons x r ih=>
  rw[aav] at h;by_cases e:strEq l x=true
  ·rw[if_pos e] at h
   obtain rfl:i=0:=by omega
   have:l=x:=by simpa [strEq] using e
   simp[this]
  ·rw[if_neg e] at h
   dsimp only at h;by_cases hn:aav (strEq l) r < 0
   ·rw[if_pos hn] at h;omega
   ·rw[if_neg hn] at h
    obtain⟨j,rfl⟩:∃ j,i=j+1:=⟨i - 1,by omega⟩;simpa using ih (by omega)
def alq (al bl:List ByteArray):Prop:=∀ (k:Nat) (l:ByteArray),al[k]?=some l→∃ i:Nat,aav (strEq l) bl=(i:Int)∧i < bl.length
theorem aqf {al bl:List ByteArray} (h:alq al bl) {k:Nat} (hk:k < al.length):aff al bl k < bl.length:=by
 have e:al[k]?=some al[k]:=List.getElem?_eq_getElem hk;obtain⟨i,hi,hil⟩:=h k _ e;simp only[aff,e,hi,Int.toNat_natCast];exact hil
theorem aup {al bl:List ByteArray} (h:alq al bl) (hd:al.Nodup) {j k:Nat} (hj:j < al.length) (hk:k < al.length) (e:aff al bl j=aff al bl k):j=k:=by
 have ej:al[j]?=some al[j]:=List.getElem?_eq_getElem hj;have ek:al[k]?=some al[k]:=List.getElem?_eq_getElem hk;obtain⟨i,hi,hil⟩:=h j _ ej;obtain⟨i2,hi2,b34⟩:=h k _ ek;simp only[aff,ej,ek,hi,hi2,Int.toNat_natCast] at e;subst e;have:=(a1h hi).symm.trans (a1h hi2);have e2:=Option.some.inj this;exact(List.getElem_inj hd).1 e2
theorem a5i {a i:Nat} (ha:a < 2 ^ 40) (hi:i < 40) (h:a.testBit i=false):a |||2 ^ i=a+2 ^ i:=by
 have hp:2 ^ i < 2 ^ 40:=Nat.pow_lt_pow_right (by decide) hi
 have e:=BitVec.add_eq_or_of_and_eq_zero (BitVec.ofNat 64 a) (BitVec.ofNat 64 (2 ^ i)) (by
  apply BitVec.eq_of_toNat_eq;rw[BitVec.toNat_and,BitVec.toNat_ofNat,BitVec.toNat_ofNat,Nat.mod_eq_of_lt (by omega),Nat.mod_eq_of_lt (by omega)];show a &&& 2 ^ i=0;apply Nat.eq_of_testBit_eq;intro j;rw[Nat.testBit_and,Nat.testBit_two_pow,Nat.zero_testBit];by_cases e:i=j
  ·subst e;rw[h];rfl
  ·rw[decide_eq_false e,Bool.and_false])
 have e2:=congrArg BitVec.toNat e;rw[BitVec.toNat_add,BitVec.toNat_or,BitVec.toNat_ofNat,BitVec.toNat_ofNat,Nat.mod_eq_of_lt (show a < 2 ^ 64 by omega),Nat.mod_eq_of_lt (show 2 ^ i < 2 ^ 64 by omega),Nat.mod_eq_of_lt (by omega)] at e2;exact e2.symm
theorem aza {al bl:List ByteArray} (h:alq al bl) (hd:al.Nodup) (hb:bl.length≤16) (num:Int):∀ k,k≤al.length→
  ae4 al bl num k < 2 ^ 16∧∀ i,(ae4 al bl num k).testBit i=true→∃ j,j < k∧aff al bl j=i
 | 0,_=>⟨by rw[ae4];decide,fun i hi=>by rw[ae4,Nat.zero_testBit] at hi;cases hi⟩
 | k+1,hk=>by
  obtain⟨h1,h2⟩:=aza h hd hb num k (by omega);have hf:=aqf h (k:=k) (by omega)
  have hno:(ae4 al bl num k).testBit (aff al bl k)=false:=by
   cases hc:(ae4 al bl num k).testBit (aff al bl k)
   ·rfl
   ·obtain⟨j,hj,e⟩:=h2 _ hc
    have:=aup h hd (show j < al.length by omega) (show k < al.length by omega) e;omega
  rw[ae4];by_cases hbit:amz num k=1
  ·rw[if_pos hbit,← a5i (by omega) (by omega) hno]
   have key:∀ i,(ae4 al bl num k |||2 ^ aff al bl k).testBit i=true→∃ j,j < k+1∧aff al bl j=i:=fun i hi=>by
    rw[Nat.testBit_or,Bool.or_eq_true,Nat.testBit_two_pow,decide_eq_true_eq] at hi;rcases hi with hi|hi
    ·obtain⟨j,hj,e⟩:=h2 i hi
     exact⟨j,by omega,e⟩
    ·exact⟨k,by omega,hi⟩
   refine⟨Nat.lt_pow_two_of_testBit _ fun i hi=>?_,key⟩;cases hc:(ae4 al bl num k |||2 ^ aff al bl k).testBit i
   ·rfl
   ·obtain⟨j,hj,e⟩:=key i hc
    have:=aqf h (k:=j) (by omega);omega
  ·rw[if_neg hbit,Nat.add_zero]
   exact⟨h1,fun i hi=>by obtain⟨j,hj,e⟩:=h2 i hi;exact⟨j,by omega,e⟩⟩
theorem aw4 {al bl:List ByteArray} (h:alq al bl) (hd:al.Nodup) (hb:bl.length≤16) (num:Int) {k:Nat} (hk:k < al.length):
  (ae4 al bl num k).testBit (aff al bl k)=false∧ae4 al bl num k < 65536∧aff al bl k < 16:=by
 obtain⟨h1,h2⟩:=aza h hd hb num k (by omega);refine⟨?_,h1,by have:=aqf h hk;omega⟩;cases hc:(ae4 al bl num k).testBit (aff al bl k)
 ·rfl
 ·obtain⟨j,hj,e⟩:=h2 _ hc
  have:=aup h hd (show j < al.length by omega) hk e;omega
theorem bo7 {a i:Nat} (ha:a < 65536) (hi:i < 16) (h:a.testBit i=false):bits .or .i64 (a:Int) ((2:Int) ^ i)=(a:Int)+(2:Int) ^ i:=by
 have hp:2 ^ i < 2 ^ 16:=Nat.pow_lt_pow_right (by decide) hi;have e2:((2:Int) ^ i)=((2 ^ i:Nat):Int):=by simp
 have hor:=a5i (by omega) (by omega) h;rw[e2]
 generalize 2 ^ i=p at hp hor ⊢
 show IntKind.i64.wrap ((BitVec.ofInt 64 (a:Int) |||BitVec.ofInt 64 ((p:Nat):Int)).toNat:Int)=_;rw[BitVec.toNat_or,aj1,aj1,IntKind.wrap_i64];have t1:(((a:Nat):Int) % 18446744073709551616).toNat=a:=by omega
 have t2:(((p:Nat):Int) % 18446744073709551616).toNat=p:=by omega
 rw[t1,t2,hor];omega
theorem bdi (a:Nat) (ha:a < 65536):bits .or .i64 (a:Int) 0=(a:Int):=by
 show IntKind.i64.wrap ((BitVec.ofInt 64 (a:Int) |||BitVec.ofInt 64 0).toNat:Int)=_;rw[BitVec.toNat_or,aj1,aj1,IntKind.wrap_i64];have t1:(((a:Nat):Int) % 18446744073709551616).toNat=a:=by omega
 rw[t1,show((0:Int) % 18446744073709551616).toNat=0 from rfl,Nat.or_zero];omega
end Go.Proofs.YtfpannkadjdnaaaGreatDoor
