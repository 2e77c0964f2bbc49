/-
  Decimal numerals that are read; cutting at a byte: the plain law. (No walk.)
  Rows of whole numbers that a call owns, as readings.
  A row of structs that a call makes by append, element by element. No program in sight.
-/
import Derived.Test.YtlpcocfadppkhaaGreatDoorRa07
import Derived.Lib.ItoaMem
import Derived.Lib.ParseIntBCases
import Derived.Lib.Index
import Derived.Test.YtlpcocfadppkhaaGreatDoorRa02
import Derived.Deep.AppendLies
namespace Go.Proofs.YtlpcocfadppkhaaGreatDoor
open Go.RowKit
set_option linter.unusedVariables false
set_option linter.unusedSimpArgs false
set_option linter.unnecessarySimpa false
def uz (M:Nat):Nat→List Int→Option Nat
 | m,[]=>some m
 | m,c ::r=>if c < 48∨57 < c then none else if M < 10 * m+(c - 48).toNat then none else uz M (10 * m+(c - 48).toNat) r
def aag (u:Nat):List Int:=(Lib.decDigits u).map fun b=>(b.toNat:Int)
theorem ae9 {u:Nat} (h:u < 10):aag u=[48+(u:Int)]:=by
 rw[aag,Lib.decDigits,dif_pos h,List.map_cons,List.map_nil]
 congr 1
 rw[UInt8.toNat_ofNat']
 have:(48+u) % 2 ^ 8=48+u:=Nat.mod_eq_of_lt (by omega)
 omega
theorem ad2 {u:Nat} (h:¬ u < 10):aag u=aag (u / 10) ++[48+((u % 10:Nat):Int)]:=by
 rw[aag,Lib.decDigits,dif_neg h,List.map_append,List.map_cons,List.map_nil]
 congr 2
 rw[UInt8.toNat_ofNat']
 have:(48+u % 10) % 2 ^ 8=48+u % 10:=Nat.mod_eq_of_lt (by omega)
 omega
theorem aah:∀ (k u:Nat),u≤k→∀ c ∈ aag u,48≤c∧c≤57
 | k,u,hk,c,hc=>by
  by_cases h:u < 10
  ·rw[ae9 h,List.mem_singleton] at hc
   omega
  ·rw[ad2 h] at hc
   rcases List.mem_append.1 hc with hc|hc
   ·match k,hk with
    | 0,hk=>omega
    | k+1,hk=>exact aah k (u / 10) (by omega) c hc
   ·rw[List.mem_singleton] at hc
    omega
theorem ahb:∀ (k u:Nat),1≤k→u < 10 ^ k→(aag u).length≤k
 | 0,u,h1,h=>absurd h1 (by omega)
 | k+1,u,_,h=>by
  by_cases hu:u < 10
  ·rw[ae9 hu];simp
  ·rw[ad2 hu,List.length_append,List.length_singleton]
   have h10:10 ^ (k+1)=10 ^ k * 10:=Nat.pow_succ 10 k
   have hk:1≤k:=by
    rcases Nat.eq_zero_or_pos k with rfl|hk
    ·simp at h;omega
    ·exact hk
   have:=ahb k (u / 10) hk (by omega)
   omega
theorem aq4:∀ (u:Nat),aag u≠[]:=fun u=>by
 by_cases h:u < 10
 ·rw[ae9 h];simp
 ·rw[ad2 h];simp
theorem air {M:Nat}:∀ (k u:Nat) (r:List Int),u≤k→u≤M→uz M 0 (aag u ++r)=uz M u r
 | k,u,r,hk,hM=>by
  by_cases h:u < 10
  ·rw[ae9 h]
   show uz M 0 ((48+(u:Int)) ::r)=_
   rw[uz,if_neg (by omega),if_neg (by omega)]
   have:10 * 0+(48+(u:Int) - 48).toNat=u:=by omega
   rw[this]
  ·rw[ad2 h,List.append_assoc]
   match k,hk with
   | 0,hk=>omega
   | k+1,hk=>
    rw[air k (u / 10) _ (by omega) (by omega)]
    show uz M (u / 10) ((48+((u % 10:Nat):Int)) ::r)=_
    have e:10 * (u / 10)+(48+((u % 10:Nat):Int) - 48).toNat=u:=by omega
    rw[uz,if_neg (by omega),e,if_neg (by omega)]
theorem apc {M:Nat}:∀ (l:List Int) (m v:Nat),m≤M→uz M m l=some v→v≤M
 | [],m,v,h,e=>by rw[uz] at e;injection e with e;omega
 | c ::r,m,v,h,e=>by
  rw[uz] at e
  split at e
  ·cases e
  ·split at e
   ·cases e
   ·exact apc r _ v (by omega) e
def aal (mi:Bool) (t:ByteArray):Option Nat→Int×Bool
 | none=>(0,false)
 | some m=>if mi=true then (-(m:Int),decide ((⟨(Lib.itoa (-(m:Int))).toArray⟩:ByteArray)=t))else if m=9223372036854775808 then (0,false)else ((m:Int),decide ((⟨(Lib.itoa (m:Int)).toArray⟩:ByteArray)=t))
def aek (mi:Bool) (fr:Nat) (t:ByteArray):Int×Bool:=if 19 < ((byt t).drop fr).length then (0,false)else aal mi t (uz 9223372036854775808 0 ((byt t).drop fr))
def l9 (t:ByteArray):Int×Bool:=if (byt t).head?=some 45 then aek true 1 t else aek false 0 t
theorem af4 (n:Int):byt ⟨(Lib.itoa n).toArray⟩=if n < 0 then 45 ::aag n.natAbs else aag n.toNat:=by
 by_cases h:n < 0
 ·rw[if_pos h,Lib.itoa,if_pos h];rfl
 ·rw[if_neg h,Lib.itoa,if_neg h];rfl
theorem ap2 (u:Nat):(aag u).head?≠some 45:=by
 intro h
 have hm:=List.mem_of_mem_head? (Option.mem_def.2 h)
 have:=aah u u (Nat.le_refl _) 45 hm
 omega
theorem azm:9223372036854775808 < 10 ^ 19:=by decide
theorem aln {n:Int} (h0:-9223372036854775808≤n) (h1:n≤9223372036854775807):l9 ⟨(Lib.itoa n).toArray⟩=(n,true):=by
 have hp:=azm
 have hb:=af4 n
 by_cases h:n < 0
 ·rw[if_pos h] at hb
  have hm:uz 9223372036854775808 0 (aag n.natAbs)=some n.natAbs:=by
   have:=air (M:=9223372036854775808) n.natAbs n.natAbs [] (Nat.le_refl _) (by omega)
   rwa[List.append_nil] at this
  have hl:=ahb 19 n.natAbs (by omega) (by omega)
  have hn:-((n.natAbs:Nat):Int)=n:=by omega
  rw[l9,hb,List.head?_cons,if_pos rfl,aek,hb,List.drop_succ_cons,List.drop_zero,if_neg (by omega),hm,aal,if_pos rfl,hn]
  rw[decide_eq_true rfl]
 ·rw[if_neg h] at hb
  have hm:uz 9223372036854775808 0 (aag n.toNat)=some n.toNat:=by
   have:=air (M:=9223372036854775808) n.toNat n.toNat [] (Nat.le_refl _) (by omega)
   rwa[List.append_nil] at this
  have hl:=ahb 19 n.toNat (by omega) (by omega)
  have hn:((n.toNat:Nat):Int)=n:=by omega
  rw[l9,hb,if_neg (ap2 _),aek,hb,List.drop_zero,if_neg (by omega),hm,aal,if_neg (by decide),hn,if_neg (by omega)]
  rw[decide_eq_true rfl]
theorem ase {mi:Bool} {t:ByteArray}:∀ {o:Option Nat},(∀ m,o=some m→m≤9223372036854775808)→-9223372036854775808≤(aal mi t o).1∧(aal mi t o).1≤9223372036854775807
 | none,_=>by rw[aal];constructor<;>show _≤_<;>omega
 | some m,h=>by
  have:=h m rfl
  rw[aal]
  split
  ·constructor<;>show _≤_<;>omega
  ·split
   ·constructor<;>show _≤_<;>omega
   ·constructor<;>show _≤_<;>omega
theorem amv (mi:Bool) (fr:Nat) (t:ByteArray):-9223372036854775808≤(aek mi fr t).1∧(aek mi fr t).1≤9223372036854775807:=by
 rw[aek]
 split
 ·constructor<;>show _≤_<;>omega
 ·exact ase fun m hm=>apc _ 0 m (by omega) hm
theorem amw (t:ByteArray):-9223372036854775808≤(l9 t).1∧(l9 t).1≤9223372036854775807:=by
 rw[l9]
 split
 ·exact amv _ _ _
 ·exact amv _ _ _
theorem ajx {M:Nat} (hM:M≤18446744073709551615):∀ (k u:Nat) (r:List UInt8),u≤k→u≤M→Lib.parseUintM M 0 (Lib.decDigits u ++r)=Lib.parseUintM M u r
 | k,u,r,hk,hu=>by
  by_cases h:u < 10
  ·rw[Lib.decDigits,dif_pos h]
   show Lib.parseUintM M 0 (UInt8.ofNat (48+u) ::r)=_
   have e:(UInt8.ofNat (48+u)).toNat=48+u:=by rw[UInt8.toNat_ofNat'];exact Nat.mod_eq_of_lt (by omega)
   rw[Lib.parseUintM,e,if_pos (by omega),if_neg (by omega),if_neg (by omega)]
   have:0 * 10+(48+u - 48)=u:=by omega
   rw[this]
  ·rw[Lib.decDigits,dif_neg h,List.append_assoc]
   match k,hk with
   | 0,hk=>omega
   | k+1,hk=>
    rw[ajx hM k (u / 10) _ (by omega) (by omega)]
    show Lib.parseUintM M (u / 10) (UInt8.ofNat (48+u % 10) ::r)=_
    have e:(UInt8.ofNat (48+u % 10)).toNat=48+u % 10:=by rw[UInt8.toNat_ofNat'];exact Nat.mod_eq_of_lt (by omega)
    have e2:u / 10 * 10+(48+u % 10 - 48)=u:=by omega
    rw[Lib.parseUintM,e,if_pos (by omega),if_neg (by omega),e2,if_neg (by omega)]
theorem afr (u:Nat):∃ c r,Lib.decDigits u=c ::r∧48≤c.toNat∧c.toNat≤57:=by
 cases hd:Lib.decDigits u with
 | nil=>exact absurd (by rw[aag,hd];rfl) (aq4 u)
 | cons c r=>
  have:=aah u u (Nat.le_refl _) (c.toNat:Int) (by rw[aag,hd];simp)
  exact⟨c,r,rfl,by omega,by omega⟩
theorem ap3 {n:Int} (h0:-9223372036854775808≤n) (h1:n≤9223372036854775807):Lib.parseIntB 64 (Lib.itoa n)=.ok n:=by
 have hp:(2:Nat) ^ 64 - 1=18446744073709551615:=by decide
 have hq:(2:Nat) ^ (64 - 1)=9223372036854775808:=by decide
 have hM:∀ u:Nat,u≤18446744073709551615→Lib.parseUintB 64 (Lib.decDigits u)=.ok u:=fun u hu=>by
  obtain⟨c,r,hc,_,_⟩:=afr u
  have hne:¬ Lib.decDigits u=[]:=by rw[hc];simp
  rw[Lib.parseUintB,if_neg hne,hp]
  have:=ajx (M:=18446744073709551615) (Nat.le_refl _) u u [] (Nat.le_refl _) hu
  rw[List.append_nil] at this
  rw[this];rfl
 by_cases h:n < 0
 ·rw[Lib.itoa,if_pos h,Lib.parseIntB_minus,hM _ (by omega),hq,Lib.signedC]
  rw[if_neg (by omega)]
  congr 1
  omega
 ·rw[Lib.itoa,if_neg h]
  obtain⟨c,r,hc,hc1,hc2⟩:=afr n.toNat
  have hm:=hM n.toNat (by omega)
  rw[hc] at hm ⊢
  rw[Lib.parseIntB_plain 64 c r (by omega) (by omega),hm,hq,Lib.signlessC]
  rw[if_neg (by omega)]
  congr 1
  omega
def oh (sep:Int):List Int→List (List Int)
 | []=>[[]]
 | c ::r=>if c=sep then [] ::oh sep r else match oh sep r with
  | []=>[[c]]
  | p ::ps=>(c ::p) ::ps
theorem ace (sep:Int):∀ l,oh sep l≠[]
 | []=>by simp[oh]
 | c ::r=>by
  rw[oh]
  split
  ·simp
  ·split<;>simp
def ac1 (p:List Int):List (List Int)→List (List Int)
 | []=>[p]
 | q ::qs=>(p ++q) ::qs
theorem akw {sep:Int}:∀ (p r:List Int),(∀ c ∈ p,c≠sep)→oh sep (p ++r)=ac1 p (oh sep r)
 | [],r,_=>by
  cases hc:oh sep r with
  | nil=>exact absurd hc (ace sep r)
  | cons q qs=>rw[List.nil_append,hc];rfl
 | c ::p,r,h=>by
  rw[List.cons_append,oh,if_neg (h c (by simp)),akw p r (fun x hx=>h x (by simp[hx]))]
  cases hc:oh sep r with
  | nil=>exact absurd hc (ace sep r)
  | cons q qs=>rfl
theorem amx {sep:Int} (r:List Int):oh sep (sep ::r)=[] ::oh sep r:=by rw[oh,if_pos rfl]
theorem af5 {sep:Int} {p:List Int} (h:∀ c ∈ p,c≠sep):oh sep p=[p]:=by
 have:=akw p [] h
 rw[List.append_nil] at this
 rw[this]
 show ac1 p [[]]=_
 rw[ac1,List.append_nil]
theorem af6 {sep:Int} {p r:List Int} (h:∀ c ∈ p,c≠sep):oh sep (p ++sep ::r)=p ::oh sep r:=by
 rw[akw p _ h,amx]
 show(p ++[]) ::_=_
 rw[List.append_nil]
theorem ais (sep:Int):∀ l:List Int,(oh sep l).length≤l.length+1
 | []=>by simp[oh]
 | c ::r=>by
  have ih:=ais sep r
  rw[oh]
  split
  ·simp;omega
  ·split
   ·simp
   ·next p ps he=>rw[he] at ih;simp at ih ⊢;omega
theorem ael {sep:Int}:∀ {l p:List Int},p ∈ oh sep l→p.length≤l.length∧∀ c ∈ p,c ∈ l
 | [],p,h=>by simp[oh] at h;subst h;simp
 | c ::r,p,h=>by
  rw[oh] at h
  split at h
  ·rcases List.mem_cons.1 h with rfl|h
   ·simp
   ·obtain⟨h1,h2⟩:=ael h
    exact⟨by simp;omega,fun x hx=>by simp[h2 x hx]⟩
  ·split at h
   ·next he=>exact absurd he (ace sep r)
   ·next q qs he=>
    rcases List.mem_cons.1 h with rfl|h
    ·obtain⟨h1,h2⟩:=ael (sep:=sep) (l:=r) (p:=q) (by rw[he];simp)
     refine⟨by simp;omega,fun x hx=>?_⟩
     rcases List.mem_cons.1 hx with rfl|hx
     ·simp
     ·simp[h2 x hx]
    ·obtain⟨h1,h2⟩:=ael (sep:=sep) (l:=r) (p:=p) (by rw[he];simp[h])
     exact⟨by simp;omega,fun x hx=>by simp[h2 x hx]⟩
theorem acf {w w':World} {base sz n:Nat} {e:TypeId} {v:Value} {xs:List Value} (h:w.ownsRow base e sz v n xs) (hb:Below w.heap.size w w'):w'.ownsRow base e sz v n xs:=by
 obtain⟨h1,h2⟩:=h
 refine⟨h1,?_⟩
 rcases h2 with h2|⟨g,cap,cur,hv,hbb,hh,hr⟩
 ·exact .inl h2
 ·exact .inr ⟨g,cap,cur,hv,hbb,by rw[hb.block g (Array.getElem?_eq_some_iff.1 hh).1];exact hh,hr⟩
theorem ap4 (w:World) (row:Option Nat):w.grownBy w row:=⟨rfl,rfl,rfl,Nat.le_refl _,fun _ _ _=>rfl⟩
def Grow (w wr:World) (lo:Nat) (e:TypeId) (sz n:Nat) (v:Value) (ds:List PD) (cs:List Value) (F:List Nat):Prop:=
 wr.ownsRow lo e sz v n cs∧ah wr ds cs F∧In F lo wr.heap.size∧(∀ g,v.ownBlock=some g→g ∉ F)∧Below w.heap.size w wr∧w.heap.size≤lo∧lo≤wr.heap.size
section
variable {w wr w1 w2 w3:World} {e:TypeId} {lo sz n m:Nat} {v v':Value} {ds es:List PD} {cs us:List Value} {F F2:List Nat}
theorem Grow.step (h:Grow w wr lo e sz n v ds cs F) (hb:Below wr.heap.size wr w1):Grow w w1 lo e sz n v ds cs F:=by
 obtain⟨h1,h2,h3,h4,h5,h6,h7⟩:=h
 exact⟨acf h1 hb,ah.keep ds cs F h2 fun g hg=>hb.block g (h3.2 g hg).2,h3.more (Nat.le_refl _) hb.size,h4,h5.trans (hb.mono h5.size),h6,Nat.le_trans h7 hb.size⟩
theorem Grow.set (h:Grow w wr lo e sz n v ds cs F) {p:Addr} (hp:p.block < lo) (hw:w.heap.size≤p.block) (u:Value):Grow w (wr.setCell p u) lo e sz n v ds cs F:=by
 obtain⟨h1,h2,h3,h4,h5,h6,h7⟩:=h
 refine⟨⟨h1.1,?_⟩,ah.keep ds cs F h2 fun g hg=>Below.heap_setCell wr p u g (by have:=(h3.2 g hg).1;omega),by simpa [World.setCell] using h3,h4,h5.setCell hw u,h6,by simpa [World.setCell] using h7⟩
 rcases h1.2 with h|⟨g,cap,cur,rfl,hbb,hh,hr⟩
 ·exact .inl h
 ·exact .inr ⟨g,cap,cur,rfl,hbb,(Below.heap_setCell wr p u g (by omega)).trans hh,hr⟩
theorem Grow.done (h:Grow w wr lo e sz n v ds cs F):Lv wr lo wr.heap.size (.row sz ds) v:=by
 obtain⟨h1,h2,h3,h4,h5,h6,h7⟩:=h
 have hlen:=h2.length
 rcases h1.2 with ⟨rfl,rfl⟩|⟨g,cap,cur,rfl,hbg,hg,hnc,hcm,hcs,ht⟩
 ·have hl:ds.length=0 * sz:=by rw[← hlen,h1.1]
  exact⟨[],by rw[Hold];exact⟨none,0,0,rfl,hl,Nat.le_refl _,by decide,.inl ⟨rfl,rfl⟩⟩,In.nil _ _,Nat.le_refl _⟩
 ·have hl:ds.length=n * sz:=by rw[← hlen,h1.1]
  have hgl:g < wr.heap.size:=(Array.getElem?_eq_some_iff.1 hg).1
  by_cases h0:n=0
  ·exact⟨[],by rw[Hold];exact⟨_,n,cap,rfl,hl,hnc,hcm,.inl ⟨h0,rfl⟩⟩,In.nil _ _,Nat.le_refl _⟩
  ·have hget:∀ (j:Nat) (u:Value),cs[j]?=some u→cur[0+j]?=some u:=fun j u hu=>by
    rw[← ht,List.getElem?_take] at hu
    split at hu
    ·simpa using hu
    ·cases hu
   refine⟨g ::F,by rw[Hold];exact⟨_,n,cap,rfl,hl,hnc,hcm,.inr ⟨by omega,g,0,F,cs,rfl,rfl,⟨cur,e,hg,hget⟩,h2⟩⟩,⟨List.nodup_cons.2 ⟨h4 g rfl,h3.1⟩,fun b hb=>?_⟩,Nat.le_refl _⟩
   rcases List.mem_cons.1 hb with rfl|hb
   ·exact⟨hbg,hgl⟩
   ·exact h3.2 b hb
end
def strs (xs:List ByteArray):List Value:=xs.map Value.string
def uw (w:World) (src:Value) (size m:Nat) (news:List Value):Prop:=
 (∃ c,src=.slice none 0 c∧m=0∧news=[])∨∃ ad c,src=.slice (some ad) m c∧news.length=m * size∧∀ j u,news[j]?=some u→w.cell? (ad.add j)=some u
section
variable {P:Program} {w:World}
theorem ag0 (base:Nat) (t ty e:TypeId) (i:TypeInfo) (size c:Nat) (ht:P.underlying t=some (.slice e)) (hi:P.info? e=some i)
  (v:Value) (n:Nat) (xs:List Value) (hown:w.ownsRow base e size v n xs):
  (Builtin.append_ #[t,t] ty #[v,.slice none 0 c]).run P w=.ok v w:=by
 rcases hown.2 with ⟨rfl,rfl⟩|⟨g,cap,cur,rfl,_,_,hnc,_⟩
 ·simp[Builtin.append_,run_underlying ht,sizeOf,typeInfo,hi,Builtin.lenOf,Builtin.firstCells]
 ·simp[Builtin.append_,run_underlying ht,sizeOf,typeInfo,hi,Builtin.lenOf,Builtin.firstCells,hnc,storeCells]
theorem akx (base:Nat) (t ty e:TypeId) (i:TypeInfo) (z:Value) (size bytes:Nat) (ht:P.underlying t=some (.slice e)) (hi:P.info? e=some i) (hz:i.zero=some z)
  (hsize:i.size=size) (hby:i.bytes=bytes) (hzs:z.cells.size=size) (hsz:0 < size)
  (v:Value) (n:Nat) (xs:List Value) (hown:w.ownsRow base e size v n xs) (src:Value) (m:Nat) (news:List Value) (hsrc:uw w src size m news) (h1:∀ u ∈ news,u.oneCell'=true)
  (h63:n+m≤maxLen) (hbytes:(n+m) * bytes≤140737488355328) (hbase:base≤w.heap.size):
  ∃ v' w',(Builtin.append_ #[t,t] ty #[v,src]).run P w=.ok v' w'∧w'.ownsRow base e size v' (n+m) (xs ++news)∧w.grownBy w' v.ownBlock∧(v'.ownBlock=v.ownBlock∨v'.ownBlock=some w.heap.size):=by
 rcases hsrc with ⟨c,rfl,rfl,rfl⟩|⟨ad,c,rfl,hl,hnews⟩
 ·exact⟨v,w,ag0 base t ty e i size c ht hi v n xs hown,by simpa using hown,ap4 _ _,.inl rfl⟩
 ·obtain⟨v',w',hr,h2,h3,_,h5⟩:=run_append_own_at (P:=P) w base t ty e i z size bytes ht hi hz hsize hby hzs hsz v n xs hown ad m c news hl hnews h1 h63 hbytes hbase
  exact⟨v',w',hr,h2,h3,h5⟩
theorem agx {o:Oper} {a:Act} {K:Act→World→Prop} {Q:Exit→Act→World→Prop} (s x:Operand) (t:TypeId)
  (ho:o.op=.call {callee:=.builtin .append,args:=#[s,x],argTypes:=#[t,t]})
  (base:Nat) (e:TypeId) (i:TypeInfo) (z:Value) (size bytes:Nat) (ht:P.underlying t=some (.slice e)) (hi:P.info? e=some i) (hz:i.zero=some z)
  (hsize:i.size=size) (hby:i.bytes=bytes) (hzs:z.cells.size=size) (hsz:0 < size)
  (v:Value) (n:Nat) (xs:List Value) (hs:a.eval s=v) (hown:w.ownsRow base e size v n xs)
  (src:Value) (m:Nat) (news:List Value) (hx:a.eval x=src) (hsrc:uw w src size m news) (h1:∀ u ∈ news,u.oneCell'=true)
  (h63:n+m≤maxLen) (hbytes:(n+m) * bytes≤140737488355328) (hbase:base≤w.heap.size)
  (h:∀ v' w',w'.ownsRow base e size v' (n+m) (xs ++news)→w.grownBy w' v.ownBlock→(v'.ownBlock=v.ownBlock∨v'.ownBlock=some w.heap.size)→K (a.put o.dst v') w'):o.wp P a w K Q:=by
 obtain⟨v',w',hr,h2,h3,h4⟩:=akx (P:=P) (w:=w) base t o.type e i z size bytes ht hi hz hsize hby hzs hsz v n xs hown src m news hsrc h1 h63 hbytes hbase
 unfold Oper.wp execOp
 simp only[ho,resolve,invoke,builtin,Sem.run_bind,Sem.run_pure,Result.andThen_ok,List.map_toArray,List.map_cons,List.map_nil,hs,hx,hr]
 exact h v' w' h2 h3 h4
theorem aae {ops:Array Oper} {rest:List Oper} {o:Oper} {a:Act} {Q:Exit→Act→World→Prop} (hgd:o.guard=none) (s x:Operand) (t:TypeId)
  (ho:o.op=.call {callee:=.builtin .append,args:=#[s,x],argTypes:=#[t,t]})
  (base:Nat) (e:TypeId) (i:TypeInfo) (z:Value) (size bytes:Nat) (ht:P.underlying t=some (.slice e)) (hi:P.info? e=some i) (hz:i.zero=some z)
  (hsize:i.size=size) (hby:i.bytes=bytes) (hzs:z.cells.size=size) (hsz:0 < size)
  (v:Value) (n:Nat) (xs:List Value) (hs:a.eval s=v) (hown:w.ownsRow base e size v n xs)
  (src:Value) (m:Nat) (news:List Value) (hx:a.eval x=src) (hsrc:uw w src size m news) (h1:∀ u ∈ news,u.oneCell'=true)
  (h63:n+m≤maxLen) (hbytes:(n+m) * bytes≤140737488355328) (hbase:base≤w.heap.size)
  (h:∀ v' w',w'.ownsRow base e size v' (n+m) (xs ++news)→w.grownBy w' v.ownBlock→(v'.ownBlock=v.ownBlock∨v'.ownBlock=some w.heap.size)→wpList P ops Q rest (a.put o.dst v') w'):wpList P ops Q (o ::rest) a w:=
 wpList_plain hgd fun _ hK=>agx s x t ho base e i z size bytes ht hi hz hsize hby hzs hsz v n xs hs hown src m news hx hsrc h1 h63 hbytes hbase fun v' w' h2 h3 h4=>hK _ _ (h v' w' h2 h3 h4)
theorem cu {ops:Array Oper} {o:Oper} {a:Act} {K:Act→World→Prop} {Q:Exit→Act→World→Prop} {E:Prop} (hgd:o.guard=none) (s x:Operand) (t:TypeId)
  (ho:o.op=.call {callee:=.builtin .append,args:=#[s,x],argTypes:=#[t,t]})
  (base:Nat) (e:TypeId) (i:TypeInfo) (z:Value) (size bytes:Nat) (ht:P.underlying t=some (.slice e)) (hi:P.info? e=some i) (hz:i.zero=some z)
  (hsize:i.size=size) (hby:i.bytes=bytes) (hzs:z.cells.size=size) (hsz:0 < size)
  (v:Value) (n:Nat) (xs:List Value) (hs:a.eval s=v) (hown:w.ownsRow base e size v n xs)
  (src:Value) (m:Nat) (news:List Value) (hx:a.eval x=src) (hsrc:uw w src size m news) (h1:∀ u ∈ news,u.oneCell'=true)
  (h63:n+m≤maxLen) (hbytes:(n+m) * bytes≤140737488355328) (hbase:base≤w.heap.size)
  (h:∀ v' w',w'.ownsRow base e size v' (n+m) (xs ++news)→w.grownBy w' v.ownBlock→(v'.ownBlock=v.ownBlock∨v'.ownBlock=some w.heap.size)→K (a.put o.dst v') w'):if Region.wanted o (yielded ops a.tmps)=true then Oper.wp P o a w K Q else E:=by
 have hw:Region.wanted o (yielded ops a.tmps)=true:=by simp[Region.wanted,hgd]
 rw[if_pos hw]
 exact agx s x t ho base e i z size bytes ht hi hz hsize hby hzs hsz v n xs hs hown src m news hx hsrc h1 h63 hbytes hbase h
end
theorem ait (xs:List ByteArray):∀ u ∈ strs xs,u.oneCell'=true:=by
 intro u hu
 simp only[strs,List.mem_map] at hu
 obtain⟨x,_,rfl⟩:=hu
 rfl
end Go.Proofs.YtlpcocfadppkhaaGreatDoor
