/-
  ReadIns: both readings agree: the plain law.
  The text of a module, read line by line: plain. No program in sight.
-/
import Derived.Test.YtlpcocfadppkhaaGreatDoorRa11
import Derived.Test.YtlpcocfadppkhaaGreatDoorRa07
namespace Go.Proofs.YtlpcocfadppkhaaGreatDoor
open Go.RowKit
set_option linter.unusedVariables false
set_option linter.unusedSimpArgs false
set_option linter.unnecessarySimpa false
set_option maxRecDepth 100000
theorem aok:(words.all fun x=>decide (0 < x.size) && x.data.toList.all fun b=>!(b ==32))=true:=by kernel_rfl
theorem aol:(List.range 40).all (fun j=>opI words 0 ((words[j]?).getD ⟨#[]⟩) ==j+1 && decide (ixW ((words[j]?).getD ⟨#[]⟩)=((j+1:Nat):Int)))=true:=by kernel_rfl
theorem avq {j:Nat} {x:ByteArray} (hj:j < 40) (h:words[j]?=some x):opI words 0 x=j+1∧ixW x=((j+1:Nat):Int):=by
 have:=List.all_eq_true.1 aol j (List.mem_range.2 hj)
 rw[h,Option.getD_some,Bool.and_eq_true,beq_iff_eq,decide_eq_true_eq] at this
 exact this
theorem alu {j:Nat} {x:ByteArray} (h:words[j]?=some x):0 < x.size∧∀ c ∈ byt x,c≠32:=by
 have h1:=List.all_eq_true.1 aok x (List.mem_of_getElem? h)
 rw[Bool.and_eq_true,decide_eq_true_eq] at h1
 refine⟨h1.1,fun c hc=>?_⟩
 obtain⟨b,hb,rfl⟩:=List.mem_map.1 hc
 have h2:=List.all_eq_true.1 h1.2 b hb
 intro e
 have:b=32:=by
  apply UInt8.toNat.inj
  have:(b.toNat:Int)=32:=e
  show b.toNat=32
  omega
 rw[this] at h2
 cases h2
theorem aq8 (n:Int):∀ c ∈ byt (ay n),c≠32:=by
 intro c hc
 have hb:=af4 n
 rw[aiu] at hb
 rw[hb] at hc
 split at hc
 ·rcases List.mem_cons.1 hc with rfl|hc
  ·decide
  ·have:=aah _ _ (Nat.le_refl _) c hc
   omega
 ·have:=aah _ _ (Nat.le_refl _) c hc
  omega
theorem aso {l:List UInt8} (h:∀ b ∈ l,b≠32):Lib.index l [32]=-1:=by
 induction l with
 | nil=>rfl
 | cons b l ih=>
  have hb:¬ (32:UInt8)=b:=fun e=>h b (by simp) e.symm
  have:=ih (fun x hx=>h x (by simp[hx]))
  rw[Lib.index]
  simp[List.isPrefixOf,hb,this]
theorem asq {p r:List UInt8} (h:∀ b ∈ p,b≠32):Lib.index (p ++32 ::r) [32]=(p.length:Int):=by
 induction p with
 | nil=>
  show Lib.index (32 ::r) [32]=_
  rw[Lib.index]
  simp[List.isPrefixOf]
 | cons b l ih=>
  have hb:¬ (32:UInt8)=b:=fun e=>h b (by simp) e.symm
  have:=ih (fun x hx=>h x (by simp[hx]))
  show Lib.index (b ::(l ++32 ::r)) [32]=_
  rw[Lib.index,this]
  have h1:¬ (((l.length:Nat):Int) ==-1)=true:=by simp
  rw[if_neg h1]
  simp[List.isPrefixOf,hb]
theorem aq9 {l:List UInt8} (h:∀ b ∈ l,b≠32):Lib.cut l [32]=(l,[],false):=by
 rw[Lib.cut,aso h,if_neg (by decide)]
theorem ara {p r:List UInt8} (h:∀ b ∈ p,b≠32):Lib.cut (p ++32 ::r) [32]=(p,r,true):=by
 rw[Lib.cut,asq h,if_pos (by omega),Int.toNat_natCast]
 simp
theorem agb {x:ByteArray} (h:∀ c ∈ byt x,c≠32):∀ b ∈ x.data.toList,b≠32:=fun b hb e=>by
 subst e
 exact h 32 (List.mem_map.2 ⟨32,hb,rfl⟩) rfl
theorem ai0 (x y:ByteArray):(x ++(⟨#[32]⟩ ++y)).data.toList=x.data.toList ++32 ::y.data.toList:=by simp
theorem avr (x y:ByteArray):byt (x ++(⟨#[32]⟩ ++y))=byt x ++32 ::byt y:=by
 show(x ++(⟨#[32]⟩ ++y)).data.toList.map _=_
 rw[ai0]
 exact List.map_append
theorem axv {k a:Int} (h:aa8 k=false) (ha:inB a (acw k) (acy k)=true):a=0:=by
 have h1:acw k=0:=by
  unfold aa8 at h
  simp only[Bool.or_eq_false_iff] at h
  unfold acw
  simp[h]
 have h2:acy k=0:=by
  unfold aa8 at h
  simp only[Bool.or_eq_false_iff] at h
  unfold acy
  simp[h]
 rw[h1,h2,inB,Bool.and_eq_true,decide_eq_true_eq,decide_eq_true_eq] at ha
 omega
theorem avs (k:Int):-9223372036854775808≤acw k:=by unfold acw;split<;>decide
theorem asr (k:Int):acy k≤9223372036854775807:=by unfold acy;repeat' (first|decide|split)
theorem axw {op a:Int} (h:gy op a=true):-9223372036854775808≤a∧a≤9223372036854775807:=by
 rw[gy,Bool.and_eq_true] at h
 have h2:=h.2
 rw[inB,Bool.and_eq_true,decide_eq_true_eq,decide_eq_true_eq] at h2
 have:=avs op
 have:=asr op
 omega
theorem asu:(uq ⟨#[]⟩).1=0:=by
 rfl
theorem ahe {op a:Int} {s:ByteArray} (h:gy op a=true) (hs:og op a=s):rdS s=(op,a,true)∧rdI s=(op,a,true):=by
 have hwf:=axw h
 have h':=h
 rw[gy,Bool.and_eq_true] at h'
 obtain⟨h40,hin⟩:=h'
 obtain⟨j,x,rfl,hj,hx⟩:=aej h40
 obtain⟨w1,w2⟩:=avq hj hx
 obtain⟨w3,w4⟩:=alu hx
 have hop:=acz hx
 have hfin:zn s ((j+1:Nat):Int) a=(((j+1:Nat):Int),a,true):=by rw[zn,if_pos ⟨h,hs⟩]
 cases hh:aa8 ((j+1:Nat):Int)with
 | false=>
  obtain rfl:=axv hh hin
  rw[afo h hh,hop] at hs
  subst hs
  have hc:bn 32 x=[x]:=by rw[bn,af5 w4,List.map_cons,List.map_nil,jy]
  have hcw:aiz x=x:=by
   show(⟨(Lib.cut x.data.toList [32]).1.toArray⟩:ByteArray)=x
   rw[aq9 (agb w4)]
  have hco:aga x=⟨#[]⟩:=by
   show(⟨(Lib.cut x.data.toList [32]).2.1.toArray⟩:ByteArray)=_
   rw[aq9 (agb w4)]
  refine⟨?_,?_⟩
  ·rw[af7 (by rw[hc];rfl),hc]
   show zn x ((opI words 0 x:Nat):Int) 0=_
   rw[w1];exact hfin
  ·rw[rdI,hcw,hco,w2,asu,if_pos ⟨w3,by rw[afo h hh,hop]⟩]
 | true=>
  have hs0:=hs
  rw[ag7 h hh,hop] at hs
  have hn:=aln hwf.1 hwf.2
  rw[aiu] at hn
  have hc:bn 32 s=[x,ay a]:=by rw[← hs,bn,avr,af6 w4,af5 (aq8 a),List.map_cons,List.map_cons,List.map_nil,jy,jy]
  have hcw:aiz s=x:=by
   show(⟨(Lib.cut s.data.toList [32]).1.toArray⟩:ByteArray)=x
   rw[← hs,ai0,ara (agb w4)]
  have hco:aga s=ay a:=by
   show(⟨(Lib.cut s.data.toList [32]).2.1.toArray⟩:ByteArray)=_
   rw[← hs,ai0,ara (agb w4)]
  have hpos:0 < s.size:=by rw[← hs,ByteArray.size_append];omega
  refine⟨?_,?_⟩
  ·rw[af8 (p:=ay a) (by rw[hc];rfl) (by rw[hn]),hc,hn]
   show zn s ((opI words 0 x:Nat):Int) a=_
   rw[w1];exact hfin
  ·rw[rdI,hcw,hco,w2,alq hwf.1 hwf.2,if_pos ⟨hpos,hs0⟩]
theorem avt (s:ByteArray):rdI s=rdS s:=by
 by_cases hE:∃ op a,gy op a=true∧og op a=s
 ·obtain⟨op,a,h1,h2⟩:=hE
  obtain⟨e1,e2⟩:=ahe h1 h2
  rw[e1,e2]
 ·have hI:rdI s=(0,0,false):=by
   rw[rdI,if_neg]
   rintro⟨h0,h1⟩
   cases hok:gy (ixW (aiz s)) (uq (aga s)).1 with
   | false=>rw[ao6 hok] at h1;rw[← h1] at h0;exact absurd h0 (by decide)
   | true=>exact hE ⟨_,_,hok,h1⟩
  have hF:∀ op a,zn s op a=(0,0,false):=fun op a=>by
   rw[zn,if_neg]
   rintro⟨h1,h2⟩
   exact hE ⟨op,a,h1,h2⟩
  rw[hI]
  cases hp:(bn 32 s)[1]? with
  | none=>rw[af7 hp,hF]
  | some p=>
   cases hb:(l9 p).2 with
   | false=>rw[akz hp hb]
   | true=>rw[af8 hp hb,hF]
end Go.Proofs.YtlpcocfadppkhaaGreatDoor
namespace Go.Proofs.YtlpcocfadppkhaaGreatDoor
open Go.RowKit
set_option linter.unusedVariables false
set_option linter.unusedSimpArgs false
set_option linter.unnecessarySimpa false
def wAt (ws:List ByteArray) (i:Nat):ByteArray:=(ws[i]?).getD ⟨#[]⟩
theorem agc (x:ByteArray) (r:List ByteArray):wAt (x ::r) 0=x:=rfl
def abg:ByteArray:=⟨#[109,111,100,117,108,101]⟩
def aat:ByteArray:=⟨#[105,109,112,111,114,116]⟩
def zx:ByteArray:=⟨#[99,111,114,101]⟩
def one1:ByteArray:=⟨#[49]⟩
def xg (i:Ins) (cs:List Core):List Core:=match cs.getLast? with
 | none=>[]
 | some c=>cs.dropLast ++[⟨c.name,c.params,c.locals,c.result,c.code ++[i]⟩]
theorem qc (i:Ins) (cs:List Core) (c:Core):xg i (cs ++[c])=cs ++[⟨c.name,c.params,c.locals,c.result,c.code ++[i]⟩]:=by simp[xg]
def lineS (m:Mod) (line:ByteArray):Mod:=
 if wAt (bn 32 line) 0=abg then ⟨(l9 (wAt (bn 32 line) 1)).1,m.imports,m.cores⟩
 else if wAt (bn 32 line) 0=aat then ⟨m.pages,m.imports ++[⟨wAt (bn 32 line) 1,(l9 (wAt (bn 32 line) 2)).1,decide (wAt (bn 32 line) 3=one1)⟩],m.cores⟩
 else if wAt (bn 32 line) 0=zx then ⟨m.pages,m.imports,m.cores ++[⟨wAt (bn 32 line) 1,(l9 (wAt (bn 32 line) 2)).1,(l9 (wAt (bn 32 line) 3)).1,decide (wAt (bn 32 line) 4=one1),[]⟩]⟩
 else ⟨m.pages,m.imports,xg ⟨(rdS line).1,(rdS line).2.1⟩ m.cores⟩
def zy (ws:List ByteArray) (k:Nat):Int:=match ws[k]? with
 | none=>-1
 | some t=>(uq t).1
def aan (m:Mod) (line:ByteArray):Mod:=
 if wAt (bn 32 line) 0=abg then ⟨zy (bn 32 line) 1,m.imports,m.cores⟩
 else if wAt (bn 32 line) 0=aat∧1 < (bn 32 line).length then ⟨m.pages,m.imports ++[⟨wAt (bn 32 line) 1,zy (bn 32 line) 2,decide (zy (bn 32 line) 3=1)⟩],m.cores⟩
 else if wAt (bn 32 line) 0=zx∧1 < (bn 32 line).length then ⟨m.pages,m.imports,m.cores ++[⟨wAt (bn 32 line) 1,zy (bn 32 line) 2,zy (bn 32 line) 3,decide (zy (bn 32 line) 4=1),[]⟩]⟩
 else ⟨m.pages,m.imports,xg ⟨(rdI line).1,(rdI line).2.1⟩ m.cores⟩
def jk:Mod:=⟨0,[],[]⟩
def ach (cs:List Core):List Core:=match cs.getLast? with
 | none=>[]
 | some c=>cs.dropLast ++[⟨c.name,c.params,c.locals,c.result,c.code.dropLast⟩]
theorem aa6 (cs:List Core) (c:Core):ach (cs ++[c])=cs ++[⟨c.name,c.params,c.locals,c.result,c.code.dropLast⟩]:=by simp[ach]
theorem am5 (i:Ins) (cs:List Core):ach (xg i cs)=cs:=by
 rcases List.eq_nil_or_concat cs with rfl|⟨L,b,e⟩
 ·rfl
 ·have e:cs=L ++[b]:=by simpa using e
  rw[e,qc,aa6]
  simp
def ac2 (s:ByteArray):List ByteArray:=if (bn 10 s).getLast?=some ⟨#[]⟩then (bn 10 s).dropLast else bn 10 s
def aaf (s:ByteArray):Mod:=(bn 10 s).foldl lineS jk
def aau (s:ByteArray):Mod:=(ac2 s).foldl aan jk
def trimS (m:Mod):Mod:=⟨m.pages,m.imports,ach m.cores⟩
def afc (s:ByteArray):Option Mod:=if uy (trimS (aaf s))=true∧aak (trimS (aaf s))=s then some (trimS (aaf s))else none
def amg (s:ByteArray):Option Mod:=if uy (aau s)=true∧aak (aau s)=s then some (aau s)else none
def hdN (p:Int):ByteArray:=aju ++ay p
def ai1:Imp→ByteArray|.mk name params result=>((((ajv ++name) ++zf) ++ay params) ++zf) ++zu result
def ahx:Core→ByteArray|.mk name params locals result code=>((((((ag9 ++name) ++zf) ++ay params) ++zf) ++ay locals) ++zf) ++zu result
def ap8 (i:Ins):ByteArray:=og i.op i.a
def aft (c:Core):List ByteArray:=ahx c ::c.code.map ap8
def ahy (m:Mod):List ByteArray:=hdN m.pages ::(m.imports.map ai1 ++m.cores.flatMap aft)
def nl (s:ByteArray):ByteArray:=s ++adw
theorem ai2:∀ (a b:List ByteArray),jo (a ++b)=jo a ++jo b
 | [],b=>(akt _).symm
 | x ::a,b=>by
  show x ++jo (a ++b)=(x ++jo a) ++jo b
  rw[ai2 a b,x9]
theorem alv {α:Type} {f:α→ByteArray} {g:α→List ByteArray} (h:∀ x,f x=jo (g x)):∀ l:List α,jo (l.map f)=jo (l.flatMap g)
 | []=>rfl
 | x ::l=>by
  show f x ++jo (l.map f)=_
  rw[List.flatMap_cons,ai2,← h x,alv h l]
theorem aom (c:Core):abq c=jo ((aft c).map nl):=by
 obtain⟨name,params,locals,result,code⟩:=c
 show ae8 _ ++jo (code.map insL)=nl (ahx _) ++jo ((code.map ap8).map nl)
 rw[List.map_map]
 rfl
theorem aj1 (m:Mod):aak m=jo ((ahy m).map nl):=by
 obtain⟨pages,imports,cores⟩:=m
 show(adx pages ++jo (imports.map ac0)) ++jo (cores.map abq)=nl (hdN pages) ++jo ((imports.map ai1 ++cores.flatMap aft).map nl)
 rw[List.map_append,ai2,x9,List.map_map,List.map_flatMap,alv aom]
 rfl
def noC (c:Int) (s:ByteArray):Prop:=∀ x ∈ byt s,x≠c
theorem zh {c:Int} {a b:ByteArray} (ha:noC c a) (hb:noC c b):noC c (a ++b):=fun x hx=>by
 rw[afq] at hx
 rcases List.mem_append.1 hx with h|h
 ·exact ha x h
 ·exact hb x h
theorem aen {c:Int} {a:ByteArray} (h:noC c a):bn c a=[a]:=by rw[bn,af5 h];simp[jy]
theorem abr {a b:ByteArray} (h:noC 32 a):bn 32 (a ++(zf ++b))=a ::bn 32 b:=by
 rw[bn,bn,afq,afq,show byt zf=[32] from rfl,List.singleton_append,af6 h]
 simp[jy]
theorem avu {a b:ByteArray} (h:noC 10 a):bn 10 (nl a ++b)=a ::bn 10 b:=by
 rw[bn,bn,nl,afq,afq,show byt adw=[10] from rfl,List.append_assoc,List.singleton_append,af6 h]
 simp[jy]
theorem am6 (c:Int):bn c ⟨#[]⟩=[⟨#[]⟩]:=aen fun x hx=>absurd hx (by rw[avi];simp)
theorem agd:∀ {ls:List ByteArray},(∀ l ∈ ls,noC 10 l)→bn 10 (jo (ls.map nl))=ls ++[⟨#[]⟩]
 | [],_=>am6 10
 | l ::ls,h=>by
  show bn 10 (nl l ++jo (ls.map nl))=_
  rw[avu (h l (by simp)),agd fun x hx=>h x (by simp[hx])]
  rfl
theorem am7 {ls:List ByteArray} (h:∀ l ∈ ls,noC 10 l):ac2 (jo (ls.map nl))=ls:=by
 rw[ac2,agd h]
 simp
theorem agf {s:ByteArray} (h:jv s=true):noC 32 s∧noC 10 s:=by
 rw[jv,Bool.and_eq_true,List.all_eq_true] at h
 have key:∀ x ∈ byt s,x≠32∧x≠10:=fun x hx=>by
  obtain⟨b,hb,rfl⟩:=List.mem_map.1 hx
  rcases ajq b with ⟨_,hc⟩|⟨hc,_⟩
  ·omega
  ·rw[h.1 b hb] at hc;cases hc
 exact⟨fun x hx=>(key x hx).1,fun x hx=>(key x hx).2⟩
theorem abl {n:Int} (h0:0≤n):noC 32 (ay n)∧noC 10 (ay n):=by
 have hb:byt (ay n)=aag n.toNat:=by
  show byt ⟨(Lib.itoa n).toArray⟩=_
  rw[af4,if_neg (by omega)]
 have key:∀ x ∈ byt (ay n),48≤x∧x≤57:=fun x hx=>by
  rw[hb] at hx
  exact aah _ _ (Nat.le_refl _) x hx
 exact⟨fun x hx=>by have:=key x hx;omega,fun x hx=>by have:=key x hx;omega⟩
theorem arb (n:Int):noC 10 (ay n):=by
 intro x hx
 have hb:byt (ay n)=if n < 0 then 45 ::aag n.natAbs else aag n.toNat:=af4 n
 rw[hb] at hx
 split at hx
 ·rcases List.mem_cons.1 hx with rfl|hx
  ·decide
  ·have:=aah _ _ (Nat.le_refl _) x hx;omega
 ·have:=aah _ _ (Nat.le_refl _) x hx;omega
theorem ahz (b:Bool):noC 32 (zu b)∧noC 10 (zu b):=by
 cases b<;>exact⟨fun x hx=>by rw[show byt (zu _)=[_] from rfl] at hx;simp at hx;omega,fun x hx=>by rw[show byt (zu _)=[_] from rfl] at hx;simp at hx;omega⟩
theorem aj2:(noC 32 abg∧noC 32 aat∧noC 32 zx)∧noC 10 aju∧noC 10 ajv∧noC 10 ag9∧noC 10 zf:=by
 refine⟨⟨?_,?_,?_⟩,?_,?_,?_,?_⟩<;>(intro x hx;revert x;decide)
theorem asv:(words.all fun x=>x.data.toList.all (fun b=>!(b ==10)) && (!decide (x=abg) && (!decide (x=aat) && !decide (x=zx))))=true:=by kernel_rfl
theorem avv {j:Nat} {x:ByteArray} (h:words[j]?=some x):noC 10 x∧¬ x=abg∧¬ x=aat∧¬ x=zx:=by
 have:=List.all_eq_true.1 asv x (List.mem_of_getElem? h)
 simp only[Bool.and_eq_true,Bool.not_eq_true',decide_eq_false_iff_not,List.all_eq_true,beq_eq_false_iff_ne] at this
 refine⟨fun y hy=>?_,this.2⟩
 obtain⟨b,hb,rfl⟩:=List.mem_map.1 hy
 have h1:=this.1 b hb
 intro e
 exact h1 (UInt8.toNat_inj.1 (by rw[show(10:UInt8).toNat=10 from rfl];omega))
theorem ai3 {op a:Int} (h:gy op a=true):noC 10 (og op a)∧¬ wAt (bn 32 (og op a)) 0=abg∧¬ wAt (bn 32 (og op a)) 0=aat∧¬ wAt (bn 32 (og op a)) 0=zx:=by
 have h':=h
 rw[gy,Bool.and_eq_true] at h'
 obtain⟨h40,hin⟩:=h'
 obtain⟨j,x,rfl,hj,hx⟩:=aej h40
 obtain⟨w3,w4⟩:=alu hx
 obtain⟨k10,kw⟩:=avv hx
 have hop:=acz hx
 have e0:∀ r,wAt (x ::r) 0=x:=fun r=>rfl
 cases hh:aa8 ((j+1:Nat):Int)with
 | false=>
  rw[afo h hh,hop,aen w4,e0]
  exact⟨k10,kw⟩
 | true=>
  rw[ag7 h hh,hop]
  have hc:bn 32 (x ++(zf ++ay a))=x ::bn 32 (ay a):=abr w4
  have e1:∀ y:ByteArray,x ++((⟨#[32]⟩:ByteArray) ++y)=x ++(zf ++y):=fun _=>rfl
  rw[e1,hc,e0]
  exact⟨zh k10 (zh (by intro y hy;revert y;decide) (arb a)),kw⟩
structure asw (x:Imp):Prop where
 name:jv x.name=true
 params:0≤x.params∧x.params≤8
structure ap9 (c:Core):Prop where
 name:jv c.name=true
 params:0≤c.params∧c.params≤8
 locals:0≤c.locals∧c.locals≤8
 ins:∀ i ∈ c.code,gy i.op i.a=true
structure a0v (m:Mod):Prop where
 pages:1≤m.pages∧m.pages≤16
 imp:∀ x ∈ m.imports,asw x
 core:∀ c ∈ m.cores,ap9 c
theorem axx {m:Mod} (h:uy m=true):a0v m:=by
 have hf:=asa h
 rw[uy] at h
 simp only[Bool.and_eq_true,decide_eq_true_eq] at h
 obtain⟨h1,h2,h3,h4,h5,h6,h7⟩:=h
 rw[oq,Bool.and_eq_true] at h6 h7
 have n6:=ade h6.2
 have n7:=ade h7.2
 exact⟨hf.pages,fun x hx=>⟨n6 _ (List.mem_map.2 ⟨x,hx,rfl⟩),(hf.imp x hx).params⟩,fun c hc=>⟨n7 _ (List.mem_map.2 ⟨c,hc,rfl⟩),(hf.core c hc).params,(hf.core c hc).locals,(hf.core c hc).ins⟩⟩
structure afu (f:Mod→ByteArray→Mod):Prop where
 hd:∀ (m:Mod) (p:Int),1≤p∧p≤16→f m (hdN p)=⟨p,m.imports,m.cores⟩
 imp:∀ (m:Mod) (x:Imp),asw x→f m (ai1 x)=⟨m.pages,m.imports ++[x],m.cores⟩
 core:∀ (m:Mod) (c:Core),ap9 c→f m (ahx c)=⟨m.pages,m.imports,m.cores ++[⟨c.name,c.params,c.locals,c.result,[]⟩]⟩
 ins:∀ (m:Mod) (i:Ins),gy i.op i.a=true→f m (ap8 i)=⟨m.pages,m.imports,xg i m.cores⟩
theorem alx {f:Mod→ByteArray→Mod} (h:afu f):∀ (xs:List Imp) (m:Mod),(∀ x ∈ xs,asw x)→(xs.map ai1).foldl f m=⟨m.pages,m.imports ++xs,m.cores⟩
 | [],m,_=>by simp
 | x ::xs,m,hx=>by
  rw[List.map_cons,List.foldl_cons,h.imp m x (hx x (by simp)),alx h xs _ fun y hy=>hx y (by simp[hy])]
  simp
theorem aly {f:Mod→ByteArray→Mod} (h:afu f) (p:Int) (is:List Imp) (cs:List Core) (name:ByteArray) (a b:Int) (r:Bool):∀ (xs pre:List Ins),(∀ i ∈ xs,gy i.op i.a=true)→
  (xs.map ap8).foldl f ⟨p,is,cs ++[⟨name,a,b,r,pre⟩]⟩=⟨p,is,cs ++[⟨name,a,b,r,pre ++xs⟩]⟩
 | [],pre,_=>by simp
 | x ::xs,pre,hx=>by
  rw[List.map_cons,List.foldl_cons,h.ins _ x (hx x (by simp))]
  simp only[qc]
  rw[aly h p is cs name a b r xs _ fun y hy=>hx y (by simp[hy])]
  simp
theorem aj3 {f:Mod→ByteArray→Mod} (h:afu f):∀ (xs:List Core) (m:Mod),(∀ c ∈ xs,ap9 c)→(xs.flatMap aft).foldl f m=⟨m.pages,m.imports,m.cores ++xs⟩
 | [],m,_=>by simp
 | x ::xs,m,hx=>by
  have hg:=hx x (by simp)
  rw[List.flatMap_cons,List.foldl_append,aft,List.foldl_cons,h.core m x hg]
  obtain⟨name,a,b,r,code⟩:=x
  simp only
  rw[aly h _ _ _ _ _ _ _ _ _ hg.ins,aj3 h xs _ fun y hy=>hx y (by simp[hy])]
  simp
theorem step_mod {f:Mod→ByteArray→Mod} (h:afu f) {m:Mod} (hm:uy m=true):(ahy m).foldl f jk=m:=by
 have hg:=axx hm
 obtain⟨p,is,cs⟩:=m
 rw[ahy,List.foldl_cons,h.hd _ _ hg.pages,List.foldl_append,alx h _ _ hg.imp,aj3 h _ _ hg.core]
 simp[jk]
theorem asx {m:Mod} (hm:uy m=true):∀ l ∈ ahy m,noC 10 l:=by
 have hg:=axx hm
 obtain⟨p,is,cs⟩:=m
 obtain⟨_,k1,k2,k3,k4⟩:=aj2
 intro l hl
 rw[ahy] at hl
 rcases List.mem_cons.1 hl with rfl|hl
 ·exact zh k1 (abl (show(0:Int)≤p by have h1:(1:Int)≤p:=hg.pages.1;omega)).2
 rcases List.mem_append.1 hl with hl|hl
 ·obtain⟨x,hx,rfl⟩:=List.mem_map.1 hl
  have hi:=hg.imp x hx
  obtain⟨name,params,r⟩:=x
  exact zh (zh (zh (zh (zh k2 (agf hi.name).2) k4) (abl hi.params.1).2) k4) (ahz r).2
 ·obtain⟨c,hc,hl⟩:=List.mem_flatMap.1 hl
  have hi:=hg.core c hc
  rw[aft] at hl
  rcases List.mem_cons.1 hl with rfl|hl
  ·obtain⟨name,params,locals,r,code⟩:=c
   exact zh (zh (zh (zh (zh (zh (zh k3 (agf hi.name).2) k4) (abl hi.params.1).2) k4) (abl hi.locals.1).2) k4) (ahz r).2
  ·obtain⟨i,hi2,rfl⟩:=List.mem_map.1 hl
   exact(ai3 (hi.ins i hi2)).1
theorem ard {p:Int} (h:0≤p):bn 32 (hdN p)=[abg,ay p]:=by
 have e:hdN p=abg ++(zf ++ay p):=by rw[← x9];rfl
 rw[e,abr aj2.1.1,aen (abl h).1]
theorem apd {name:ByteArray} {params:Int} {r:Bool} (h1:jv name=true) (h2:0≤params):bn 32 (ai1 ⟨name,params,r⟩)=[aat,name,ay params,zu r]:=by
 have e:ai1 ⟨name,params,r⟩=aat ++(zf ++(name ++(zf ++(ay params ++(zf ++zu r))))):=by
  rw[ai1,show ajv=aat ++zf from rfl]
  simp only[x9]
 rw[e,abr aj2.1.2.1,abr (agf h1).1,abr (abl h2).1,aen (ahz r).1]
theorem am8 {name:ByteArray} {params locals:Int} {r:Bool} {code:List Ins} (h1:jv name=true) (h2:0≤params) (h3:0≤locals):bn 32 (ahx ⟨name,params,locals,r,code⟩)=[zx,name,ay params,ay locals,zu r]:=by
 have e:ahx ⟨name,params,locals,r,code⟩=zx ++(zf ++(name ++(zf ++(ay params ++(zf ++(ay locals ++(zf ++zu r))))))):=by
  rw[ahx,show ag9=zx ++zf from rfl]
  simp only[x9]
 rw[e,abr aj2.1.2.2,abr (agf h1).1,abr (abl h2).1,abr (abl h3).1,aen (ahz r).1]
theorem ah0:¬ aat=abg∧¬ zx=abg∧¬ zx=aat:=by decide
theorem ad3 {n:Int} (h:0≤n∧n≤16):(l9 (ay n)).1=n:=by
 have:=aln (n:=n) (by omega) (by omega)
 rw[aiu] at this
 rw[this]
theorem ac3 {n:Int} (h:0≤n∧n≤16):(uq (ay n)).1=n:=by rw[alq (by omega) (by omega)]
theorem aj6 (r:Bool):decide (zu r=one1)=r∧decide ((uq (zu r)).1=1)=r:=by
 refine⟨by cases r<;>decide,?_⟩
 rw[← aq3,ac3 (by cases r<;>decide)]
 cases r<;>rfl
theorem asy:afu lineS where
 hd:=fun m p h=>by rw[lineS,ard (by omega),agc,if_pos rfl];show Mod.mk (l9 (ay p)).1 _ _=_;rw[ad3 (by omega)]
 imp:=fun m x h=>by
  obtain⟨name,params,r⟩:=x
  rw[lineS,apd h.name h.params.1,agc,if_neg ah0.1,if_pos rfl]
  show Mod.mk m.pages (m.imports ++[⟨name,(l9 (ay params)).1,decide (zu r=one1)⟩]) m.cores=_
  rw[ad3 (by have:=h.params;simp only at this;omega),(aj6 r).1]
 core:=fun m c h=>by
  obtain⟨name,params,locals,r,code⟩:=c
  rw[lineS,am8 h.name h.params.1 h.locals.1,agc,if_neg ah0.2.1,if_neg ah0.2.2,if_pos rfl]
  show Mod.mk m.pages m.imports (m.cores ++[⟨name,(l9 (ay params)).1,(l9 (ay locals)).1,decide (zu r=one1),[]⟩])=_
  rw[ad3 (by have:=h.params;simp only at this;omega),ad3 (by have:=h.locals;simp only at this;omega),(aj6 r).1]
 ins:=fun m i h=>by
  obtain⟨op,a⟩:=i
  obtain⟨_,h1,h2,h3⟩:=ai3 h
  have h4:=(ahe h rfl).1
  show lineS m (og op a)=_
  rw[lineS,if_neg h1,if_neg h2,if_neg h3,h4]
theorem asz:afu aan where
 hd:=fun m p h=>by rw[aan,ard (by omega),agc,if_pos rfl];show Mod.mk (uq (ay p)).1 _ _=_;rw[ac3 (by omega)]
 imp:=fun m x h=>by
  obtain⟨name,params,r⟩:=x
  rw[aan,apd h.name h.params.1,agc,if_neg ah0.1,if_pos ⟨rfl,by simp⟩]
  show Mod.mk m.pages (m.imports ++[⟨name,(uq (ay params)).1,decide ((uq (zu r)).1=1)⟩]) m.cores=_
  rw[ac3 (by have:=h.params;simp only at this;omega),(aj6 r).2]
 core:=fun m c h=>by
  obtain⟨name,params,locals,r,code⟩:=c
  rw[aan,am8 h.name h.params.1 h.locals.1,agc,if_neg ah0.2.1,if_neg (fun e=>ah0.2.2 e.1),if_pos ⟨rfl,by simp⟩]
  show Mod.mk m.pages m.imports (m.cores ++[⟨name,(uq (ay params)).1,(uq (ay locals)).1,decide ((uq (zu r)).1=1),[]⟩])=_
  rw[ac3 (by have:=h.params;simp only at this;omega),ac3 (by have:=h.locals;simp only at this;omega),(aj6 r).2]
 ins:=fun m i h=>by
  obtain⟨op,a⟩:=i
  obtain⟨_,h1,h2,h3⟩:=ai3 h
  have h4:=(ahe h rfl).2
  show aan m (og op a)=_
  rw[aan,if_neg h1,if_neg fun e=>h2 e.1,if_neg fun e=>h3 e.1,h4]
theorem arf (m:Mod):∃ i,lineS m ⟨#[]⟩=⟨m.pages,m.imports,xg i m.cores⟩:=
 ⟨⟨(rdS ⟨#[]⟩).1,(rdS ⟨#[]⟩).2.1⟩,by rw[lineS,am6,agc,if_neg (by decide),if_neg (by decide),if_neg (by decide)]⟩
theorem aqa {m:Mod} (h:uy m=true):trimS (aaf (aak m))=m∧aau (aak m)=m:=by
 have h10:=asx h
 rw[aj1]
 constructor
 ·rw[aaf,agd h10,List.foldl_append,step_mod asy h,List.foldl_cons,List.foldl_nil]
  obtain⟨i,e⟩:=arf m
  rw[e,trimS]
  simp only[am5]
 ·rw[aau,am7 h10,step_mod asz h]
theorem as1 (s:ByteArray):amg s=afc s:=by
 by_cases hE:∃ m,uy m=true∧aak m=s
 ·obtain⟨m,h1,rfl⟩:=hE
  obtain⟨e1,e2⟩:=aqa h1
  rw[amg,afc,e1,e2]
 ·rw[amg,afc,if_neg fun h=>hE ⟨_,h.1,h.2⟩,if_neg fun h=>hE ⟨_,h.1,h.2⟩]
end Go.Proofs.YtlpcocfadppkhaaGreatDoor
