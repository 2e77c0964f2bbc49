/-
  The number that a decimal numeral stands for: plain (by program: gen_rdd.py). No program in sight.
  Versions: plain. No program in sight.
  Interfaces: what it means that one is right, and the reasons why one cannot stand for another: plain. No program in sight.
-/
import Derived.Test.YtbafphecjijdmaaGreatDoorFa25
namespace Go.Proofs.YtbafphecjijdmaaGreatDoor
open Go.RowKit
set_option linter.unusedVariables false
set_option linter.unusedSimpArgs false
set_option linter.unnecessarySimpa false
def ahf (t:ByteArray):Int×Bool:=match Lib.parseIntB 64 t.data.toList with
 | .ok v=>if abn v=t then (v,true)else (0,false)
 | _=>(0,false)
theorem a6x {l:List UInt8} {v:Int} (h:Lib.parseIntB 64 l=.ok v):-9223372036854775808≤v∧v≤9223372036854775807:=by
 have hq:(2:Nat) ^ (64 - 1)=9223372036854775808:=by decide
 cases l with
 | nil=>rw[Lib.parseIntB] at h;cases h
 | cons c r=>
  rw[Lib.parseIntB] at h
  simp only[hq] at h
  split at h
  ·cases h
  ·cases h
  ·split at h
   ·cases h
   ·split at h
    ·cases h
    ·injection h with h
     split at h<;>constructor<;>omega
theorem ax6 {t:ByteArray} {v:Int} (h:Lib.parseIntB 64 t.data.toList=.ok v):ahf t=if abn v=t then (v,true)else (0,false):=by rw[ahf,h]
theorem a6y {n:Int} (h0:-9223372036854775808≤n) (h1:n≤9223372036854775807):ahf (abn n)=(n,true):=by
 have hp:Lib.parseIntB 64 (abn n).data.toList=.ok n:=by
  have:=a5l h0 h1
  simpa [abn] using this
 rw[ax6 hp,if_pos rfl]
def am8:ByteArray:=⟨#[46]⟩
def amm (v:Int):ByteArray:=(((abn (v / 1000000) ++am8) ++abn (v / 1000 % 1000)) ++am8) ++abn (v % 1000)
def amn (s:ByteArray):List ByteArray:=Lib.splitB am8 0 (Lib.countB s am8) s
def agj (t:ByteArray):Int:=if (ahf t).2=true∧inB (ahf t).1 0 999=true then (ahf t).1 else -1
def ajt:List ByteArray→Int→Int
 | [],n=>n
 | t ::ts,n=>if agj t=-1 then -1 else ajt ts (n * 1000+agj t)
def afv (s:ByteArray):Int:=if (amn s).length=3 then ajt (amn s) 0 else -1
theorem als (t:ByteArray):agj t=-1∨(0≤agj t∧agj t≤999):=by
 rw[agj]
 split
 ·next h=>have:=af4.1 h.2;omega
 ·exact .inl rfl
theorem a6z {t:ByteArray} (h:(ahf t).2=true):abn (ahf t).1=t:=by
 cases hp:Lib.parseIntB 64 t.data.toList with
 | ok v=>
  rw[ax6 hp] at h ⊢
  by_cases e:abn v=t
  ·rw[if_pos e];exact e
  ·rw[if_neg e] at h;cases h
 | range=>rw[ahf,hp] at h;cases h
 | _=>rw[ahf,hp] at h;cases h
theorem avp {t:ByteArray} (h:0≤agj t):abn (agj t)=t∧agj t≤999:=by
 have hr:=als t
 refine⟨?_,by omega⟩
 by_cases e:(ahf t).2=true∧inB (ahf t).1 0 999=true
 ·have e2:agj t=(ahf t).1:=by rw[agj,if_pos e]
  rw[e2];exact a6z e.1
 ·have e2:agj t=-1:=by rw[agj,if_neg e]
  omega
theorem asx {u:Int} (h0:0≤u) (h1:u≤999):agj (abn u)=u:=by
 rw[agj,a6y (by omega) (by omega),if_pos ⟨rfl,agb h0 h1⟩]
theorem a1e (s:ByteArray):afv s=-1∨(0≤afv s∧afv s≤999999999):=by
 rw[afv]
 split
 ·next h=>
  match hc:amn s,h with
  | [a,b,c],_=>
   have ha:=als a
   have hb:=als b
   have hc:=als c
   simp only[ajt]
   split
   ·exact .inl rfl
   ·split
    ·exact .inl rfl
    ·split
     ·exact .inl rfl
     ·right;omega
 ·exact .inl rfl
theorem ay0 (v:Int):(amm v).data.toList=(abn (v / 1000000)).data.toList ++46 ::((abn (v / 1000 % 1000)).data.toList ++46 ::(abn (v % 1000)).data.toList):=by
 simp[amm,am8]
theorem a7a {v:Int} (h0:0≤v):amn (amm v)=[abn (v / 1000000),abn (v / 1000 % 1000),abn (v % 1000)]:=by
 have hs:=asv 46 (amm v)
 rw[ay0,a1c (avo (by omega) (by decide)),a1c (avo (by omega) (by decide)),a9a (avo (by omega) (by decide))] at hs
 have hinj:∀ (xs ys:List ByteArray),xs.map (·.data.toList)=ys.map (·.data.toList)→xs=ys:=fun xs ys h=>(List.map_inj_right (f:=fun b:ByteArray=>b.data.toList) (fun a b hab=>by
  apply ByteArray.ext
  exact Array.toList_inj.1 hab)).1 h
 exact hinj _ [_,_,_] hs
theorem a7b {v:Int} (h0:0≤v) (h1:v≤999999999):afv (amm v)=v:=by
 rw[afv,a7a h0,if_pos (by rfl)]
 have e1:=asx (u:=v / 1000000) (by omega) (by omega)
 have e2:=asx (u:=v / 1000 % 1000) (by omega) (by omega)
 have e3:=asx (u:=v % 1000) (by omega) (by omega)
 simp only[ajt,e1,e2,e3]
 rw[if_neg (by omega),if_neg (by omega),if_neg (by omega)]
 omega
theorem a1f {s:ByteArray} (h:0≤afv s):amm (afv s)=s:=by
 by_cases hl:(amn s).length=3
 ·have hj:=a1d 46 s.data.toList
  have hs:=asv 46 s
  have hv:afv s=ajt (amn s) 0:=by rw[afv,if_pos hl]
  match hc:amn s,hl with
  | [a,b,c],_=>
   have hs2:Lib.splitB ⟨#[46]⟩ 0 (Lib.countB s ⟨#[46]⟩) s=[a,b,c]:=hc
   rw[hs2] at hs
   rw[← hs] at hj
   have ha:=als a
   have hb:=als b
   have hcc:=als c
   rw[hc] at hv
   simp only[ajt] at hv
   by_cases a1:agj a=-1
   ·rw[if_pos a1] at hv;omega
   rw[if_neg a1] at hv
   by_cases b1:agj b=-1
   ·rw[if_pos b1] at hv;omega
   rw[if_neg b1] at hv
   by_cases c1:agj c=-1
   ·rw[if_pos c1] at hv;omega
   rw[if_neg c1] at hv
   have x1:afv s / 1000000=agj a:=by omega
   have x2:afv s / 1000 % 1000=agj b:=by omega
   have x3:afv s % 1000=agj c:=by omega
   have y1:=(avp (t:=a) (by omega)).1
   have y2:=(avp (t:=b) (by omega)).1
   have y3:=(avp (t:=c) (by omega)).1
   apply ByteArray.ext
   apply Array.toList_inj.1
   rw[ay0,x1,x2,x3,y1,y2,y3,← hj]
   simp[atz]
 ·rw[afv,if_neg hl] at h;omega
abbrev aiu (n:Int):Int:=wrap64 n
def af5:List Int→Int→Int→Nat→Option (Int×Int×Nat)
 | [],n,p,d=>some (n,p,d)
 | c ::r,n,p,d=>if c=46 then af5 r (aiu (aiu (n+p) * 1000)) 0 (d+1)else if c < 48∨57 < c then none else af5 r n (aiu (aiu (10 * p)+(c - 48))) d
def apd (s:ByteArray):Option (Int×Int×Nat)→Int
 | none=>-1
 | some (n,p,d)=>if d=2∧p≤999∧inB (aiu (n+p)) 0 999999999=true∧amm (aiu (n+p))=s then aiu (n+p)else -1
def verS (s:ByteArray):Int:=apd s (af5 ((byt s).take 12) 0 0 0)
theorem aij {n:Int} (h0:-9223372036854775808≤n) (h1:n≤9223372036854775807):aiu n=n:=IntWalk.wrap64_in _ ⟨h0,h1⟩
theorem ax7 {u:Nat} (h:u < 1000) (r:List Int) (n:Int) (d:Nat):af5 (aii u ++r) n 0 d=af5 r n (u:Int) d:=by
 by_cases h1:u < 10
 ·rw[al6 h1,List.singleton_append,af5,if_neg (by omega),if_neg (by omega),aij (n:=10 * 0) (by omega) (by omega),aij (by omega) (by omega)]
  congr 1;omega
 by_cases h2:u < 100
 ·rw[ak6 h1,al6 (u:=u / 10) (by omega)]
  simp only[List.singleton_append,List.cons_append,List.nil_append]
  rw[af5,if_neg (by omega),if_neg (by omega),af5,if_neg (by omega),if_neg (by omega)]
  rw[aij (n:=10 * 0) (by omega) (by omega),aij (n:=10 * 0+(48+((u / 10:Nat):Int) - 48)) (by omega) (by omega),aij (n:=10 * _) (by omega) (by omega),aij (by omega) (by omega)]
  congr 1;omega
 ·rw[ak6 h1,ak6 (u:=u / 10) (by omega),al6 (u:=u / 10 / 10) (by omega)]
  simp only[List.singleton_append,List.cons_append,List.nil_append]
  rw[af5,if_neg (by omega),if_neg (by omega),af5,if_neg (by omega),if_neg (by omega),af5,if_neg (by omega),if_neg (by omega)]
  rw[aij (n:=10 * 0) (by omega) (by omega),aij (n:=10 * 0+(48+((u / 10 / 10:Nat):Int) - 48)) (by omega) (by omega),aij (n:=10 * (10 * 0+_)) (by omega) (by omega),aij (n:=10 * (10 * 0+(48+((u / 10 / 10:Nat):Int) - 48))+(48+((u / 10 % 10:Nat):Int) - 48)) (by omega) (by omega),aij (n:=10 * (10 * _+_)) (by omega) (by omega),aij (by omega) (by omega)]
  congr 1;omega
theorem aqw {u:Nat} (h:u < 1000):(aii u).length≤3:=ayz 3 u (by decide) (by simpa using h)
theorem a1g {v:Int} (h0:0≤v):byt (amm v)=aii (v / 1000000).toNat ++46 ::(aii (v / 1000 % 1000).toNat ++46 ::(aii (v % 1000).toNat ++[])):=by
 have e:byt am8=[46]:=rfl
 rw[amm,atx,atx,atx,atx,asw (by omega),asw (by omega),asw (by omega),e]
 simp
theorem ay1 {v:Int} (h0:0≤v) (h1:v≤999999999):(amm v).size≤11:=by
 have a:=aqw (u:=(v / 1000000).toNat) (by omega)
 have b:=aqw (u:=(v / 1000 % 1000).toNat) (by omega)
 have c:=aqw (u:=(v % 1000).toNat) (by omega)
 have:=congrArg List.length (a1g h0)
 simp only[aml,List.length_append,List.length_cons,List.length_nil] at this
 omega
theorem a9c {v:Int} (h0:0≤v) (h1:v≤999999999):∃ n p,af5 ((byt (amm v)).take 12) 0 0 0=some (n,p,2)∧p≤999∧aiu (n+p)=v:=by
 have hs:=ay1 h0 h1
 rw[List.take_of_length_le (by rw[aml];omega),a1g h0,ax7 (by omega),af5,if_pos rfl,ax7 (by omega),af5,if_pos rfl,ax7 (by omega),af5]
 have ea:((v / 1000000).toNat:Int)=v / 1000000:=by omega
 have eb:((v / 1000 % 1000).toNat:Int)=v / 1000 % 1000:=by omega
 have ec:((v % 1000).toNat:Int)=v % 1000:=by omega
 rw[ea,eb,ec]
 rw[aij (n:=0+v / 1000000) (by omega) (by omega),aij (n:=(0+v / 1000000) * 1000) (by omega) (by omega),aij (n:=(0+v / 1000000) * 1000+v / 1000 % 1000) (by omega) (by omega),aij (n:=((0+v / 1000000) * 1000+v / 1000 % 1000) * 1000) (by omega) (by omega)]
 exact⟨_,_,rfl,by omega,by rw[aij (by omega) (by omega)];omega⟩
theorem verS_eq (s:ByteArray):verS s=afv s:=by
 rcases a1e s with h|⟨h0,h1⟩
 ·rw[h,verS]
  cases hc:af5 ((byt s).take 12) 0 0 0 with
  | none=>rfl
  | some r=>
   obtain⟨n,p,d⟩:=r
   rw[apd]
   split
   ·next hh=>
    obtain⟨_,_,h3,h4⟩:=hh
    have h5:=af4.1 h3
    have h6:=a7b h5.1 h5.2
    rw[h4,h] at h6
    omega
   ·rfl
 ·have ht:=a1f h0
  obtain⟨n,p,e1,e2,e3⟩:=a9c h0 h1
  rw[ht] at e1
  rw[verS,e1,apd,e3,if_pos ⟨rfl,e2,agb h0 h1,ht⟩]
def servN (x y:Int):Bool:=decide (0≤x) && (decide (0≤y) && (decide (y≤x) && (decide (x / 1000000=y / 1000000) && (decide (1000000≤x) ||decide (x / 1000=y / 1000)))))
def servB (a b:ByteArray):Bool:=servN (afv a) (afv b)
def numV (s:ByteArray):Int:=if afv s < 0 then 0 else afv s
theorem avq {s:ByteArray} (h:afv s < 0):numV s=0∧decide (0≤afv s)=false:=⟨if_pos h,decide_eq_false (by omega)⟩
theorem numV_ok {s:ByteArray} {n:Int} (h:afv s=n) (h0:0≤n):numV s=n∧decide (0≤afv s)=true:=by subst h;exact⟨if_neg (by omega),decide_eq_true h0⟩
theorem a9d (s:ByteArray):(amn s).length=Lib.countB s am8+1:=Lib.splitB_all am8 (by decide) 0 _ s rfl
theorem aqx {c:UInt8}:∀ {l p:List UInt8},p ∈ ahe c l→p.length≤l.length
 | [],p,h=>by simp[ahe] at h;subst h;simp
 | x ::r,p,h=>by
  rw[ahe] at h
  split at h
  ·rcases List.mem_cons.1 h with rfl|h
   ·simp
   ·have:=aqx h;simp;omega
  ·split at h
   ·next he=>exact absurd he (aty c r)
   ·next q qs he=>
    rcases List.mem_cons.1 h with rfl|h
    ·have:=aqx (c:=c) (l:=r) (p:=q) (by rw[he];simp)
     simp;omega
    ·have:=aqx (c:=c) (l:=r) (p:=p) (by rw[he];simp[h])
     simp;omega
theorem a9e {s p:ByteArray} (h:p ∈ amn s):p.size≤s.size:=by
 have h1:p.data.toList ∈ ahe 46 s.data.toList:=by rw[← asv];exact List.mem_map.2 ⟨p,h,rfl⟩
 have:=aqx h1
 simpa using this
theorem a1h {t:ByteArray} {ts:List ByteArray} {n:Int} (h:agj t=-1):ajt (t ::ts) n=-1:=by rw[ajt,if_pos h]
theorem parS_go {t:ByteArray} {ts:List ByteArray} {n:Int} (h:¬ agj t=-1):ajt (t ::ts) n=ajt ts (n * 1000+agj t):=by rw[ajt,if_neg h]
theorem parN_no {t:ByteArray} (h:(ahf t).2=false):agj t=-1:=by rw[agj,if_neg (by rw[h];simp)]
theorem a9f {t:ByteArray} (h:inB (ahf t).1 0 999=false):agj t=-1:=by rw[agj,if_neg (by rw[h];simp)]
theorem parN_is {t:ByteArray} (h:(ahf t).2=true) (h2:inB (ahf t).1 0 999=true):agj t=(ahf t).1:=by rw[agj,if_pos ⟨h,h2⟩]
mutual
def Ty.hN:Ty→List ByteArray
 | .mk kind name _ kids=>(if named kind then [name] else []) ++Ty.hNS kids
def Ty.hNS:List Ty→List ByteArray
 | []=>[]
 | t ::r=>t.hN ++Ty.hNS r
end
theorem hNS_eq:∀ ts:List Ty,Ty.hNS ts=ts.flatMap Ty.hN
 | []=>rfl
 | t ::r=>by rw[Ty.hNS,hNS_eq r,List.flatMap_cons]
theorem at1 (kind:Int) (name:ByteArray) (labels:List ByteArray) (kids:List Ty):Ty.hN ⟨kind,name,labels,kids⟩=(if named kind then [name] else []) ++kids.flatMap Ty.hN:=by rw[Ty.hN,hNS_eq]
theorem akn {α β:Type} {f:α→List β} {xs:List α} {k:Nat} {x:α} (h:xs[k]?=some x):(xs.take (k+1)).flatMap f=(xs.take k).flatMap f ++f x:=by
 rw[List.take_add_one,h];simp
theorem ap4:∀ t:Ty,t.hN.length≤t.parts:=Ty.ahx fun kind name labels kids ih=>by
 have hk:∀ ts:List Ty,(∀ t ∈ ts,t.hN.length≤t.parts)→(ts.flatMap Ty.hN).length≤Ty.acw ts:=by
  intro ts
  induction ts with
  | nil=>intro _;simp[Ty.acw]
  | cons x xs ihx=>
   intro h
   rw[List.flatMap_cons,List.length_append,Ty.acw]
   have h1:=h x (by simp)
   have h2:=ihx fun t ht=>h t (by simp[ht])
   omega
 have:=hk kids ih
 rw[at1,List.length_append,Ty.parts]
 split<;>simp only[List.length_cons,List.length_nil]<;>omega
theorem a3h {kind:Int} {name:ByteArray} {labels:List ByteArray} {kids:List Ty} (h:Ty.shapes ⟨kind,name,labels,kids⟩=true):(named kind=true→0 < name.size)∧(named kind=false→name.size=0)∧∀ t ∈ kids,t.shapes=true:=by
 rw[Ty.shapes,ak2,Bool.and_eq_true,List.all_eq_true] at h
 obtain⟨h1,h2⟩:=h
 rw[aaw,Bool.and_eq_true,Bool.and_eq_true] at h1
 refine⟨fun hn=>?_,fun hn=>?_,h2⟩
 ·rw[hn,if_pos rfl] at h1
  have:=ahq h1.1.1
  omega
 ·rw[hn] at h1
  simpa using h1.1.1
def funN (f:jh):List ByteArray:=f.result.hN ++f.params.flatMap fun p=>p.typ.hN
def aja (f:jh) (res:List ByteArray):Bool:=(funN f).all fun n=>res.any fun r=>decide (r=n)
theorem a7c {f:jh} {res ys:List ByteArray} (h:∀ y,y ∈ ys↔y ∈ funN f):(ys.all fun n=>res.any fun r=>decide (r=n))=aja f res:=by
 rw[aja,Bool.eq_iff_iff,List.all_eq_true,List.all_eq_true]
 exact⟨fun hh y hy=>hh y ((h y).2 hy),fun hh y hy=>hh y ((h y).1 hy)⟩
def strLt (a b:ByteArray):Bool:=Op.bytesLess a.toList b.toList
def aik (xs:List ByteArray) (k:Nat):Bool:=match xs[k]?,xs[k - 1]? with
 | some x,some y=>decide (k=0) ||strLt y x
 | _,_=>true
def amo (xs:List ByteArray):Bool:=(List.range xs.length).all (aik xs)
theorem aqy (xs:List ByteArray):aik xs 0=true:=by
 rw[aik];split<;>simp
theorem avr {xs:List ByteArray} {k:Nat} {x y:ByteArray} (h0:0 < k) (hx:xs[k]?=some x) (hy:xs[k - 1]?=some y):aik xs k=strLt y x:=by
 simp only[aik,hx,hy]
 have:decide (k=0)=false:=by simp;omega
 rw[this,Bool.false_or]
theorem ax8 {xs:List ByteArray} (h:∀ j,j < xs.length→aik xs j=true):amo xs=true:=List.all_eq_true.2 fun x hx=>h x (List.mem_range.1 hx)
theorem ax9 {xs:List ByteArray} {k:Nat} (hk:k < xs.length) (h:aik xs k=false):amo xs=false:=List.all_eq_false.2 ⟨k,List.mem_range.2 hk,by simp[h]⟩
def aot (res:List ByteArray):Bool:=amo res && res.all zy
def fnB (res:List ByteArray) (x:Fun):Bool:=zy x.name && (ah3 x.typ && aja x.typ res)
def af8 (f:qg):Bool:=
 zy f.package && (zy f.name && (decide (0≤afv f.version) && (decide (f.resources.length≤4) && (decide (f.funcs.length≤8) && (aot f.resources && (f.funcs.all (fnB f.resources) && amo (f.funcs.map Fun.name)))))))
def aw2 (res:List ByteArray) (k:Nat):Bool:=match res[k]? with
 | some x=>zy x && aik res k
 | none=>true
theorem res_ok {res:List ByteArray} (h:∀ j,j < res.length→aw2 res j=true):aot res=true:=by
 have hk:∀ (k:Nat) (x:ByteArray),res[k]?=some x→zy x=true∧aik res k=true:=fun k x hx=>by
  have hlt:=(List.getElem?_eq_some_iff.1 hx).1
  have:=h k hlt
  rw[aw2,hx,Bool.and_eq_true] at this
  exact this
 rw[aot,Bool.and_eq_true]
 refine⟨ax8 fun j hj=>(hk j _ (List.getElem?_eq_getElem hj)).2,List.all_eq_true.2 fun x hx=>?_⟩
 obtain⟨j,hj,rfl⟩:=List.getElem_of_mem hx
 exact(hk j _ (List.getElem?_eq_getElem hj)).1
theorem a4o {res:List ByteArray} {k:Nat} {x:ByteArray} (hx:res[k]?=some x) (h:zy x=false∨aik res k=false):aot res=false:=by
 rw[aot,Bool.and_eq_false_iff]
 rcases h with h|h
 ·exact .inr (List.all_eq_false.2 ⟨x,List.mem_of_getElem? hx,by simp[h]⟩)
 ·exact .inl (ax9 (List.getElem?_eq_some_iff.1 hx).1 h)
theorem fun_ok {res:List ByteArray} {fs:List Fun} (h:∀ (j:Nat) (x:Fun),fs[j]?=some x→fnB res x=true∧aik (fs.map Fun.name) j=true):(fs.all (fnB res) && amo (fs.map Fun.name))=true:=by
 rw[Bool.and_eq_true]
 refine⟨List.all_eq_true.2 fun x hx=>?_,ax8 fun j hj=>?_⟩
 ·obtain⟨j,hj,rfl⟩:=List.getElem_of_mem hx
  exact(h j _ (List.getElem?_eq_getElem hj)).1
 ·rw[List.length_map] at hj
  exact(h j _ (List.getElem?_eq_getElem hj)).2
theorem ak7 {res:List ByteArray} {fs:List Fun} {k:Nat} {x:Fun} (hx:fs[k]?=some x) (h:fnB res x=false∨aik (fs.map Fun.name) k=false):(fs.all (fnB res) && amo (fs.map Fun.name))=false:=by
 rw[Bool.and_eq_false_iff]
 rcases h with h|h
 ·exact .inl (List.all_eq_false.2 ⟨x,List.mem_of_getElem? hx,by simp[h]⟩)
 ·exact .inr (ax9 (by rw[List.length_map];exact(List.getElem?_eq_some_iff.1 hx).1) h)
theorem a1i {fs:List Fun} {k:Nat} {x:Fun} (hx:fs[k]?=some x):(fs.map Fun.name)[k]?=some x.name:=by rw[List.getElem?_map,hx];rfl
def slashS:ByteArray:=⟨#[47]⟩
def facL (at_ p n:ByteArray):ByteArray:=at_ ++((p ++slashS) ++n)
def ah5 (fs:List Fun) (n:ByteArray):Int:=ab6 (fun x=>decide (x.name=n)) fs
def aou (at_:ByteArray) (have_ want:List ByteArray) (k:Nat):Why:=match want[k]? with
 | none=>none
 | some r=>if ab6 (strEq r) have_ < 0 then some (6,ait at_ r)else none
def akf (at_:ByteArray) (have_ want:List Fun) (k:Nat):Why:=match want[k]? with
 | none=>none
 | some x=>match have_[(ah5 have_ x.name).toNat]? with
  | none=>some (9,ait at_ x.name)
  | some y=>if ah5 have_ x.name < 0 then some (9,ait at_ x.name)else ajs (agf 4) y.typ x.typ (ait at_ x.name)
def alk (h w:qg) (at_:ByteArray) (vs:Bool):Why:=
 if ¬ (h.package=w.package∧h.name=w.name)then some (11,at_)
 else if vs=true∧servB h.version w.version=false then some (10,at_)
 else match aax (aou at_ h.resources w.resources) w.resources.length with
  | some r=>some r
  | none=>aax (akf at_ h.funcs w.funcs) w.funcs.length
end Go.Proofs.YtbafphecjijdmaaGreatDoor
