/-
  The number that a decimal numeral stands for: plain (by program: gen_rdd.py). No program in sight.
  Versions: plain. No program in sight.
  Interfaces: what it means that one is right, and the reasons why one cannot stand for another: plain. No program in sight.
-/
import Derived.Test.YtbafphecjijdmaaGreatDoorWa25
namespace Go.Proofs.YtbafphecjijdmaaGreatDoor
open Go.RowKit
set_option linter.unusedVariables false
set_option linter.unusedSimpArgs false
set_option linter.unnecessarySimpa false
def ahg (t:ByteArray):Int×Bool:=match Lib.parseIntB 64 t.data.toList with
 | .ok v=>if abr v=t then (v,true)else (0,false)
 | _=>(0,false)
theorem baj {l:List UInt8} {v:Int} (h:Lib.parseIntB 64 l=.ok v):-9223372036854775808≤v∧v≤9223372036854775807:=by
 have hq:(2:Nat) ^ (64 - 1)=9223372036854775808:=by decide
 cases l with
 | nil=>rw[Lib.parseIntB] at h;cases h
 | cons c r=>
  rw[Lib.parseIntB] at h
  simp only[hq] at h
  split at h
  ·cases h
  ·cases h
  ·split at h
   ·cases h
   ·split at h
    ·cases h
    ·injection h with h
     split at h<;>constructor<;>omega
theorem ayl {t:ByteArray} {v:Int} (h:Lib.parseIntB 64 t.data.toList=.ok v):ahg t=if abr v=t then (v,true)else (0,false):=by rw[ahg,h]
theorem bak {n:Int} (h0:-9223372036854775808≤n) (h1:n≤9223372036854775807):ahg (abr n)=(n,true):=by
 have hp:Lib.parseIntB 64 (abr n).data.toList=.ok n:=by
  have:=a7y h0 h1
  simpa [abr] using this
 rw[ayl hp,if_pos rfl]
def anf:ByteArray:=⟨#[46]⟩
def ams (v:Int):ByteArray:=(((abr (v / 1000000) ++anf) ++abr (v / 1000 % 1000)) ++anf) ++abr (v % 1000)
def amu (s:ByteArray):List ByteArray:=Lib.splitB anf 0 (Lib.countB s anf) s
def agp (t:ByteArray):Int:=if (ahg t).2=true∧inB (ahg t).1 0 999=true then (ahg t).1 else -1
def ajw:List ByteArray→Int→Int
 | [],n=>n
 | t ::ts,n=>if agp t=-1 then -1 else ajw ts (n * 1000+agp t)
def afb (s:ByteArray):Int:=if (amu s).length=3 then ajw (amu s) 0 else -1
theorem alv (t:ByteArray):agp t=-1∨(0≤agp t∧agp t≤999):=by
 rw[agp]
 split
 ·next h=>have:=af9.1 h.2;omega
 ·exact .inl rfl
theorem bam {t:ByteArray} (h:(ahg t).2=true):abr (ahg t).1=t:=by
 cases hp:Lib.parseIntB 64 t.data.toList with
 | ok v=>
  rw[ayl hp] at h ⊢
  by_cases e:abr v=t
  ·rw[if_pos e];exact e
  ·rw[if_neg e] at h;cases h
 | range=>rw[ahg,hp] at h;cases h
 | _=>rw[ahg,hp] at h;cases h
theorem avy {t:ByteArray} (h:0≤agp t):abr (agp t)=t∧agp t≤999:=by
 have hr:=alv t
 refine⟨?_,by omega⟩
 by_cases e:(ahg t).2=true∧inB (ahg t).1 0 999=true
 ·have e2:agp t=(ahg t).1:=by rw[agp,if_pos e]
  rw[e2];exact bam e.1
 ·have e2:agp t=-1:=by rw[agp,if_neg e]
  omega
theorem as9 {u:Int} (h0:0≤u) (h1:u≤999):agp (abr u)=u:=by
 rw[agp,bak (by omega) (by omega),if_pos ⟨rfl,agi h0 h1⟩]
theorem ang (s:ByteArray):afb s=-1∨(0≤afb s∧afb s≤999999999):=by
 rw[afb]
 split
 ·next h=>
  match hc:amu s,h with
  | [a,b,c],_=>
   have ha:=alv a
   have hb:=alv b
   have hc:=alv c
   simp only[ajw]
   split
   ·exact .inl rfl
   ·split
    ·exact .inl rfl
    ·split
     ·exact .inl rfl
     ·right;omega
 ·exact .inl rfl
theorem azm (v:Int):(ams v).data.toList=(abr (v / 1000000)).data.toList ++46 ::((abr (v / 1000 % 1000)).data.toList ++46 ::(abr (v % 1000)).data.toList):=by
 simp[ams,anf]
theorem bao {v:Int} (h0:0≤v):amu (ams v)=[abr (v / 1000000),abr (v / 1000 % 1000),abr (v % 1000)]:=by
 have hs:=as7 46 (ams v)
 rw[azm,a2f (avx (by omega) (by decide)),a2f (avx (by omega) (by decide)),bdm (avx (by omega) (by decide))] at hs
 have hinj:∀ (xs ys:List ByteArray),xs.map (·.data.toList)=ys.map (·.data.toList)→xs=ys:=fun xs ys h=>(List.map_inj_right (f:=fun b:ByteArray=>b.data.toList) (fun a b hab=>by
  apply ByteArray.ext
  exact Array.toList_inj.1 hab)).1 h
 exact hinj _ [_,_,_] hs
theorem bap {v:Int} (h0:0≤v) (h1:v≤999999999):afb (ams v)=v:=by
 rw[afb,bao h0,if_pos (by rfl)]
 have e1:=as9 (u:=v / 1000000) (by omega) (by omega)
 have e2:=as9 (u:=v / 1000 % 1000) (by omega) (by omega)
 have e3:=as9 (u:=v % 1000) (by omega) (by omega)
 simp only[ajw,e1,e2,e3]
 rw[if_neg (by omega),if_neg (by omega),if_neg (by omega)]
 omega
theorem a2h {s:ByteArray} (h:0≤afb s):ams (afb s)=s:=by
 by_cases hl:(amu s).length=3
 ·have hj:=a2g 46 s.data.toList
  have hs:=as7 46 s
  have hv:afb s=ajw (amu s) 0:=by rw[afb,if_pos hl]
  match hc:amu s,hl with
  | [a,b,c],_=>
   have hs2:Lib.splitB ⟨#[46]⟩ 0 (Lib.countB s ⟨#[46]⟩) s=[a,b,c]:=hc
   rw[hs2] at hs
   rw[← hs] at hj
   have ha:=alv a
   have hb:=alv b
   have hcc:=alv c
   rw[hc] at hv
   simp only[ajw] at hv
   by_cases a1:agp a=-1
   ·rw[if_pos a1] at hv;omega
   rw[if_neg a1] at hv
   by_cases b1:agp b=-1
   ·rw[if_pos b1] at hv;omega
   rw[if_neg b1] at hv
   by_cases c1:agp c=-1
   ·rw[if_pos c1] at hv;omega
   rw[if_neg c1] at hv
   have x1:afb s / 1000000=agp a:=by omega
   have x2:afb s / 1000 % 1000=agp b:=by omega
   have x3:afb s % 1000=agp c:=by omega
   have y1:=(avy (t:=a) (by omega)).1
   have y2:=(avy (t:=b) (by omega)).1
   have y3:=(avy (t:=c) (by omega)).1
   apply ByteArray.ext
   apply Array.toList_inj.1
   rw[azm,x1,x2,x3,y1,y2,y3,← hj]
   simp[aum]
 ·rw[afb,if_neg hl] at h;omega
abbrev aiz (n:Int):Int:=wrap64 n
def aga:List Int→Int→Int→Nat→Option (Int×Int×Nat)
 | [],n,p,d=>some (n,p,d)
 | c ::r,n,p,d=>if c=46 then aga r (aiz (aiz (n+p) * 1000)) 0 (d+1)else if c < 48∨57 < c then none else aga r n (aiz (aiz (10 * p)+(c - 48))) d
def apn (s:ByteArray):Option (Int×Int×Nat)→Int
 | none=>-1
 | some (n,p,d)=>if d=2∧p≤999∧inB (aiz (n+p)) 0 999999999=true∧ams (aiz (n+p))=s then aiz (n+p)else -1
def a8a (s:ByteArray):Int:=apn s (aga ((byt s).take 12) 0 0 0)
theorem ail {n:Int} (h0:-9223372036854775808≤n) (h1:n≤9223372036854775807):aiz n=n:=IntWalk.wrap64_in _ ⟨h0,h1⟩
theorem aym {u:Nat} (h:u < 1000) (r:List Int) (n:Int) (d:Nat):aga (aik u ++r) n 0 d=aga r n (u:Int) d:=by
 by_cases h1:u < 10
 ·rw[ama h1,List.singleton_append,aga,if_neg (by omega),if_neg (by omega),ail (n:=10 * 0) (by omega) (by omega),ail (by omega) (by omega)]
  congr 1;omega
 by_cases h2:u < 100
 ·rw[ak8 h1,ama (u:=u / 10) (by omega)]
  simp only[List.singleton_append,List.cons_append,List.nil_append]
  rw[aga,if_neg (by omega),if_neg (by omega),aga,if_neg (by omega),if_neg (by omega)]
  rw[ail (n:=10 * 0) (by omega) (by omega),ail (n:=10 * 0+(48+((u / 10:Nat):Int) - 48)) (by omega) (by omega),ail (n:=10 * _) (by omega) (by omega),ail (by omega) (by omega)]
  congr 1;omega
 ·rw[ak8 h1,ak8 (u:=u / 10) (by omega),ama (u:=u / 10 / 10) (by omega)]
  simp only[List.singleton_append,List.cons_append,List.nil_append]
  rw[aga,if_neg (by omega),if_neg (by omega),aga,if_neg (by omega),if_neg (by omega),aga,if_neg (by omega),if_neg (by omega)]
  rw[ail (n:=10 * 0) (by omega) (by omega),ail (n:=10 * 0+(48+((u / 10 / 10:Nat):Int) - 48)) (by omega) (by omega),ail (n:=10 * (10 * 0+_)) (by omega) (by omega),ail (n:=10 * (10 * 0+(48+((u / 10 / 10:Nat):Int) - 48))+(48+((u / 10 % 10:Nat):Int) - 48)) (by omega) (by omega),ail (n:=10 * (10 * _+_)) (by omega) (by omega),ail (by omega) (by omega)]
  congr 1;omega
theorem aq6 {u:Nat} (h:u < 1000):(aik u).length≤3:=azl 3 u (by decide) (by simpa using h)
theorem a2i {v:Int} (h0:0≤v):byt (ams v)=aik (v / 1000000).toNat ++46 ::(aik (v / 1000 % 1000).toNat ++46 ::(aik (v % 1000).toNat ++[])):=by
 have e:byt anf=[46]:=rfl
 rw[ams,auk,auk,auk,auk,as8 (by omega),as8 (by omega),as8 (by omega),e]
 simp
theorem azn {v:Int} (h0:0≤v) (h1:v≤999999999):(ams v).size≤11:=by
 have a:=aq6 (u:=(v / 1000000).toNat) (by omega)
 have b:=aq6 (u:=(v / 1000 % 1000).toNat) (by omega)
 have c:=aq6 (u:=(v % 1000).toNat) (by omega)
 have:=congrArg List.length (a2i h0)
 simp only[amr,List.length_append,List.length_cons,List.length_nil] at this
 omega
theorem bdo {v:Int} (h0:0≤v) (h1:v≤999999999):∃ n p,aga ((byt (ams v)).take 12) 0 0 0=some (n,p,2)∧p≤999∧aiz (n+p)=v:=by
 have hs:=azn h0 h1
 rw[List.take_of_length_le (by rw[amr];omega),a2i h0,aym (by omega),aga,if_pos rfl,aym (by omega),aga,if_pos rfl,aym (by omega),aga]
 have ea:((v / 1000000).toNat:Int)=v / 1000000:=by omega
 have eb:((v / 1000 % 1000).toNat:Int)=v / 1000 % 1000:=by omega
 have ec:((v % 1000).toNat:Int)=v % 1000:=by omega
 rw[ea,eb,ec]
 rw[ail (n:=0+v / 1000000) (by omega) (by omega),ail (n:=(0+v / 1000000) * 1000) (by omega) (by omega),ail (n:=(0+v / 1000000) * 1000+v / 1000 % 1000) (by omega) (by omega),ail (n:=((0+v / 1000000) * 1000+v / 1000 % 1000) * 1000) (by omega) (by omega)]
 exact⟨_,_,rfl,by omega,by rw[ail (by omega) (by omega)];omega⟩
theorem bhm (s:ByteArray):a8a s=afb s:=by
 rcases ang s with h|⟨h0,h1⟩
 ·rw[h,a8a]
  cases hc:aga ((byt s).take 12) 0 0 0 with
  | none=>rfl
  | some r=>
   obtain⟨n,p,d⟩:=r
   rw[apn]
   split
   ·next hh=>
    obtain⟨_,_,h3,h4⟩:=hh
    have h5:=af9.1 h3
    have h6:=bap h5.1 h5.2
    rw[h4,h] at h6
    omega
   ·rfl
 ·have ht:=a2h h0
  obtain⟨n,p,e1,e2,e3⟩:=bdo h0 h1
  rw[ht] at e1
  rw[a8a,e1,apn,e3,if_pos ⟨rfl,e2,agi h0 h1,ht⟩]
def ain (x y:Int):Bool:=decide (0≤x) && (decide (0≤y) && (decide (y≤x) && (decide (x / 1000000=y / 1000000) && (decide (1000000≤x) ||decide (x / 1000=y / 1000)))))
def aoo (a b:ByteArray):Bool:=ain (afb a) (afb b)
theorem bat {x y:Int} (h:x < 0):ain x y=false:=by rw[ain,decide_eq_false (by omega)];rfl
theorem bau {x y:Int} (h:y < 0):ain x y=false:=by rw[ain,decide_eq_false (p:=0≤y) (by omega)];simp
theorem a6e {x y:Int} (h:x < y):ain x y=false:=by rw[ain,decide_eq_false (p:=y≤x) (by omega)];simp
theorem a6f {x y:Int} (h:¬ x / 1000000=y / 1000000):ain x y=false:=by rw[ain,decide_eq_false h];simp
theorem a2j {x y:Int} (h0:0≤x) (h1:0≤y) (h2:y≤x) (h3:x / 1000000=y / 1000000):ain x y=(decide (1000000≤x) ||decide (x / 1000=y / 1000)):=by rw[ain,decide_eq_true h0,decide_eq_true h1,decide_eq_true h2,decide_eq_true h3];rfl
def a2k (s:ByteArray):Int:=if afb s < 0 then 0 else afb s
theorem avz {s:ByteArray} (h:afb s < 0):a2k s=0∧decide (0≤afb s)=false:=⟨if_pos h,decide_eq_false (by omega)⟩
theorem bhn {s:ByteArray} {n:Int} (h:afb s=n) (h0:0≤n):a2k s=n∧decide (0≤afb s)=true:=by subst h;exact⟨if_neg (by omega),decide_eq_true h0⟩
theorem bdp (s:ByteArray):(amu s).length=Lib.countB s anf+1:=Lib.splitB_all anf (by decide) 0 _ s rfl
theorem aq7 {c:UInt8}:∀ {l p:List UInt8},p ∈ ahf c l→p.length≤l.length
 | [],p,h=>by simp[ahf] at h;subst h;simp
 | x ::r,p,h=>by
  rw[ahf] at h
  split at h
  ·rcases List.mem_cons.1 h with rfl|h
   ·simp
   ·have:=aq7 h;simp;omega
  ·split at h
   ·next he=>exact absurd he (aul c r)
   ·next q qs he=>
    rcases List.mem_cons.1 h with rfl|h
    ·have:=aq7 (c:=c) (l:=r) (p:=q) (by rw[he];simp)
     simp;omega
    ·have:=aq7 (c:=c) (l:=r) (p:=p) (by rw[he];simp[h])
     simp;omega
theorem bdq {s p:ByteArray} (h:p ∈ amu s):p.size≤s.size:=by
 have h1:p.data.toList ∈ ahf 46 s.data.toList:=by rw[← as7];exact List.mem_map.2 ⟨p,h,rfl⟩
 have:=aq7 h1
 simpa using this
theorem a2l {t:ByteArray} {ts:List ByteArray} {n:Int} (h:agp t=-1):ajw (t ::ts) n=-1:=by rw[ajw,if_pos h]
theorem bho {t:ByteArray} {ts:List ByteArray} {n:Int} (h:¬ agp t=-1):ajw (t ::ts) n=ajw ts (n * 1000+agp t):=by rw[ajw,if_neg h]
theorem bhp {t:ByteArray} (h:(ahg t).2=false):agp t=-1:=by rw[agp,if_neg (by rw[h];simp)]
theorem bdr {t:ByteArray} (h:inB (ahg t).1 0 999=false):agp t=-1:=by rw[agp,if_neg (by rw[h];simp)]
theorem bhq {t:ByteArray} (h:(ahg t).2=true) (h2:inB (ahg t).1 0 999=true):agp t=(ahg t).1:=by rw[agp,if_pos ⟨h,h2⟩]
mutual
def Ty.hN:Ty→List ByteArray
 | .mk kind name _ kids=>(if named kind then [name] else []) ++Ty.hNS kids
def Ty.hNS:List Ty→List ByteArray
 | []=>[]
 | t ::r=>t.hN ++Ty.hNS r
end
theorem bav:∀ ts:List Ty,Ty.hNS ts=ts.flatMap Ty.hN
 | []=>rfl
 | t ::r=>by rw[Ty.hNS,bav r,List.flatMap_cons]
theorem aun (kind:Int) (name:ByteArray) (labels:List ByteArray) (kids:List Ty):Ty.hN ⟨kind,name,labels,kids⟩=(if named kind then [name] else []) ++kids.flatMap Ty.hN:=by rw[Ty.hN,bav]
theorem akp {α β:Type} {f:α→List β} {xs:List α} {k:Nat} {x:α} (h:xs[k]?=some x):(xs.take (k+1)).flatMap f=(xs.take k).flatMap f ++f x:=by
 rw[List.take_add_one,h];simp
theorem aqe:∀ t:Ty,t.hN.length≤t.parts:=Ty.ahy fun kind name labels kids ih=>by
 have hk:∀ ts:List Ty,(∀ t ∈ ts,t.hN.length≤t.parts)→(ts.flatMap Ty.hN).length≤Ty.ac1 ts:=by
  intro ts
  induction ts with
  | nil=>intro _;simp[Ty.ac1]
  | cons x xs ihx=>
   intro h
   rw[List.flatMap_cons,List.length_append,Ty.ac1]
   have h1:=h x (by simp)
   have h2:=ihx fun t ht=>h t (by simp[ht])
   omega
 have:=hk kids ih
 rw[aun,List.length_append,Ty.parts]
 split<;>simp only[List.length_cons,List.length_nil]<;>omega
theorem a4x {kind:Int} {name:ByteArray} {labels:List ByteArray} {kids:List Ty} (h:Ty.shapes ⟨kind,name,labels,kids⟩=true):(named kind=true→0 < name.size)∧(named kind=false→name.size=0)∧∀ t ∈ kids,t.shapes=true:=by
 rw[Ty.shapes,ak4,Bool.and_eq_true,List.all_eq_true] at h
 obtain⟨h1,h2⟩:=h
 rw[aay,Bool.and_eq_true,Bool.and_eq_true] at h1
 refine⟨fun hn=>?_,fun hn=>?_,h2⟩
 ·rw[hn,if_pos rfl] at h1
  have:=ahs h1.1.1
  omega
 ·rw[hn] at h1
  simpa using h1.1.1
def ata (f:jh):List ByteArray:=f.result.hN ++f.params.flatMap fun p=>p.typ.hN
def ajc (f:jh) (res:List ByteArray):Bool:=(ata f).all fun n=>res.any fun r=>decide (r=n)
theorem baw {f:jh} {res ys:List ByteArray} (h:∀ y,y ∈ ys↔y ∈ ata f):(ys.all fun n=>res.any fun r=>decide (r=n))=ajc f res:=by
 rw[ajc,Bool.eq_iff_iff,List.all_eq_true,List.all_eq_true]
 exact⟨fun hh y hy=>hh y ((h y).2 hy),fun hh y hy=>hh y ((h y).1 hy)⟩
def strLt (a b:ByteArray):Bool:=Op.bytesLess a.toList b.toList
def aio (xs:List ByteArray) (k:Nat):Bool:=match xs[k]?,xs[k - 1]? with
 | some x,some y=>decide (k=0) ||strLt y x
 | _,_=>true
def amv (xs:List ByteArray):Bool:=(List.range xs.length).all (aio xs)
theorem aq8 (xs:List ByteArray):aio xs 0=true:=by
 rw[aio];split<;>simp
theorem av1 {xs:List ByteArray} {k:Nat} {x y:ByteArray} (h0:0 < k) (hx:xs[k]?=some x) (hy:xs[k - 1]?=some y):aio xs k=strLt y x:=by
 simp only[aio,hx,hy]
 have:decide (k=0)=false:=by simp;omega
 rw[this,Bool.false_or]
theorem ayn {xs:List ByteArray} (h:∀ j,j < xs.length→aio xs j=true):amv xs=true:=List.all_eq_true.2 fun x hx=>h x (List.mem_range.1 hx)
theorem ayo {xs:List ByteArray} {k:Nat} (hk:k < xs.length) (h:aio xs k=false):amv xs=false:=List.all_eq_false.2 ⟨k,List.mem_range.2 hk,by simp[h]⟩
def ao2 (res:List ByteArray):Bool:=amv res && res.all aag
def fnB (res:List ByteArray) (x:Fun):Bool:=aag x.name && (ah5 x.typ && ajc x.typ res)
def agc (f:qg):Bool:=
 aag f.package && (aag f.name && (decide (0≤afb f.version) && (decide (f.resources.length≤4) && (decide (f.funcs.length≤8) && (ao2 f.resources && (f.funcs.all (fnB f.resources) && amv (f.funcs.map Fun.name)))))))
def axf (res:List ByteArray) (k:Nat):Bool:=match res[k]? with
 | some x=>aag x && aio res k
 | none=>true
theorem bk6 {res:List ByteArray} (h:∀ j,j < res.length→axf res j=true):ao2 res=true:=by
 have hk:∀ (k:Nat) (x:ByteArray),res[k]?=some x→aag x=true∧aio res k=true:=fun k x hx=>by
  have hlt:=(List.getElem?_eq_some_iff.1 hx).1
  have:=h k hlt
  rw[axf,hx,Bool.and_eq_true] at this
  exact this
 rw[ao2,Bool.and_eq_true]
 refine⟨ayn fun j hj=>(hk j _ (List.getElem?_eq_getElem hj)).2,List.all_eq_true.2 fun x hx=>?_⟩
 obtain⟨j,hj,rfl⟩:=List.getElem_of_mem hx
 exact(hk j _ (List.getElem?_eq_getElem hj)).1
theorem a6g {res:List ByteArray} {k:Nat} {x:ByteArray} (hx:res[k]?=some x) (h:aag x=false∨aio res k=false):ao2 res=false:=by
 rw[ao2,Bool.and_eq_false_iff]
 rcases h with h|h
 ·exact .inr (List.all_eq_false.2 ⟨x,List.mem_of_getElem? hx,by simp[h]⟩)
 ·exact .inl (ayo (List.getElem?_eq_some_iff.1 hx).1 h)
theorem bk7 {res:List ByteArray} {fs:List Fun} (h:∀ (j:Nat) (x:Fun),fs[j]?=some x→fnB res x=true∧aio (fs.map Fun.name) j=true):(fs.all (fnB res) && amv (fs.map Fun.name))=true:=by
 rw[Bool.and_eq_true]
 refine⟨List.all_eq_true.2 fun x hx=>?_,ayn fun j hj=>?_⟩
 ·obtain⟨j,hj,rfl⟩:=List.getElem_of_mem hx
  exact(h j _ (List.getElem?_eq_getElem hj)).1
 ·rw[List.length_map] at hj
  exact(h j _ (List.getElem?_eq_getElem hj)).2
theorem ak9 {res:List ByteArray} {fs:List Fun} {k:Nat} {x:Fun} (hx:fs[k]?=some x) (h:fnB res x=false∨aio (fs.map Fun.name) k=false):(fs.all (fnB res) && amv (fs.map Fun.name))=false:=by
 rw[Bool.and_eq_false_iff]
 rcases h with h|h
 ·exact .inl (List.all_eq_false.2 ⟨x,List.mem_of_getElem? hx,by simp[h]⟩)
 ·exact .inr (ayo (by rw[List.length_map];exact(List.getElem?_eq_some_iff.1 hx).1) h)
theorem a2m {fs:List Fun} {k:Nat} {x:Fun} (hx:fs[k]?=some x):(fs.map Fun.name)[k]?=some x.name:=by rw[List.getElem?_map,hx];rfl
def bax:ByteArray:=⟨#[47]⟩
def a8b (at_ p n:ByteArray):ByteArray:=at_ ++((p ++bax) ++n)
def ah7 (fs:List Fun) (n:ByteArray):Int:=acg (fun x=>decide (x.name=n)) fs
def ao3 (at_:ByteArray) (have_ want:List ByteArray) (k:Nat):Why:=match want[k]? with
 | none=>none
 | some r=>if acg (strEq r) have_ < 0 then some (6,aiy at_ r)else none
def akg (at_:ByteArray) (have_ want:List Fun) (k:Nat):Why:=match want[k]? with
 | none=>none
 | some x=>match have_[(ah7 have_ x.name).toNat]? with
  | none=>some (9,aiy at_ x.name)
  | some y=>if ah7 have_ x.name < 0 then some (9,aiy at_ x.name)else ajv (agl 4) y.typ x.typ (aiy at_ x.name)
def aki (h w:qg) (at_:ByteArray) (vs:Bool):Why:=
 if ¬ (h.package=w.package∧h.name=w.name)then some (11,at_)
 else if vs=true∧aoo h.version w.version=false then some (10,at_)
 else match aa0 (ao3 at_ h.resources w.resources) w.resources.length with
  | some r=>some r
  | none=>aa0 (akg at_ h.funcs w.funcs) w.funcs.length
end Go.Proofs.YtbafphecjijdmaaGreatDoor
