/-
  Versions: plain. No program in sight. (and 1 more texts)
-/
import Derived.Test.YtbafphecjijdmaaGreatDoorUb23
namespace Go.Proofs.YtbafphecjijdmaaGreatDoor
open Go.RowKit
set_option linter.all false
def aoj:ByteArray:=⟨#[46]⟩
def anz (v:Int):ByteArray:=(((abz (v / 1000000) ++aoj) ++abz (v / 1000 % 1000)) ++aoj) ++abz (v % 1000)
def an0 (s:ByteArray):List ByteArray:=Lib.splitB aoj 0 (Lib.countB s aoj) s
def ahd (t:ByteArray):Int:=if (ah8 t).2=true∧inB (ah8 t).1 0 999=true then (ah8 t).1 else -1
def akx:List ByteArray→Int→Int
 | [],n=>n
 | t ::ts,n=>if ahd t=-1 then -1 else akx ts (n * 1000+ahd t)
def afh (s:ByteArray):Int:=if (an0 s).length=3 then akx (an0 s) 0 else -1
theorem amv (t:ByteArray):ahd t=-1∨(0≤ahd t∧ahd t≤999):=by
 rw[ahd]
 split
 ·next h=>have:=agx.1 h.2;omega
 ·exact .inl rfl
theorem bgl {t:ByteArray} (h:(ah8 t).2=true):abz (ah8 t).1=t:=by
 cases hp:Lib.parseIntB 64 t.data.toList with
 | ok v=>
  rw[a2a hp] at h ⊢
  by_cases e:abz v=t
  ·rw[if_pos e];exact e
  ·rw[if_neg e] at h;cases h
 | range=>rw[ah8,hp] at h;cases h
 | _=>rw[ah8,hp] at h;cases h
theorem ayo {t:ByteArray} (h:0≤ahd t):abz (ahd t)=t∧ahd t≤999:=by
 have hr:=amv t
 refine⟨?_,by omega⟩
 by_cases e:(ah8 t).2=true∧inB (ah8 t).1 0 999=true
 ·have e2:ahd t=(ah8 t).1:=by rw[ahd,if_pos e]
  rw[e2];exact bgl e.1
 ·have e2:ahd t=-1:=by rw[ahd,if_neg e]
  omega
theorem avj {u:Int} (h0:0≤u) (h1:u≤999):ahd (abz u)=u:=by
 rw[ahd,bgk (by omega) (by omega),if_pos ⟨rfl,ag6 h0 h1⟩]
theorem aok (s:ByteArray):afh s=-1∨(0≤afh s∧afh s≤999999999):=by
 rw[afh]
 split
 ·next h=>
  match hc:an0 s,h with
  | [a,b,c],_=>
   have ha:=amv a
   have hb:=amv b
   have hc:=amv c
   simp only[akx]
   split
   ·exact .inl rfl
   ·split
    ·exact .inl rfl
    ·split
     ·exact .inl rfl
     ·right;omega
 ·exact .inl rfl
theorem a3u (v:Int):(anz v).data.toList=(abz (v / 1000000)).data.toList ++46 ::((abz (v / 1000 % 1000)).data.toList ++46 ::(abz (v % 1000)).data.toList):=by
 simp[anz,aoj]
theorem bgm {v:Int} (h0:0≤v):an0 (anz v)=[abz (v / 1000000),abz (v / 1000 % 1000),abz (v % 1000)]:=by
 have hs:=avh 46 (anz v)
 rw[a3u,a7v (ayn (by omega) (by decide)),a7v (ayn (by omega) (by decide)),bji (ayn (by omega) (by decide))] at hs
 have hinj:∀ (xs ys:List ByteArray),xs.map (·.data.toList)=ys.map (·.data.toList)→xs=ys:=fun xs ys h=>(List.map_inj_right (f:=fun b:ByteArray=>b.data.toList) (fun a b hab=>by
  apply ByteArray.ext
  exact Array.toList_inj.1 hab)).1 h
 exact hinj _ [_,_,_] hs
theorem bgn {v:Int} (h0:0≤v) (h1:v≤999999999):afh (anz v)=v:=by
 rw[afh,bgm h0,if_pos (by rfl)]
 have e1:=avj (u:=v / 1000000) (by omega) (by omega)
 have e2:=avj (u:=v / 1000 % 1000) (by omega) (by omega)
 have e3:=avj (u:=v % 1000) (by omega) (by omega)
 simp only[akx,e1,e2,e3]
 rw[if_neg (by omega),if_neg (by omega),if_neg (by omega)]
 omega
theorem a7x {s:ByteArray} (h:0≤afh s):anz (afh s)=s:=by
 by_cases hl:(an0 s).length=3
 ·have hj:=a7w 46 s.data.toList
  have hs:=avh 46 s
  have hv:afh s=akx (an0 s) 0:=by rw[afh,if_pos hl]
  match hc:an0 s,hl with
  | [a,b,c],_=>
   have hs2:Lib.splitB ⟨#[46]⟩ 0 (Lib.countB s ⟨#[46]⟩) s=[a,b,c]:=hc
   rw[hs2] at hs
   rw[← hs] at hj
   have ha:=amv a
   have hb:=amv b
   have hcc:=amv c
   rw[hc] at hv
   simp only[akx] at hv
   by_cases a1:ahd a=-1
   ·rw[if_pos a1] at hv;omega
   rw[if_neg a1] at hv
   by_cases b1:ahd b=-1
   ·rw[if_pos b1] at hv;omega
   rw[if_neg b1] at hv
   by_cases c1:ahd c=-1
   ·rw[if_pos c1] at hv;omega
   rw[if_neg c1] at hv
   have x1:afh s / 1000000=ahd a:=by omega
   have x2:afh s / 1000 % 1000=ahd b:=by omega
   have x3:afh s % 1000=ahd c:=by omega
   have y1:=(ayo (t:=a) (by omega)).1
   have y2:=(ayo (t:=b) (by omega)).1
   have y3:=(ayo (t:=c) (by omega)).1
   apply ByteArray.ext
   apply Array.toList_inj.1
   rw[a3u,x1,x2,x3,y1,y2,y3,← hj]
   simp[awz]
 ·rw[afh,if_neg hl] at h;omega
abbrev ajw (n:Int):Int:=wrap64 n
def agy:List Int→Int→Int→Nat→Option (Int×Int×Nat)
 | [],n,p,d=>some (n,p,d)
 | c ::r,n,p,d=>if c=46 then agy r (ajw (ajw (n+p) * 1000)) 0 (d+1)else if c < 48∨57 < c then none else agy r n (ajw (ajw (10 * p)+(c - 48))) d
def arf (s:ByteArray):Option (Int×Int×Nat)→Int
 | none=>-1
 | some (n,p,d)=>if d=2∧p≤999∧inB (ajw (n+p)) 0 999999999=true∧anz (ajw (n+p))=s then ajw (n+p)else -1
def bd2 (s:ByteArray):Int:=arf s (agy ((byt s).take 12) 0 0 0)
theorem ajl {n:Int} (h0:-9223372036854775808≤n) (h1:n≤9223372036854775807):ajw n=n:=IntWalk.wrap64_in _ ⟨h0,h1⟩
theorem a2b {u:Nat} (h:u < 1000) (r:List Int) (n:Int) (d:Nat):agy (ajk u ++r) n 0 d=agy r n (u:Int) d:=by
 by_cases h1:u < 10
 ·rw[anc h1,List.singleton_append,agy,if_neg (by omega),if_neg (by omega),ajl (n:=10 * 0) (by omega) (by omega),ajl (by omega) (by omega)]
  congr 1;omega
 by_cases h2:u < 100
 ·rw[amb h1,anc (u:=u / 10) (by omega)]
  simp only[List.singleton_append,List.cons_append,List.nil_append]
  rw[agy,if_neg (by omega),if_neg (by omega),agy,if_neg (by omega),if_neg (by omega)]
  rw[ajl (n:=10 * 0) (by omega) (by omega),ajl (n:=10 * 0+(48+((u / 10:Nat):Int) - 48)) (by omega) (by omega),ajl (n:=10 * _) (by omega) (by omega),ajl (by omega) (by omega)]
  congr 1;omega
 ·rw[amb h1,amb (u:=u / 10) (by omega),anc (u:=u / 10 / 10) (by omega)]
  simp only[List.singleton_append,List.cons_append,List.nil_append]
  rw[agy,if_neg (by omega),if_neg (by omega),agy,if_neg (by omega),if_neg (by omega),agy,if_neg (by omega),if_neg (by omega)]
  rw[ajl (n:=10 * 0) (by omega) (by omega),ajl (n:=10 * 0+(48+((u / 10 / 10:Nat):Int) - 48)) (by omega) (by omega),ajl (n:=10 * (10 * 0+_)) (by omega) (by omega),ajl (n:=10 * (10 * 0+(48+((u / 10 / 10:Nat):Int) - 48))+(48+((u / 10 % 10:Nat):Int) - 48)) (by omega) (by omega),ajl (n:=10 * (10 * _+_)) (by omega) (by omega),ajl (by omega) (by omega)]
  congr 1;omega
theorem ata {u:Nat} (h:u < 1000):(ajk u).length≤3:=a3t 3 u (by decide) (by simpa using h)
theorem a7y {v:Int} (h0:0≤v):byt (anz v)=ajk (v / 1000000).toNat ++46 ::(ajk (v / 1000 % 1000).toNat ++46 ::(ajk (v % 1000).toNat ++[])):=by
 have e:byt aoj=[46]:=rfl
 rw[anz,awx,awx,awx,awx,avi (by omega),avi (by omega),avi (by omega),e]
 simp
theorem a3v {v:Int} (h0:0≤v) (h1:v≤999999999):(anz v).size≤11:=by
 have a:=ata (u:=(v / 1000000).toNat) (by omega)
 have b:=ata (u:=(v / 1000 % 1000).toNat) (by omega)
 have c:=ata (u:=(v % 1000).toNat) (by omega)
 have:=congrArg List.length (a7y h0)
 simp only[anx,List.length_append,List.length_cons,List.length_nil] at this
 omega
theorem bjk {v:Int} (h0:0≤v) (h1:v≤999999999):∃ n p,agy ((byt (anz v)).take 12) 0 0 0=some (n,p,2)∧p≤999∧ajw (n+p)=v:=by
 have hs:=a3v h0 h1
 rw[List.take_of_length_le (by rw[anx];omega),a7y h0,a2b (by omega),agy,if_pos rfl,a2b (by omega),agy,if_pos rfl,a2b (by omega),agy]
 have ea:((v / 1000000).toNat:Int)=v / 1000000:=by omega
 have eb:((v / 1000 % 1000).toNat:Int)=v / 1000 % 1000:=by omega
 have ec:((v % 1000).toNat:Int)=v % 1000:=by omega
 rw[ea,eb,ec]
 rw[ajl (n:=0+v / 1000000) (by omega) (by omega),ajl (n:=(0+v / 1000000) * 1000) (by omega) (by omega),ajl (n:=(0+v / 1000000) * 1000+v / 1000 % 1000) (by omega) (by omega),ajl (n:=((0+v / 1000000) * 1000+v / 1000 % 1000) * 1000) (by omega) (by omega)]
 exact⟨_,_,rfl,by omega,by rw[ajl (by omega) (by omega)];omega⟩
theorem bnv (s:ByteArray):bd2 s=afh s:=by
 rcases aok s with h|⟨h0,h1⟩
 ·rw[h,bd2]
  cases hc:agy ((byt s).take 12) 0 0 0 with
  | none=>rfl
  | some r=>
   obtain⟨n,p,d⟩:=r
   rw[arf]
   split
   ·next hh=>
    obtain⟨_,_,h3,h4⟩:=hh
    have h5:=agx.1 h3
    have h6:=bgn h5.1 h5.2
    rw[h4,h] at h6
    omega
   ·rfl
 ·have ht:=a7x h0
  obtain⟨n,p,e1,e2,e3⟩:=bjk h0 h1
  rw[ht] at e1
  rw[bd2,e1,arf,e3,if_pos ⟨rfl,e2,ag6 h0 h1,ht⟩]
def ajm (x y:Int):Bool:=decide (0≤x) && (decide (0≤y) && (decide (y≤x) && (decide (x / 1000000=y / 1000000) && (decide (1000000≤x) ||decide (x / 1000=y / 1000)))))
def ap2 (a b:ByteArray):Bool:=ajm (afh a) (afh b)
theorem bgo {x y:Int} (h:x < 0):ajm x y=false:=by rw[ajm,decide_eq_false (by omega)];rfl
theorem bgp {x y:Int} (h:y < 0):ajm x y=false:=by rw[ajm,decide_eq_false (p:=0≤y) (by omega)];simp
theorem bcg {x y:Int} (h:x < y):ajm x y=false:=by rw[ajm,decide_eq_false (p:=y≤x) (by omega)];simp
theorem bch {x y:Int} (h:¬ x / 1000000=y / 1000000):ajm x y=false:=by rw[ajm,decide_eq_false h];simp
theorem a7z {x y:Int} (h0:0≤x) (h1:0≤y) (h2:y≤x) (h3:x / 1000000=y / 1000000):ajm x y=(decide (1000000≤x) ||decide (x / 1000=y / 1000)):=by rw[ajm,decide_eq_true h0,decide_eq_true h1,decide_eq_true h2,decide_eq_true h3];rfl
def a8a (s:ByteArray):Int:=if afh s < 0 then 0 else afh s
theorem ayp {s:ByteArray} (h:afh s < 0):a8a s=0∧decide (0≤afh s)=false:=⟨if_pos h,decide_eq_false (by omega)⟩
theorem bnw {s:ByteArray} {n:Int} (h:afh s=n) (h0:0≤n):a8a s=n∧decide (0≤afh s)=true:=by subst h;exact⟨if_neg (by omega),decide_eq_true h0⟩
theorem bjl (s:ByteArray):(an0 s).length=Lib.countB s aoj+1:=Lib.splitB_all aoj (by decide) 0 _ s rfl
theorem atb {c:UInt8}:∀ {l p:List UInt8},p ∈ ah7 c l→p.length≤l.length
 | [],p,h=>by simp[ah7] at h;subst h;simp
 | x ::r,p,h=>by
  rw[ah7] at h
  split at h
  ·rcases List.mem_cons.1 h with rfl|h
   ·simp
   ·have:=atb h;simp;omega
  ·split at h
   ·next he=>exact absurd he (awy c r)
   ·next q qs he=>
    rcases List.mem_cons.1 h with rfl|h
    ·have:=atb (c:=c) (l:=r) (p:=q) (by rw[he];simp)
     simp;omega
    ·have:=atb (c:=c) (l:=r) (p:=p) (by rw[he];simp[h])
     simp;omega
theorem bjm {s p:ByteArray} (h:p ∈ an0 s):p.size≤s.size:=by
 have h1:p.data.toList ∈ ah7 46 s.data.toList:=by rw[← avh];exact List.mem_map.2 ⟨p,h,rfl⟩
 have:=atb h1
 simpa using this
theorem a8b {t:ByteArray} {ts:List ByteArray} {n:Int} (h:ahd t=-1):akx (t ::ts) n=-1:=by rw[akx,if_pos h]
theorem bnx {t:ByteArray} {ts:List ByteArray} {n:Int} (h:¬ ahd t=-1):akx (t ::ts) n=akx ts (n * 1000+ahd t):=by rw[akx,if_neg h]
theorem bny {t:ByteArray} (h:(ah8 t).2=false):ahd t=-1:=by rw[ahd,if_neg (by rw[h];simp)]
theorem bjn {t:ByteArray} (h:inB (ah8 t).1 0 999=false):ahd t=-1:=by rw[ahd,if_neg (by rw[h];simp)]
theorem bnz {t:ByteArray} (h:(ah8 t).2=true) (h2:inB (ah8 t).1 0 999=true):ahd t=(ah8 t).1:=by rw[ahd,if_pos ⟨h,h2⟩]
mutual
def Ty.hN:Ty→List ByteArray
 | .mk kind name _ kids=>(if named kind then [name] else []) ++Ty.hNS kids
def Ty.hNS:List Ty→List ByteArray
 | []=>[]
 | t ::r=>t.hN ++Ty.hNS r
end
theorem bgq:∀ ts:List Ty,Ty.hNS ts=ts.flatMap Ty.hN
 | []=>rfl
 | t ::r=>by rw[Ty.hNS,bgq r,List.flatMap_cons]
theorem aw0 (kind:Int) (name:ByteArray) (labels:List ByteArray) (kids:List Ty):Ty.hN ⟨kind,name,labels,kids⟩=(if named kind then [name] else []) ++kids.flatMap Ty.hN:=by rw[Ty.hN,bgq]
theorem alo {α β:Type} {f:α→List β} {xs:List α} {k:Nat} {x:α} (h:xs[k]?=some x):(xs.take (k+1)).flatMap f=(xs.take k).flatMap f ++f x:=by
 rw[List.take_add_one,h];simp
theorem ar8:∀ t:Ty,t.hN.length≤t.parts:=Ty.ai4 fun kind name labels kids ih=>by
 have hk:∀ ts:List Ty,(∀ t ∈ ts,t.hN.length≤t.parts)→(ts.flatMap Ty.hN).length≤Ty.adh ts:=by
  intro ts
  induction ts with
  | nil=>intro _;simp[Ty.adh]
  | cons x xs ihx=>
   intro h
   rw[List.flatMap_cons,List.length_append,Ty.adh]
   have h1:=h x (by simp)
   have h2:=ihx fun t ht=>h t (by simp[ht])
   omega
 have:=hk kids ih
 rw[aw0,List.length_append,Ty.parts]
 split<;>simp only[List.length_cons,List.length_nil]<;>omega
theorem ba3 {kind:Int} {name:ByteArray} {labels:List ByteArray} {kids:List Ty} (h:Ty.shapes ⟨kind,name,labels,kids⟩=true):(named kind=true→0 < name.size)∧(named kind=false→name.size=0)∧∀ t ∈ kids,t.shapes=true:=by
 rw[Ty.shapes,al7,Bool.and_eq_true,List.all_eq_true] at h
 obtain⟨h1,h2⟩:=h
 rw[abb,Bool.and_eq_true,Bool.and_eq_true] at h1
 refine⟨fun hn=>?_,fun hn=>?_,h2⟩
 ·rw[hn,if_pos rfl] at h1
  have:=aiv h1.1.1
  omega
 ·rw[hn] at h1
  simpa using h1.1.1
def avk (f:jh):List ByteArray:=f.result.hN ++f.params.flatMap fun p=>p.typ.hN
def akf (f:jh) (res:List ByteArray):Bool:=(avk f).all fun n=>res.any fun r=>decide (r=n)
theorem bgr {f:jh} {res ys:List ByteArray} (h:∀ y,y ∈ ys↔y ∈ avk f):(ys.all fun n=>res.any fun r=>decide (r=n))=akf f res:=by
 rw[akf,Bool.eq_iff_iff,List.all_eq_true,List.all_eq_true]
 exact⟨fun hh y hy=>hh y ((h y).2 hy),fun hh y hy=>hh y ((h y).1 hy)⟩
def strLt (a b:ByteArray):Bool:=Op.bytesLess a.toList b.toList
def ajn (xs:List ByteArray) (k:Nat):Bool:=match xs[k]?,xs[k - 1]? with
 | some x,some y=>decide (k=0) ||strLt y x
 | _,_=>true
def an1 (xs:List ByteArray):Bool:=(List.range xs.length).all (ajn xs)
theorem atc (xs:List ByteArray):ajn xs 0=true:=by
 rw[ajn];split<;>simp
theorem ayq {xs:List ByteArray} {k:Nat} {x y:ByteArray} (h0:0 < k) (hx:xs[k]?=some x) (hy:xs[k - 1]?=some y):ajn xs k=strLt y x:=by
 simp only[ajn,hx,hy]
 have:decide (k=0)=false:=by simp;omega
 rw[this,Bool.false_or]
theorem a2c {xs:List ByteArray} (h:∀ j,j < xs.length→ajn xs j=true):an1 xs=true:=List.all_eq_true.2 fun x hx=>h x (List.mem_range.1 hx)
theorem a2d {xs:List ByteArray} {k:Nat} (hk:k < xs.length) (h:ajn xs k=false):an1 xs=false:=List.all_eq_false.2 ⟨k,List.mem_range.2 hk,by simp[h]⟩
def aqp (res:List ByteArray):Bool:=an1 res && res.all zn
def fnB (res:List ByteArray) (x:Fun):Bool:=zn x.name && (ai7 x.typ && akf x.typ res)
def ag9 (f:cu):Bool:=
 zn f.package && (zn f.name && (decide (0≤afh f.version) && (decide (f.resources.length≤4) && (decide (f.funcs.length≤8) && (aqp f.resources && (f.funcs.all (fnB f.resources) && an1 (f.funcs.map Fun.name)))))))
def a0o (res:List ByteArray) (k:Nat):Bool:=match res[k]? with
 | some x=>zn x && ajn res k
 | none=>true
theorem brc {res:List ByteArray} (h:∀ j,j < res.length→a0o res j=true):aqp res=true:=by
 have hk:∀ (k:Nat) (x:ByteArray),res[k]?=some x→zn x=true∧ajn res k=true:=fun k x hx=>by
  have hlt:=(List.getElem?_eq_some_iff.1 hx).1
  have:=h k hlt
  rw[a0o,hx,Bool.and_eq_true] at this
  exact this
 rw[aqp,Bool.and_eq_true]
 refine⟨a2c fun j hj=>(hk j _ (List.getElem?_eq_getElem hj)).2,List.all_eq_true.2 fun x hx=>?_⟩
 obtain⟨j,hj,rfl⟩:=List.getElem_of_mem hx
 exact(hk j _ (List.getElem?_eq_getElem hj)).1
theorem bci {res:List ByteArray} {k:Nat} {x:ByteArray} (hx:res[k]?=some x) (h:zn x=false∨ajn res k=false):aqp res=false:=by
 rw[aqp,Bool.and_eq_false_iff]
 rcases h with h|h
 ·exact .inr (List.all_eq_false.2 ⟨x,List.mem_of_getElem? hx,by simp[h]⟩)
 ·exact .inl (a2d (List.getElem?_eq_some_iff.1 hx).1 h)
theorem brd {res:List ByteArray} {fs:List Fun} (h:∀ (j:Nat) (x:Fun),fs[j]?=some x→fnB res x=true∧ajn (fs.map Fun.name) j=true):(fs.all (fnB res) && an1 (fs.map Fun.name))=true:=by
 rw[Bool.and_eq_true]
 refine⟨List.all_eq_true.2 fun x hx=>?_,a2c fun j hj=>?_⟩
 ·obtain⟨j,hj,rfl⟩:=List.getElem_of_mem hx
  exact(h j _ (List.getElem?_eq_getElem hj)).1
 ·rw[List.length_map] at hj
  exact(h j _ (List.getElem?_eq_getElem hj)).2
theorem amc {res:List ByteArray} {fs:List Fun} {k:Nat} {x:Fun} (hx:fs[k]?=some x) (h:fnB res x=false∨ajn (fs.map Fun.name) k=false):(fs.all (fnB res) && an1 (fs.map Fun.name))=false:=by
 rw[Bool.and_eq_false_iff]
 rcases h with h|h
 ·exact .inl (List.all_eq_false.2 ⟨x,List.mem_of_getElem? hx,by simp[h]⟩)
 ·exact .inr (a2d (by rw[List.length_map];exact(List.getElem?_eq_some_iff.1 hx).1) h)
theorem a8c {fs:List Fun} {k:Nat} {x:Fun} (hx:fs[k]?=some x):(fs.map Fun.name)[k]?=some x.name:=by rw[List.getElem?_map,hx];rfl
def a0p:ByteArray:=⟨#[47]⟩
def aol (at_ p n:ByteArray):ByteArray:=at_ ++((p ++a0p) ++n)
def ait (fs:List Fun) (n:ByteArray):Int:=acu (fun x=>decide (x.name=n)) fs
def ald (at_:ByteArray) (have_ want:List ByteArray) (k:Nat):Why:=match want[k]? with
 | none=>none
 | some r=>if acu (strEq r) have_ < 0 then some (6,ah6 at_ r)else none
def aja (at_:ByteArray) (have_ want:List Fun) (k:Nat):Why:=match want[k]? with
 | none=>none
 | some x=>match have_[(ait have_ x.name).toNat]? with
  | none=>some (9,ah6 at_ x.name)
  | some y=>if ait have_ x.name < 0 then some (9,ah6 at_ x.name)else ah3 (agf 4) y.typ x.typ (ah6 at_ x.name)
def aha (h w:cu) (at_:ByteArray) (vs:Bool):Why:=
 if ¬ (h.package=w.package∧h.name=w.name)then some (11,at_)
 else if vs=true∧ap2 h.version w.version=false then some (10,at_)
 else match zq (ald at_ h.resources w.resources) w.resources.length with
  | some r=>some r
  | none=>zq (aja at_ h.funcs w.funcs) w.funcs.length
end Go.Proofs.YtbafphecjijdmaaGreatDoor
