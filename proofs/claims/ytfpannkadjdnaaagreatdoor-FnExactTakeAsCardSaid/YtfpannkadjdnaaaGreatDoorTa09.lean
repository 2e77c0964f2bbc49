/-
  The laws' own helpers 'hd..' over the program's types (by program: tygen2.py, tyfam.py). (and 3 more texts)
-/
import Derived.Test.YtfpannkadjdnaaaGreatDoorTa04
import Derived.Test.YtfpannkadjdnaaaGreatDoorTa07
import Derived.Deep.Cut
import Derived.Test.YtfpannkadjdnaaaGreatDoorTa01
import Derived.Laws.StructEq
namespace Go.Proofs.YtfpannkadjdnaaaGreatDoor
open Go.RowKit
set_option linter.all false
set_option maxRecDepth 100000
def aoh:Val→Prop
 | ⟨kind,num,text,kids⟩=>HdR 35 (.row 4 (kids.flatMap Val.pd))
set_option maxHeartbeats 1600000 in
theorem an0 {ts:List Val} (ih:∀ t ∈ ts,aoh t):HdR 35 (.row 4 (ts.flatMap Val.pd)):=by
 intro B v w k0 h0 h1 hB h;rw[PD.mark] at h;obtain⟨A,n,c,rfl,hl,hm,hat⟩:=a4r h;unfold maxLen at hm;rw[ai4,abx Val.ay] at hl;have hn:n=ts.length:=by omega
 have HN:=zqd hn;rw[PD.cnt] at h1;have H1:=zqd h1;have HI:=zqd ih;clear ih;clear h h1 hl hn;obtain⟨ds,hds⟩:∃ ds,ds=ts.flatMap Val.pd:=⟨_,rfl⟩;rw[← hds] at hat ⊢;have HD:=zqd hds;clear hds;go_enter Tryz.func35,Tryz.ntmps35
 go_wp2_with fail
 go_loopw [1,5] (fun l i wr=>∃ (k q:Nat),k≤n∧l=.int .i64 (k0+q)∧i=.int .i64 k∧Hid (q=PD.zq (ds.take (k * 4)))∧Below w.heap.size w wr) (fun _ i _=>n - (intOf i).toNat)
 case atStart=>exact⟨0,0,Nat.zero_le _,by simp,rfl,zqd (by simp[PD.zq]),zqf _ _⟩
 case round=>
  obtain⟨k,q,hk,rfl,rfl,HQ,hbr⟩:=hrel;have hqb:(k0:Int)+q≤1099511627776:=by have:=H1.out;have h2:=aeg ds (k * 4);rw[← HQ.out] at h2;rw[← HD.out] at this;omega
  by_cases hlt:k < n
  ·obtain⟨g,off,rfl,hg,hcell⟩:=hat (by omega)
   obtain⟨t,hx,hmem⟩:=uo HN.out hlt;have HM:=zqd hmem;clear hmem;obtain⟨kind,num,text,kids⟩:=t;have x0:ds[k * 4+0]?=some (.lit (.int .i64 kind)):=by rw[HD.out];have:=adn Val.ay hx (j:=0) (by decide);rw[this];rw[Val.ji];rfl
   have X0:=zqd x0;clear x0;have x1:ds[k * 4+1]?=some (.lit (.int .i64 num)):=by rw[HD.out];have:=adn Val.ay hx (j:=1) (by decide);rw[this];rw[Val.ji];rfl
   have X1:=zqd x1;clear x1;have x2:ds[k * 4+2]?=some (.lit (.string text)):=by rw[HD.out];have:=adn Val.ay hx (j:=2) (by decide);rw[this];rw[Val.ji];rfl
   have X2:=zqd x2;clear x2;have x3:ds[k * 4+3]?=some (.row 4 (kids.flatMap Val.pd)):=by rw[HD.out];have:=adn Val.ay hx (j:=3) (by decide);rw[this];rw[Val.ji];rfl
   have X3:=zqd x3;clear x3;have q0:(q:Nat)=PD.zq (ds.take (k * 4+0)):=HQ.out;have Q0:=zqd q0;have HC:=zqd hcell;clear q0 hx hcell;have c0:wr.cell? ⟨g,off+k * 4,none⟩=some (.int .i64 (k0+(q:Int))):=ng (B:=B) hbr (by omega) (by have:=HC.out (k * 4+0) _ (al4 k0 X0.out);rw[← Q0.out,PD.mark,show off+(k * 4+0)=off+k * 4 by omega,show k0+((q:Nat):Int)=k0+(q:Int) by omega] at this;exact this);have q1:q+1=PD.zq (ds.take (k * 4+1)):=by have:=ac6 X0.out;rw[← Q0.out] at this;exact this.symm
   have Q1:=zqd q1;clear q1;have c1:wr.cell? ⟨g,off+k * 4+1,none⟩=some (.int .i64 (k0+(q:Int)+1)):=ng (B:=B) hbr (by omega) (by have:=HC.out (k * 4+1) _ (al4 k0 X1.out);rw[← Q1.out,PD.mark,show off+(k * 4+1)=off+k * 4+1 by omega,show k0+((q+1:Nat):Int)=k0+(q:Int)+1 by omega] at this;exact this);have q2:q+1+1=PD.zq (ds.take (k * 4+2)):=by have:=ac6 X1.out;rw[← Q1.out] at this;exact this.symm
   have Q2:=zqd q2;clear q2;have c2:wr.cell? ⟨g,off+k * 4+2,none⟩=some (.string (markT (k0+(q:Int)+1+1))):=ng (B:=B) hbr (by omega) (by have:=HC.out (k * 4+2) _ (al4 k0 X2.out);rw[← Q2.out,PD.mark,show off+(k * 4+2)=off+k * 4+2 by omega,show k0+((q+1+1:Nat):Int)=k0+(q:Int)+1+1 by omega] at this;exact this);have q3:q+1+1+1=PD.zq (ds.take (k * 4+3)):=by have:=ac6 X2.out;rw[← Q2.out] at this;exact this.symm
   have Q3:=zqd q3;clear q3;have b2:(k0:Int)+((q+1+1+1:Nat):Int)≤1099511627776:=by have:=H1.out;have h2:=aeg ds (k * 4+3);rw[← Q3.out] at h2;rw[← HD.out] at this;omega
   push_cast at b2
   have hg2:g < wr.heap.size:=by have:=hbr.size;omega
   go_wp2_with fail
   go_region_held3 (fun w'=>w'.cell? ⟨g,off+k * 4+2,none⟩=some (.string (markT (k0+(q:Int)+1+1))))
    (first|go_keep|exact(hbq.cell (p:=⟨g,off+k * 4+2,none⟩) hg2).trans c2)
    (first|(go_at_call 48;refine(ak3 _ _ (by omega) (by omega)).mono ?_;rintro e wq ⟨rfl,hbq⟩))
   have hb2:Below w.heap.size w wq:=hbr.drew.trans (hbq.mono hbr.size);obtain⟨w2,hw2⟩:∃ W,W=wq:=⟨_,rfl⟩;subst hw2;clear hbq c0 c1 c2 hbr;obtain⟨iw,c3,r3⟩:∃ u,w2.cell? ⟨g,off+k * 4+3,none⟩=some u∧Rep w2 B ((PD.row 4 (kids.flatMap Val.pd)).mark (k0+(q:Int)+1+1+1)) u:=xq hb2 (by omega) hB (by have:=HC.out (k * 4+3) _ (al4 k0 X3.out);rw[← Q3.out,show off+(k * 4+3)=off+k * 4+3 by omega,show k0+((q+1+1+1:Nat):Int)=k0+(q:Int)+1+1+1 by omega] at this;exact this);have R3:=zqd r3;clear r3;have z3:=ac6 X3.out;rw[← Q3.out] at z3;have b3:(k0:Int)+PD.zq (ds.take (k * 4+4))≤1099511627776:=by have:=H1.out;have h2:=aeg ds (k * 4+4);rw[← HD.out] at this;omega
   obtain⟨y3,hy3⟩:∃ y:Nat,y=(PD.row 4 (kids.flatMap Val.pd)).cnt:=⟨_,rfl⟩;rw[z3,← hy3] at b3;have q4:q+1+1+1+y3=PD.zq (ds.take (k * 4+4)):=by rw[z3,hy3]
   have Q4:=zqd q4;have HY3:=zqd hy3;clear z3 hy3 q4;go_wp2_with fail
   refine((HI.out _ HM.out) B iw _ (k0+(q:Int)+1+1+1) (by omega) (by rw[← HY3.out];push_cast at b3 ⊢;omega) (Nat.le_trans hB hb2.size) R3.out).mono ?_;rintro e w3 ⟨rfl,bsu⟩;rw[← HY3.out];have hb3:=hb2.trans (bsu.mono hb2.size);clear bsu hb2 c3;have p3:0≤k0+(q:Int)+1+1+1+(y3:Int):=by omega
   go_wp2_with fail
   go_roundw
   case rel=>exact⟨k+1,q+1+1+1+y3,by omega,by go_num,by go_num,zqd (by rw[Q4.out];congr 2;omega),hb3⟩
   case measure=>simp[intOf];omega
  ·have hkn:k=n:=by omega
   subst hkn;have hlen:ds.length=k * 4:=by rw[HD.out,abx Val.ay,HN.out]
   have hq:q=PD.zq ds:=by rw[HQ.out,← hlen,List.take_length]
   have HQ2:=zqd hq;clear hq hlen;go_wp2_with fail
   go_ret
   exact⟨aa2 (by rw[HQ2.out];rfl),hbr⟩
mutual
theorem avm:∀ t:Val,aoh t
 | .mk kind num text kids=>an0 (amg kids)
theorem amg:∀ ts:List Val,∀ t ∈ ts,aoh t
 | [],x,hx=>absurd hx (by simp)
 | t ::r,x,hx=>(List.mem_cons.1 hx).elim (fun e=>e ▸ avm t) (fun h=>amg r x h)
end
theorem avn (ts:List Val):HdR 35 (.row 4 (ts.flatMap Val.pd)):=an0 (amg ts)
set_option maxHeartbeats 1600000 in
theorem avo {kind:Int} {num:Int} {text:ByteArray} {kids:List Val} (afq:HdR 35 (.row 4 (kids.flatMap Val.pd))):HdC 14 (Val.pd ⟨kind,num,text,kids⟩):=by
 intro B us w k0 h0 h1 hB h;rw[Val.ji] at h h1 ⊢;simp only[afw] at h;simp only[ab8] at h1 ⊢;obtain⟨um,ahj⟩:∃ y:Nat,y=PD.zq (kids.flatMap Val.pd):=⟨_,rfl⟩;rw[← ahj] at h1 ⊢;try rw[← ahj] at h
 have al8:=zqd ahj;clear ahj;obtain⟨us1,rfl,h1'⟩:=h.ab2;obtain⟨us2,rfl,h2'⟩:=h1'.ab2;obtain⟨us3,rfl,h3'⟩:=h2'.ab2;obtain⟨iw,us4,rfl,dn,h4'⟩:=h3'.of_cons;obtain rfl:=h4'.of_nil;have pq:=zqd dn;clear dn;clear h h1' h2' h3' h4';go_enter Tryz.func14,Tryz.ntmps14
 go_wp2_with fail
 obtain⟨w0,hw0⟩:∃ w0,w0=w.alloc (.cells #[.int .i64 kind,.int .i64 num,.string text,iw] 33):=⟨_,rfl⟩;rw[← hw0];have bA:=zqn hw0;have hB0:=zqb hw0;clear hw0;refine(afq B iw _ (k0) (by omega) (by rw[PD.cnt,← al8.out];omega) (Nat.le_trans hB hB0.size) (by rw[PD.mark];exact pq.out.below (hB0.mono hB))).mono ?_;rintro e w1 ⟨rfl,hb1⟩;rw[PD.cnt,← al8.out];have hB1:=hB0.trans (hb1.mono hB0.size);replace bA:=bA.step hb1;have p1:0≤k0+(um:Int):=by omega
 go_wp2_with fail
 go_ret
 exact⟨aa2 (by push_cast;omega),hB1⟩
theorem ap0 (t:Val):HdC 14 (Val.pd t):=by obtain⟨kind,num,text,kids⟩:=t;exact avo (avn kids)
end Go.Proofs.YtfpannkadjdnaaaGreatDoor
namespace Go.Proofs.YtfpannkadjdnaaaGreatDoor
set_option linter.all false
def Ty.kind:Ty→Int|.mk k _ _ _=>k
def Ty.kids:Ty→List Ty|.mk _ _ _ k=>k
mutual
def Ty.has (lo hi:Int):Ty→Bool
 | .mk kind _ _ kids=>inB kind lo hi ||Ty.a2d lo hi kids
def Ty.a2d (lo hi:Int):List Ty→Bool
 | []=>false
 | t ::r=>t.has lo hi ||Ty.a2d lo hi r
end
theorem avp (lo hi:Int):∀ ts:List Ty,Ty.a2d lo hi ts=ts.any (Ty.has lo hi)
 | []=>rfl
 | t ::r=>by rw[Ty.a2d,avp lo hi r,List.any_cons]
mutual
def Ty.height:Ty→Nat
 | .mk _ _ _ kids=>Ty.aey kids+1
def Ty.aey:List Ty→Nat
 | []=>0
 | t ::r=>max t.height (Ty.aey r)
end
mutual
def Ty.parts:Ty→Nat
 | .mk _ _ _ kids=>Ty.aed kids+1
def Ty.aed:List Ty→Nat
 | []=>0
 | t ::r=>t.parts+Ty.aed r
end
theorem agi (t:Ty):1≤t.height:=by cases t;rw[Ty.height];omega
theorem a4v (t:Ty):1≤t.parts:=by cases t;rw[Ty.parts];omega
theorem alm:∀ (xs ys:List Ty),Ty.aey (xs ++ys)=max (Ty.aey xs) (Ty.aey ys)
 | [],ys=>by simp[Ty.aey]
 | x ::xs,ys=>by simp[Ty.aey,alm xs ys,Nat.max_assoc]
theorem amh:∀ (xs ys:List Ty),Ty.aed (xs ++ys)=Ty.aed xs+Ty.aed ys
 | [],ys=>by simp[Ty.aed]
 | x ::xs,ys=>by simp[Ty.aed,amh xs ys];omega
theorem aqd {ts:List Ty} {k:Nat} {t:Ty} (h:ts[k]?=some t):Ty.aey (ts.take (k+1))=max (Ty.aey (ts.take k)) t.height:=by
 rw[List.take_add_one,h,alm];simp[Ty.aey]
theorem ar9 {ts:List Ty} {k:Nat} {t:Ty} (h:ts[k]?=some t):Ty.aed (ts.take (k+1))=Ty.aed (ts.take k)+t.parts:=by
 rw[List.take_add_one,h,amh];simp[Ty.aed]
theorem aos (ts:List Ty) (k:Nat):Ty.aed (ts.take k)≤Ty.aed ts:=by
 have:Ty.aed ts=Ty.aed (ts.take k)+Ty.aed (ts.drop k):=by rw[← amh,List.take_append_drop]
 omega
theorem auf (ts:List Ty) (k:Nat):Ty.aey (ts.take k)≤Ty.aey ts:=by
 have:Ty.aey ts=max (Ty.aey (ts.take k)) (Ty.aey (ts.drop k)):=by rw[← alm,List.take_append_drop]
 omega
theorem aug:∀ ts:List Ty,ts.length≤Ty.aed ts
 | []=>by simp
 | t ::r=>by have:=aug r;have:=a4v t;rw[Ty.aed,List.length_cons];omega
theorem auh {ts:List Ty} {t:Ty} (h:t ∈ ts):t.height≤Ty.aey ts:=by
 induction ts with
 | nil=>simp at h
 | cons x xs ih=>
  rw[Ty.aey];rcases List.mem_cons.1 h with rfl|h
  ·omega
  ·have:=ih h;omega
theorem a4w {ts:List Ty} {t:Ty} (h:t ∈ ts):t.parts≤Ty.aed ts:=by
 induction ts with
 | nil=>simp at h
 | cons x xs ih=>
  rw[Ty.aed];rcases List.mem_cons.1 h with rfl|h
  ·omega
  ·have:=ih h;omega
mutual
theorem ayv:∀ t:Ty,t.parts≤1+PD.szL (Ty.pd t)
 | .mk a b c kids=>by
  have:=awt kids;rw[Ty.parts,Ty.ji];simp only[PD.szL];omega
theorem awt:∀ ts:List Ty,Ty.aed ts≤(PD.row 4 (ts.flatMap Ty.pd)).sz
 | []=>by simp[Ty.aed]
 | t ::r=>by
  have h1:=ayv t;have h2:=awt r;rw[am4 Ty.ay (by decide)] at h2 ⊢;rw[Ty.aed,List.flatMap_cons,ams,List.length_cons];omega
end
mutual
theorem Ty.ai6 {p:Ty→Prop} (h:∀ kind name labels kids,(∀ t ∈ kids,p t)→p ⟨kind,name,labels,kids⟩):∀ t:Ty,p t
 | .mk a b c d=>h a b c d (Ty.a1d h d)
theorem Ty.a1d {p:Ty→Prop} (h:∀ kind name labels kids,(∀ t ∈ kids,p t)→p ⟨kind,name,labels,kids⟩):∀ ts:List Ty,∀ t ∈ ts,p t
 | [],x,hx=>absurd hx (by simp)
 | t ::r,x,hx=>(List.mem_cons.1 hx).elim (fun e=>e ▸ Ty.ai6 h t) (fun hm=>Ty.a1d h r x hm)
end
def afy (s:ByteArray) (k:Nat):Bool:=match s.data.toList[k]? with
 | none=>true
 | some c=>inB c.toNat 97 122 ||(decide (0 < k) && (inB c.toNat 48 57 ||(c.toNat ==45 && !(s.data.toList[k - 1]? ==some 45))))
def abh (s:ByteArray):Bool:=(List.range s.size).all (afy s) && inB s.size 1 12 && !(s.data.toList[s.size - 1]? ==some 45)
theorem am3 {s:ByteArray} {k:Nat} (hp:∀ j,j < k→afy s j=true) (hu:afy s k=true):∀ j,j < k+1→afy s j=true:=fun j hj=>by
 by_cases e:j=k
 ·subst e;exact hu
 ·exact hp j (by omega)
theorem a4x {s:ByteArray} (hp:∀ j,j < s.size→afy s j=true):abh s=(inB s.size 1 12 && !(s.data.toList[s.size - 1]? ==some 45)):=by
 have:(List.range s.size).all (afy s)=true:=List.all_eq_true.2 fun x hx=>hp x (List.mem_range.1 hx);rw[abh,this,Bool.true_and]
theorem aln {s:ByteArray} {k:Nat} (h:k < s.size) (hu:afy s k=false):abh s=false:=by
 have:(List.range s.size).all (afy s)=false:=List.all_eq_false.2 ⟨k,List.mem_range.2 h,by simp[hu]⟩;simp[abh,this]
theorem adv {s:ByteArray} {k:Nat} (h:k < s.size):s.data.toList[k]?=some s[k]:=by
 rw[List.getElem?_eq_getElem (by simpa using h)];rfl
theorem aib (c:UInt8):(c=45)↔c.toNat=45:=⟨fun h=>by rw[h];rfl,fun h=>UInt8.toNat_inj.1 h⟩
def aaj (ls:List ByteArray):Bool:=inB ls.length 1 16 && ls.all abh && decide ls.Nodup
def Ty.isUnit (t:Ty):Bool:=t.kind ==1
def aa4 (ts:List Ty):Bool:=!ts.any Ty.isUnit
def jk (kind:Int) (nl:Nat) (kids:List Ty):Bool:=
 if kind=12∨kind=13 then decide (kids.length=1) && aa4 kids
 else if kind=22∨kind=23 then decide (kids.length=1) && !kids.any (Ty.has 21 21)
 else if kind=14 then decide (kids.length=2)
 else if kind=15 then inB kids.length 1 6 && aa4 kids
 else if kind=16 then decide (kids.length=nl) && aa4 kids
 else if kind=17 then decide (kids.length=nl)
 else inB kind 1 23 && decide (kids.length=0)
def named (kind:Int):Bool:=kind ==20 ||kind ==21
def aag:Ty→Bool
 | .mk kind name labels kids=>
  (if named kind then abh name else decide (name.size=0)) && (if inB kind 16 19 then aaj labels else decide (labels.length=0)) && jk kind labels.length kids
mutual
def Ty.shapes:Ty→Bool
 | .mk kind name labels kids=>aag (.mk kind name labels kids) && Ty.aot kids
def Ty.aot:List Ty→Bool
 | []=>true
 | t ::r=>t.shapes && Ty.aot r
end
theorem ak5:∀ ts:List Ty,Ty.aot ts=ts.all Ty.shapes
 | []=>rfl
 | t ::r=>by rw[Ty.aot,ak5 r,List.all_cons]
def acp (t:Ty):Bool:=decide (t.height≤4) && decide (t.parts≤24) && t.shapes
theorem asa {s:ByteArray} (h:abh s=true):1≤s.size∧s.size≤12:=by
 simp only[abh,Bool.and_eq_true,abm] at h;omega
theorem ag8 {s t:ByteArray} (h:¬ s=t):(s.toList ==t.toList)=false:=by
 rw[beq_eq_false_iff_ne];intro e;rw[ByteArray.toList_eq,ByteArray.toList_eq] at e;exact h (by cases s;cases t;congr;exact Array.toList_inj.1 e)
section
variable {α:Type}
def aav (p:α→Bool):List α→Int
 | []=>-1
 | t ::r=>if p t then 0 else (let i:=aav p r;if i < 0 then -1 else i+1)
theorem aou (p:α→Bool):∀ ts:List α,-1≤aav p ts
 | []=>by simp[aav]
 | t ::r=>by
  have:=aou p r;rw[aav];split
  ·omega
  ·dsimp only
   split<;>omega
theorem ao7 (p:α→Bool):∀ ts:List α,decide (0≤aav p ts)=ts.any p
 | []=>by simp[aav]
 | t ::r=>by
  have ih:=ao7 p r;rw[aav,List.any_cons];cases ht:p t
  ·simp only[Bool.false_eq_true,if_false,Bool.false_or]
   rw[← ih];by_cases h:aav p r < 0
   ·simp[h]<;>omega
   ·simp[h]<;>omega
  ·simp
theorem al9 {p:α→Bool} {ts:List α} (h:∀ (j:Nat) (t:α),ts[j]?=some t→p t=false):aav p ts=-1:=by
 induction ts with
 | nil=>rfl
 | cons t r ih=>
  have h0:=h 0 t (by simp);rw[aav,h0,ih fun j x hx=>h (j+1) x (by simpa using hx)];simp
theorem am7 {p:α→Bool} {ts:List α} {k:Nat} {t:α} (hp:∀ (j:Nat) (t:α),j < k→ts[j]?=some t→p t=false) (hx:ts[k]?=some t) (hb:p t=true):aav p ts=(k:Int):=by
 induction ts generalizing k with
 | nil=>simp at hx
 | cons x r ih=>
  cases k with
  | zero=>
   simp at hx;subst hx;rw[aav,hb];simp
  | succ k=>
   have h0:=hp 0 x (by omega) (by simp);have:=ih (k:=k) (fun j y hj hy=>hp (j+1) y (by omega) (by simpa using hy)) (by simpa using hx);rw[aav,h0,this];simp;omega
theorem aij {p:α→Bool} {ts:List α} {k:Nat} {t:α} (hp:∀ (j:Nat) (t:α),j < k→ts[j]?=some t→p t=false) (hx:ts[k]?=some t) (hb:p t=false):∀ (j:Nat) (t:α),j < k+1→ts[j]?=some t→p t=false:=by
 intro j y hj hy;by_cases e:j=k
 ·subst e
  rw[hx] at hy;injection hy with hy
  rw[← hy];exact hb
 ·exact hp j y (by omega) hy
theorem avq {p:α→Bool} {ts:List α} {k:Nat} {t:α} (hx:ts[k]?=some t) (hb:p t=true):ts.any p=true:=List.any_eq_true.2 ⟨t,List.mem_of_getElem? hx,hb⟩
theorem any_none {p:α→Bool} {ts:List α} {n:Nat} (hn:ts.length≤n) (hp:∀ (j:Nat) (t:α),j < n→ts[j]?=some t→p t=false):ts.any p=false:=List.any_eq_false.2 fun x hx=>by
 obtain⟨j,hj,rfl⟩:=List.getElem_of_mem hx;simp[hp j _ (by omega) (List.getElem?_eq_getElem hj)]
theorem bsv {p:α→Bool} {ts:List α} {n:Nat} (hn:ts.length≤n) (hp:∀ (j:Nat) (t:α),j < n→ts[j]?=some t→(fun t=>!p t) t=false):ts.all p=true:=List.all_eq_true.2 fun x hx=>by
 obtain⟨j,hj,rfl⟩:=List.getElem_of_mem hx;have:=hp j _ (by omega) (List.getElem?_eq_getElem hj);simpa using this
theorem boz {p:α→Bool} {ts:List α} {k:Nat} {t:α} (hx:ts[k]?=some t) (hb:p t=false):ts.all p=false:=List.all_eq_false.2 ⟨t,List.mem_of_getElem? hx,by simp[hb]⟩
end
end Go.Proofs.YtfpannkadjdnaaaGreatDoor
namespace Go.Proofs.YtfpannkadjdnaaaGreatDoor
open Go.RowKit
set_option linter.all false
set_option maxRecDepth 100000
section
variable {α β:Type}
def same2 (p:α→β→Bool):List α→List β→Bool
 | [],[]=>true
 | x ::xs,y ::ys=>p x y && same2 p xs ys
 | _,_=>false
theorem awu {p:α→β→Bool}:∀ {xs:List α} {ys:List β},same2 p xs ys=true→xs.length=ys.length
 | [],[],_=>rfl
 | x ::xs,y ::ys,h=>by rw[same2,Bool.and_eq_true] at h;simp[awu h.2]
 | [],y ::ys,h=>by simp[same2] at h
 | x ::xs,[],h=>by simp[same2] at h
theorem ao8 {p:α→β→Bool} {xs:List α} {ys:List β} (h:xs.length≠ys.length):same2 p xs ys=false:=Bool.eq_false_iff.2 fun e=>h (awu e)
theorem ayw {p:α→β→Bool}:∀ {xs:List α} {ys:List β} {k:Nat} {x:α} {y:β},xs[k]?=some x→ys[k]?=some y→same2 p xs ys=true→p x y=true
 | x ::xs,y ::ys,0,_,_,hx,hy,h=>by simp at hx hy;subst hx hy;rw[same2,Bool.and_eq_true] at h;exact h.1
 | x ::xs,y ::ys,k+1,_,_,hx,hy,h=>by rw[same2,Bool.and_eq_true] at h;exact ayw (k:=k) (by simpa using hx) (by simpa using hy) h.2
 | [],_,_,_,_,hx,_,_=>by simp at hx
 | x ::xs,[],_,_,_,_,hy,_=>by simp at hy
theorem amw {p:α→β→Bool} {xs:List α} {ys:List β} {k:Nat} {x:α} {y:β} (hx:xs[k]?=some x) (hy:ys[k]?=some y) (h:p x y=false):same2 p xs ys=false:=
 Bool.eq_false_iff.2 fun e=>by have:=ayw hx hy e;rw[h] at this;cases this
theorem awv {p:α→β→Bool}:∀ {xs:List α} {ys:List β},xs.length=ys.length→(∀ (j:Nat) (x:α) (y:β),xs[j]?=some x→ys[j]?=some y→p x y=true)→same2 p xs ys=true
 | [],[],_,_=>rfl
 | x ::xs,y ::ys,hl,h=>by
  rw[same2,h 0 x y (by simp) (by simp),awv (by simpa using hl) fun j a b ha hb=>h (j+1) a b (by simpa using ha) (by simpa using hb)];rfl
 | [],y ::ys,hl,_=>by simp at hl
 | x ::xs,[],hl,_=>by simp at hl
theorem amx {p:α→β→Bool} {xs:List α} {ys:List β} {k:Nat} {x:α} {y:β} (hp:∀ (j:Nat) (a:α) (b:β),j < k→xs[j]?=some a→ys[j]?=some b→p a b=true) (hx:xs[k]?=some x) (hy:ys[k]?=some y) (h:p x y=true):
  ∀ (j:Nat) (a:α) (b:β),j < k+1→xs[j]?=some a→ys[j]?=some b→p a b=true:=by
 intro j a b hj ha hb;by_cases e:j=k
 ·subst e
  rw[hx] at ha;rw[hy] at hb;injection ha with ha
  injection hb with hb
  rw[← ha,← hb];exact h
 ·exact hp j a b (by omega) ha hb
theorem an1 {p:α→β→Bool} {xs:List α} {ys:List β} {k n:Nat} (hk:¬ k < n) (h1:n=xs.length) (h2:n=ys.length) (hp:∀ (j:Nat) (a:α) (b:β),j < k→xs[j]?=some a→ys[j]?=some b→p a b=true):same2 p xs ys=true:=
 awv (by omega) fun j a b ha hb=>hp j a b (by have:=(List.getElem?_eq_some_iff.1 ha).1;omega) ha hb
end
def strEq (x y:ByteArray):Bool:=decide (x=y)
set_option maxHeartbeats 1600000 in
theorem asv {B:Nat} {v u:Value} {xs ys:List ByteArray} {w:World} (h:Rep w B (.row 1 (xs.flatMap aam)) v) (k:Rep w B (.row 1 (ys.flatMap aam)) u):
  Calls Tryz.prog 115 #[v,u] w fun e w'=>e=.returned (.bool (same2 strEq xs ys))∧Below w.heap.size w w':=by
 obtain⟨A,n,c,rfl,hnl,hm,hat⟩:=bf jo (by decide) h;obtain⟨A',n',c',rfl,ak2,hm',hat'⟩:=bf jo (by decide) k;unfold maxLen at hm hm';have HN:=zqd hnl;have HM:=zqd ak2;clear h k hnl ak2;by_cases hnm:n=n'
 ·subst hnm
  go_enter Tryz.func115,Tryz.ntmps115
  go_wp2_with fail
  go_loopw [13] (fun i wr=>∃ k:Nat,k≤n∧i=.int .i64 k∧Hid (∀ (j:Nat) (a b:ByteArray),j < k→xs[j]?=some a→ys[j]?=some b→strEq a b=true)∧∃ q,wr=w.drewN q) (fun i _=>n - (intOf i).toNat)
  case atStart=>exact⟨0,Nat.zero_le _,rfl,zqd fun j a b h=>absurd h (by omega),0,rfl⟩
  case round=>
   obtain⟨k,hk,rfl,HP,q,rfl⟩:=hrel;by_cases hlt:k < n
   ·obtain⟨g,off,rfl,hg,hcell⟩:=hat (by omega)
    obtain⟨g',off',rfl,hg',hcell'⟩:=hat' (by omega);obtain⟨x,hx,_⟩:=uo HN.out hlt;obtain⟨y,hy,_⟩:=uo HM.out hlt;have hlt':(k:Int) < (n:Int):=by omega
    have c_x:w.cell? ⟨g,off+k,none⟩=some (.string x):=by
     obtain⟨u,hu,hr⟩:=hcell k 0 _ _ hx rfl;rw[hr.ab2] at hu;simpa using hu
    have c_y:w.cell? ⟨g',off'+k,none⟩=some (.string y):=by
     obtain⟨u,hu,hr⟩:=hcell' k 0 _ _ hy rfl;rw[hr.ab2] at hu;simpa using hu
    have HX:=zqd hx;have HY:=zqd hy;clear hx hy hcell hcell' hat hat';by_cases hb:x=y
    ·have HQ:=zqd (amx (p:=strEq) HP.out HX.out HY.out (by simp[strEq,hb]))
     subst hb;go_wp2_with fail
     go_quiet (fail)
     go_wp2_with fail
     go_roundw
     case rel=>exact⟨k+1,by omega,by go_num,HQ,_,rfl⟩
     case measure=>simp[intOf];omega
    ·have HF:Hid (same2 strEq xs ys=false):=amw HX.out HY.out (by simp[strEq,hb])
     have hs:(x.toList ==y.toList)=false:=ag8 hb;clear hb;go_wp2_with fail
     go_quiet (fail)
     go_wp2_with fail
     go_ret
     exact⟨au HF.out.symm,by rw[World.drewN_drewN];exact below_drewN (zqf _ _) _⟩
   ·have HF:Hid (same2 strEq xs ys=true):=an1 hlt HN.out HM.out HP.out
    have hkn:k=n:=by omega
    subst hkn;go_wp2_with fail
    go_ret
    exact⟨au HF.out.symm,below_drewN (zqf _ _) _⟩
 ·have HF:Hid (same2 strEq xs ys=false):=ao8 (by have:=HN.out;have:=HM.out;omega)
  have hb:((n:Int) != (n':Int))=true:=by simp;omega
  clear hat hat';go_enter Tryz.func115,Tryz.ntmps115
  go_wp2_with fail
  go_ret
  exact⟨au HF.out.symm,zqf _ _⟩
set_option maxHeartbeats 1600000 in
theorem ayx (fid:Nat) (caps:Array Value) (p:Ty→Ty→Bool) {B:Nat} {v u:Value} {xs ys:List Ty} {w:World} (hB:B≤w.heap.size) (h:Rep w B (.row 4 (xs.flatMap Ty.pd)) v) (k:Rep w B (.row 4 (ys.flatMap Ty.pd)) u)
  (hcf:∀ a W,Sem.run Tryz.prog (callFunc fid a) W=.ok (.enter fid a) W)
  (hp:∀ x ∈ xs,∀ y ∈ ys,∀ (cs ds:List Value) (W:World),Below w.heap.size w W→jq W B (Ty.pd x) cs→jq W B (Ty.pd y) ds→Calls Tryz.prog fid (#[.agg cs.toArray,.agg ds.toArray] ++caps) W fun e w'=>e=.returned (.bool (p x y))∧Below W.heap.size W w'):
  Calls Tryz.prog 116 #[v,u,.func (.func fid) #[] caps] w fun e w'=>e=.returned (.bool (same2 p xs ys))∧Below w.heap.size w w':=by
 obtain⟨A,n,c,rfl,hnl,hm,hat⟩:=bf Ty.ay (by decide) h;obtain⟨A',n',c',rfl,ak2,hm',hat'⟩:=bf Ty.ay (by decide) k;unfold maxLen at hm hm';have HN:=zqd hnl;have HM:=zqd ak2;have HC:=zqd hp;clear h k hnl ak2 hp;by_cases hnm:n=n'
 ·subst hnm
  go_enter Tryz.func116,Tryz.ntmps116
  go_wp2_with fail
  go_loopw [17] (fun i wr=>∃ k:Nat,k≤n∧i=.int .i64 k∧Hid (∀ (j:Nat) (a b:Ty),j < k→xs[j]?=some a→ys[j]?=some b→p a b=true)∧Below w.heap.size w wr) (fun i _=>n - (intOf i).toNat)
  case atStart=>exact⟨0,Nat.zero_le _,rfl,zqd fun j a b h=>absurd h (by omega),zqf _ _⟩
  case round=>
   obtain⟨k,hk,rfl,HP,hbr⟩:=hrel;have hsz:=hbr.size;by_cases hlt:k < n
   ·obtain⟨g,off,rfl,hg,hcell⟩:=hat (by omega)
    obtain⟨g',off',rfl,hg',hcell'⟩:=hat' (by omega);obtain⟨x,hx,hmx⟩:=uo HN.out hlt;obtain⟨y,hy,hmy⟩:=uo HM.out hlt;have hlt':(k:Int) < (n:Int):=by omega
    obtain⟨kind,name,labels,kids⟩:=x;obtain⟨jf,cu,dw,je⟩:=y;have c0:wr.cell? ⟨g,off+k * 4,none⟩=some (.int .i64 kind):=ng hbr (by omega) (hcell k 0 _ _ hx (by rw[Ty.ji];rfl));have c1:wr.cell? ⟨g,off+k * 4+1,none⟩=some (.string name):=ng hbr (by omega) (hcell k 1 _ _ hx (by rw[Ty.ji];rfl));obtain⟨iy,c2,rc2⟩:∃ u,wr.cell? ⟨g,off+k * 4+2,none⟩=some u∧Rep wr B (.row 1 (labels.flatMap aam)) u:=xq hbr (by omega) hB (hcell k 2 _ _ hx (by rw[Ty.ji];rfl));have Rc2:=zqd rc2;clear rc2;obtain⟨jy,jc,jl,rfl⟩:=Rc2.out.form;obtain⟨iw,c3,rc3⟩:∃ u,wr.cell? ⟨g,off+k * 4+3,none⟩=some u∧Rep wr B (.row 4 (kids.flatMap Ty.pd)) u:=xq hbr (by omega) hB (hcell k 3 _ _ hx (by rw[Ty.ji];rfl));have Rc3:=zqd rc3;clear rc3;obtain⟨l9,iq,ku,rfl⟩:=Rc3.out.form;have d0:wr.cell? ⟨g',off'+k * 4,none⟩=some (.int .i64 jf):=ng hbr (by omega) (hcell' k 0 _ _ hy (by rw[Ty.ji];rfl));have d1:wr.cell? ⟨g',off'+k * 4+1,none⟩=some (.string cu):=ng hbr (by omega) (hcell' k 1 _ _ hy (by rw[Ty.ji];rfl));obtain⟨oh,d2,rd2⟩:∃ u,wr.cell? ⟨g',off'+k * 4+2,none⟩=some u∧Rep wr B (.row 1 (dw.flatMap aam)) u:=xq hbr (by omega) hB (hcell' k 2 _ _ hy (by rw[Ty.ji];rfl));have Rd2:=zqd rd2;clear rd2;obtain⟨lg,jg,jm,rfl⟩:=Rd2.out.form;obtain⟨tq,d3,rd3⟩:∃ u,wr.cell? ⟨g',off'+k * 4+3,none⟩=some u∧Rep wr B (.row 4 (je.flatMap Ty.pd)) u:=xq hbr (by omega) hB (hcell' k 3 _ _ hy (by rw[Ty.ji];rfl));have Rd3:=zqd rd3;clear rd3;obtain⟨mg,jd,jr,rfl⟩:=Rd3.out.form;have e0:(wr.alloc (.cells #[.int .i64 kind,.string name,.slice jy jc jl,.slice l9 iq ku] 39)).cell? ⟨g',off'+k * 4,none⟩=some (.int .i64 jf):=(World.cell?_alloc_lt wr _ ⟨g',off'+k * 4,none⟩ (by show g' < _;omega)).trans d0;have e1:(wr.alloc (.cells #[.int .i64 kind,.string name,.slice jy jc jl,.slice l9 iq ku] 39)).cell? ⟨g',off'+k * 4+1,none⟩=some (.string cu):=(World.cell?_alloc_lt wr _ ⟨g',off'+k * 4+1,none⟩ (by show g' < _;omega)).trans d1;have e2:(wr.alloc (.cells #[.int .i64 kind,.string name,.slice jy jc jl,.slice l9 iq ku] 39)).cell? ⟨g',off'+k * 4+2,none⟩=some (.slice lg jg jm):=(World.cell?_alloc_lt wr _ ⟨g',off'+k * 4+2,none⟩ (by show g' < _;omega)).trans d2;have e3:(wr.alloc (.cells #[.int .i64 kind,.string name,.slice jy jc jl,.slice l9 iq ku] 39)).cell? ⟨g',off'+k * 4+3,none⟩=some (.slice mg jd jr):=(World.cell?_alloc_lt wr _ ⟨g',off'+k * 4+3,none⟩ (by show g' < _;omega)).trans d3;have hb1:Below wr.heap.size wr ((wr.alloc (.cells #[.int .i64 kind,.string name,.slice jy jc jl,.slice l9 iq ku] 39)).alloc (.cells #[.int .i64 jf,.string cu,.slice lg jg jm,.slice mg jd jr] 39)):=((zqf _ _).alloc (zql _) _).alloc (by simp) _;obtain⟨w2,hw2⟩:∃ W,W=(wr.alloc (.cells #[.int .i64 kind,.string name,.slice jy jc jl,.slice l9 iq ku] 39)).alloc (.cells #[.int .i64 jf,.string cu,.slice lg jg jm,.slice mg jd jr] 39):=⟨_,rfl⟩;rw[← hw2] at hb1;have HW:=zqd hw2;clear hw2;have hB2:=hbr.trans (hb1.mono hbr.size);have hc:=HC.out _ hmx _ hmy [.int .i64 kind,.string name,.slice jy jc jl,.slice l9 iq ku] [.int .i64 jf,.string cu,.slice lg jg jm,.slice mg jd jr] w2 hB2 (Ty.close_ (Rc2.out.below (hb1.mono (Nat.le_trans hB hbr.size))) (Rc3.out.below (hb1.mono (Nat.le_trans hB hbr.size)))) (Ty.close_ (Rd2.out.below (hb1.mono (Nat.le_trans hB hbr.size))) (Rd3.out.below (hb1.mono (Nat.le_trans hB hbr.size))));obtain⟨x,hxx⟩:∃ x:Ty,x=⟨kind,name,labels,kids⟩:=⟨_,rfl⟩;obtain⟨y,hyy⟩:∃ y:Ty,y=⟨jf,cu,dw,je⟩:=⟨_,rfl⟩;rw[← hxx] at hc hx;rw[← hyy] at hc hy;clear hxx hyy;have HK:=zqd hc;have HX:=zqd hx;have HY:=zqd hy;clear hc hx hy hmx hmy hcell hcell' hat hat';go_wp2_with fail
    rw[← HW.out];refine HK.out.mono ?_;rintro e w3 ⟨rfl,hb3⟩;have hB3:=hB2.trans (hb3.mono hB2.size);cases hb:p x y
    ·have HF:Hid (same2 p xs ys=false):=amw HX.out HY.out hb
     go_wp2_with fail
     go_ret
     exact⟨au HF.out.symm,hB3⟩
    ·have HQ:=zqd (amx HP.out HX.out HY.out hb)
     go_wp2_with fail
     go_roundw
     case rel=>exact⟨k+1,by omega,by go_num,HQ,hB3⟩
     case measure=>simp[intOf];omega
   ·have HF:Hid (same2 p xs ys=true):=an1 hlt HN.out HM.out HP.out
    have hkn:k=n:=by omega
    subst hkn;go_wp2_with fail
    go_ret
    exact⟨au HF.out.symm,hbr⟩
 ·have HF:Hid (same2 p xs ys=false):=ao8 (by have:=HN.out;have:=HM.out;omega)
  have hb:((n:Int) != (n':Int))=true:=by simp;omega
  clear hat hat';go_enter Tryz.func116,Tryz.ntmps116
  go_wp2_with fail
  go_ret
  exact⟨au HF.out.symm,zqf _ _⟩
end Go.Proofs.YtfpannkadjdnaaaGreatDoor
