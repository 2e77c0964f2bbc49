/-
  What every generated law needs of plain data: the size that is counted, the marks that are laid, cells of the call's own. No program in sight.
-/
import Derived.Test.YtfpannkadjdnaaaGreatDoorTa02
import Derived.Deep.RegionHeld3
import Derived.Laws.BytesArg
namespace Go.Proofs.YtfpannkadjdnaaaGreatDoor
open Go.RowKit Go.ChangeShapes Go.WideShapes Go.ChangeAt
set_option linter.all false
theorem ap5 {k l:IntKind} {a b c d:Int} (h1:a=b) (h2:c=d):Ending.returned (.tuple #[.int k a,.int l c])=.returned (.tuple #[.int k b,.int l d]):=by rw[h1,h2]
theorem ng {w wr:World} {B0 B g p:Nat} {v:Value} (hb:Below B0 w wr) (hg:g < B0) (h:∃ u,w.cell? ⟨g,p,none⟩=some u∧Rep w B (.lit v) u):wr.cell? ⟨g,p,none⟩=some v:=by
 obtain⟨u,hu,hr⟩:=h;rw[hr.ab2] at hu;exact(hb.cell (p:=⟨g,p,none⟩) hg).trans hu
theorem xq {w wr:World} {B0 B g p:Nat} {d:PD} (hb:Below B0 w wr) (hg:g < B0) (hB:B≤B0) (h:∃ u,w.cell? ⟨g,p,none⟩=some u∧Rep w B d u):∃ u,wr.cell? ⟨g,p,none⟩=some u∧Rep wr B d u:=by
 obtain⟨u,hu,hr⟩:=h;exact⟨u,(hb.cell (p:=⟨g,p,none⟩) hg).trans hu,hr.below (hb.mono hB)⟩
theorem a4r {w:World} {B sz:Nat} {ds:List PD} {v:Value} (h:Rep w B (.row sz ds) v):
  ∃ A n c,v=.slice A n c∧ds.length=n * sz∧n≤maxLen∧(0 < n→∃ g off,A=some ⟨g,off,none⟩∧g < B∧
   ∀ (i:Nat) (x:PD),ds[i]?=some x→∃ u,w.cell? ⟨g,off+i,none⟩=some u∧Rep w B x u):=by
 rw[Rep] at h;obtain⟨A,n,c,rfl,hl,hm,hx⟩:=h;refine⟨A,n,c,rfl,hl,hm,fun h0=>?_⟩;obtain⟨g,off,rfl,hg,hr⟩:=hx h0;exact⟨g,off,rfl,hg,fun i x hi=>alj.1 hr i x hi⟩
theorem aso {α β:Type} {f:α→List β} (t:α):(Option.toList (some t)).flatMap f=f t:=by simp[Option.toList]
def aoo (n:Nat) (left:Int):Int:=if (n:Int)≤left then left - n else -1
theorem ad4 {n:Nat} {left:Int} (h:(n:Int)≤left):aoo n left=left - n:=by simp[aoo,h]
theorem adr {n:Nat} {left:Int} (h:left < (n:Int)):aoo n left=-1:=by
 unfold aoo;rw[if_neg (by omega)]
theorem aj0 {α:Type} {f:α→List PD} {ts:List α} {k:Nat} {t:α} (h:ts[k]?=some t):PD.szL ((ts.take (k+1)).flatMap f)=PD.szL ((ts.take k).flatMap f)+PD.szL (f t):=by
 rw[List.take_add_one,h,List.flatMap_append,ams];simp
theorem a0q {α:Type} (f:α→List PD) (ts:List α) (k:Nat):PD.szL ((ts.take k).flatMap f)≤PD.szL (ts.flatMap f):=by
 have:PD.szL (ts.flatMap f)=PD.szL ((ts.take k).flatMap f)+PD.szL ((ts.drop k).flatMap f):=by rw[← ams,← List.flatMap_append,List.take_append_drop]
 omega
theorem akz {α:Type} {f:α→List PD} {ts:List α} {k:Nat} {t:α} (h:ts[k]?=some t):PD.szL ((ts.take k).flatMap f)+PD.szL (f t)≤PD.szL (ts.flatMap f):=by
 rw[← aj0 h];exact a0q f ts (k+1)
theorem am4 {α:Type} {f:α→List PD} {sz:Nat} (hf:∀ t,(f t).length=sz) (h0:0 < sz) (ts:List α):(PD.row sz (ts.flatMap f)).sz=ts.length+PD.szL (ts.flatMap f):=by
 rw[PD.sz,abx hf,Nat.mul_div_cancel _ h0]
mutual
def PD.wf:PD→Prop
 | .lit (.int .i64 n)=>(Lit.int .i64 n).wf=true
 | .lit (.string s)=>s.size≤maxLen
 | .lit _=>True
 | .row _ xs=>PD.wfL xs
def PD.wfL:List PD→Prop
 | []=>True
 | x ::xs=>x.wf∧PD.wfL xs
end
theorem at7:∀ {xs ys:List PD},PD.wfL (xs ++ys)↔PD.wfL xs∧PD.wfL ys
 | [],ys=>by simp[PD.wfL]
 | x ::xs,ys=>by simp[PD.wfL,at7 (xs:=xs) (ys:=ys),and_assoc]
theorem ahq {α:Type} {f:α→List PD}:∀ {ts:List α},PD.wfL (ts.flatMap f)↔∀ t ∈ ts,PD.wfL (f t)
 | []=>by simp[PD.wfL]
 | t ::ts=>by rw[List.flatMap_cons,at7,ahq (ts:=ts)];simp
mutual
theorem afo.wf {env:Nat→List TyC}:∀ {d:PD} {c:TyC},afo env d c→d.wf
 | .lit v,.int,h=>by rw[afo] at h;obtain⟨n,rfl,hn⟩:=h;rw[PD.wf];exact hn
 | .lit v,.str,h=>by rw[afo] at h;obtain⟨s,rfl,hs⟩:=h;rw[PD.wf];exact hs
 | .lit v,.bool,h=>by rw[afo] at h;obtain⟨b,rfl⟩:=h;simp[PD.wf]
 | .lit v,.sl e,h=>by rw[afo] at h;exact h.elim
 | .row sz xs,.sl e,h=>by rw[afo] at h;rw[PD.wf];exact aky.wf h.2
 | .row sz xs,.int,h=>by simp[afo] at h
 | .row sz xs,.str,h=>by simp[afo] at h
 | .row sz xs,.bool,h=>by simp[afo] at h
theorem aky.wf {env:Nat→List TyC} {e:Nat}:∀ {xs:List PD} {i:Nat},aky env e i xs→PD.wfL xs
 | [],i,_=>by rw[PD.wfL];trivial
 | x ::xs,i,h=>by
  rw[aky] at h;obtain⟨⟨c,_,hx⟩,hr⟩:=h;rw[PD.wfL];exact⟨afo.wf hx,aky.wf hr⟩
end
theorem bsk {ds:List PD} (h:∀ (j:Nat) (d:PD),ds[j]?=some d→d.wf):PD.wfL ds:=by
 induction ds with
 | nil=>rw[PD.wfL];trivial
 | cons d ds ih=>
  rw[PD.wfL];exact⟨h 0 d (by simp),ih fun j e he=>h (j+1) e (by simpa using he)⟩
theorem ajk.wf {env:Nat→List TyC} {ds:List PD} {cells:List TyC} (h:ajk env ds cells):PD.wfL ds:=
 bsk fun j d hd=>by
  have hj:=(List.getElem?_eq_some_iff.1 hd).1;exact(h.2 j d _ hd (List.getElem?_eq_getElem (by rw[← h.1];exact hj))).wf
def aod (k:Nat) (out:List Int):List Int:=if h:k=0 then out else aod (k / 10) ((48+((k % 10:Nat):Int)) ::out)
termination_by k
decreasing_by omega
theorem a4s (out:List Int):aod 0 out=out:=by rw[aod];simp
theorem a4t {k:Nat} (h:0 < k) (out:List Int):aod k out=aod (k / 10) ((48+((k % 10:Nat):Int)) ::out):=by rw[aod,dif_neg (by omega)]
def markT (k:Int):ByteArray:=strOfNums (109 ::(if k≤0 then [48] else aod k.toNat []))
def mkV:Value→Int→Value
 | .int kk _,k=>.int kk k
 | .string _,k=>.string (markT k)
 | .bool _,k=>.bool (k % 3 ==0)
 | v,_=>v
mutual
def PD.cnt:PD→Nat
 | .lit _=>1
 | .row _ xs=>PD.zq xs
def PD.zq:List PD→Nat
 | []=>0
 | x ::xs=>x.cnt+PD.zq xs
end
mutual
def PD.mark:PD→Int→PD
 | .lit v,k=>.lit (mkV v k)
 | .row n xs,k=>.row n (PD.aez xs k)
def PD.aez:List PD→Int→List PD
 | [],_=>[]
 | x ::xs,k=>x.mark k ::PD.aez xs (k+x.cnt)
end
def ab8:List PD→Nat
 | []=>0
 | .lit _ ::r=>ab8 r
 | .row _ xs ::r=>PD.zq xs+ab8 r
def afw:List PD→Int→List PD
 | [],_=>[]
 | .lit v ::r,k=>.lit v ::afw r k
 | .row n xs ::r,k=>.row n (PD.aez xs k) ::afw r (k+PD.zq xs)
theorem alz:∀ (xs ys:List PD),PD.zq (xs ++ys)=PD.zq xs+PD.zq ys
 | [],ys=>by simp[PD.zq]
 | x ::xs,ys=>by simp[PD.zq,alz xs ys];omega
theorem ac6 {ds:List PD} {i:Nat} {x:PD} (h:ds[i]?=some x):PD.zq (ds.take (i+1))=PD.zq (ds.take i)+x.cnt:=by
 rw[List.take_add_one,h,alz];simp[PD.zq]
theorem aeg (ds:List PD) (i:Nat):PD.zq (ds.take i)≤PD.zq ds:=by
 have:PD.zq ds=PD.zq (ds.take i)+PD.zq (ds.drop i):=by rw[← alz,List.take_append_drop]
 omega
theorem ap6:∀ (xs ys:List PD) (k:Int),PD.aez (xs ++ys) k=PD.aez xs k ++PD.aez ys (k+PD.zq xs)
 | [],ys,k=>by simp[PD.aez,PD.zq]
 | x ::xs,ys,k=>by
  rw[List.cons_append,PD.aez,PD.aez,ap6 xs ys,PD.zq,List.cons_append];congr 3;omega
theorem ai4:∀ (xs:List PD) (k:Int),(PD.aez xs k).length=xs.length
 | [],k=>by simp[PD.aez]
 | x ::xs,k=>by simp[PD.aez,ai4 xs]
theorem al4:∀ {ds:List PD} {i:Nat} {x:PD} (k:Int),ds[i]?=some x→(PD.aez ds k)[i]?=some (x.mark (k+PD.zq (ds.take i)))
 | [],i,x,k,h=>by simp at h
 | d ::ds,0,x,k,h=>by
  simp at h;subst h;simp[PD.aez,PD.zq]
 | d ::ds,i+1,x,k,h=>by
  have h':ds[i]?=some x:=by simpa using h
  rw[PD.aez,List.getElem?_cons_succ,al4 (k+d.cnt) h',List.take_succ_cons,PD.zq];congr 2;omega
structure ad5 (F:List Nat) (w w':World):Prop where
 os:w'.os=w.os
 tape:w'.tape=w.tape
 output:w'.output=w.output
 size:w.heap.size≤w'.heap.size
 block:∀ k,k < w.heap.size→k ∉ F→w'.heap[k]?=w.heap[k]?
section
variable {F G:List Nat} {w w' w'':World}
theorem ad5.refl (F:List Nat) (w:World):ad5 F w w:=⟨rfl,rfl,rfl,zql _,fun _ _ _=>rfl⟩
theorem ad5.trans (h:ad5 F w w') (k:ad5 F w' w''):ad5 F w w'':=
 ⟨k.os.trans h.os,k.tape.trans h.tape,k.output.trans h.output,Nat.le_trans h.size k.size,fun i hi ho=>(k.block i (Nat.lt_of_lt_of_le hi h.size) ho).trans (h.block i hi ho)⟩
theorem ad5.of_below (h:Below w.heap.size w w'):ad5 F w w':=⟨h.os,h.tape,h.output,h.size,fun k hk _=>h.block k hk⟩
theorem ad5.mono (h:ad5 F w w') (hs:∀ g ∈ F,g ∈ G):ad5 G w w':=⟨h.os,h.tape,h.output,h.size,fun k hk ho=>h.block k hk fun hf=>ho (hs k hf)⟩
theorem ad5.setCell (h:ad5 F w w') {p:Addr} (h1:p.block ∈ F) (u:Value):ad5 F w (w'.setCell p u):=
 h.trans ⟨rfl,rfl,rfl,by simp[World.setCell],fun k _ ho=>Below.heap_setCell _ _ _ _ (fun e=>ho (by rw[e];exact h1))⟩
theorem ad5.keep {lo hi:Nat} (h:ad5 F w w') (hF:∀ g ∈ F,lo≤g∧g < hi):Keep lo hi w w':=⟨h.os,h.tape,h.output,h.size,fun k hk ho=>h.block k hk fun hf=>by have:=hF k hf;omega⟩
theorem ad5.step (h:ad5 F w w') (hb:Below w'.heap.size w' w''):ad5 F w w'':=h.trans (ad5.of_below hb)
end
theorem ni.split {w:World}:∀ {xs ys:List PD} {cs:List Value} {F:List Nat},ni w (xs ++ys) cs F→∃ c1 c2 F1 F2,cs=c1 ++c2∧F=F1 ++F2∧ni w xs c1 F1∧ni w ys c2 F2
 | [],ys,cs,F,h=>⟨[],cs,[],F,rfl,rfl,ni.nil w,h⟩
 | x ::xs,ys,cs,F,h=>by
  rw[List.cons_append,ni] at h;obtain⟨c,cs',F1,F2,rfl,rfl,h1,h2⟩:=h;obtain⟨c1,c2,G1,G2,rfl,rfl,h3,h4⟩:=ni.split h2;exact⟨c ::c1,c2,F1 ++G1,G2,by simp,by simp,ni.cons h1 h3,h4⟩
theorem ni.ahl {w:World} {x:PD} {ys:List PD} {cs:List Value} {F:List Nat} (h:ni w (x ::ys) cs F):∃ c c2 F1 F2,cs=c ::c2∧F=F1 ++F2∧Hold w x c F1∧ni w ys c2 F2:=by
 rw[ni] at h;exact h
structure ae2 (w0 wr:World) (g off:Nat) (F:List Nat) (ds:List PD) (i:Nat) (k0:Int):Prop where
 st:∃ cs,afn wr g off cs∧ni wr (PD.aez (ds.take i) k0 ++ds.drop i) cs F
 keep:ad5 (g ::F) w0 wr
 nd:(g ::F).Nodup
 lt:∀ b ∈ g ::F,b < w0.heap.size
section
variable {w0 wr wq:World} {g off i:Nat} {F:List Nat} {ds:List PD} {k0:Int}
theorem ae2.start {cs:List Value} (ho:afn w0 g off cs) (h:ni w0 ds cs F) (nd:(g ::F).Nodup) (lt:∀ b ∈ g ::F,b < w0.heap.size):ae2 w0 w0 g off F ds 0 k0:=
 ⟨⟨cs,ho,by simpa [PD.aez] using h⟩,ad5.refl _ _,nd,lt⟩
theorem ae2.below (h:ae2 w0 wr g off F ds i k0) (hb:Below wr.heap.size wr wq):ae2 w0 wq g off F ds i k0:=by
 obtain⟨⟨cs,ho,hl⟩,hk,nd,lt⟩:=h;refine⟨⟨cs,ho.below hb (Nat.lt_of_lt_of_le (lt g (by simp)) hk.size),ni.keep _ _ _ hl fun b hm=>hb.block b (Nat.lt_of_lt_of_le (lt b (by simp[hm])) hk.size)⟩,hk.step hb,nd,lt⟩
theorem drop_at {x:PD} (hx:ds[i]?=some x):ds.drop i=x ::ds.drop (i+1):=by
 obtain⟨hi,rfl⟩:=List.getElem?_eq_some_iff.1 hx;exact List.drop_eq_getElem_cons hi
theorem anx {x:PD} (hx:ds[i]?=some x):PD.aez (ds.take (i+1)) k0=PD.aez (ds.take i) k0 ++[x.mark (k0+PD.zq (ds.take i))]:=by
 rw[List.take_add_one,hx,ap6];simp[PD.aez]
theorem ae2.lit {u:Value} (h:ae2 w0 wr g off F ds i k0) (hx:ds[i]?=some (.lit u)):
  wr.cell? ⟨g,off+i,none⟩=some u∧wr.frozen? ⟨g,off+i,none⟩=false∧ae2 w0 (wr.setCell ⟨g,off+i,none⟩ (mkV u (k0+PD.zq (ds.take i)))) g off F ds (i+1) k0:=by
 obtain⟨⟨cs,ho,hl⟩,hk,nd,lt⟩:=h;have hil:i < ds.length:=(List.getElem?_eq_some_iff.1 hx).1;rw[drop_at hx] at hl;obtain⟨c1,c2,F1,F2,rfl,rfl,h1,h2⟩:=ni.split hl;obtain⟨c,c3,F3,F4,rfl,rfl,h3,h4⟩:=ni.ahl h2;obtain⟨rfl,rfl⟩:=Hold.ab2 h3;have hc1:c1.length=i:=by rw[ni.length h1,ai4,List.length_take];omega
 have hget:(c1 ++c ::c3)[i]?=some c:=by rw[← hc1];simp
 have hgn:∀ b ∈ F1 ++([] ++F4),b≠g:=fun b hb e=>by
  subst e;exact(List.nodup_cons.1 nd).1 hb
 refine⟨ho.cell hget,ho.frozen (off+i),⟨⟨c1 ++mkV c (k0+PD.zq (ds.take i)) ::c3,?_,?_⟩,hk.setCell (by simp) _,nd,lt⟩⟩
 ·have:=ho.set (i:=i) (by simp;omega) (mkV c (k0+PD.zq (ds.take i)))
  rwa[show(c1 ++c ::c3).set i (mkV c (k0+PD.zq (ds.take i)))=c1 ++mkV c (k0+PD.zq (ds.take i)) ::c3 by
   rw[List.set_append_right (h:=by omega),hc1,Nat.sub_self,List.set_cons_zero]] at this
 ·have hw:ni (wr.setCell ⟨g,off+i,none⟩ (mkV c (k0+PD.zq (ds.take i)))) (PD.aez (ds.take i) k0) c1 F1:=ni.keep _ _ _ h1 fun b hb=>Below.heap_setCell wr _ _ b (hgn b (by simp[hb]))
  have hw4:ni (wr.setCell ⟨g,off+i,none⟩ (mkV c (k0+PD.zq (ds.take i)))) (ds.drop (i+1)) c3 F4:=ni.keep _ _ _ h4 fun b hb=>Below.heap_setCell wr _ _ b (hgn b (by simp[hb]));rw[anx hx,List.append_assoc];exact hw.append (ni.cons (F1:=[]) (by rw[PD.mark];exact Hold.bcr _ _) hw4)
theorem ae2.row {m:Nat} {xs:List PD} (h:ae2 w0 wr g off F ds i k0) (hx:ds[i]?=some (.row m xs)):
  ∃ c F2,wr.cell? ⟨g,off+i,none⟩=some c∧Hold wr (.row m xs) c F2∧F2.Nodup∧(∀ b ∈ F2,b < wr.heap.size)∧
   ∀ wq,ad5 F2 wr wq→Hold wq (.row m (PD.aez xs (k0+PD.zq (ds.take i)))) c F2→ae2 w0 wq g off F ds (i+1) k0:=by
 obtain⟨⟨cs,ho,hl⟩,hk,nd,lt⟩:=h;have hil:i < ds.length:=(List.getElem?_eq_some_iff.1 hx).1;rw[drop_at hx] at hl;obtain⟨c1,c2,F1,F2,rfl,rfl,h1,h2⟩:=ni.split hl;obtain⟨c,c3,F3,F4,rfl,rfl,h3,h4⟩:=ni.ahl h2;have hc1:c1.length=i:=by rw[ni.length h1,ai4,List.length_take];omega
 have hget:(c1 ++c ::c3)[i]?=some c:=by rw[← hc1];simp
 obtain⟨hgF,ndF⟩:=List.nodup_cons.1 nd;obtain⟨nd1,nd2,d12⟩:=List.nodup_append.1 ndF;obtain⟨nd3,nd4,d34⟩:=List.nodup_append.1 nd2;have ltr:∀ b ∈ g ::(F1 ++(F3 ++F4)),b < wr.heap.size:=fun b hb=>Nat.lt_of_lt_of_le (lt b hb) hk.size;refine⟨c,F3,ho.cell hget,h3,nd3,fun b hb=>ltr b (by simp[hb]),fun wq hq hh=>⟨⟨c1 ++c ::c3,?_,?_⟩,hk.trans (hq.mono fun b hb=>by simp[hb]),nd,lt⟩⟩
 ·exact ho.keep (hq.block g (ltr g (by simp)) fun hg=>hgF (by simp[hg]))
 ·have w1:ni wq (PD.aez (ds.take i) k0) c1 F1:=ni.keep _ _ _ h1 fun b hb=>hq.block b (ltr b (by simp[hb])) fun h3b=>d12 b hb b (by simp[h3b]) rfl
  have w4:ni wq (ds.drop (i+1)) c3 F4:=ni.keep _ _ _ h4 fun b hb=>hq.block b (ltr b (by simp[hb])) fun h3b=>d34 b h3b b hb rfl;rw[anx hx,List.append_assoc];exact w1.append (ni.cons (by rw[PD.mark];exact hh) w4)
theorem ae2.done {A:Option Addr} {n sz c:Nat} (h:ae2 w0 wr g off F ds ds.length k0) (hA:A=some ⟨g,off,none⟩) (hl:ds.length=n * sz) (h0:0 < n) (hc:n≤c) (hm:c≤maxLen):
  Hold wr (.row sz (PD.aez ds k0)) (.slice A n c) (g ::F):=by
 obtain⟨⟨cs,ho,hd⟩,_,_,_⟩:=h;rw[List.take_length,List.drop_length,List.append_nil] at hd;rw[Hold];exact⟨A,n,c,rfl,by rw[ai4];exact hl,hc,hm,.inr ⟨h0,g,off,F,cs,hA,rfl,ho,hd⟩⟩
theorem ae2.at_ {i':Nat} (h:ae2 w0 wr g off F ds i k0) (e:i=i'):ae2 w0 wr g off F ds i' k0:=e ▸ h
theorem ae2.avb {u:Value} {p i':Nat} {K:Int} (h:ae2 w0 wr g off F ds i k0) (hx:ds[i]?=some (.lit u)) (hp:p=off+i) (hi:i+1=i') (hK:K=k0+PD.zq (ds.take i)):
  wr.cell? ⟨g,p,none⟩=some u∧wr.frozen? ⟨g,p,none⟩=false∧ae2 w0 (wr.setCell ⟨g,p,none⟩ (mkV u K)) g off F ds i' k0:=by
 subst hp hi hK;exact h.lit hx
theorem ae2.row' {m:Nat} {xs:List PD} {p i':Nat} {K:Int} (h:ae2 w0 wr g off F ds i k0) (hx:ds[i]?=some (.row m xs)) (hp:p=off+i) (hi:i+1=i') (hK:K=k0+PD.zq (ds.take i)):
  ∃ c F2,wr.cell? ⟨g,p,none⟩=some c∧Hold wr (.row m xs) c F2∧F2.Nodup∧(∀ b ∈ F2,b < wr.heap.size)∧
   ∀ wq,ad5 F2 wr wq→Hold wq (.row m (PD.aez xs K)) c F2→ae2 w0 wq g off F ds i' k0:=by
 subst hp hi hK;exact h.row hx
end
theorem Hold.form {w:World} {sz:Nat} {xs:List PD} {v:Value} {F:List Nat} (h:Hold w (.row sz xs) v F):∃ A n c,v=.slice A n c:=by
 rw[Hold] at h;obtain⟨A,n,c,hv,_⟩:=h;exact⟨A,n,c,hv⟩
structure aj2 (w0 wr:World) (F:List Nat) (ds:List PD) (us:List Value) (i:Nat) (k0:Int):Prop where
 st:ni wr (afw (ds.take i) k0 ++ds.drop i) us F
 keep:ad5 F w0 wr
 nd:F.Nodup
 lt:∀ b ∈ F,b < w0.heap.size
theorem ak0:∀ (xs ys:List PD) (k:Int),afw (xs ++ys) k=afw xs k ++afw ys (k+ab8 xs)
 | [],ys,k=>by simp[afw,ab8]
 | .lit v ::xs,ys,k=>by simp[afw,ab8,ak0 xs ys]
 | .row n zs ::xs,ys,k=>by
  rw[List.cons_append,afw,afw,ak0 xs ys,ab8,List.cons_append];congr 3;omega
theorem am5:∀ (xs:List PD) (k:Int),(afw xs k).length=xs.length
 | [],k=>by simp[afw]
 | .lit v ::xs,k=>by simp[afw,am5 xs]
 | .row n zs ::xs,k=>by simp[afw,am5 xs]
section
variable {w0 wr wq:World} {i:Nat} {F:List Nat} {ds:List PD} {us:List Value} {k0:Int}
theorem aj2.start (h:ni w0 ds us F) (nd:F.Nodup) (lt:∀ b ∈ F,b < w0.heap.size):aj2 w0 w0 F ds us 0 k0:=
 ⟨by simpa [afw] using h,ad5.refl _ _,nd,lt⟩
theorem aj2.below (h:aj2 w0 wr F ds us i k0) (hb:Below wr.heap.size wr wq):aj2 w0 wq F ds us i k0:=
 ⟨ni.keep _ _ _ h.st fun b hm=>hb.block b (Nat.lt_of_lt_of_le (h.lt b hm) h.keep.size),h.keep.step hb,h.nd,h.lt⟩
theorem aj2.skip {u:Value} (h:aj2 w0 wr F ds us i k0) (hx:ds[i]?=some (.lit u)):aj2 w0 wr F ds us (i+1) k0:=by
 refine⟨?_,h.keep,h.nd,h.lt⟩;have:=h.st;rw[drop_at hx] at this
 rwa[List.take_add_one,hx,ak0,List.append_assoc]
theorem aj2.part {i':Nat} {es:List PD} {K:Int} (h:aj2 w0 wr F ds us i k0) (hx:(ds.drop i).take es.length=es) (hi:i+es.length=i') (hK:K=k0+ab8 (ds.take i)):
  ∃ F2,ni wr es ((us.drop i).take es.length) F2∧F2.Nodup∧(∀ b ∈ F2,b < wr.heap.size)∧(∀ b ∈ F2,b < w0.heap.size)∧
   ∀ wq,ad5 F2 wr wq→ni wq (afw es K) ((us.drop i).take es.length) F2→aj2 w0 wq F ds us i' k0:=by
 subst hi hK;obtain⟨hl,hk,nd,lt⟩:=h
 have e1:ds.drop i=es ++ds.drop (i+es.length):=by
  have:=List.take_append_drop es.length (ds.drop i);rw[hx,List.drop_drop] at this;exact this.symm
 rw[e1] at hl;obtain⟨c1,c2,F1,F2,rfl,rfl,h1,h2⟩:=ni.split hl;obtain⟨c3,c4,F3,F4,rfl,rfl,h3,h4⟩:=ni.split h2;have hc1:=ni.length h1;have hc3:=ni.length h3;rw[am5,List.length_take] at hc1;obtain⟨nd1,nd2,d12⟩:=List.nodup_append.1 nd;obtain⟨nd3,nd4,d34⟩:=List.nodup_append.1 nd2;have ltr:∀ b ∈ F1 ++(F3 ++F4),b < wr.heap.size:=fun b hb=>Nat.lt_of_lt_of_le (lt b hb) hk.size;by_cases hes:es=[]
 ·subst hes
  have e3:c3=[]:=List.eq_nil_of_length_eq_zero hc3;subst e3;have e4:=h3;rw[ni] at e4;obtain⟨_,rfl⟩:=e4;refine⟨[],by simpa using ni.nil wr,List.nodup_nil,by simp,by simp,fun wq hq _=>⟨?_,hk.trans (hq.mono (by simp)),nd,lt⟩⟩;have:ni wq (afw (ds.take i) k0 ++([] ++ds.drop (i+0))) (c1 ++([] ++c4)) (F1 ++([] ++F4)):=ni.keep _ _ _ (ni.append h1 (ni.append (ni.nil wr) h4)) fun b hb=>hq.block b (ltr b hb) (by simp);simpa using this
 have hil:i < ds.length:=by
  by_cases hil:i < ds.length
  ·exact hil
  ·rw[List.drop_of_length_le (by omega)] at hx
   simp at hx;exact absurd hx.symm (fun e=>hes e.symm)
 have hc1':c1.length=i:=by omega
 have e2:((c1 ++(c3 ++c4)).drop i).take es.length=c3:=by rw[← hc1',List.drop_left,← hc3,List.take_left]
 rw[e2];refine⟨F3,h3,nd3,fun b hb=>ltr b (by simp[hb]),fun b hb=>lt b (by simp[hb]),fun wq hq hh=>⟨?_,hk.trans (hq.mono fun b hb=>by simp[hb]),nd,lt⟩⟩;have w1:ni wq (afw (ds.take i) k0) c1 F1:=ni.keep _ _ _ h1 fun b hb=>hq.block b (ltr b (by simp[hb])) fun h3b=>d12 b hb b (by simp[h3b]) rfl;have w4:ni wq (ds.drop (i+es.length)) c4 F4:=ni.keep _ _ _ h4 fun b hb=>hq.block b (ltr b (by simp[hb])) fun h3b=>d34 b h3b b hb rfl;have e5:ds.take (i+es.length)=ds.take i ++es:=by rw[List.take_add,hx]
 rw[e5,ak0,List.append_assoc];exact w1.append (hh.append w4)
theorem Blk.ads {w w':World} {g:Nat} {t:TypeId} {cs:Array Value} {F:List Nat} (h:Blk w g t cs) (hk:ad5 F w w') (hg:g ∉ F):Blk w' g t cs:=(hk.block g h.lt hg).trans h
theorem aj2.done (h:aj2 w0 wr F ds us ds.length k0):ni wr (afw ds k0) us F:=by
 have:=h.st
 rwa[List.take_length,List.drop_length,List.append_nil] at this
theorem ni.one {w:World} {d:PD} {v:Value} {F:List Nat} (h:ni w [d] [v] F):Hold w d v F:=by
 obtain⟨c,c2,F1,F2,e,rfl,h1,h2⟩:=ni.ahl h;rw[ni] at h2;obtain⟨rfl,rfl⟩:=h2;injection e with e _
 subst e;simpa using h1
theorem ni.ayg {w:World} {d:PD} {v:Value} {F:List Nat} (h:Hold w d v F):ni w [d] [v] F:=by
 have:=ni.cons h (ni.nil w);simpa using this
end
def LvC (w:World) (lo hi:Nat) (ds:List PD) (us:List Value):Prop:=∃ F,ni w ds us F∧In F lo hi∧hi≤w.heap.size
section
variable {w w':World} {lo hi mid:Nat} {ds es:List PD} {us vs:List Value}
theorem LvC.step (h:LvC w lo hi ds us) (hb:Below w.heap.size w w'):LvC w' lo hi ds us:=by
 obtain⟨F,h1,h2,h3⟩:=h;exact⟨F,ni.keep _ _ F h1 fun g hg=>hb.block g (by have:=h2.2 g hg;omega),h2,Nat.le_trans h3 hb.size⟩
theorem LvC.kept {lo' hi':Nat} (h:LvC w lo hi ds us) (hk:Keep lo' hi' w w') (ho:hi≤lo'∨hi'≤lo):LvC w' lo hi ds us:=by
 obtain⟨F,h1,h2,h3⟩:=h;exact⟨F,ni.keep _ _ F h1 fun g hg=>hk.block g (by have:=h2.2 g hg;omega) (by have:=h2.2 g hg;omega),h2,Nat.le_trans h3 hk.size⟩
theorem LvC.setCell (h:LvC w lo hi ds us) {p:Addr} (hp:p.block < lo∨hi≤p.block) (u:Value):LvC (w.setCell p u) lo hi ds us:=by
 obtain⟨F,h1,h2,h3⟩:=h;exact⟨F,ni.keep _ _ F h1 fun g hg=>Below.heap_setCell w p u g (by have:=h2.2 g hg;omega),h2,by simpa [World.setCell] using h3⟩
theorem LvC.more {lo' hi':Nat} (h:LvC w lo hi ds us) (h1:lo'≤lo) (h2:hi≤hi') (h3:hi'≤w.heap.size):LvC w lo' hi' ds us:=by
 obtain⟨F,k1,k2,_⟩:=h;exact⟨F,k1,k2.more h1 h2,h3⟩
theorem LvC.nil (w:World) (lo hi:Nat) (h:hi≤w.heap.size):LvC w lo hi [] []:=⟨[],ni.nil w,In.nil _ _,h⟩
theorem LvC.lit (h:LvC w lo hi ds us) (u:Value):LvC w lo hi (.lit u ::ds) (u ::us):=by
 obtain⟨F,h1,h2,h3⟩:=h;exact⟨[] ++F,ni.cons (Hold.bcr w u) h1,h2,h3⟩
theorem LvC.nil0 (w:World):LvC w w.heap.size w.heap.size [] []:=LvC.nil w _ _ (zql _)
theorem LvC.low {lo2:Nat} (h:LvC w lo2 hi ds us) (hl:lo≤lo2):LvC w lo hi ds us:=by
 obtain⟨F,k1,k2,k3⟩:=h;exact⟨F,k1,k2.more hl (zql _),k3⟩
theorem LvC.cons {lo2:Nat} {d:PD} {v:Value} (k:Lv w lo mid d v) (h:LvC w lo2 hi ds us) (h1:mid≤lo2) (h2:lo≤lo2) (h3:mid≤hi):LvC w lo hi (d ::ds) (v ::us):=by
 obtain⟨F,a1,a2,a3⟩:=h;obtain⟨G,k1,k2,k3⟩:=k;exact⟨G ++F,ni.cons k1 a1,k2.append a2 h1 h2 h3,a3⟩
theorem ni.bsl {B:Nat}:∀ {ds:List PD} {us:List Value} {F:List Nat},ni w ds us F→(∀ g ∈ F,g < B)→jq w B ds us
 | [],us,F,h,_=>by
  rw[ni] at h;obtain⟨rfl,_⟩:=h;exact⟨rfl,by simp⟩
 | d ::ds,us,F,h,hk=>by
  obtain⟨c,c2,F1,F2,rfl,rfl,h1,h2⟩:=ni.ahl h;have ih:=ni.bsl h2 fun g hg=>hk g (by simp[hg]);refine⟨by simp[ih.1],fun j x u hx hu=>?_⟩;cases j with
  | zero=>
   simp at hx hu;subst hx hu;exact Hold.rep _ _ _ h1 fun g hg=>hk g (by simp[hg])
  | succ j=>exact ih.2 j x u (by simpa using hx) (by simpa using hu)
theorem LvC.is (h:LvC w lo hi ds us):jq w w.heap.size ds us:=by
 obtain⟨F,h1,h2,h3⟩:=h;exact h1.bsl fun g hg=>by have:=h2.2 g hg;omega
theorem LvC.len (h:LvC w lo hi ds us):us.length=ds.length:=by
 obtain⟨F,h1,_⟩:=h;exact ni.length h1
theorem LvC.nil_ (h:LvC w lo hi [] us):us=[]:=List.eq_nil_of_length_eq_zero h.len
theorem LvC.ap7 {u:Value} (h:LvC w lo hi (.lit u ::ds) us):∃ us',us=u ::us'∧LvC w lo hi ds us':=by
 obtain⟨F,h1,h2,h3⟩:=h;obtain⟨c,c2,F1,F2,rfl,rfl,k1,k2⟩:=ni.ahl h1;obtain⟨rfl,rfl⟩:=Hold.ab2 k1;exact⟨c2,rfl,F2,k2,h2,h3⟩
theorem LvC.ayh {m:Nat} {xs:List PD} (h:LvC w lo hi (.row m xs ::ds) us):∃ A n c us',us=.slice A n c ::us'∧LvC w lo hi ds us':=by
 obtain⟨F,h1,h2,h3⟩:=h;obtain⟨c,c2,F1,F2,rfl,rfl,k1,k2⟩:=ni.ahl h1;rw[Hold] at k1;obtain⟨A,n,c,rfl,_⟩:=k1;exact⟨A,n,c,c2,rfl,F2,k2,⟨(List.nodup_append.1 h2.1).2.1,fun g hg=>h2.2 g (by simp[hg])⟩,h3⟩
end
theorem jq.nil_ {w:World} {B:Nat}:jq w B [] []:=⟨rfl,by simp⟩
theorem jq.lit {w:World} {B:Nat} {ds:List PD} {cs:List Value} (h:jq w B ds cs) (u:Value):jq w B (.lit u ::ds) (u ::cs):=by
 refine⟨by simp[h.1],fun j x v hx hv=>?_⟩;cases j with
 | zero=>simp at hx hv;subst hx hv;rw[Rep]
 | succ j=>exact h.2 j x v (by simpa using hx) (by simpa using hv)
theorem jq.cons {w:World} {B:Nat} {d:PD} {v:Value} {ds:List PD} {cs:List Value} (k:Rep w B d v) (h:jq w B ds cs):jq w B (d ::ds) (v ::cs):=by
 refine⟨by simp[h.1],fun j x u hx hu=>?_⟩;cases j with
 | zero=>simp at hx hu;subst hx hu;exact k
 | succ j=>exact h.2 j x u (by simpa using hx) (by simpa using hu)
theorem jq.of_nil {w:World} {B:Nat} {cs:List Value} (h:jq w B [] cs):cs=[]:=by
 cases cs with
 | nil=>rfl
 | cons c cs=>have:=h.1;simp at this
theorem jq.ab2 {w:World} {B:Nat} {u:Value} {ds:List PD} {cs:List Value} (h:jq w B (.lit u ::ds) cs):∃ cs',cs=u ::cs'∧jq w B ds cs':=by
 cases cs with
 | nil=>have:=h.1;simp at this
 | cons c cs=>
  have h0:=(h.2 0 _ _ rfl rfl).ab2;subst h0;exact⟨cs,rfl,by have:=h.1;simpa using this,fun j x v hx hv=>h.2 (j+1) x v (by simpa using hx) (by simpa using hv)⟩
theorem jq.of_cons {w:World} {B:Nat} {d:PD} {ds:List PD} {cs:List Value} (h:jq w B (d ::ds) cs):∃ v cs',cs=v ::cs'∧Rep w B d v∧jq w B ds cs':=by
 cases cs with
 | nil=>have:=h.1;simp at this
 | cons c cs=>exact⟨c,cs,rfl,h.2 0 _ _ rfl rfl,by have:=h.1;simpa using this,fun j x v hx hv=>h.2 (j+1) x v (by simpa using hx) (by simpa using hv)⟩
theorem jq.more {w:World} {B B':Nat} {ds:List PD} {cs:List Value} (h:jq w B ds cs) (hB:B≤B'):jq w B' ds cs:=⟨h.1,fun j x u hx hu=>Rep.more hB x u (h.2 j x u hx hu)⟩
theorem amu {env:Nat→List TyC} {α:Type} {pd:α→List PD} {cells:List TyC} (hne:0 < cells.length):
  ∀ (n:Nat) (xs:List PD),(∀ ds,(∀ d ∈ ds,d ∈ xs)→ajk env ds cells→∃ t,ds=pd t)→xs.length=n * cells.length→(∀ (j:Nat) (x:PD),xs[j]?=some x→∃ c,cells[j % cells.length]?=some c∧afo env x c)→
   ∃ ts:List α,xs=ts.flatMap pd
 | 0,xs,_,hl,_=>⟨[],by simpa using hl⟩
 | n+1,xs,h1,hl,hc=>by
  rw[Nat.add_mul,Nat.one_mul] at hl
  obtain⟨t,ht⟩:=h1 (xs.take cells.length) (fun d hd=>List.mem_of_mem_take hd) ⟨by simp;omega,fun j d c hd hcc=>by
   rw[List.getElem?_take] at hd;split at hd
   ·rename_i hj
    obtain⟨c',h2,h3⟩:=hc j d hd;rw[Nat.mod_eq_of_lt hj,hcc] at h2;injection h2 with h2
    rw[h2];exact h3
   ·cases hd⟩
  obtain⟨ts,h3⟩:=amu hne n (xs.drop cells.length) (fun ds hds hcf=>h1 ds (fun d hd=>List.mem_of_mem_drop (hds d hd)) hcf) (by simp;omega) fun j x hx=>by
   rw[List.getElem?_drop] at hx;have:=hc _ x hx
   rwa[Nat.add_mod_left] at this
  exact⟨t ::ts,by rw[List.flatMap_cons,← ht,← h3,List.take_append_drop]⟩
mutual
def PD.whole:PD→Prop
 | .lit _=>True
 | .row sz xs=>(∃ n,xs.length=n * sz)∧PD.al5 xs
def PD.al5:List PD→Prop
 | []=>True
 | x ::xs=>x.whole∧PD.al5 xs
end
theorem ao4:∀ {xs:List PD},PD.al5 xs→∀ x ∈ xs,x.whole
 | [],_,x,hx=>absurd hx (by simp)
 | y ::ys,h,x,hx=>by
  rw[PD.al5] at h;rcases List.mem_cons.1 hx with rfl|hx
  ·exact h.1
  ·exact ao4 h.2 x hx
mutual
theorem Rep.whole {w:World} {B:Nat}:∀ (d:PD) (v:Value),Rep w B d v→d.whole
 | .lit u,v,_=>by rw[PD.whole];trivial
 | .row sz xs,v,h=>by
  rw[Rep] at h;obtain⟨A,n,c,_,hl,_,hx⟩:=h;rw[PD.whole];refine⟨⟨n,hl⟩,?_⟩;by_cases h0:0 < n
  ·obtain⟨g,off,_,_,hr⟩:=hx h0
   exact aft.whole xs g off hr
  ·have hn:n=0:=by omega
   subst hn;have:xs=[]:=List.eq_nil_of_length_eq_zero (by rw[hl];simp);rw[this,PD.al5];trivial
theorem aft.whole {w:World} {B:Nat}:∀ (xs:List PD) (g off:Nat),aft w B g off xs→PD.al5 xs
 | [],g,off,_=>by rw[PD.al5];trivial
 | x ::xs,g,off,h=>by
  rw[aft] at h;obtain⟨⟨u,_,hr⟩,h2⟩:=h;rw[PD.al5];exact⟨Rep.whole x u hr,aft.whole xs g (off+1) h2⟩
end
theorem jq.whole {w:World} {B:Nat} {ds:List PD} {cs:List Value} (h:jq w B ds cs):∀ d ∈ ds,d.whole:=by
 intro d hd;obtain⟨j,hj,rfl⟩:=List.getElem_of_mem hd;exact Rep.whole _ _ (h.2 j _ _ (List.getElem?_eq_getElem hj) (List.getElem?_eq_getElem (by rw[← h.1];exact hj)))
theorem ar2 {n:Nat} {xs:List PD} {x:PD} (h:x ∈ xs):SizeOf.sizeOf x < SizeOf.sizeOf (PD.row n xs):=by
 have:=List.sizeOf_lt_of_mem h;simp only[PD.row.sizeOf_spec];omega
mutual
def PD.fit:PD→Prop
 | .lit _=>True
 | .row W xs=>(∃ n,xs.length=n * W)∧0 < W∧W≤16∧PD.afx xs
def PD.afx:List PD→Prop
 | []=>True
 | x ::xs=>x.fit∧PD.afx xs
end
theorem ar4:∀ {xs ys:List PD},PD.afx xs→PD.afx ys→PD.afx (xs ++ys)
 | [],ys,_,h=>h
 | x ::xs,ys,h,k=>by
  rw[PD.afx] at h;rw[List.cons_append,PD.afx];exact⟨h.1,ar4 h.2 k⟩
theorem ap8 {α:Type} {f:α→List PD}:∀ {ts:List α},(∀ t ∈ ts,PD.afx (f t))→PD.afx (ts.flatMap f)
 | [],_=>by rw[List.flatMap_nil,PD.afx];trivial
 | t ::ts,h=>by rw[List.flatMap_cons];exact ar4 (h t (by simp)) (ap8 fun x hx=>h x (by simp[hx]))
theorem aop {α:Type} {f:α→List PD} {W:Nat} {ts:List α} (hf:∀ t,(f t).length=W) (h0:0 < W) (h16:W≤16) (h:∀ t ∈ ts,PD.afx (f t)):(PD.row W (ts.flatMap f)).fit:=by
 rw[PD.fit];exact⟨⟨ts.length,abx hf ts⟩,h0,h16,ap8 h⟩
mutual
theorem PD.cnt_le:∀ (d:PD),d.fit→d.cnt≤1+16 * d.sz
 | .lit v,_=>by rw[PD.cnt];omega
 | .row W xs,h=>by
  have:=PD.aua W xs h;omega
theorem PD.aua:∀ (W:Nat) (xs:List PD),(PD.row W xs).fit→(PD.row W xs).cnt≤16 * (PD.row W xs).sz
 | W,xs,h=>by
  rw[PD.fit] at h;obtain⟨⟨n,hn⟩,h0,h16,hx⟩:=h;have:=PD.a1b xs hx;rw[PD.cnt,PD.sz,hn,Nat.mul_div_cancel _ h0];have h2:n * W≤n * 16:=Nat.mul_le_mul_left _ h16;omega
theorem PD.a1b:∀ (xs:List PD),PD.afx xs→PD.zq xs≤xs.length+16 * PD.szL xs
 | [],_=>by simp[PD.zq]
 | x ::xs,h=>by
  rw[PD.afx] at h;have h1:=PD.cnt_le x h.1;have h2:=PD.a1b xs h.2;rw[PD.zq,PD.szL,List.length_cons];omega
end
theorem ak1:∀ (ds:List PD),PD.afx ds→ab8 ds≤16 * PD.szL ds
 | [],_=>by simp[ab8]
 | .lit v ::r,h=>by
  rw[PD.afx] at h;have:=ak1 r h.2;rw[ab8,PD.szL];omega
 | .row W xs ::r,h=>by
  rw[PD.afx] at h;have h1:=PD.aua W xs h.1;have h2:=ak1 r h.2;rw[PD.cnt] at h1;rw[ab8,PD.szL];omega
end Go.Proofs.YtfpannkadjdnaaaGreatDoor
