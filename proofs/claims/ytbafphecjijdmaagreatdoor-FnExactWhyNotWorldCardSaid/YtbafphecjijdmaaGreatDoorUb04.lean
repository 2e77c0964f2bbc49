/-
  What every generated law needs of plain data: the size that is counted, the marks that are laid, cells of the call's own. No program in sight. (and 1 more texts)
-/
import Derived.Test.YtbafphecjijdmaaGreatDoorUb03
import Derived.Deep.RegionHeld3
import Derived.Laws.BytesArg
import Derived.Test.YtbafphecjijdmaaGreatDoorRows
namespace Go.Proofs.YtbafphecjijdmaaGreatDoor
open Go.RowKit Go.ChangeShapes Go.WideShapes Go.ChangeAt
set_option linter.all false
theorem au1 {k l:IntKind} {a b c d:Int} (h1:a=b) (h2:c=d):Ending.returned (.tuple #[.int k a,.int l c])=.returned (.tuple #[.int k b,.int l d]):=by rw[h1,h2]
theorem bg {w wr:World} {B0 B g p:Nat} {v:Value} (hb:Below B0 w wr) (hg:g < B0) (h:∃ u,w.cell? ⟨g,p,none⟩=some u∧Rep w B (.lit v) u):wr.cell? ⟨g,p,none⟩=some v:=by
 obtain⟨u,hu,hr⟩:=h
 rw[hr.ad8] at hu
 exact(hb.cell (p:=⟨g,p,none⟩) hg).trans hu
theorem jc {w wr:World} {B0 B g p:Nat} {d:PD} (hb:Below B0 w wr) (hg:g < B0) (hB:B≤B0) (h:∃ u,w.cell? ⟨g,p,none⟩=some u∧Rep w B d u):∃ u,wr.cell? ⟨g,p,none⟩=some u∧Rep wr B d u:=by
 obtain⟨u,hu,hr⟩:=h
 exact⟨u,(hb.cell (p:=⟨g,p,none⟩) hg).trans hu,hr.below (hb.mono hB)⟩
theorem aiy {α β:Type} {f:α→List β} (t:α):(Option.toList (some t)).flatMap f=f t:=by simp[Option.toList]
def ars (n:Nat) (left:Int):Int:=if (n:Int)≤left then left - n else -1
theorem acg {n:Nat} {left:Int} (h:(n:Int)≤left):ars n left=left - n:=by simp[ars,h]
theorem aap {n:Nat} {left:Int} (h:left < (n:Int)):ars n left=-1:=by
 unfold ars
 rw[if_neg (by omega)]
theorem ajb {α:Type} {f:α→List PD} {ts:List α} {k:Nat} {t:α} (h:ts[k]?=some t):PD.szL ((ts.take (k+1)).flatMap f)=PD.szL ((ts.take k).flatMap f)+PD.szL (f t):=by
 rw[List.take_add_one,h,List.flatMap_append,aje];simp
theorem a90 {α:Type} (f:α→List PD) (ts:List α) (k:Nat):PD.szL ((ts.take k).flatMap f)≤PD.szL (ts.flatMap f):=by
 have:PD.szL (ts.flatMap f)=PD.szL ((ts.take k).flatMap f)+PD.szL ((ts.drop k).flatMap f):=by rw[← aje,← List.flatMap_append,List.take_append_drop]
 omega
theorem ahf {α:Type} {f:α→List PD} {ts:List α} {k:Nat} {t:α} (h:ts[k]?=some t):PD.szL ((ts.take k).flatMap f)+PD.szL (f t)≤PD.szL (ts.flatMap f):=by
 rw[← ajb h];exact a90 f ts (k+1)
theorem ahw {α:Type} {f:α→List PD} {sz:Nat} (hf:∀ t,(f t).length=sz) (h0:0 < sz) (ts:List α):(PD.row sz (ts.flatMap f)).sz=ts.length+PD.szL (ts.flatMap f):=by
 rw[PD.sz,afw hf,Nat.mul_div_cancel _ h0]
mutual
def PD.wf:PD→Prop
 | .lit (.int .i64 n)=>(Lit.int .i64 n).wf=true
 | .lit (.string s)=>s.size≤maxLen
 | .lit _=>True
 | .row _ xs=>PD.wfL xs
def PD.wfL:List PD→Prop
 | []=>True
 | x ::xs=>x.wf∧PD.wfL xs
end
theorem azt:∀ {xs ys:List PD},PD.wfL (xs ++ys)↔PD.wfL xs∧PD.wfL ys
 | [],ys=>by simp[PD.wfL]
 | x ::xs,ys=>by simp[PD.wfL,azt (xs:=xs) (ys:=ys),and_assoc]
theorem afx {α:Type} {f:α→List PD}:∀ {ts:List α},PD.wfL (ts.flatMap f)↔∀ t ∈ ts,PD.wfL (f t)
 | []=>by simp[PD.wfL]
 | t ::ts=>by rw[List.flatMap_cons,azt,afx (ts:=ts)];simp
mutual
theorem agc.wf {env:Nat→List TyC}:∀ {d:PD} {c:TyC},agc env d c→d.wf
 | .lit v,.int,h=>by rw[agc] at h;obtain⟨n,rfl,hn⟩:=h;rw[PD.wf];exact hn
 | .lit v,.str,h=>by rw[agc] at h;obtain⟨s,rfl,hs⟩:=h;rw[PD.wf];exact hs
 | .lit v,.bool,h=>by rw[agc] at h;obtain⟨b,rfl⟩:=h;simp[PD.wf]
 | .lit v,.sl e,h=>by rw[agc] at h;exact h.elim
 | .row sz xs,.sl e,h=>by rw[agc] at h;rw[PD.wf];exact ano.wf h.2
 | .row sz xs,.int,h=>by simp[agc] at h
 | .row sz xs,.str,h=>by simp[agc] at h
 | .row sz xs,.bool,h=>by simp[agc] at h
theorem ano.wf {env:Nat→List TyC} {e:Nat}:∀ {xs:List PD} {i:Nat},ano env e i xs→PD.wfL xs
 | [],i,_=>by rw[PD.wfL];trivial
 | x ::xs,i,h=>by
  rw[ano] at h
  obtain⟨⟨c,_,hx⟩,hr⟩:=h
  rw[PD.wfL]
  exact⟨agc.wf hx,ano.wf hr⟩
end
theorem bqq {ds:List PD} (h:∀ (j:Nat) (d:PD),ds[j]?=some d→d.wf):PD.wfL ds:=by
 induction ds with
 | nil=>rw[PD.wfL];trivial
 | cons d ds ih=>
  rw[PD.wfL]
  exact⟨h 0 d (by simp),ih fun j e he=>h (j+1) e (by simpa using he)⟩
theorem aj0.wf {env:Nat→List TyC} {ds:List PD} {cells:List TyC} (h:aj0 env ds cells):PD.wfL ds:=
 bqq fun j d hd=>by
  have hj:=(List.getElem?_eq_some_iff.1 hd).1
  exact(h.2 j d _ hd (List.getElem?_eq_getElem (by rw[← h.1];exact hj))).wf
def bqr (k:Nat) (out:List Int):List Int:=if h:k=0 then out else bqr (k / 10) ((48+((k % 10:Nat):Int)) ::out)
termination_by k
decreasing_by omega
def markT (k:Int):ByteArray:=strOfNums (109 ::(if k≤0 then [48] else bqr k.toNat []))
def mkV:Value→Int→Value
 | .int kk _,k=>.int kk k
 | .string _,k=>.string (markT k)
 | .bool _,k=>.bool (k % 3 ==0)
 | v,_=>v
mutual
def PD.cnt:PD→Nat
 | .lit _=>1
 | .row _ xs=>PD.amo xs
def PD.amo:List PD→Nat
 | []=>0
 | x ::xs=>x.cnt+PD.amo xs
end
mutual
def PD.mark:PD→Int→PD
 | .lit v,k=>.lit (mkV v k)
 | .row n xs,k=>.row n (PD.aii xs k)
def PD.aii:List PD→Int→List PD
 | [],_=>[]
 | x ::xs,k=>x.mark k ::PD.aii xs (k+x.cnt)
end
def a5f:List PD→Int→List PD
 | [],_=>[]
 | .lit v ::r,k=>.lit v ::a5f r k
 | .row n xs ::r,k=>.row n (PD.aii xs k) ::a5f r (k+PD.amo xs)
theorem au2:∀ (xs ys:List PD) (k:Int),PD.aii (xs ++ys) k=PD.aii xs k ++PD.aii ys (k+PD.amo xs)
 | [],ys,k=>by simp[PD.aii,PD.amo]
 | x ::xs,ys,k=>by
  rw[List.cons_append,PD.aii,PD.aii,au2 xs ys,PD.amo,List.cons_append]
  congr 3
  omega
theorem anp:∀ (xs:List PD) (k:Int),(PD.aii xs k).length=xs.length
 | [],k=>by simp[PD.aii]
 | x ::xs,k=>by simp[PD.aii,anp xs]
structure ahg (F:List Nat) (w w':World):Prop where
 os:w'.os=w.os
 tape:w'.tape=w.tape
 output:w'.output=w.output
 size:w.heap.size≤w'.heap.size
 block:∀ k,k < w.heap.size→k ∉ F→w'.heap[k]?=w.heap[k]?
section
variable {F G:List Nat} {w w' w'':World}
theorem ahg.refl (F:List Nat) (w:World):ahg F w w:=⟨rfl,rfl,rfl,zql _,fun _ _ _=>rfl⟩
theorem ahg.trans (h:ahg F w w') (k:ahg F w' w''):ahg F w w'':=
 ⟨k.os.trans h.os,k.tape.trans h.tape,k.output.trans h.output,Nat.le_trans h.size k.size,fun i hi ho=>(k.block i (Nat.lt_of_lt_of_le hi h.size) ho).trans (h.block i hi ho)⟩
theorem ahg.of_below (h:Below w.heap.size w w'):ahg F w w':=⟨h.os,h.tape,h.output,h.size,fun k hk _=>h.block k hk⟩
theorem ahg.mono (h:ahg F w w') (hs:∀ g ∈ F,g ∈ G):ahg G w w':=⟨h.os,h.tape,h.output,h.size,fun k hk ho=>h.block k hk fun hf=>ho (hs k hf)⟩
theorem ahg.setCell (h:ahg F w w') {p:Addr} (h1:p.block ∈ F) (u:Value):ahg F w (w'.setCell p u):=
 h.trans ⟨rfl,rfl,rfl,by simp[World.setCell],fun k _ ho=>Below.heap_setCell _ _ _ _ (fun e=>ho (by rw[e];exact h1))⟩
theorem ahg.keep {lo hi:Nat} (h:ahg F w w') (hF:∀ g ∈ F,lo≤g∧g < hi):Keep lo hi w w':=⟨h.os,h.tape,h.output,h.size,fun k hk ho=>h.block k hk fun hf=>by have:=hF k hf;omega⟩
theorem ahg.step (h:ahg F w w') (hb:Below w'.heap.size w' w''):ahg F w w'':=h.trans (ahg.of_below hb)
end
theorem uh.split {w:World}:∀ {xs ys:List PD} {cs:List Value} {F:List Nat},uh w (xs ++ys) cs F→∃ c1 c2 F1 F2,cs=c1 ++c2∧F=F1 ++F2∧uh w xs c1 F1∧uh w ys c2 F2
 | [],ys,cs,F,h=>⟨[],cs,[],F,rfl,rfl,uh.nil w,h⟩
 | x ::xs,ys,cs,F,h=>by
  rw[List.cons_append,uh] at h
  obtain⟨c,cs',F1,F2,rfl,rfl,h1,h2⟩:=h
  obtain⟨c1,c2,G1,G2,rfl,rfl,h3,h4⟩:=uh.split h2
  exact⟨c ::c1,c2,F1 ++G1,G2,by simp,by simp,uh.cons h1 h3,h4⟩
theorem uh.au3 {w:World} {x:PD} {ys:List PD} {cs:List Value} {F:List Nat} (h:uh w (x ::ys) cs F):∃ c c2 F1 F2,cs=c ::c2∧F=F1 ++F2∧Hold w x c F1∧uh w ys c2 F2:=by
 rw[uh] at h
 exact h
structure amg (w0 wr:World) (g off:Nat) (F:List Nat) (ds:List PD) (i:Nat) (k0:Int):Prop where
 st:∃ cs,ae7 wr g off cs∧uh wr (PD.aii (ds.take i) k0 ++ds.drop i) cs F
 keep:ahg (g ::F) w0 wr
 nd:(g ::F).Nodup
 lt:∀ b ∈ g ::F,b < w0.heap.size
section
variable {w0 wr wq:World} {g off i:Nat} {F:List Nat} {ds:List PD} {k0:Int}
theorem amg.size (h:amg w0 wr g off F ds i k0):w0.heap.size≤wr.heap.size:=h.keep.size
theorem amg.below (h:amg w0 wr g off F ds i k0) (hb:Below wr.heap.size wr wq):amg w0 wq g off F ds i k0:=by
 obtain⟨⟨cs,ho,hl⟩,hk,nd,lt⟩:=h
 refine⟨⟨cs,ho.below hb (Nat.lt_of_lt_of_le (lt g (by simp)) hk.size),uh.keep _ _ _ hl fun b hm=>hb.block b (Nat.lt_of_lt_of_le (lt b (by simp[hm])) hk.size)⟩,hk.step hb,nd,lt⟩
theorem drop_at {x:PD} (hx:ds[i]?=some x):ds.drop i=x ::ds.drop (i+1):=by
 obtain⟨hi,rfl⟩:=List.getElem?_eq_some_iff.1 hx
 exact List.drop_eq_getElem_cons hi
theorem aq3 {x:PD} (hx:ds[i]?=some x):PD.aii (ds.take (i+1)) k0=PD.aii (ds.take i) k0 ++[x.mark (k0+PD.amo (ds.take i))]:=by
 rw[List.take_add_one,hx,au2];simp[PD.aii]
theorem amg.lit {u:Value} (h:amg w0 wr g off F ds i k0) (hx:ds[i]?=some (.lit u)):
  wr.cell? ⟨g,off+i,none⟩=some u∧wr.frozen? ⟨g,off+i,none⟩=false∧amg w0 (wr.setCell ⟨g,off+i,none⟩ (mkV u (k0+PD.amo (ds.take i)))) g off F ds (i+1) k0:=by
 obtain⟨⟨cs,ho,hl⟩,hk,nd,lt⟩:=h
 have hil:i < ds.length:=(List.getElem?_eq_some_iff.1 hx).1
 rw[drop_at hx] at hl
 obtain⟨c1,c2,F1,F2,rfl,rfl,h1,h2⟩:=uh.split hl
 obtain⟨c,c3,F3,F4,rfl,rfl,h3,h4⟩:=uh.au3 h2
 obtain⟨rfl,rfl⟩:=Hold.ad8 h3
 have hc1:c1.length=i:=by rw[uh.length h1,anp,List.length_take];omega
 have hget:(c1 ++c ::c3)[i]?=some c:=by rw[← hc1];simp
 have hgn:∀ b ∈ F1 ++([] ++F4),b≠g:=fun b hb e=>by
  subst e
  exact(List.nodup_cons.1 nd).1 hb
 refine⟨ho.cell hget,ho.frozen (off+i),⟨⟨c1 ++mkV c (k0+PD.amo (ds.take i)) ::c3,?_,?_⟩,hk.setCell (by simp) _,nd,lt⟩⟩
 ·have:=ho.set (i:=i) (by simp;omega) (mkV c (k0+PD.amo (ds.take i)))
  rwa[show(c1 ++c ::c3).set i (mkV c (k0+PD.amo (ds.take i)))=c1 ++mkV c (k0+PD.amo (ds.take i)) ::c3 by
   rw[List.set_append_right (h:=by omega),hc1,Nat.sub_self,List.set_cons_zero]] at this
 ·have hw:uh (wr.setCell ⟨g,off+i,none⟩ (mkV c (k0+PD.amo (ds.take i)))) (PD.aii (ds.take i) k0) c1 F1:=uh.keep _ _ _ h1 fun b hb=>Below.heap_setCell wr _ _ b (hgn b (by simp[hb]))
  have hw4:uh (wr.setCell ⟨g,off+i,none⟩ (mkV c (k0+PD.amo (ds.take i)))) (ds.drop (i+1)) c3 F4:=uh.keep _ _ _ h4 fun b hb=>Below.heap_setCell wr _ _ b (hgn b (by simp[hb]))
  rw[aq3 hx,List.append_assoc]
  exact hw.append (uh.cons (F1:=[]) (by rw[PD.mark];exact Hold.a5l _ _) hw4)
theorem amg.row {m:Nat} {xs:List PD} (h:amg w0 wr g off F ds i k0) (hx:ds[i]?=some (.row m xs)):
  ∃ c F2,wr.cell? ⟨g,off+i,none⟩=some c∧Hold wr (.row m xs) c F2∧F2.Nodup∧(∀ b ∈ F2,b < wr.heap.size)∧
   ∀ wq,ahg F2 wr wq→Hold wq (.row m (PD.aii xs (k0+PD.amo (ds.take i)))) c F2→amg w0 wq g off F ds (i+1) k0:=by
 obtain⟨⟨cs,ho,hl⟩,hk,nd,lt⟩:=h
 have hil:i < ds.length:=(List.getElem?_eq_some_iff.1 hx).1
 rw[drop_at hx] at hl
 obtain⟨c1,c2,F1,F2,rfl,rfl,h1,h2⟩:=uh.split hl
 obtain⟨c,c3,F3,F4,rfl,rfl,h3,h4⟩:=uh.au3 h2
 have hc1:c1.length=i:=by rw[uh.length h1,anp,List.length_take];omega
 have hget:(c1 ++c ::c3)[i]?=some c:=by rw[← hc1];simp
 obtain⟨hgF,ndF⟩:=List.nodup_cons.1 nd
 obtain⟨nd1,nd2,d12⟩:=List.nodup_append.1 ndF
 obtain⟨nd3,nd4,d34⟩:=List.nodup_append.1 nd2
 have ltr:∀ b ∈ g ::(F1 ++(F3 ++F4)),b < wr.heap.size:=fun b hb=>Nat.lt_of_lt_of_le (lt b hb) hk.size
 refine⟨c,F3,ho.cell hget,h3,nd3,fun b hb=>ltr b (by simp[hb]),fun wq hq hh=>⟨⟨c1 ++c ::c3,?_,?_⟩,hk.trans (hq.mono fun b hb=>by simp[hb]),nd,lt⟩⟩
 ·exact ho.keep (hq.block g (ltr g (by simp)) fun hg=>hgF (by simp[hg]))
 ·have w1:uh wq (PD.aii (ds.take i) k0) c1 F1:=uh.keep _ _ _ h1 fun b hb=>hq.block b (ltr b (by simp[hb])) fun h3b=>d12 b hb b (by simp[h3b]) rfl
  have w4:uh wq (ds.drop (i+1)) c3 F4:=uh.keep _ _ _ h4 fun b hb=>hq.block b (ltr b (by simp[hb])) fun h3b=>d34 b h3b b hb rfl
  rw[aq3 hx,List.append_assoc]
  exact w1.append (uh.cons (by rw[PD.mark];exact hh) w4)
theorem amg.done {A:Option Addr} {n sz c:Nat} (h:amg w0 wr g off F ds ds.length k0) (hA:A=some ⟨g,off,none⟩) (hl:ds.length=n * sz) (h0:0 < n) (hc:n≤c) (hm:c≤maxLen):
  Hold wr (.row sz (PD.aii ds k0)) (.slice A n c) (g ::F):=by
 obtain⟨⟨cs,ho,hd⟩,_,_,_⟩:=h
 rw[List.take_length,List.drop_length,List.append_nil] at hd
 rw[Hold]
 exact⟨A,n,c,rfl,by rw[anp];exact hl,hc,hm,.inr ⟨h0,g,off,F,cs,hA,rfl,ho,hd⟩⟩
theorem amg.at_ {i':Nat} (h:amg w0 wr g off F ds i k0) (e:i=i'):amg w0 wr g off F ds i' k0:=e ▸ h
end
theorem Hold.form {w:World} {sz:Nat} {xs:List PD} {v:Value} {F:List Nat} (h:Hold w (.row sz xs) v F):∃ A n c,v=.slice A n c:=by
 rw[Hold] at h
 obtain⟨A,n,c,hv,_⟩:=h
 exact⟨A,n,c,hv⟩
structure a5n (w0 wr:World) (F:List Nat) (ds:List PD) (us:List Value) (i:Nat) (k0:Int):Prop where
 st:uh wr (a5f (ds.take i) k0 ++ds.drop i) us F
 keep:ahg F w0 wr
 nd:F.Nodup
 lt:∀ b ∈ F,b < w0.heap.size
section
variable {w0 wr wq:World} {i:Nat} {F:List Nat} {ds:List PD} {us:List Value} {k0:Int}
theorem a5n.below (h:a5n w0 wr F ds us i k0) (hb:Below wr.heap.size wr wq):a5n w0 wq F ds us i k0:=
 ⟨uh.keep _ _ _ h.st fun b hm=>hb.block b (Nat.lt_of_lt_of_le (h.lt b hm) h.keep.size),h.keep.step hb,h.nd,h.lt⟩
theorem a5n.done (h:a5n w0 wr F ds us ds.length k0):uh wr (a5f ds k0) us F:=by
 have:=h.st
 rwa[List.take_length,List.drop_length,List.append_nil] at this
end
def LvC (w:World) (lo hi:Nat) (ds:List PD) (us:List Value):Prop:=∃ F,uh w ds us F∧In F lo hi∧hi≤w.heap.size
section
variable {w w':World} {lo hi mid:Nat} {ds es:List PD} {us vs:List Value}
theorem LvC.step (h:LvC w lo hi ds us) (hb:Below w.heap.size w w'):LvC w' lo hi ds us:=by
 obtain⟨F,h1,h2,h3⟩:=h
 exact⟨F,uh.keep _ _ F h1 fun g hg=>hb.block g (by have:=h2.2 g hg;omega),h2,Nat.le_trans h3 hb.size⟩
theorem LvC.kept {lo' hi':Nat} (h:LvC w lo hi ds us) (hk:Keep lo' hi' w w') (ho:hi≤lo'∨hi'≤lo):LvC w' lo hi ds us:=by
 obtain⟨F,h1,h2,h3⟩:=h
 exact⟨F,uh.keep _ _ F h1 fun g hg=>hk.block g (by have:=h2.2 g hg;omega) (by have:=h2.2 g hg;omega),h2,Nat.le_trans h3 hk.size⟩
theorem LvC.setCell (h:LvC w lo hi ds us) {p:Addr} (hp:p.block < lo∨hi≤p.block) (u:Value):LvC (w.setCell p u) lo hi ds us:=by
 obtain⟨F,h1,h2,h3⟩:=h
 exact⟨F,uh.keep _ _ F h1 fun g hg=>Below.heap_setCell w p u g (by have:=h2.2 g hg;omega),h2,by simpa [World.setCell] using h3⟩
theorem LvC.more {lo' hi':Nat} (h:LvC w lo hi ds us) (h1:lo'≤lo) (h2:hi≤hi') (h3:hi'≤w.heap.size):LvC w lo' hi' ds us:=by
 obtain⟨F,k1,k2,_⟩:=h
 exact⟨F,k1,k2.more h1 h2,h3⟩
theorem LvC.nil (w:World) (lo hi:Nat) (h:hi≤w.heap.size):LvC w lo hi [] []:=⟨[],uh.nil w,In.nil _ _,h⟩
theorem LvC.lit (h:LvC w lo hi ds us) (u:Value):LvC w lo hi (.lit u ::ds) (u ::us):=by
 obtain⟨F,h1,h2,h3⟩:=h
 exact⟨[] ++F,uh.cons (Hold.a5l w u) h1,h2,h3⟩
theorem LvC.nil0 (w:World):LvC w w.heap.size w.heap.size [] []:=LvC.nil w _ _ (zql _)
theorem LvC.low {lo2:Nat} (h:LvC w lo2 hi ds us) (hl:lo≤lo2):LvC w lo hi ds us:=by
 obtain⟨F,k1,k2,k3⟩:=h
 exact⟨F,k1,k2.more hl (zql _),k3⟩
theorem LvC.cons {lo2:Nat} {d:PD} {v:Value} (k:Lv w lo mid d v) (h:LvC w lo2 hi ds us) (h1:mid≤lo2) (h2:lo≤lo2) (h3:mid≤hi):LvC w lo hi (d ::ds) (v ::us):=by
 obtain⟨F,a1,a2,a3⟩:=h
 obtain⟨G,k1,k2,k3⟩:=k
 exact⟨G ++F,uh.cons k1 a1,k2.append a2 h1 h2 h3,a3⟩
theorem LvC.append {lo2:Nat} (k:LvC w lo mid es vs) (h:LvC w lo2 hi ds us) (h1:mid≤lo2) (h2:lo≤lo2) (h3:mid≤hi):LvC w lo hi (es ++ds) (vs ++us):=by
 obtain⟨F,a1,a2,a3⟩:=h
 obtain⟨G,k1,k2,k3⟩:=k
 exact⟨G ++F,uh.append k1 a1,k2.append a2 h1 h2 h3,a3⟩
theorem uh.bqs {B:Nat}:∀ {ds:List PD} {us:List Value} {F:List Nat},uh w ds us F→(∀ g ∈ F,g < B)→lq w B ds us
 | [],us,F,h,_=>by
  rw[uh] at h
  obtain⟨rfl,_⟩:=h
  exact⟨rfl,by simp⟩
 | d ::ds,us,F,h,hk=>by
  obtain⟨c,c2,F1,F2,rfl,rfl,h1,h2⟩:=uh.au3 h
  have ih:=uh.bqs h2 fun g hg=>hk g (by simp[hg])
  refine⟨by simp[ih.1],fun j x u hx hu=>?_⟩
  cases j with
  | zero=>
   simp at hx hu
   subst hx hu
   exact Hold.rep _ _ _ h1 fun g hg=>hk g (by simp[hg])
  | succ j=>exact ih.2 j x u (by simpa using hx) (by simpa using hu)
theorem LvC.is (h:LvC w lo hi ds us):lq w w.heap.size ds us:=by
 obtain⟨F,h1,h2,h3⟩:=h
 exact h1.bqs fun g hg=>by have:=h2.2 g hg;omega
theorem LvC.len (h:LvC w lo hi ds us):us.length=ds.length:=by
 obtain⟨F,h1,_⟩:=h
 exact uh.length h1
theorem LvC.nil_ (h:LvC w lo hi [] us):us=[]:=List.eq_nil_of_length_eq_zero h.len
theorem LvC.ag7 {u:Value} (h:LvC w lo hi (.lit u ::ds) us):∃ us',us=u ::us'∧LvC w lo hi ds us':=by
 obtain⟨F,h1,h2,h3⟩:=h
 obtain⟨c,c2,F1,F2,rfl,rfl,k1,k2⟩:=uh.au3 h1
 obtain⟨rfl,rfl⟩:=Hold.ad8 k1
 exact⟨c2,rfl,F2,k2,h2,h3⟩
theorem LvC.ajf {m:Nat} {xs:List PD} (h:LvC w lo hi (.row m xs ::ds) us):∃ A n c us',us=.slice A n c ::us'∧LvC w lo hi ds us':=by
 obtain⟨F,h1,h2,h3⟩:=h
 obtain⟨c,c2,F1,F2,rfl,rfl,k1,k2⟩:=uh.au3 h1
 rw[Hold] at k1
 obtain⟨A,n,c,rfl,_⟩:=k1
 exact⟨A,n,c,c2,rfl,F2,k2,⟨(List.nodup_append.1 h2.1).2.1,fun g hg=>h2.2 g (by simp[hg])⟩,h3⟩
end
theorem lq.nil_ {w:World} {B:Nat}:lq w B [] []:=⟨rfl,by simp⟩
theorem lq.lit {w:World} {B:Nat} {ds:List PD} {cs:List Value} (h:lq w B ds cs) (u:Value):lq w B (.lit u ::ds) (u ::cs):=by
 refine⟨by simp[h.1],fun j x v hx hv=>?_⟩
 cases j with
 | zero=>simp at hx hv;subst hx hv;rw[Rep]
 | succ j=>exact h.2 j x v (by simpa using hx) (by simpa using hv)
theorem lq.cons {w:World} {B:Nat} {d:PD} {v:Value} {ds:List PD} {cs:List Value} (k:Rep w B d v) (h:lq w B ds cs):lq w B (d ::ds) (v ::cs):=by
 refine⟨by simp[h.1],fun j x u hx hu=>?_⟩
 cases j with
 | zero=>simp at hx hu;subst hx hu;exact k
 | succ j=>exact h.2 j x u (by simpa using hx) (by simpa using hu)
theorem lq.of_nil {w:World} {B:Nat} {cs:List Value} (h:lq w B [] cs):cs=[]:=by
 cases cs with
 | nil=>rfl
 | cons c cs=>have:=h.1;simp at this
theorem lq.ad8 {w:World} {B:Nat} {u:Value} {ds:List PD} {cs:List Value} (h:lq w B (.lit u ::ds) cs):∃ cs',cs=u ::cs'∧lq w B ds cs':=by
 cases cs with
 | nil=>have:=h.1;simp at this
 | cons c cs=>
  have h0:=(h.2 0 _ _ rfl rfl).ad8
  subst h0
  exact⟨cs,rfl,by have:=h.1;simpa using this,fun j x v hx hv=>h.2 (j+1) x v (by simpa using hx) (by simpa using hv)⟩
theorem lq.of_cons {w:World} {B:Nat} {d:PD} {ds:List PD} {cs:List Value} (h:lq w B (d ::ds) cs):∃ v cs',cs=v ::cs'∧Rep w B d v∧lq w B ds cs':=by
 cases cs with
 | nil=>have:=h.1;simp at this
 | cons c cs=>exact⟨c,cs,rfl,h.2 0 _ _ rfl rfl,by have:=h.1;simpa using this,fun j x v hx hv=>h.2 (j+1) x v (by simpa using hx) (by simpa using hv)⟩
theorem lq.more {w:World} {B B':Nat} {ds:List PD} {cs:List Value} (h:lq w B ds cs) (hB:B≤B'):lq w B' ds cs:=⟨h.1,fun j x u hx hu=>Rep.more hB x u (h.2 j x u hx hu)⟩
theorem ag0 {env:Nat→List TyC} {α:Type} {pd:α→List PD} {cells:List TyC} (hne:0 < cells.length):
  ∀ (n:Nat) (xs:List PD),(∀ ds,(∀ d ∈ ds,d ∈ xs)→aj0 env ds cells→∃ t,ds=pd t)→xs.length=n * cells.length→(∀ (j:Nat) (x:PD),xs[j]?=some x→∃ c,cells[j % cells.length]?=some c∧agc env x c)→
   ∃ ts:List α,xs=ts.flatMap pd
 | 0,xs,_,hl,_=>⟨[],by simpa using hl⟩
 | n+1,xs,h1,hl,hc=>by
  rw[Nat.add_mul,Nat.one_mul] at hl
  obtain⟨t,ht⟩:=h1 (xs.take cells.length) (fun d hd=>List.mem_of_mem_take hd) ⟨by simp;omega,fun j d c hd hcc=>by
   rw[List.getElem?_take] at hd
   split at hd
   ·rename_i hj
    obtain⟨c',h2,h3⟩:=hc j d hd
    rw[Nat.mod_eq_of_lt hj,hcc] at h2
    injection h2 with h2
    rw[h2]
    exact h3
   ·cases hd⟩
  obtain⟨ts,h3⟩:=ag0 hne n (xs.drop cells.length) (fun ds hds hcf=>h1 ds (fun d hd=>List.mem_of_mem_drop (hds d hd)) hcf) (by simp;omega) fun j x hx=>by
   rw[List.getElem?_drop] at hx
   have:=hc _ x hx
   rwa[Nat.add_mod_left] at this
  exact⟨t ::ts,by rw[List.flatMap_cons,← ht,← h3,List.take_append_drop]⟩
mutual
def PD.whole:PD→Prop
 | .lit _=>True
 | .row sz xs=>(∃ n,xs.length=n * sz)∧PD.aoz xs
def PD.aoz:List PD→Prop
 | []=>True
 | x ::xs=>x.whole∧PD.aoz xs
end
theorem ajg:∀ {xs:List PD},PD.aoz xs→∀ x ∈ xs,x.whole
 | [],_,x,hx=>absurd hx (by simp)
 | y ::ys,h,x,hx=>by
  rw[PD.aoz] at h
  rcases List.mem_cons.1 hx with rfl|hx
  ·exact h.1
  ·exact ajg h.2 x hx
mutual
theorem Rep.whole {w:World} {B:Nat}:∀ (d:PD) (v:Value),Rep w B d v→d.whole
 | .lit u,v,_=>by rw[PD.whole];trivial
 | .row sz xs,v,h=>by
  rw[Rep] at h
  obtain⟨A,n,c,_,hl,_,hx⟩:=h
  rw[PD.whole]
  refine⟨⟨n,hl⟩,?_⟩
  by_cases h0:0 < n
  ·obtain⟨g,off,_,_,hr⟩:=hx h0
   exact ahb.whole xs g off hr
  ·have hn:n=0:=by omega
   subst hn
   have:xs=[]:=List.eq_nil_of_length_eq_zero (by rw[hl];simp)
   rw[this,PD.aoz]
   trivial
theorem ahb.whole {w:World} {B:Nat}:∀ (xs:List PD) (g off:Nat),ahb w B g off xs→PD.aoz xs
 | [],g,off,_=>by rw[PD.aoz];trivial
 | x ::xs,g,off,h=>by
  rw[ahb] at h
  obtain⟨⟨u,_,hr⟩,h2⟩:=h
  rw[PD.aoz]
  exact⟨Rep.whole x u hr,ahb.whole xs g (off+1) h2⟩
end
theorem lq.whole {w:World} {B:Nat} {ds:List PD} {cs:List Value} (h:lq w B ds cs):∀ d ∈ ds,d.whole:=by
 intro d hd
 obtain⟨j,hj,rfl⟩:=List.getElem_of_mem hd
 exact Rep.whole _ _ (h.2 j _ _ (List.getElem?_eq_getElem hj) (List.getElem?_eq_getElem (by rw[← h.1];exact hj)))
theorem Rep.len {w:World} {B sz:Nat} {xs:List PD} {v:Value} (h:Rep w B (.row sz xs) v):∃ n,xs.length=n * sz:=by
 rw[Rep] at h
 obtain⟨A,n,c,_,hl,_⟩:=h
 exact⟨n,hl⟩
theorem Opens.sl {w:World} {dom:Dom} {e:Nat} {v:Value} (h:Opens w dom [.sl e] [v]):∃ d,Rep w w.heap.size d v∧d.wf∧d.whole∧agc dom.env d (.sl e):=by
 obtain⟨ds,hc,hr⟩:=h
 have hw:=hc.wf
 obtain⟨hcl,hcc⟩:=hc
 match ds,hcl with
 | [d],_=>
  have r:=hr.2 0 _ _ rfl rfl
  rw[PD.wfL] at hw
  exact⟨d,r,hw.1,Rep.whole _ _ r,hcc 0 _ _ rfl rfl⟩
theorem a94 {n:Nat} {xs:List PD} {x:PD} (h:x ∈ xs):SizeOf.sizeOf x < SizeOf.sizeOf (PD.row n xs):=by
 have:=List.sizeOf_lt_of_mem h
 simp only[PD.row.sizeOf_spec]
 omega
end Go.Proofs.YtbafphecjijdmaaGreatDoor
namespace Go.Proofs.YtbafphecjijdmaaGreatDoor
open Go.RowKit
set_option linter.all false
def SzC (fn:Nat) (ds:List PD):Prop:=∀ (B:Nat) (cs:List Value) (w:World) (left:Int),0≤left→left≤1048576→B≤w.heap.size→PD.wfL ds→lq w B ds cs→
 Calls Tryz.prog fn #[.agg cs.toArray,.int .i64 left] w fun e w'=>e=.returned (.int .i64 (ars (PD.szL ds) left))∧Below w.heap.size w w'
def SzR (fn:Nat) (d:PD):Prop:=∀ (B:Nat) (v:Value) (w:World) (left:Int),0≤left→left≤1048576→B≤w.heap.size→d.wf→Rep w B d v→
 Calls Tryz.prog fn #[v,.int .i64 left] w fun e w'=>e=.returned (.int .i64 (ars d.sz left))∧Below w.heap.size w w'
def ToC (fn:Nat) (ds:List PD):Prop:=∀ (B:Nat) (cs:List Value) (w:World),B≤w.heap.size→PD.szL ds≤1048576→lq w B ds cs→
 Calls Tryz.prog fn #[.agg cs.toArray] w fun e w'=>∃ us,e=.returned (.agg us.toArray)∧LvC w' w.heap.size w'.heap.size ds us∧Below w.heap.size w w'
def ToR (fn:Nat) (d:PD):Prop:=∀ (B:Nat) (v:Value) (w:World),B≤w.heap.size→d.sz≤1048576→Rep w B d v→
 Calls Tryz.prog fn #[v] w fun e w'=>∃ u,e=.returned u∧Lv w' w.heap.size w'.heap.size d u∧Below w.heap.size w w'
def EqC (fn:Nat) (ds:List PD):Prop:=∀ (B:Nat) (cs us:List Value) (w:World),B≤w.heap.size→lq w B ds cs→lq w B ds us→
 Calls Tryz.prog fn #[.agg cs.toArray,.agg us.toArray] w fun e w'=>e=.returned (.bool true)∧Below w.heap.size w w'
def EqR (fn:Nat) (d:PD):Prop:=∀ (B:Nat) (v u:Value) (w:World),B≤w.heap.size→Rep w B d v→Rep w B d u→
 Calls Tryz.prog fn #[v,u] w fun e w'=>e=.returned (.bool true)∧Below w.heap.size w w'
def aoc (x:Int):List PD:=[.lit (.int .i64 x)]
def qj (x:ByteArray):List PD:=[.lit (.string x)]
theorem axp (x:Int):(aoc x).length=1:=rfl
theorem aaz (x:ByteArray):(qj x).length=1:=rfl
theorem bim (x:ByteArray):PD.szL (qj x)=x.size:=by simp[qj,PD.szL,PD.sz]
end Go.Proofs.YtbafphecjijdmaaGreatDoor
