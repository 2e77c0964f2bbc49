/-
  What every generated law needs of plain data: the size that is counted, the marks that are laid, cells of the call's own. No program in sight.
  What the laws' own helpers do, said over plain data: one statement a family, for every type. Also int64, string and bool as plain data.
-/
import Derived.Test.YtlpcocfadppkhaaGreatDoorRa01
import Derived.Deep.RegionHeld3
import Derived.Laws.BytesArg
import Derived.Test.YtlpcocfadppkhaaGreatDoorRows
namespace Go.Proofs.YtlpcocfadppkhaaGreatDoor
open Go.RowKit Go.ChangeShapes Go.WideShapes Go.ChangeAt
set_option linter.unusedVariables false
set_option linter.unusedSimpArgs false
set_option linter.unnecessarySimpa false
theorem ak {w wr:World} {B0 B g p:Nat} {v:Value} (hb:Below B0 w wr) (hg:g < B0) (h:∃ u,w.cell? ⟨g,p,none⟩=some u∧Rep w B (.lit v) u):wr.cell? ⟨g,p,none⟩=some v:=by
 obtain⟨u,hu,hr⟩:=h
 rw[hr.uo] at hu
 exact(hb.cell (p:=⟨g,p,none⟩) hg).trans hu
theorem abh {w wr:World} {B0 B g p:Nat} {d:PD} (hb:Below B0 w wr) (hg:g < B0) (hB:B≤B0) (h:∃ u,w.cell? ⟨g,p,none⟩=some u∧Rep w B d u):∃ u,wr.cell? ⟨g,p,none⟩=some u∧Rep wr B d u:=by
 obtain⟨u,hu,hr⟩:=h
 exact⟨u,(hb.cell (p:=⟨g,p,none⟩) hg).trans hu,hr.below (hb.mono hB)⟩
theorem ag1 {w:World} {B sz:Nat} {ds:List PD} {v:Value} (h:Rep w B (.row sz ds) v):
  ∃ A n c,v=.slice A n c∧ds.length=n * sz∧n≤maxLen∧(0 < n→∃ g off,A=some ⟨g,off,none⟩∧g < B∧
   ∀ (i:Nat) (x:PD),ds[i]?=some x→∃ u,w.cell? ⟨g,off+i,none⟩=some u∧Rep w B x u):=by
 rw[Rep] at h
 obtain⟨A,n,c,rfl,hl,hm,hx⟩:=h
 refine⟨A,n,c,rfl,hl,hm,fun h0=>?_⟩
 obtain⟨g,off,rfl,hg,hr⟩:=hx h0
 exact⟨g,off,rfl,hg,fun i x hi=>abz.1 hr i x hi⟩
mutual
def PD.wf:PD→Prop
 | .lit (.int .i64 n)=>(Lit.int .i64 n).wf=true
 | .lit (.string s)=>s.size≤maxLen
 | .lit _=>True
 | .row _ xs=>PD.wfL xs
def PD.wfL:List PD→Prop
 | []=>True
 | x ::xs=>x.wf∧PD.wfL xs
end
theorem aji:∀ {xs ys:List PD},PD.wfL (xs ++ys)↔PD.wfL xs∧PD.wfL ys
 | [],ys=>by simp[PD.wfL]
 | x ::xs,ys=>by simp[PD.wfL,aji (xs:=xs) (ys:=ys),and_assoc]
theorem abd {α:Type} {f:α→List PD}:∀ {ts:List α},PD.wfL (ts.flatMap f)↔∀ t ∈ ts,PD.wfL (f t)
 | []=>by simp[PD.wfL]
 | t ::ts=>by rw[List.flatMap_cons,aji,abd (ts:=ts)];simp
mutual
theorem aco.wf {env:Nat→List TyC}:∀ {d:PD} {c:TyC},aco env d c→d.wf
 | .lit v,.int,h=>by rw[aco] at h;obtain⟨n,rfl,hn⟩:=h;rw[PD.wf];exact hn
 | .lit v,.str,h=>by rw[aco] at h;obtain⟨s,rfl,hs⟩:=h;rw[PD.wf];exact hs
 | .lit v,.bool,h=>by rw[aco] at h;obtain⟨b,rfl⟩:=h;simp[PD.wf]
 | .lit v,.sl e,h=>by rw[aco] at h;exact h.elim
 | .row sz xs,.sl e,h=>by rw[aco] at h;rw[PD.wf];exact afw.wf h.2
 | .row sz xs,.int,h=>by simp[aco] at h
 | .row sz xs,.str,h=>by simp[aco] at h
 | .row sz xs,.bool,h=>by simp[aco] at h
theorem afw.wf {env:Nat→List TyC} {e:Nat}:∀ {xs:List PD} {i:Nat},afw env e i xs→PD.wfL xs
 | [],i,_=>by rw[PD.wfL];trivial
 | x ::xs,i,h=>by
  rw[afw] at h
  obtain⟨⟨c,_,hx⟩,hr⟩:=h
  rw[PD.wfL]
  exact⟨aco.wf hx,afw.wf hr⟩
end
theorem axd {ds:List PD} (h:∀ (j:Nat) (d:PD),ds[j]?=some d→d.wf):PD.wfL ds:=by
 induction ds with
 | nil=>rw[PD.wfL];trivial
 | cons d ds ih=>
  rw[PD.wfL]
  exact⟨h 0 d (by simp),ih fun j e he=>h (j+1) e (by simpa using he)⟩
theorem afx.wf {env:Nat→List TyC} {ds:List PD} {cells:List TyC} (h:afx env ds cells):PD.wfL ds:=
 axd fun j d hd=>by
  have hj:=(List.getElem?_eq_some_iff.1 hd).1
  exact(h.2 j d _ hd (List.getElem?_eq_getElem (by rw[← h.1];exact hj))).wf
def aff (k:Nat) (out:List Int):List Int:=if h:k=0 then out else aff (k / 10) ((48+((k % 10:Nat):Int)) ::out)
termination_by k
decreasing_by omega
theorem aqp (out:List Int):aff 0 out=out:=by rw[aff];simp
theorem aqr {k:Nat} (h:0 < k) (out:List Int):aff k out=aff (k / 10) ((48+((k % 10:Nat):Int)) ::out):=by rw[aff,dif_neg (by omega)]
def markT (k:Int):ByteArray:=strOfNums (109 ::(if k≤0 then [48] else aff k.toNat []))
def mkV:Value→Int→Value
 | .int kk _,k=>.int kk k
 | .string _,k=>.string (markT k)
 | .bool _,k=>.bool (k % 3 ==0)
 | v,_=>v
mutual
def PD.cnt:PD→Nat
 | .lit _=>1
 | .row _ xs=>PD.bf xs
def PD.bf:List PD→Nat
 | []=>0
 | x ::xs=>x.cnt+PD.bf xs
end
mutual
def PD.mark:PD→Int→PD
 | .lit v,k=>.lit (mkV v k)
 | .row n xs,k=>.row n (PD.su xs k)
def PD.su:List PD→Int→List PD
 | [],_=>[]
 | x ::xs,k=>x.mark k ::PD.su xs (k+x.cnt)
end
def qh:List PD→Nat
 | []=>0
 | .lit _ ::r=>qh r
 | .row _ xs ::r=>PD.bf xs+qh r
def xw:List PD→Int→List PD
 | [],_=>[]
 | .lit v ::r,k=>.lit v ::xw r k
 | .row n xs ::r,k=>.row n (PD.su xs k) ::xw r (k+PD.bf xs)
theorem adp:∀ (xs ys:List PD),PD.bf (xs ++ys)=PD.bf xs+PD.bf ys
 | [],ys=>by simp[PD.bf]
 | x ::xs,ys=>by simp[PD.bf,adp xs ys];omega
theorem gu {ds:List PD} {i:Nat} {x:PD} (h:ds[i]?=some x):PD.bf (ds.take (i+1))=PD.bf (ds.take i)+x.cnt:=by
 rw[List.take_add_one,h,adp];simp[PD.bf]
theorem pz (ds:List PD) (i:Nat):PD.bf (ds.take i)≤PD.bf ds:=by
 have:PD.bf ds=PD.bf (ds.take i)+PD.bf (ds.drop i):=by rw[← adp,List.take_append_drop]
 omega
theorem ag2:∀ (xs ys:List PD) (k:Int),PD.su (xs ++ys) k=PD.su xs k ++PD.su ys (k+PD.bf xs)
 | [],ys,k=>by simp[PD.su,PD.bf]
 | x ::xs,ys,k=>by
  rw[List.cons_append,PD.su,PD.su,ag2 xs ys,PD.bf,List.cons_append]
  congr 3
  omega
theorem aaj:∀ (xs:List PD) (k:Int),(PD.su xs k).length=xs.length
 | [],k=>by simp[PD.su]
 | x ::xs,k=>by simp[PD.su,aaj xs]
theorem zo:∀ {ds:List PD} {i:Nat} {x:PD} (k:Int),ds[i]?=some x→(PD.su ds k)[i]?=some (x.mark (k+PD.bf (ds.take i)))
 | [],i,x,k,h=>by simp at h
 | d ::ds,0,x,k,h=>by
  simp at h
  subst h
  simp[PD.su,PD.bf]
 | d ::ds,i+1,x,k,h=>by
  have h':ds[i]?=some x:=by simpa using h
  rw[PD.su,List.getElem?_cons_succ,zo (k+d.cnt) h',List.take_succ_cons,PD.bf]
  congr 2
  omega
structure mg (F:List Nat) (w w':World):Prop where
 os:w'.os=w.os
 tape:w'.tape=w.tape
 output:w'.output=w.output
 size:w.heap.size≤w'.heap.size
 block:∀ k,k < w.heap.size→k ∉ F→w'.heap[k]?=w.heap[k]?
section
variable {F G:List Nat} {w w' w'':World}
theorem mg.refl (F:List Nat) (w:World):mg F w w:=⟨rfl,rfl,rfl,Nat.le_refl _,fun _ _ _=>rfl⟩
theorem mg.trans (h:mg F w w') (k:mg F w' w''):mg F w w'':=
 ⟨k.os.trans h.os,k.tape.trans h.tape,k.output.trans h.output,Nat.le_trans h.size k.size,fun i hi ho=>(k.block i (Nat.lt_of_lt_of_le hi h.size) ho).trans (h.block i hi ho)⟩
theorem mg.of_below (h:Below w.heap.size w w'):mg F w w':=⟨h.os,h.tape,h.output,h.size,fun k hk _=>h.block k hk⟩
theorem mg.mono (h:mg F w w') (hs:∀ g ∈ F,g ∈ G):mg G w w':=⟨h.os,h.tape,h.output,h.size,fun k hk ho=>h.block k hk fun hf=>ho (hs k hf)⟩
theorem mg.setCell (h:mg F w w') {p:Addr} (h1:p.block ∈ F) (u:Value):mg F w (w'.setCell p u):=
 h.trans ⟨rfl,rfl,rfl,by simp[World.setCell],fun k _ ho=>Below.heap_setCell _ _ _ _ (fun e=>ho (by rw[e];exact h1))⟩
theorem mg.keep {lo hi:Nat} (h:mg F w w') (hF:∀ g ∈ F,lo≤g∧g < hi):Keep lo hi w w':=⟨h.os,h.tape,h.output,h.size,fun k hk ho=>h.block k hk fun hf=>by have:=hF k hf;omega⟩
theorem mg.step (h:mg F w w') (hb:Below w'.heap.size w' w''):mg F w w'':=h.trans (mg.of_below hb)
end
theorem ah.split {w:World}:∀ {xs ys:List PD} {cs:List Value} {F:List Nat},ah w (xs ++ys) cs F→∃ c1 c2 F1 F2,cs=c1 ++c2∧F=F1 ++F2∧ah w xs c1 F1∧ah w ys c2 F2
 | [],ys,cs,F,h=>⟨[],cs,[],F,rfl,rfl,ah.nil w,h⟩
 | x ::xs,ys,cs,F,h=>by
  rw[List.cons_append,ah] at h
  obtain⟨c,cs',F1,F2,rfl,rfl,h1,h2⟩:=h
  obtain⟨c1,c2,G1,G2,rfl,rfl,h3,h4⟩:=ah.split h2
  exact⟨c ::c1,c2,F1 ++G1,G2,by simp,by simp,ah.cons h1 h3,h4⟩
theorem ah.acp {w:World} {x:PD} {ys:List PD} {cs:List Value} {F:List Nat} (h:ah w (x ::ys) cs F):∃ c c2 F1 F2,cs=c ::c2∧F=F1 ++F2∧Hold w x c F1∧ah w ys c2 F2:=by
 rw[ah] at h
 exact h
structure ou (w0 wr:World) (g off:Nat) (F:List Nat) (ds:List PD) (i:Nat) (k0:Int):Prop where
 st:∃ cs,wu wr g off cs∧ah wr (PD.su (ds.take i) k0 ++ds.drop i) cs F
 keep:mg (g ::F) w0 wr
 nd:(g ::F).Nodup
 lt:∀ b ∈ g ::F,b < w0.heap.size
section
variable {w0 wr wq:World} {g off i:Nat} {F:List Nat} {ds:List PD} {k0:Int}
theorem ou.start {cs:List Value} (ho:wu w0 g off cs) (h:ah w0 ds cs F) (nd:(g ::F).Nodup) (lt:∀ b ∈ g ::F,b < w0.heap.size):ou w0 w0 g off F ds 0 k0:=
 ⟨⟨cs,ho,by simpa [PD.su] using h⟩,mg.refl _ _,nd,lt⟩
theorem ou.size (h:ou w0 wr g off F ds i k0):w0.heap.size≤wr.heap.size:=h.keep.size
theorem ou.below (h:ou w0 wr g off F ds i k0) (hb:Below wr.heap.size wr wq):ou w0 wq g off F ds i k0:=by
 obtain⟨⟨cs,ho,hl⟩,hk,nd,lt⟩:=h
 refine⟨⟨cs,ho.below hb (Nat.lt_of_lt_of_le (lt g (by simp)) hk.size),ah.keep _ _ _ hl fun b hm=>hb.block b (Nat.lt_of_lt_of_le (lt b (by simp[hm])) hk.size)⟩,hk.step hb,nd,lt⟩
theorem drop_at {x:PD} (hx:ds[i]?=some x):ds.drop i=x ::ds.drop (i+1):=by
 obtain⟨hi,rfl⟩:=List.getElem?_eq_some_iff.1 hx
 exact List.drop_eq_getElem_cons hi
theorem ae4 {x:PD} (hx:ds[i]?=some x):PD.su (ds.take (i+1)) k0=PD.su (ds.take i) k0 ++[x.mark (k0+PD.bf (ds.take i))]:=by
 rw[List.take_add_one,hx,ag2];simp[PD.su]
theorem ou.lit {u:Value} (h:ou w0 wr g off F ds i k0) (hx:ds[i]?=some (.lit u)):
  wr.cell? ⟨g,off+i,none⟩=some u∧wr.frozen? ⟨g,off+i,none⟩=false∧ou w0 (wr.setCell ⟨g,off+i,none⟩ (mkV u (k0+PD.bf (ds.take i)))) g off F ds (i+1) k0:=by
 obtain⟨⟨cs,ho,hl⟩,hk,nd,lt⟩:=h
 have hil:i < ds.length:=(List.getElem?_eq_some_iff.1 hx).1
 rw[drop_at hx] at hl
 obtain⟨c1,c2,F1,F2,rfl,rfl,h1,h2⟩:=ah.split hl
 obtain⟨c,c3,F3,F4,rfl,rfl,h3,h4⟩:=ah.acp h2
 obtain⟨rfl,rfl⟩:=Hold.uo h3
 have hc1:c1.length=i:=by rw[ah.length h1,aaj,List.length_take];omega
 have hget:(c1 ++c ::c3)[i]?=some c:=by rw[← hc1];simp
 have hgn:∀ b ∈ F1 ++([] ++F4),b≠g:=fun b hb e=>by
  subst e
  exact(List.nodup_cons.1 nd).1 hb
 refine⟨ho.cell hget,ho.frozen (off+i),⟨⟨c1 ++mkV c (k0+PD.bf (ds.take i)) ::c3,?_,?_⟩,hk.setCell (by simp) _,nd,lt⟩⟩
 ·have:=ho.set (i:=i) (by simp;omega) (mkV c (k0+PD.bf (ds.take i)))
  rwa[show(c1 ++c ::c3).set i (mkV c (k0+PD.bf (ds.take i)))=c1 ++mkV c (k0+PD.bf (ds.take i)) ::c3 by
   rw[List.set_append_right (h:=by omega),hc1,Nat.sub_self,List.set_cons_zero]] at this
 ·have hw:ah (wr.setCell ⟨g,off+i,none⟩ (mkV c (k0+PD.bf (ds.take i)))) (PD.su (ds.take i) k0) c1 F1:=ah.keep _ _ _ h1 fun b hb=>Below.heap_setCell wr _ _ b (hgn b (by simp[hb]))
  have hw4:ah (wr.setCell ⟨g,off+i,none⟩ (mkV c (k0+PD.bf (ds.take i)))) (ds.drop (i+1)) c3 F4:=ah.keep _ _ _ h4 fun b hb=>Below.heap_setCell wr _ _ b (hgn b (by simp[hb]))
  rw[ae4 hx,List.append_assoc]
  exact hw.append (ah.cons (F1:=[]) (by rw[PD.mark];exact Hold.afe _ _) hw4)
theorem ou.row {m:Nat} {xs:List PD} (h:ou w0 wr g off F ds i k0) (hx:ds[i]?=some (.row m xs)):
  ∃ c F2,wr.cell? ⟨g,off+i,none⟩=some c∧Hold wr (.row m xs) c F2∧F2.Nodup∧(∀ b ∈ F2,b < wr.heap.size)∧
   ∀ wq,mg F2 wr wq→Hold wq (.row m (PD.su xs (k0+PD.bf (ds.take i)))) c F2→ou w0 wq g off F ds (i+1) k0:=by
 obtain⟨⟨cs,ho,hl⟩,hk,nd,lt⟩:=h
 have hil:i < ds.length:=(List.getElem?_eq_some_iff.1 hx).1
 rw[drop_at hx] at hl
 obtain⟨c1,c2,F1,F2,rfl,rfl,h1,h2⟩:=ah.split hl
 obtain⟨c,c3,F3,F4,rfl,rfl,h3,h4⟩:=ah.acp h2
 have hc1:c1.length=i:=by rw[ah.length h1,aaj,List.length_take];omega
 have hget:(c1 ++c ::c3)[i]?=some c:=by rw[← hc1];simp
 obtain⟨hgF,ndF⟩:=List.nodup_cons.1 nd
 obtain⟨nd1,nd2,d12⟩:=List.nodup_append.1 ndF
 obtain⟨nd3,nd4,d34⟩:=List.nodup_append.1 nd2
 have ltr:∀ b ∈ g ::(F1 ++(F3 ++F4)),b < wr.heap.size:=fun b hb=>Nat.lt_of_lt_of_le (lt b hb) hk.size
 refine⟨c,F3,ho.cell hget,h3,nd3,fun b hb=>ltr b (by simp[hb]),fun wq hq hh=>⟨⟨c1 ++c ::c3,?_,?_⟩,hk.trans (hq.mono fun b hb=>by simp[hb]),nd,lt⟩⟩
 ·exact ho.keep (hq.block g (ltr g (by simp)) fun hg=>hgF (by simp[hg]))
 ·have w1:ah wq (PD.su (ds.take i) k0) c1 F1:=ah.keep _ _ _ h1 fun b hb=>hq.block b (ltr b (by simp[hb])) fun h3b=>d12 b hb b (by simp[h3b]) rfl
  have w4:ah wq (ds.drop (i+1)) c3 F4:=ah.keep _ _ _ h4 fun b hb=>hq.block b (ltr b (by simp[hb])) fun h3b=>d34 b h3b b hb rfl
  rw[ae4 hx,List.append_assoc]
  exact w1.append (ah.cons (by rw[PD.mark];exact hh) w4)
theorem ou.done {A:Option Addr} {n sz c:Nat} (h:ou w0 wr g off F ds ds.length k0) (hA:A=some ⟨g,off,none⟩) (hl:ds.length=n * sz) (h0:0 < n) (hc:n≤c) (hm:c≤maxLen):
  Hold wr (.row sz (PD.su ds k0)) (.slice A n c) (g ::F):=by
 obtain⟨⟨cs,ho,hd⟩,_,_,_⟩:=h
 rw[List.take_length,List.drop_length,List.append_nil] at hd
 rw[Hold]
 exact⟨A,n,c,rfl,by rw[aaj];exact hl,hc,hm,.inr ⟨h0,g,off,F,cs,hA,rfl,ho,hd⟩⟩
theorem ou.at_ {i':Nat} (h:ou w0 wr g off F ds i k0) (e:i=i'):ou w0 wr g off F ds i' k0:=e ▸ h
theorem ou.afy {u:Value} {p i':Nat} {K:Int} (h:ou w0 wr g off F ds i k0) (hx:ds[i]?=some (.lit u)) (hp:p=off+i) (hi:i+1=i') (hK:K=k0+PD.bf (ds.take i)):
  wr.cell? ⟨g,p,none⟩=some u∧wr.frozen? ⟨g,p,none⟩=false∧ou w0 (wr.setCell ⟨g,p,none⟩ (mkV u K)) g off F ds i' k0:=by
 subst hp hi hK
 exact h.lit hx
theorem ou.row' {m:Nat} {xs:List PD} {p i':Nat} {K:Int} (h:ou w0 wr g off F ds i k0) (hx:ds[i]?=some (.row m xs)) (hp:p=off+i) (hi:i+1=i') (hK:K=k0+PD.bf (ds.take i)):
  ∃ c F2,wr.cell? ⟨g,p,none⟩=some c∧Hold wr (.row m xs) c F2∧F2.Nodup∧(∀ b ∈ F2,b < wr.heap.size)∧
   ∀ wq,mg F2 wr wq→Hold wq (.row m (PD.su xs K)) c F2→ou w0 wq g off F ds i' k0:=by
 subst hp hi hK
 exact h.row hx
end
theorem Hold.form {w:World} {sz:Nat} {xs:List PD} {v:Value} {F:List Nat} (h:Hold w (.row sz xs) v F):∃ A n c,v=.slice A n c:=by
 rw[Hold] at h
 obtain⟨A,n,c,hv,_⟩:=h
 exact⟨A,n,c,hv⟩
structure acr (w0 wr:World) (F:List Nat) (ds:List PD) (us:List Value) (i:Nat) (k0:Int):Prop where
 st:ah wr (xw (ds.take i) k0 ++ds.drop i) us F
 keep:mg F w0 wr
 nd:F.Nodup
 lt:∀ b ∈ F,b < w0.heap.size
theorem acs:∀ (xs ys:List PD) (k:Int),xw (xs ++ys) k=xw xs k ++xw ys (k+qh xs)
 | [],ys,k=>by simp[xw,qh]
 | .lit v ::xs,ys,k=>by simp[xw,qh,acs xs ys]
 | .row n zs ::xs,ys,k=>by
  rw[List.cons_append,xw,xw,acs xs ys,qh,List.cons_append]
  congr 3
  omega
theorem aea:∀ (xs:List PD) (k:Int),(xw xs k).length=xs.length
 | [],k=>by simp[xw]
 | .lit v ::xs,k=>by simp[xw,aea xs]
 | .row n zs ::xs,k=>by simp[xw,aea xs]
section
variable {w0 wr wq:World} {i:Nat} {F:List Nat} {ds:List PD} {us:List Value} {k0:Int}
theorem acr.start (h:ah w0 ds us F) (nd:F.Nodup) (lt:∀ b ∈ F,b < w0.heap.size):acr w0 w0 F ds us 0 k0:=
 ⟨by simpa [xw] using h,mg.refl _ _,nd,lt⟩
theorem acr.below (h:acr w0 wr F ds us i k0) (hb:Below wr.heap.size wr wq):acr w0 wq F ds us i k0:=
 ⟨ah.keep _ _ _ h.st fun b hm=>hb.block b (Nat.lt_of_lt_of_le (h.lt b hm) h.keep.size),h.keep.step hb,h.nd,h.lt⟩
theorem acr.skip {u:Value} (h:acr w0 wr F ds us i k0) (hx:ds[i]?=some (.lit u)):acr w0 wr F ds us (i+1) k0:=by
 refine⟨?_,h.keep,h.nd,h.lt⟩
 have:=h.st
 rw[drop_at hx] at this
 rwa[List.take_add_one,hx,acs,List.append_assoc]
theorem acr.part {i':Nat} {es:List PD} {K:Int} (h:acr w0 wr F ds us i k0) (hx:(ds.drop i).take es.length=es) (hi:i+es.length=i') (hK:K=k0+qh (ds.take i)):
  ∃ F2,ah wr es ((us.drop i).take es.length) F2∧F2.Nodup∧(∀ b ∈ F2,b < wr.heap.size)∧(∀ b ∈ F2,b < w0.heap.size)∧
   ∀ wq,mg F2 wr wq→ah wq (xw es K) ((us.drop i).take es.length) F2→acr w0 wq F ds us i' k0:=by
 subst hi hK
 obtain⟨hl,hk,nd,lt⟩:=h
 have e1:ds.drop i=es ++ds.drop (i+es.length):=by
  have:=List.take_append_drop es.length (ds.drop i)
  rw[hx,List.drop_drop] at this
  exact this.symm
 rw[e1] at hl
 obtain⟨c1,c2,F1,F2,rfl,rfl,h1,h2⟩:=ah.split hl
 obtain⟨c3,c4,F3,F4,rfl,rfl,h3,h4⟩:=ah.split h2
 have hc1:=ah.length h1
 have hc3:=ah.length h3
 rw[aea,List.length_take] at hc1
 obtain⟨nd1,nd2,d12⟩:=List.nodup_append.1 nd
 obtain⟨nd3,nd4,d34⟩:=List.nodup_append.1 nd2
 have ltr:∀ b ∈ F1 ++(F3 ++F4),b < wr.heap.size:=fun b hb=>Nat.lt_of_lt_of_le (lt b hb) hk.size
 by_cases hes:es=[]
 ·subst hes
  have e3:c3=[]:=List.eq_nil_of_length_eq_zero hc3
  subst e3
  have e4:=h3
  rw[ah] at e4
  obtain⟨_,rfl⟩:=e4
  refine⟨[],by simpa using ah.nil wr,List.nodup_nil,by simp,by simp,fun wq hq _=>⟨?_,hk.trans (hq.mono (by simp)),nd,lt⟩⟩
  have:ah wq (xw (ds.take i) k0 ++([] ++ds.drop (i+0))) (c1 ++([] ++c4)) (F1 ++([] ++F4)):=ah.keep _ _ _ (ah.append h1 (ah.append (ah.nil wr) h4)) fun b hb=>hq.block b (ltr b hb) (by simp)
  simpa using this
 have hil:i < ds.length:=by
  by_cases hil:i < ds.length
  ·exact hil
  ·rw[List.drop_of_length_le (by omega)] at hx
   simp at hx
   exact absurd hx.symm (fun e=>hes e.symm)
 have hc1':c1.length=i:=by omega
 have e2:((c1 ++(c3 ++c4)).drop i).take es.length=c3:=by rw[← hc1',List.drop_left,← hc3,List.take_left]
 rw[e2]
 refine⟨F3,h3,nd3,fun b hb=>ltr b (by simp[hb]),fun b hb=>lt b (by simp[hb]),fun wq hq hh=>⟨?_,hk.trans (hq.mono fun b hb=>by simp[hb]),nd,lt⟩⟩
 have w1:ah wq (xw (ds.take i) k0) c1 F1:=ah.keep _ _ _ h1 fun b hb=>hq.block b (ltr b (by simp[hb])) fun h3b=>d12 b hb b (by simp[h3b]) rfl
 have w4:ah wq (ds.drop (i+es.length)) c4 F4:=ah.keep _ _ _ h4 fun b hb=>hq.block b (ltr b (by simp[hb])) fun h3b=>d34 b h3b b hb rfl
 have e5:ds.take (i+es.length)=ds.take i ++es:=by rw[List.take_add,hx]
 rw[e5,acs,List.append_assoc]
 exact w1.append (hh.append w4)
theorem Blk.ame {w w':World} {g:Nat} {t:TypeId} {cs:Array Value} {F:List Nat} (h:Blk w g t cs) (hk:mg F w w') (hg:g ∉ F):Blk w' g t cs:=(hk.block g h.lt hg).trans h
theorem acr.done (h:acr w0 wr F ds us ds.length k0):ah wr (xw ds k0) us F:=by
 have:=h.st
 rwa[List.take_length,List.drop_length,List.append_nil] at this
theorem ah.one {w:World} {d:PD} {v:Value} {F:List Nat} (h:ah w [d] [v] F):Hold w d v F:=by
 obtain⟨c,c2,F1,F2,e,rfl,h1,h2⟩:=ah.acp h
 rw[ah] at h2
 obtain⟨rfl,rfl⟩:=h2
 injection e with e _
 subst e
 simpa using h1
theorem ah.aqs {w:World} {d:PD} {v:Value} {F:List Nat} (h:Hold w d v F):ah w [d] [v] F:=by
 have:=ah.cons h (ah.nil w)
 simpa using this
end
def LvC (w:World) (lo hi:Nat) (ds:List PD) (us:List Value):Prop:=∃ F,ah w ds us F∧In F lo hi∧hi≤w.heap.size
section
variable {w w':World} {lo hi mid:Nat} {ds es:List PD} {us vs:List Value}
theorem LvC.step (h:LvC w lo hi ds us) (hb:Below w.heap.size w w'):LvC w' lo hi ds us:=by
 obtain⟨F,h1,h2,h3⟩:=h
 exact⟨F,ah.keep _ _ F h1 fun g hg=>hb.block g (by have:=h2.2 g hg;omega),h2,Nat.le_trans h3 hb.size⟩
theorem LvC.kept {lo' hi':Nat} (h:LvC w lo hi ds us) (hk:Keep lo' hi' w w') (ho:hi≤lo'∨hi'≤lo):LvC w' lo hi ds us:=by
 obtain⟨F,h1,h2,h3⟩:=h
 exact⟨F,ah.keep _ _ F h1 fun g hg=>hk.block g (by have:=h2.2 g hg;omega) (by have:=h2.2 g hg;omega),h2,Nat.le_trans h3 hk.size⟩
theorem LvC.setCell (h:LvC w lo hi ds us) {p:Addr} (hp:p.block < lo∨hi≤p.block) (u:Value):LvC (w.setCell p u) lo hi ds us:=by
 obtain⟨F,h1,h2,h3⟩:=h
 exact⟨F,ah.keep _ _ F h1 fun g hg=>Below.heap_setCell w p u g (by have:=h2.2 g hg;omega),h2,by simpa [World.setCell] using h3⟩
theorem LvC.more {lo' hi':Nat} (h:LvC w lo hi ds us) (h1:lo'≤lo) (h2:hi≤hi') (h3:hi'≤w.heap.size):LvC w lo' hi' ds us:=by
 obtain⟨F,k1,k2,_⟩:=h
 exact⟨F,k1,k2.more h1 h2,h3⟩
theorem LvC.nil (w:World) (lo hi:Nat) (h:hi≤w.heap.size):LvC w lo hi [] []:=⟨[],ah.nil w,In.nil _ _,h⟩
theorem LvC.lit (h:LvC w lo hi ds us) (u:Value):LvC w lo hi (.lit u ::ds) (u ::us):=by
 obtain⟨F,h1,h2,h3⟩:=h
 exact⟨[] ++F,ah.cons (Hold.afe w u) h1,h2,h3⟩
theorem LvC.low {lo2:Nat} (h:LvC w lo2 hi ds us) (hl:lo≤lo2):LvC w lo hi ds us:=by
 obtain⟨F,k1,k2,k3⟩:=h
 exact⟨F,k1,k2.more hl (Nat.le_refl _),k3⟩
theorem LvC.cons {lo2:Nat} {d:PD} {v:Value} (k:Lv w lo mid d v) (h:LvC w lo2 hi ds us) (h1:mid≤lo2) (h2:lo≤lo2) (h3:mid≤hi):LvC w lo hi (d ::ds) (v ::us):=by
 obtain⟨F,a1,a2,a3⟩:=h
 obtain⟨G,k1,k2,k3⟩:=k
 exact⟨G ++F,ah.cons k1 a1,k2.append a2 h1 h2 h3,a3⟩
theorem LvC.append {lo2:Nat} (k:LvC w lo mid es vs) (h:LvC w lo2 hi ds us) (h1:mid≤lo2) (h2:lo≤lo2) (h3:mid≤hi):LvC w lo hi (es ++ds) (vs ++us):=by
 obtain⟨F,a1,a2,a3⟩:=h
 obtain⟨G,k1,k2,k3⟩:=k
 exact⟨G ++F,ah.append k1 a1,k2.append a2 h1 h2 h3,a3⟩
theorem ah.axe {B:Nat}:∀ {ds:List PD} {us:List Value} {F:List Nat},ah w ds us F→(∀ g ∈ F,g < B)→jd w B ds us
 | [],us,F,h,_=>by
  rw[ah] at h
  obtain⟨rfl,_⟩:=h
  exact⟨rfl,by simp⟩
 | d ::ds,us,F,h,hk=>by
  obtain⟨c,c2,F1,F2,rfl,rfl,h1,h2⟩:=ah.acp h
  have ih:=ah.axe h2 fun g hg=>hk g (by simp[hg])
  refine⟨by simp[ih.1],fun j x u hx hu=>?_⟩
  cases j with
  | zero=>
   simp at hx hu
   subst hx hu
   exact Hold.rep _ _ _ h1 fun g hg=>hk g (by simp[hg])
  | succ j=>exact ih.2 j x u (by simpa using hx) (by simpa using hu)
theorem LvC.is (h:LvC w lo hi ds us):jd w w.heap.size ds us:=by
 obtain⟨F,h1,h2,h3⟩:=h
 exact h1.axe fun g hg=>by have:=h2.2 g hg;omega
theorem LvC.len (h:LvC w lo hi ds us):us.length=ds.length:=by
 obtain⟨F,h1,_⟩:=h
 exact ah.length h1
theorem LvC.nil_ (h:LvC w lo hi [] us):us=[]:=List.eq_nil_of_length_eq_zero h.len
theorem LvC.ajj {u:Value} (h:LvC w lo hi (.lit u ::ds) us):∃ us',us=u ::us'∧LvC w lo hi ds us':=by
 obtain⟨F,h1,h2,h3⟩:=h
 obtain⟨c,c2,F1,F2,rfl,rfl,k1,k2⟩:=ah.acp h1
 obtain⟨rfl,rfl⟩:=Hold.uo k1
 exact⟨c2,rfl,F2,k2,h2,h3⟩
theorem LvC.adr {m:Nat} {xs:List PD} (h:LvC w lo hi (.row m xs ::ds) us):∃ A n c us',us=.slice A n c ::us'∧LvC w lo hi ds us':=by
 obtain⟨F,h1,h2,h3⟩:=h
 obtain⟨c,c2,F1,F2,rfl,rfl,k1,k2⟩:=ah.acp h1
 rw[Hold] at k1
 obtain⟨A,n,c,rfl,_⟩:=k1
 exact⟨A,n,c,c2,rfl,F2,k2,⟨(List.nodup_append.1 h2.1).2.1,fun g hg=>h2.2 g (by simp[hg])⟩,h3⟩
end
theorem jd.nil_ {w:World} {B:Nat}:jd w B [] []:=⟨rfl,by simp⟩
theorem jd.lit {w:World} {B:Nat} {ds:List PD} {cs:List Value} (h:jd w B ds cs) (u:Value):jd w B (.lit u ::ds) (u ::cs):=by
 refine⟨by simp[h.1],fun j x v hx hv=>?_⟩
 cases j with
 | zero=>simp at hx hv;subst hx hv;rw[Rep]
 | succ j=>exact h.2 j x v (by simpa using hx) (by simpa using hv)
theorem jd.cons {w:World} {B:Nat} {d:PD} {v:Value} {ds:List PD} {cs:List Value} (k:Rep w B d v) (h:jd w B ds cs):jd w B (d ::ds) (v ::cs):=by
 refine⟨by simp[h.1],fun j x u hx hu=>?_⟩
 cases j with
 | zero=>simp at hx hu;subst hx hu;exact k
 | succ j=>exact h.2 j x u (by simpa using hx) (by simpa using hu)
theorem jd.of_nil {w:World} {B:Nat} {cs:List Value} (h:jd w B [] cs):cs=[]:=by
 cases cs with
 | nil=>rfl
 | cons c cs=>have:=h.1;simp at this
theorem jd.uo {w:World} {B:Nat} {u:Value} {ds:List PD} {cs:List Value} (h:jd w B (.lit u ::ds) cs):∃ cs',cs=u ::cs'∧jd w B ds cs':=by
 cases cs with
 | nil=>have:=h.1;simp at this
 | cons c cs=>
  have h0:=(h.2 0 _ _ rfl rfl).uo
  subst h0
  exact⟨cs,rfl,by have:=h.1;simpa using this,fun j x v hx hv=>h.2 (j+1) x v (by simpa using hx) (by simpa using hv)⟩
theorem jd.of_cons {w:World} {B:Nat} {d:PD} {ds:List PD} {cs:List Value} (h:jd w B (d ::ds) cs):∃ v cs',cs=v ::cs'∧Rep w B d v∧jd w B ds cs':=by
 cases cs with
 | nil=>have:=h.1;simp at this
 | cons c cs=>exact⟨c,cs,rfl,h.2 0 _ _ rfl rfl,by have:=h.1;simpa using this,fun j x v hx hv=>h.2 (j+1) x v (by simpa using hx) (by simpa using hv)⟩
theorem jd.more {w:World} {B B':Nat} {ds:List PD} {cs:List Value} (h:jd w B ds cs) (hB:B≤B'):jd w B' ds cs:=⟨h.1,fun j x u hx hu=>Rep.more hB x u (h.2 j x u hx hu)⟩
mutual
def PD.whole:PD→Prop
 | .lit _=>True
 | .row sz xs=>(∃ n,xs.length=n * sz)∧PD.afj xs
def PD.afj:List PD→Prop
 | []=>True
 | x ::xs=>x.whole∧PD.afj xs
end
mutual
theorem Rep.whole {w:World} {B:Nat}:∀ (d:PD) (v:Value),Rep w B d v→d.whole
 | .lit u,v,_=>by rw[PD.whole];trivial
 | .row sz xs,v,h=>by
  rw[Rep] at h
  obtain⟨A,n,c,_,hl,_,hx⟩:=h
  rw[PD.whole]
  refine⟨⟨n,hl⟩,?_⟩
  by_cases h0:0 < n
  ·obtain⟨g,off,_,_,hr⟩:=hx h0
   exact yx.whole xs g off hr
  ·have hn:n=0:=by omega
   subst hn
   have:xs=[]:=List.eq_nil_of_length_eq_zero (by rw[hl];simp)
   rw[this,PD.afj]
   trivial
theorem yx.whole {w:World} {B:Nat}:∀ (xs:List PD) (g off:Nat),yx w B g off xs→PD.afj xs
 | [],g,off,_=>by rw[PD.afj];trivial
 | x ::xs,g,off,h=>by
  rw[yx] at h
  obtain⟨⟨u,_,hr⟩,h2⟩:=h
  rw[PD.afj]
  exact⟨Rep.whole x u hr,yx.whole xs g (off+1) h2⟩
end
theorem jd.whole {w:World} {B:Nat} {ds:List PD} {cs:List Value} (h:jd w B ds cs):∀ d ∈ ds,d.whole:=by
 intro d hd
 obtain⟨j,hj,rfl⟩:=List.getElem_of_mem hd
 exact Rep.whole _ _ (h.2 j _ _ (List.getElem?_eq_getElem hj) (List.getElem?_eq_getElem (by rw[← h.1];exact hj)))
theorem Rep.len {w:World} {B sz:Nat} {xs:List PD} {v:Value} (h:Rep w B (.row sz xs) v):∃ n,xs.length=n * sz:=by
 rw[Rep] at h
 obtain⟨A,n,c,_,hl,_⟩:=h
 exact⟨n,hl⟩
theorem Opens.sl {w:World} {dom:Dom} {e:Nat} {v:Value} (h:Opens w dom [.sl e] [v]):∃ d,Rep w w.heap.size d v∧d.wf∧d.whole∧aco dom.env d (.sl e):=by
 obtain⟨ds,hc,hr⟩:=h
 have hw:=hc.wf
 obtain⟨hcl,hcc⟩:=hc
 match ds,hcl with
 | [d],_=>
  have r:=hr.2 0 _ _ rfl rfl
  rw[PD.wfL] at hw
  exact⟨d,r,hw.1,Rep.whole _ _ r,hcc 0 _ _ rfl rfl⟩
end Go.Proofs.YtlpcocfadppkhaaGreatDoor
namespace Go.Proofs.YtlpcocfadppkhaaGreatDoor
open Go.RowKit
set_option linter.unusedVariables false
set_option linter.unusedSimpArgs false
set_option linter.unnecessarySimpa false
def EqC (fn:Nat) (ds:List PD):Prop:=∀ (B:Nat) (cs us:List Value) (w:World),B≤w.heap.size→jd w B ds cs→jd w B ds us→
 Calls Tryz.prog fn #[.agg cs.toArray,.agg us.toArray] w fun e w'=>e=.returned (.bool true)∧Below w.heap.size w w'
def EqR (fn:Nat) (d:PD):Prop:=∀ (B:Nat) (v u:Value) (w:World),B≤w.heap.size→Rep w B d v→Rep w B d u→
 Calls Tryz.prog fn #[v,u] w fun e w'=>e=.returned (.bool true)∧Below w.heap.size w w'
def MkC (fn:Nat) (ds:List PD):Prop:=∀ (us:List Value) (F:List Nat) (w:World) (k:Int),0≤k→k+qh ds≤1099511627776→ah w ds us F→F.Nodup→(∀ b ∈ F,b < w.heap.size)→
 Calls Tryz.prog fn #[.agg us.toArray,.int .i64 k] w fun e w'=>e=.returned (.int .i64 (k+qh ds))∧ah w' (xw ds k) us F∧mg F w w'
def MkR (fn:Nat) (d:PD):Prop:=∀ (v:Value) (F:List Nat) (w:World) (k:Int),0≤k→k+d.cnt≤1099511627776→Hold w d v F→F.Nodup→(∀ b ∈ F,b < w.heap.size)→
 Calls Tryz.prog fn #[v,.int .i64 k] w fun e w'=>e=.returned (.int .i64 (k+d.cnt))∧Hold w' (d.mark k) v F∧mg F w w'
def HdC (fn:Nat) (ds:List PD):Prop:=∀ (B:Nat) (us:List Value) (w:World) (k:Int),0≤k→k+qh ds≤1099511627776→B≤w.heap.size→jd w B (xw ds k) us→
 Calls Tryz.prog fn #[.agg us.toArray,.int .i64 k] w fun e w'=>e=.returned (.int .i64 (k+qh ds))∧Below w.heap.size w w'
def HdR (fn:Nat) (d:PD):Prop:=∀ (B:Nat) (v:Value) (w:World) (k:Int),0≤k→k+d.cnt≤1099511627776→B≤w.heap.size→Rep w B (d.mark k) v→
 Calls Tryz.prog fn #[v,.int .i64 k] w fun e w'=>e=.returned (.int .i64 (k+d.cnt))∧Below w.heap.size w w'
def aa3 (x:ByteArray):List PD:=[.lit (.string x)]
theorem aaz (x:ByteArray):(aa3 x).length=1:=rfl
end Go.Proofs.YtlpcocfadppkhaaGreatDoor
