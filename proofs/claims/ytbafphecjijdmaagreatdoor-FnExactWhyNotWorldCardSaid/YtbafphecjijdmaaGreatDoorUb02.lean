/-
  Plain data with depth: one description for every type of the program's arguments and results. No program in sight.
-/
import Derived.Test.YtbafphecjijdmaaGreatDoorUb01
namespace Go.Proofs.YtbafphecjijdmaaGreatDoor
open Go.RowKit Go.ChangeShapes Go.WideShapes Go.ChangeAt
set_option linter.all false
inductive PD where
 | lit (v:Value)
 | row (sz:Nat) (xs:List PD)
mutual
def Rep (w:World) (B:Nat):PD→Value→Prop
 | .lit u,v=>v=u
 | .row sz xs,v=>∃ A n c,v=.slice A n c∧xs.length=n * sz∧n≤maxLen∧(0 < n→∃ g off,A=some ⟨g,off,none⟩∧g < B∧ahb w B g off xs)
def ahb (w:World) (B g:Nat):Nat→List PD→Prop
 | _,[]=>True
 | off,x ::xs=>(∃ u,w.cell? ⟨g,off,none⟩=some u∧Rep w B x u)∧ahb w B g (off+1) xs
end
theorem aso {w:World} {B g:Nat}:∀ {xs:List PD} {off:Nat},ahb w B g off xs↔∀ (j:Nat) (x:PD),xs[j]?=some x→∃ u,w.cell? ⟨g,off+j,none⟩=some u∧Rep w B x u
 | [],off=>by simp[ahb]
 | x ::xs,off=>by
  rw[ahb,aso (xs:=xs) (off:=off+1)]
  constructor
  ·rintro⟨h0,h⟩ j y hy
   cases j with
   | zero=>simp at hy;subst hy;exact h0
   | succ j=>
    have:=h j y (by simpa using hy)
    rwa[show off+1+j=off+(j+1) by omega] at this
  ·intro h
   refine⟨h 0 x (by simp),fun j y hy=>?_⟩
   have:=h (j+1) y (by simpa using hy)
   rwa[show off+(j+1)=off+1+j by omega] at this
mutual
theorem Rep.keep {w w':World} {B:Nat} (hk:∀ p:Addr,p.block < B→w'.cell? p=w.cell? p):∀ (d:PD) (v:Value),Rep w B d v→Rep w' B d v
 | .lit u,v,h=>by rw[Rep] at h ⊢;exact h
 | .row sz xs,v,h=>by
  rw[Rep] at h ⊢
  obtain⟨A,n,c,hv,hl,hm,hx⟩:=h
  refine⟨A,n,c,hv,hl,hm,fun h0=>?_⟩
  obtain⟨g,off,hA,hg,hr⟩:=hx h0
  exact⟨g,off,hA,hg,ahb.keep hk hg xs off hr⟩
theorem ahb.keep {w w':World} {B g:Nat} (hk:∀ p:Addr,p.block < B→w'.cell? p=w.cell? p) (hg:g < B):∀ (xs:List PD) (off:Nat),ahb w B g off xs→ahb w' B g off xs
 | [],off,_=>by rw[ahb];trivial
 | x ::xs,off,h=>by
  rw[ahb] at h ⊢
  obtain⟨⟨u,hu,hr⟩,h2⟩:=h
  exact⟨⟨u,(hk _ hg).trans hu,Rep.keep hk x u hr⟩,ahb.keep hk hg xs (off+1) h2⟩
end
mutual
theorem Rep.more {w:World} {B B':Nat} (hB:B≤B'):∀ (d:PD) (v:Value),Rep w B d v→Rep w B' d v
 | .lit u,v,h=>by rw[Rep] at h ⊢;exact h
 | .row sz xs,v,h=>by
  rw[Rep] at h ⊢
  obtain⟨A,n,c,hv,hl,hm,hx⟩:=h
  refine⟨A,n,c,hv,hl,hm,fun h0=>?_⟩
  obtain⟨g,off,hA,hg,hr⟩:=hx h0
  exact⟨g,off,hA,by omega,ahb.more hB xs off hr⟩
theorem ahb.more {w:World} {B B' g:Nat} (hB:B≤B'):∀ (xs:List PD) (off:Nat),ahb w B g off xs→ahb w B' g off xs
 | [],off,_=>by rw[ahb];trivial
 | x ::xs,off,h=>by
  rw[ahb] at h ⊢
  obtain⟨⟨u,hu,hr⟩,h2⟩:=h
  exact⟨⟨u,hu,Rep.more hB x u hr⟩,ahb.more hB xs (off+1) h2⟩
end
theorem Rep.below {w w':World} {B:Nat} {d:PD} {v:Value} (h:Rep w B d v) (hb:Below B w w'):Rep w' B d v:=Rep.keep (fun p hp=>hb.cell hp) d v h
theorem Rep.drew {w:World} {B:Nat} {d:PD} {v:Value} (h:Rep w B d v):Rep w.drew B d v:=h.below (Below.refl B w).drew
def lq (w:World) (B:Nat) (ds:List PD) (cs:List Value):Prop:=ds.length=cs.length∧∀ (j:Nat) (x:PD) (u:Value),ds[j]?=some x→cs[j]?=some u→Rep w B x u
theorem lq.below {w w':World} {B:Nat} {ds:List PD} {cs:List Value} (h:lq w B ds cs) (hb:Below B w w'):lq w' B ds cs:=⟨h.1,fun j x u hx hu=>(h.2 j x u hx hu).below hb⟩
mutual
def Hold (w:World):PD→Value→List Nat→Prop
 | .lit u,v,F=>v=u∧F=[]
 | .row sz xs,v,F=>∃ A n c,v=.slice A n c∧xs.length=n * sz∧n≤c∧c≤maxLen∧
   ((n=0∧F=[])∨(0 < n∧∃ g off F' cs,A=some ⟨g,off,none⟩∧F=g ::F'∧ae7 w g off cs∧uh w xs cs F'))
def uh (w:World):List PD→List Value→List Nat→Prop
 | [],cs,F=>cs=[]∧F=[]
 | x ::xs,cs,F=>∃ c cs' F1 F2,cs=c ::cs'∧F=F1 ++F2∧Hold w x c F1∧uh w xs cs' F2
end
mutual
theorem Hold.keep {w w':World}:∀ (d:PD) (v:Value) (F:List Nat),Hold w d v F→(∀ g ∈ F,w'.heap[g]?=w.heap[g]?)→Hold w' d v F
 | .lit u,v,F,h,_=>by rw[Hold] at h ⊢;exact h
 | .row sz xs,v,F,h,hk=>by
  rw[Hold] at h ⊢
  obtain⟨A,n,c,hv,hl,hc,hm,h0|⟨h0,g,off,F',cs,hA,hF,ho,hr⟩⟩:=h
  ·exact⟨A,n,c,hv,hl,hc,hm,.inl h0⟩
  ·subst hF
   exact⟨A,n,c,hv,hl,hc,hm,.inr ⟨h0,g,off,F',cs,hA,rfl,ho.keep (hk g (by simp)),uh.keep xs cs F' hr fun b hb=>hk b (by simp[hb])⟩⟩
theorem uh.keep {w w':World}:∀ (xs:List PD) (cs:List Value) (F:List Nat),uh w xs cs F→(∀ g ∈ F,w'.heap[g]?=w.heap[g]?)→uh w' xs cs F
 | [],cs,F,h,_=>by rw[uh] at h ⊢;exact h
 | x ::xs,cs,F,h,hk=>by
  rw[uh] at h ⊢
  obtain⟨c,cs',F1,F2,hcs,hF,h1,h2⟩:=h
  subst hF
  exact⟨c,cs',F1,F2,hcs,rfl,Hold.keep x c F1 h1 fun b hb=>hk b (by simp[hb]),uh.keep xs cs' F2 h2 fun b hb=>hk b (by simp[hb])⟩
end
theorem uh.length {w:World}:∀ {xs:List PD} {cs:List Value} {F:List Nat},uh w xs cs F→cs.length=xs.length
 | [],cs,F,h=>by rw[uh] at h;simp[h.1]
 | x ::xs,cs,F,h=>by
  rw[uh] at h
  obtain⟨c,cs',F1,F2,rfl,_,_,h2⟩:=h
  simp[uh.length h2]
theorem uh.nil (w:World):uh w [] [] []:=by rw[uh];exact⟨rfl,rfl⟩
theorem uh.cons {w:World} {x:PD} {xs:List PD} {c:Value} {cs:List Value} {F1 F2:List Nat} (h1:Hold w x c F1) (h2:uh w xs cs F2):uh w (x ::xs) (c ::cs) (F1 ++F2):=by
 rw[uh];exact⟨c,cs,F1,F2,rfl,rfl,h1,h2⟩
theorem uh.append {w:World}:∀ {xs ys:List PD} {cs ds:List Value} {F G:List Nat},uh w xs cs F→uh w ys ds G→uh w (xs ++ys) (cs ++ds) (F ++G)
 | [],ys,cs,ds,F,G,h,k=>by
  rw[uh] at h
  obtain⟨rfl,rfl⟩:=h
  simpa using k
 | x ::xs,ys,cs,ds,F,G,h,k=>by
  rw[uh] at h
  obtain⟨c,cs',F1,F2,rfl,rfl,h1,h2⟩:=h
  have:=uh.cons h1 (uh.append h2 k)
  simpa using this
theorem Hold.a5l (w:World) (u:Value):Hold w (.lit u) u []:=by rw[Hold];exact⟨rfl,rfl⟩
theorem Hold.ad8 {w:World} {u v:Value} {F:List Nat} (h:Hold w (.lit u) v F):v=u∧F=[]:=by rwa[Hold] at h
mutual
theorem Hold.rep {w:World} {B:Nat}:∀ (d:PD) (v:Value) (F:List Nat),Hold w d v F→(∀ g ∈ F,g < B)→Rep w B d v
 | .lit u,v,F,h,_=>by rw[Hold] at h;rw[Rep];exact h.1
 | .row sz xs,v,F,h,hk=>by
  rw[Hold] at h
  rw[Rep]
  obtain⟨A,n,c,hv,hl,hc,hm,⟨h0,_⟩|⟨h0,g,off,F',cs,hA,hF,ho,hr⟩⟩:=h
  ·exact⟨A,n,c,hv,hl,by omega,fun h=>absurd h (by omega)⟩
  ·subst hF
   exact⟨A,n,c,hv,hl,by omega,fun _=>⟨g,off,hA,hk g (by simp),uh.rep xs cs F' hr (fun b hb=>hk b (by simp[hb])) g off fun j u hu=>ho.cell hu⟩⟩
theorem uh.rep {w:World} {B:Nat}:∀ (xs:List PD) (cs:List Value) (F:List Nat),uh w xs cs F→(∀ g ∈ F,g < B)→∀ (g off:Nat),(∀ (j:Nat) (u:Value),cs[j]?=some u→w.cell? ⟨g,off+j,none⟩=some u)→ahb w B g off xs
 | [],cs,F,h,_,g,off,_=>by rw[ahb];trivial
 | x ::xs,cs,F,h,hk,g,off,hc=>by
  rw[uh] at h
  obtain⟨c,cs',F1,F2,hcs,hF,h1,h2⟩:=h
  subst hcs hF
  rw[ahb]
  refine⟨⟨c,hc 0 c (by simp),Hold.rep x c F1 h1 fun b hb=>hk b (by simp[hb])⟩,uh.rep xs cs' F2 h2 (fun b hb=>hk b (by simp[hb])) g (off+1) fun j u hu=>?_⟩
  have:=hc (j+1) u (by simpa using hu)
  rwa[show off+(j+1)=off+1+j by omega] at this
end
def In (F:List Nat) (lo hi:Nat):Prop:=F.Nodup∧∀ g ∈ F,lo≤g∧g < hi
theorem In.nil (lo hi:Nat):In [] lo hi:=⟨List.nodup_nil,by simp⟩
theorem In.append {F G:List Nat} {a b c d:Nat} (h:In F a b) (k:In G c d) (h1:b≤c) (h2:a≤c) (h3:b≤d):In (F ++G) a d:=by
 refine⟨List.nodup_append.2 ⟨h.1,k.1,fun x hx y hy e=>?_⟩,fun g hg=>?_⟩
 ·have:=h.2 x hx
  have:=k.2 y hy
  omega
 ·rcases List.mem_append.1 hg with hg|hg
  ·have:=h.2 g hg;omega
  ·have:=k.2 g hg;omega
theorem In.cons {F:List Nat} {g lo hi lo':Nat} (k:In F lo' hi) (h1:g < lo') (h2:lo≤g) (h3:g < hi):In (g ::F) lo hi:=by
 refine⟨List.nodup_cons.2 ⟨fun hg=>by have:=k.2 g hg;omega,k.1⟩,fun b hb=>?_⟩
 rcases List.mem_cons.1 hb with rfl|hb
 ·exact⟨h2,h3⟩
 ·have:=k.2 b hb;omega
theorem In.more {F:List Nat} {lo hi lo' hi':Nat} (k:In F lo hi) (h1:lo'≤lo) (h2:hi≤hi'):In F lo' hi':=⟨k.1,fun g hg=>by have:=k.2 g hg;omega⟩
def Lv (w:World) (lo hi:Nat) (d:PD) (v:Value):Prop:=∃ F,Hold w d v F∧In F lo hi∧hi≤w.heap.size
theorem Lv.step {w w':World} {lo hi:Nat} {d:PD} {v:Value} (h:Lv w lo hi d v) (hb:Below w.heap.size w w'):Lv w' lo hi d v:=by
 obtain⟨F,h1,h2,h3⟩:=h
 exact⟨F,Hold.keep d v F h1 fun g hg=>hb.block g (by have:=h2.2 g hg;omega),h2,Nat.le_trans h3 hb.size⟩
theorem Lv.kept {w w':World} {lo hi lo' hi':Nat} {d:PD} {v:Value} (h:Lv w lo hi d v) (hk:Keep lo' hi' w w') (ho:hi≤lo'∨hi'≤lo):Lv w' lo hi d v:=by
 obtain⟨F,h1,h2,h3⟩:=h
 exact⟨F,Hold.keep d v F h1 fun g hg=>hk.block g (by have:=h2.2 g hg;omega) (by have:=h2.2 g hg;omega),h2,Nat.le_trans h3 hk.size⟩
theorem Rep.form {w:World} {B sz:Nat} {xs:List PD} {v:Value} (h:Rep w B (.row sz xs) v):∃ A n c,v=.slice A n c:=by
 rw[Rep] at h
 obtain⟨A,n,c,hv,_⟩:=h
 exact⟨A,n,c,hv⟩
theorem Lv.form {w:World} {lo hi sz:Nat} {xs:List PD} {v:Value} (h:Lv w lo hi (.row sz xs) v):∃ A n c,v=.slice A n c:=by
 obtain⟨F,h,_⟩:=h
 rw[Hold] at h
 obtain⟨A,n,c,hv,_⟩:=h
 exact⟨A,n,c,hv⟩
theorem Lv.setCell {w:World} {lo hi:Nat} {d:PD} {v:Value} (h:Lv w lo hi d v) {p:Addr} (hp:p.block < lo∨hi≤p.block) (u:Value):Lv (w.setCell p u) lo hi d v:=by
 obtain⟨F,h1,h2,h3⟩:=h
 exact⟨F,Hold.keep d v F h1 fun g hg=>Below.heap_setCell w p u g (by have:=h2.2 g hg;omega),h2,by simpa [World.setCell] using h3⟩
theorem Lv.more {w:World} {lo hi lo' hi':Nat} {d:PD} {v:Value} (h:Lv w lo hi d v) (h1:lo'≤lo) (h2:hi≤hi') (h3:hi'≤w.heap.size):Lv w lo' hi' d v:=by
 obtain⟨F,k1,k2,_⟩:=h
 exact⟨F,k1,k2.more h1 h2,h3⟩
theorem Lv.is {w:World} {lo hi:Nat} {d:PD} {v:Value} (h:Lv w lo hi d v):Rep w w.heap.size d v:=by
 obtain⟨F,h1,h2,h3⟩:=h
 exact Hold.rep d v F h1 fun g hg=>by have:=h2.2 g hg;omega
theorem afw {α β:Type} {f:α→List β} {sz:Nat} (h:∀ t,(f t).length=sz):∀ ts:List α,(ts.flatMap f).length=ts.length * sz
 | []=>by simp
 | t ::ts=>by rw[List.flatMap_cons,List.length_append,h,afw h ts,List.length_cons,Nat.add_mul,Nat.one_mul];omega
theorem axm {α β:Type} {f:α→List β} {sz:Nat} (h:∀ t,(f t).length=sz):∀ {ts:List α} {k j:Nat} {t:α},ts[k]?=some t→j < sz→(ts.flatMap f)[k * sz+j]?=(f t)[j]?
 | [],k,j,t,hk,_=>by simp at hk
 | x ::ts,0,j,t,hk,hj=>by
  simp at hk
  subst hk
  rw[List.flatMap_cons,Nat.zero_mul,Nat.zero_add,List.getElem?_append_left (by rw[h];exact hj)]
 | x ::ts,k+1,j,t,hk,hj=>by
  have hk':ts[k]?=some t:=by simpa using hk
  rw[List.flatMap_cons,List.getElem?_append_right (by rw[h,Nat.add_mul];omega),h,← axm h hk' hj]
  congr 1
  rw[Nat.add_mul]
  omega
theorem ni {α:Type} {f:α→List PD} {sz:Nat} {w:World} {B:Nat} {ts:List α} {v:Value} (hf:∀ t,(f t).length=sz) (hsz:0 < sz) (h:Rep w B (.row sz (ts.flatMap f)) v):
  ∃ A n c,v=.slice A n c∧n=ts.length∧n≤maxLen∧(0 < n→∃ g off,A=some ⟨g,off,none⟩∧g < B∧
   ∀ (k j:Nat) (t:α) (x:PD),ts[k]?=some t→(f t)[j]?=some x→∃ u,w.cell? ⟨g,off+(k * sz+j),none⟩=some u∧Rep w B x u):=by
 rw[Rep] at h
 obtain⟨A,n,c,rfl,hl,hm,hx⟩:=h
 rw[afw hf] at hl
 refine⟨A,n,c,rfl,(Nat.eq_of_mul_eq_mul_right hsz hl).symm,hm,fun h0=>?_⟩
 obtain⟨g,off,rfl,hg,hr⟩:=hx h0
 refine⟨g,off,rfl,hg,fun k j t x hk hj=>?_⟩
 have hjs:j < sz:=by rw[← hf t];exact(List.getElem?_eq_some_iff.1 hj).1
 exact aso.1 hr (k * sz+j) x (by rw[axm hf hk hjs];exact hj)
theorem Rep.ad8 {w:World} {B:Nat} {u v:Value} (h:Rep w B (.lit u) v):v=u:=by rwa[Rep] at h
def arb:List Value→Nat→List Value→List Value
 | cs,_,[]=>cs
 | cs,i,c ::r=>arb (cs.set i c) (i+1) r
theorem axn:∀ (r cs:List Value) (i:Nat),(arb cs i r).length=cs.length
 | [],cs,i=>rfl
 | c ::r,cs,i=>by rw[arb,axn r];simp
theorem a3c:∀ (r cs:List Value) (i:Nat),i+r.length≤cs.length→(arb cs i r).take (i+r.length)=cs.take i ++r
 | [],cs,i,_=>by simp[arb]
 | c ::r,cs,i,h=>by
  have hl:(c ::r).length=r.length+1:=rfl
  rw[hl] at h ⊢
  rw[arb,show i+(r.length+1)=(i+1)+r.length by omega,a3c r (cs.set i c) (i+1) (by simp;omega)]
  rw[List.take_succ_eq_append_getElem (by simp;omega),List.take_set_of_le (zql _)]
  simp
def Fills (w wr:World) (g n sz:Nat) (ds:List PD) (k:Nat):Prop:=
 ∃ cs F,ae7 wr g 0 cs∧cs.length=n * sz∧uh wr ds (cs.take (k * sz)) F∧In F (g+1) wr.heap.size∧Below g w wr∧g+1≤wr.heap.size
theorem Fills.start {w wr:World} {g n sz:Nat} {cs:List Value} (h:ae7 wr g 0 cs) (hl:cs.length=n * sz) (hb:Below g w wr) (hs:g+1≤wr.heap.size):Fills w wr g n sz [] 0:=
 ⟨cs,[],h,hl,by simpa using uh.nil wr,In.nil _ _,hb,hs⟩
def setCells (w:World) (g:Nat):Nat→List Value→World
 | _,[]=>w
 | i,c ::r=>setCells (w.setCell ⟨g,i,none⟩ c) g (i+1) r
theorem setCells_size:∀ (r:List Value) (w:World) (g i:Nat),(setCells w g i r).heap.size=w.heap.size
 | [],w,g,i=>rfl
 | c ::r,w,g,i=>by rw[setCells,setCells_size r];simp[World.setCell]
theorem aob:∀ (r:List Value) (w:World) (g i b:Nat),b≠g→(setCells w g i r).heap[b]?=w.heap[b]?
 | [],w,g,i,b,_=>rfl
 | c ::r,w,g,i,b,h=>by rw[setCells,aob r _ _ _ _ h];exact Below.heap_setCell w _ _ b h
theorem arq:∀ (r:List Value) (w:World) (g i:Nat),Below g w (setCells w g i r)
 | [],w,g,i=>zqf _ _
 | c ::r,w,g,i=>by
  rw[setCells]
  exact((Below.refl g w).setCell (p:=⟨g,i,none⟩) (zql _) c).trans (arq r _ g (i+1))
theorem ae7.sets:∀ (r:List Value) {w:World} {g i:Nat} {cs:List Value},ae7 w g 0 cs→i+r.length≤cs.length→ae7 (setCells w g i r) g 0 (arb cs i r)
 | [],w,g,i,cs,h,_=>h
 | c ::r,w,g,i,cs,h,hl=>by
  have hl':i+(r.length+1)≤cs.length:=hl
  rw[setCells,arb]
  have:=h.set (i:=i) (by omega) c
  rw[Nat.zero_add] at this
  exact ae7.sets r this (by simp;omega)
theorem Fills.cell {w wr wq:World} {g n sz k:Nat} {ds:List PD} (h:Fills w wr g n sz ds k) (hb:Below wr.heap.size wr wq) (hk:k < n) (j:Nat) (hj:j < sz):
  (∃ u,wq.cell? ⟨g,k * sz+j,none⟩=some u)∧wq.frozen? ⟨g,k * sz+j,none⟩=false:=by
 obtain⟨cs,F,ho,hl,_,_,_,hs⟩:=h
 have ho':ae7 wq g 0 cs:=ho.below hb (by omega)
 have hkn:k * sz+sz≤n * sz:=by
  have:(k+1) * sz≤n * sz:=Nat.mul_le_mul_right _ hk
  rwa[Nat.add_mul,Nat.one_mul] at this
 have hlt:k * sz+j < cs.length:=by omega
 refine⟨⟨cs[k * sz+j],?_⟩,ho'.frozen _⟩
 have:=ho'.cell (List.getElem?_eq_getElem hlt)
 rwa[Nat.zero_add] at this
theorem Fills.under {w wr:World} {g n sz k:Nat} {ds:List PD} (h:Fills w wr g n sz ds k):Below g w wr∧g < wr.heap.size:=by
 obtain⟨_,_,_,_,_,_,h,hs⟩:=h
 exact⟨h,by omega⟩
theorem Fills.next {w wr wq:World} {g n sz k:Nat} {ds es:List PD} {chunk:List Value} {F2:List Nat} (h:Fills w wr g n sz ds k) (hb:Below wr.heap.size wr wq)
  (hh:uh wq es chunk F2) (hi:In F2 wr.heap.size wq.heap.size) (hc:chunk.length=sz) (hk:k < n):Fills w (setCells wq g (k * sz) chunk) g n sz (ds ++es) (k+1):=by
 obtain⟨cs,F,ho,hl,hd,hF,hbw,hs⟩:=h
 have ho':ae7 wq g 0 cs:=ho.below hb (by omega)
 have hkn:k * sz+sz≤n * sz:=by
  have:(k+1) * sz≤n * sz:=Nat.mul_le_mul_right _ hk
  rwa[Nat.add_mul,Nat.one_mul] at this
 have hq:=hb.size
 have hsz:=setCells_size chunk wq g (k * sz)
 refine⟨arb cs (k * sz) chunk,F ++F2,ho'.sets chunk (by omega),by rw[axn,hl],?_,?_,(hbw.trans (hb.mono (by omega))).trans (arq _ _ _ _),by omega⟩
 ·have ht:(arb cs (k * sz) chunk).take ((k+1) * sz)=cs.take (k * sz) ++chunk:=by
   rw[Nat.add_mul,Nat.one_mul]
   have:=a3c chunk cs (k * sz) (by rw[hc,hl];exact hkn)
   rwa[hc] at this
  rw[ht]
  have hd1:uh (setCells wq g (k * sz) chunk) ds (cs.take (k * sz)) F:=uh.keep ds _ F hd fun b hb'=>by
   have:=hF.2 b hb'
   rw[aob _ _ _ _ _ (by omega)]
   exact hb.block b (by omega)
  have hd2:uh (setCells wq g (k * sz) chunk) es chunk F2:=uh.keep es _ F2 hh fun b hb'=>by
   have:=hi.2 b hb'
   exact aob _ _ _ _ _ (by omega)
  exact hd1.append hd2
 ·rw[hsz]
  exact hF.append hi (zql _) (by omega) hq
theorem Fills.done {w wr:World} {g n sz c:Nat} {ds:List PD} (h:Fills w wr g n sz ds n) (hl:ds.length=n * sz) (hc:n≤c) (hm:c≤maxLen):Lv wr g wr.heap.size (.row sz ds) (.slice (some ⟨g,0,none⟩) n c):=by
 obtain⟨cs,F,ho,hcl,hd,hF,hb,hs⟩:=h
 rw[List.take_of_length_le (by omega)] at hd
 by_cases h0:n=0
 ·subst h0
  exact⟨[],by rw[Hold];exact⟨_,0,c,rfl,hl,hc,hm,.inl ⟨rfl,rfl⟩⟩,In.nil _ _,zql _⟩
 ·exact⟨g ::F,by rw[Hold];exact⟨_,n,c,rfl,hl,hc,hm,.inr ⟨by omega,g,0,F,cs,rfl,rfl,ho,hd⟩⟩,hF.cons (by omega) (zql _) (by omega),zql _⟩
mutual
def PD.sz:PD→Nat
 | .lit (.string s)=>s.size
 | .lit _=>0
 | .row k xs=>xs.length / k+PD.szL xs
def PD.szL:List PD→Nat
 | []=>0
 | x ::xs=>x.sz+PD.szL xs
end
theorem aje:∀ (xs ys:List PD),PD.szL (xs ++ys)=PD.szL xs+PD.szL ys
 | [],ys=>by simp[PD.szL]
 | x ::xs,ys=>by simp[PD.szL,aje xs ys];omega
end Go.Proofs.YtbafphecjijdmaaGreatDoor
