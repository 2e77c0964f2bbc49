/-
  Words for memory and small laws that all walks of this seat use. No program in sight. (and 1 more texts)
-/
import Derived.WalkKit
import Derived.ProofKit
import Derived.OpenShut
import Derived.Lib.Hide
import Derived.Below
import Derived.Deep.Draws
import Derived.Deep.AppendLies
import Derived.Deep.Slices
import Derived.Deep.Fields
import Derived.Maps.AppendAt
import Derived.Laws.OwnMore
import Derived.Laws.Rows
import Derived.RegionTactic
import Derived.Deep.QuietTactic
import Derived.BigQuiet
import Derived.WalkSpells
import Derived.WalkLawsBesides
import Derived.Deep.DeepFit
import Derived.OwnWalk
import Derived.OrdersHeld
import Derived.Deep.RegionHeld3
namespace Go.Proofs.YtfpannkadjdnaaaGreatDoor
open Go.RowKit Go.ChangeShapes Go.WideShapes Go.ChangeAt
theorem aa2 {k:IntKind} {a b:Int} (h:a=b):Ending.returned (.int k a)=.returned (.int k b):=by rw[h]
theorem au {a b:Bool} (h:a=b):Ending.returned (.bool a)=.returned (.bool b):=by rw[h]
theorem a1a {a b:ByteArray} (h:a=b):Ending.returned (.string a)=.returned (.string b):=by rw[h]
theorem wf64 {n:Int} (h:(Lit.int .i64 n).wf=true):-9223372036854775808≤n∧n≤9223372036854775807:=by
 simpa [Lit.wf,IntKind.min,IntKind.max,IntKind.signed,IntKind.bits] using h
theorem below_drewN {B:Nat} {a w:World} (h:Below B a w) (n:Nat):Below B a (w.drewN n):=⟨h.os,h.tape,h.output,h.size,h.block⟩
theorem ajz {P:Program} (t e:TypeId) (i:TypeInfo) (z:Value) (ht:P.underlying t=some (.slice e)) (hi:P.info? e=some i) (hz:i.zero=some z)
  (kl kc:IntKind) (n c:Nat) (hnc:n≤c) (hbytes:i.bytes * c≤281474976710656) (h63:c≤9223372036854775807) (w:World):
  (Instr.makeSlice t (.int kl (n:Int)) (.int kc (c:Int))).run P w=.ok (.slice (some ⟨w.heap.size,0,none⟩) n c) (w.alloc (.cells (madeCells z.cells (c * i.size)) e)):=by
 have hb:(i.bytes:Int) * (c:Int)≤281474976710656:=by
  have h:((i.bytes * c:Nat):Int)≤281474976710656:=by omega
  rwa[Int.natCast_mul] at h
 have hr:=run_make (P:=P) w t e i z ht hi hz kl kc n c (by omega) (by omega) hb (by omega);simp only[Int.toNat_natCast] at hr;exact hr
def inB (n lo hi:Int):Bool:=decide (lo≤n) && decide (n≤hi)
theorem afp {n lo hi:Int} (h1:lo≤n) (h2:n≤hi):inB n lo hi=true:=by simp[inB,h1,h2]
theorem aye {n lo hi:Int} (h:n < lo):inB n lo hi=false:=by simp[inB];omega
theorem ap3 {n lo hi:Int} (h:hi < n):inB n lo hi=false:=by simp[inB];omega
theorem abm {n lo hi:Int}:inB n lo hi=true↔lo≤n∧n≤hi:=by simp[inB]
theorem aec {n lo hi:Int}:inB n lo hi=false↔n < lo∨hi < n:=by
 cases h:inB n lo hi
 ·simp only[true_iff]
  simp[inB] at h;omega
 ·simp only[reduceCtorEq,false_iff]
  rw[abm] at h;omega
section
variable {w w':World} {B B' size n:Nat} {A:Option Addr} {xs:List Value}
end
def aob (xs:List Int):List Value:=xs.map (Value.int .i64)
@[simp] theorem bvh (xs:List Int):(aob xs).length=xs.length:=by simp[aob]
theorem uo {α:Type} {xs:List α} {k n:Nat} (hn:n=xs.length) (hk:k < n):∃ x,xs[k]?=some x∧x ∈ xs:=
 ⟨xs[k]'(by omega),List.getElem?_eq_getElem (by omega),List.getElem_mem _⟩
structure Keep (lo hi:Nat) (w w':World):Prop where
 os:w'.os=w.os
 tape:w'.tape=w.tape
 output:w'.output=w.output
 size:w.heap.size≤w'.heap.size
 block:∀ k,k < w.heap.size→(k < lo∨hi≤k)→w'.heap[k]?=w.heap[k]?
section
variable {lo hi:Nat} {w w' w'':World}
theorem Keep.refl (lo hi:Nat) (w:World):Keep lo hi w w:=⟨rfl,rfl,rfl,Nat.le_refl _,fun _ _ _=>rfl⟩
theorem Keep.trans (h:Keep lo hi w w') (k:Keep lo hi w' w''):Keep lo hi w w'':=
 ⟨k.os.trans h.os,k.tape.trans h.tape,k.output.trans h.output,Nat.le_trans h.size k.size,fun i hi ho=>(k.block i (Nat.lt_of_lt_of_le hi h.size) ho).trans (h.block i hi ho)⟩
theorem Keep.of_below (h:Below w.heap.size w w'):Keep lo hi w w':=⟨h.os,h.tape,h.output,h.size,fun k hk _=>h.block k hk⟩
theorem Keep.setCell (h:Keep lo hi w w') {p:Addr} (h1:lo≤p.block) (h2:p.block < hi) (u:Value):Keep lo hi w (w'.setCell p u):=
 h.trans ⟨rfl,rfl,rfl,by simp[World.setCell],fun k _ ho=>Below.heap_setCell _ _ _ _ (by omega)⟩
theorem Keep.alloc (h:Keep lo hi w w') (o:Obj):Keep lo hi w (w'.alloc o):=
 h.trans ⟨rfl,rfl,rfl,by simp,fun k hk _=>Below.heap_alloc _ _ _ hk⟩
theorem Keep.drew (h:Keep lo hi w w'):Keep lo hi w w'.drew:=⟨h.os,h.tape,h.output,h.size,h.block⟩
theorem Keep.below (h:Keep lo hi w w') (hl:lo≤w.heap.size):Below lo w w':=⟨h.os,h.tape,h.output,h.size,fun k hk=>h.block k (by omega) (.inl hk)⟩
theorem Keep.cell (h:Keep lo hi w w') {p:Addr} (h1:p.block < w.heap.size) (h2:p.block < lo∨hi≤p.block):w'.cell? p=w.cell? p:=World.cell?_of_block (h.block _ h1 h2)
end
def Blk (w:World) (g:Nat) (t:TypeId) (cs:Array Value):Prop:=w.heap[g]?=some (.cells cs t (0,0))
section
variable {w w':World} {g:Nat} {t:TypeId} {cs:Array Value}
theorem Blk.lt (h:Blk w g t cs):g < w.heap.size:=(Array.getElem?_eq_some_iff.1 h).1
theorem Blk.cell (h:Blk w g t cs) (i:Nat):w.cell? ⟨g,i,none⟩=cs[i]?:=cell_of_row w g i cs t (0,0) h
theorem Blk.frozen (h:Blk w g t cs) (i:Nat):w.frozen? ⟨g,i,none⟩=false:=by
 unfold Blk at h;simp[World.frozen?,h]
theorem Blk.new (w:World) (t:TypeId) (cs:Array Value):Blk (w.alloc (.cells cs t)) w.heap.size t cs:=heap_alloc_new w _
theorem Blk.drew (h:Blk w g t cs):Blk w.drew g t cs:=h
theorem Blk.alloc (h:Blk w g t cs) (o:Obj):Blk (w.alloc o) g t cs:=(Below.heap_alloc w o g h.lt).trans h
theorem Blk.l7 (h:Blk w g t cs) (i:Nat) (u:Value):Blk (w.setCell ⟨g,i,none⟩ u) g t (cs.setIfInBounds i u):=by
 unfold Blk at h ⊢;simp[World.setCell,Array.getElem?_modify,h]
theorem Blk.far (h:Blk w g t cs) {p:Addr} (hp:g≠p.block) (u:Value):Blk (w.setCell p u) g t cs:=(Below.heap_setCell w p u g hp).trans h
theorem Blk.below {B:Nat} (h:Blk w g t cs) (hb:Below B w w') (hg:g < B):Blk w' g t cs:=(hb.block g hg).trans h
theorem Blk.step (h:Blk w g t cs) (hb:Below w.heap.size w w'):Blk w' g t cs:=h.below hb h.lt
end
def afn (w:World) (g off:Nat) (cs:List Value):Prop:=
 ∃ cur e,w.heap[g]?=some (.cells cur e (0,0))∧∀ (j:Nat) (u:Value),cs[j]?=some u→cur[off+j]?=some u
section
variable {w w':World} {g off:Nat} {cs:List Value}
theorem afn.cell (h:afn w g off cs) {j:Nat} {u:Value} (hu:cs[j]?=some u):w.cell? ⟨g,off+j,none⟩=some u:=by
 obtain⟨cur,e,hh,hc⟩:=h;rw[cell_of_row w g (off+j) cur e (0,0) hh];exact hc j u hu
theorem afn.frozen (h:afn w g off cs) (j:Nat):w.frozen? ⟨g,j,none⟩=false:=by
 obtain⟨cur,e,hh,_⟩:=h;simp[World.frozen?,hh]
theorem afn.keep (h:afn w g off cs) (hk:w'.heap[g]?=w.heap[g]?):afn w' g off cs:=by
 obtain⟨cur,e,hh,hc⟩:=h;exact⟨cur,e,hk.trans hh,hc⟩
theorem afn.set (h:afn w g off cs) {i:Nat} (hi:i < cs.length) (u:Value):afn (w.setCell ⟨g,off+i,none⟩ u) g off (cs.set i u):=by
 obtain⟨cur,e,hh,hc⟩:=h;refine⟨cur.setIfInBounds (off+i) u,e,by simp[World.setCell,Array.getElem?_modify,hh],fun j x hx=>?_⟩;rw[Array.getElem?_setIfInBounds];rw[List.getElem?_set] at hx;by_cases hij:i=j
 ·subst hij
  rw[if_pos rfl,if_pos hi] at hx;have h1:=hc i cs[i] (List.getElem?_eq_getElem hi)
  have h2:off+i < cur.size:=by
   rcases Nat.lt_or_ge (off+i) cur.size with h|h
   ·exact h
   ·rw[Array.getElem?_eq_none h] at h1;cases h1
  rw[if_pos rfl,if_pos h2];exact hx
 ·rw[if_neg hij] at hx
  rw[if_neg (by omega)];exact hc j x hx
theorem afn.below {B:Nat} (h:afn w g off cs) (hb:Below B w w') (hg:g < B):afn w' g off cs:=h.keep (hb.block g hg)
theorem afn.new (w:World) (cs:Array Value) (e:TypeId):afn (w.alloc (.cells cs e)) w.heap.size 0 cs.toList:=
 ⟨cs,e,heap_alloc_new w _,fun j u hu=>by simpa using hu⟩
end
def Own (w:World) (lo hi sz:Nat) (v:Value) (cs:List Value):Prop:=
 ∃ A n c,v=.slice A n c∧cs.length=n * sz∧n≤c∧c≤maxLen∧
  (0 < n→∃ g off,A=some ⟨g,off,none⟩∧lo≤g∧g < hi∧afn w g off cs)
section
variable {lo hi sz:Nat} {w w':World} {v:Value} {cs:List Value}
theorem Own.aa7 {base:Nat} {e:TypeId} {n:Nat} (h:w.ownsRow base e sz v n cs):Own w base w.heap.size sz v cs:=by
 rcases h.2 with ⟨rfl,h0⟩|⟨g,cap,cur,rfl,hb,hh,hnc,hcm,hcs,ht⟩
 ·exact⟨none,0,0,rfl,by rw[h.1,h0],Nat.le_refl _,Nat.zero_le _,fun h=>absurd h (by omega)⟩
 ·refine⟨_,n,cap,rfl,h.1,hnc,hcm,fun h0=>⟨g,0,rfl,hb,(Array.getElem?_eq_some_iff.1 hh).1,cur,e,hh,fun j u hu=>?_⟩⟩
  rw[← ht,List.getElem?_take] at hu;split at hu
  ·simpa using hu
  ·cases hu
theorem Own.form (h:Own w lo hi sz v cs):∃ A n c,v=.slice A n c∧cs.length=n * sz∧n≤c∧c≤maxLen∧(0 < n→∃ g off,A=some ⟨g,off,none⟩∧lo≤g∧g < hi∧afn w g off cs):=h
end
section
variable {lo hi:Nat} {w w':World} {v:Value} {xs:List Int}
end
section
variable {lo hi B:Nat} {w w':World} {v:Value} {xs:List Int}
end
theorem a0p (xs ys:List Int):aob (xs ++ys)=aob xs ++aob ys:=by simp[aob]
def marks (k:Int) (n:Nat):List Int:=(List.range n).map fun(i:Nat)=>k+(i:Int)
@[simp] theorem bsj (k:Int) (n:Nat):(marks k n).length=n:=by simp[marks]
end Go.Proofs.YtfpannkadjdnaaaGreatDoor
namespace Go.Proofs.YtfpannkadjdnaaaGreatDoor
open Go.RowKit Go.ChangeShapes Go.WideShapes Go.ChangeAt
set_option linter.unusedVariables false
set_option linter.unusedSimpArgs false
set_option linter.unnecessarySimpa false
inductive PD where
 | lit (v:Value)
 | row (sz:Nat) (xs:List PD)
mutual
def Rep (w:World) (B:Nat):PD→Value→Prop
 | .lit u,v=>v=u
 | .row sz xs,v=>∃ A n c,v=.slice A n c∧xs.length=n * sz∧n≤maxLen∧(0 < n→∃ g off,A=some ⟨g,off,none⟩∧g < B∧aft w B g off xs)
def aft (w:World) (B g:Nat):Nat→List PD→Prop
 | _,[]=>True
 | off,x ::xs=>(∃ u,w.cell? ⟨g,off,none⟩=some u∧Rep w B x u)∧aft w B g (off+1) xs
end
theorem alj {w:World} {B g:Nat}:∀ {xs:List PD} {off:Nat},aft w B g off xs↔∀ (j:Nat) (x:PD),xs[j]?=some x→∃ u,w.cell? ⟨g,off+j,none⟩=some u∧Rep w B x u
 | [],off=>by simp[aft]
 | x ::xs,off=>by
  rw[aft,alj (xs:=xs) (off:=off+1)];constructor
  ·rintro⟨h0,h⟩ j y hy
   cases j with
   | zero=>simp at hy;subst hy;exact h0
   | succ j=>
    have:=h j y (by simpa using hy)
    rwa[show off+1+j=off+(j+1) by omega] at this
  ·intro h
   refine⟨h 0 x (by simp),fun j y hy=>?_⟩;have:=h (j+1) y (by simpa using hy)
   rwa[show off+(j+1)=off+1+j by omega] at this
mutual
theorem Rep.keep {w w':World} {B:Nat} (hk:∀ p:Addr,p.block < B→w'.cell? p=w.cell? p):∀ (d:PD) (v:Value),Rep w B d v→Rep w' B d v
 | .lit u,v,h=>by rw[Rep] at h ⊢;exact h
 | .row sz xs,v,h=>by
  rw[Rep] at h ⊢;obtain⟨A,n,c,hv,hl,hm,hx⟩:=h;refine⟨A,n,c,hv,hl,hm,fun h0=>?_⟩;obtain⟨g,off,hA,hg,hr⟩:=hx h0;exact⟨g,off,hA,hg,aft.keep hk hg xs off hr⟩
theorem aft.keep {w w':World} {B g:Nat} (hk:∀ p:Addr,p.block < B→w'.cell? p=w.cell? p) (hg:g < B):∀ (xs:List PD) (off:Nat),aft w B g off xs→aft w' B g off xs
 | [],off,_=>by rw[aft];trivial
 | x ::xs,off,h=>by
  rw[aft] at h ⊢;obtain⟨⟨u,hu,hr⟩,h2⟩:=h;exact⟨⟨u,(hk _ hg).trans hu,Rep.keep hk x u hr⟩,aft.keep hk hg xs (off+1) h2⟩
end
mutual
theorem Rep.more {w:World} {B B':Nat} (hB:B≤B'):∀ (d:PD) (v:Value),Rep w B d v→Rep w B' d v
 | .lit u,v,h=>by rw[Rep] at h ⊢;exact h
 | .row sz xs,v,h=>by
  rw[Rep] at h ⊢;obtain⟨A,n,c,hv,hl,hm,hx⟩:=h;refine⟨A,n,c,hv,hl,hm,fun h0=>?_⟩;obtain⟨g,off,hA,hg,hr⟩:=hx h0;exact⟨g,off,hA,by omega,aft.more hB xs off hr⟩
theorem aft.more {w:World} {B B' g:Nat} (hB:B≤B'):∀ (xs:List PD) (off:Nat),aft w B g off xs→aft w B' g off xs
 | [],off,_=>by rw[aft];trivial
 | x ::xs,off,h=>by
  rw[aft] at h ⊢;obtain⟨⟨u,hu,hr⟩,h2⟩:=h;exact⟨⟨u,hu,Rep.more hB x u hr⟩,aft.more hB xs (off+1) h2⟩
end
theorem Rep.below {w w':World} {B:Nat} {d:PD} {v:Value} (h:Rep w B d v) (hb:Below B w w'):Rep w' B d v:=Rep.keep (fun p hp=>hb.cell hp) d v h
theorem Rep.drew {w:World} {B:Nat} {d:PD} {v:Value} (h:Rep w B d v):Rep w.drew B d v:=h.below (Below.refl B w).drew
def jq (w:World) (B:Nat) (ds:List PD) (cs:List Value):Prop:=ds.length=cs.length∧∀ (j:Nat) (x:PD) (u:Value),ds[j]?=some x→cs[j]?=some u→Rep w B x u
theorem jq.below {w w':World} {B:Nat} {ds:List PD} {cs:List Value} (h:jq w B ds cs) (hb:Below B w w'):jq w' B ds cs:=⟨h.1,fun j x u hx hu=>(h.2 j x u hx hu).below hb⟩
mutual
def Hold (w:World):PD→Value→List Nat→Prop
 | .lit u,v,F=>v=u∧F=[]
 | .row sz xs,v,F=>∃ A n c,v=.slice A n c∧xs.length=n * sz∧n≤c∧c≤maxLen∧
   ((n=0∧F=[])∨(0 < n∧∃ g off F' cs,A=some ⟨g,off,none⟩∧F=g ::F'∧afn w g off cs∧ni w xs cs F'))
def ni (w:World):List PD→List Value→List Nat→Prop
 | [],cs,F=>cs=[]∧F=[]
 | x ::xs,cs,F=>∃ c cs' F1 F2,cs=c ::cs'∧F=F1 ++F2∧Hold w x c F1∧ni w xs cs' F2
end
mutual
theorem Hold.keep {w w':World}:∀ (d:PD) (v:Value) (F:List Nat),Hold w d v F→(∀ g ∈ F,w'.heap[g]?=w.heap[g]?)→Hold w' d v F
 | .lit u,v,F,h,_=>by rw[Hold] at h ⊢;exact h
 | .row sz xs,v,F,h,hk=>by
  rw[Hold] at h ⊢;obtain⟨A,n,c,hv,hl,hc,hm,h0|⟨h0,g,off,F',cs,hA,hF,ho,hr⟩⟩:=h
  ·exact⟨A,n,c,hv,hl,hc,hm,.inl h0⟩
  ·subst hF
   exact⟨A,n,c,hv,hl,hc,hm,.inr ⟨h0,g,off,F',cs,hA,rfl,ho.keep (hk g (by simp)),ni.keep xs cs F' hr fun b hb=>hk b (by simp[hb])⟩⟩
theorem ni.keep {w w':World}:∀ (xs:List PD) (cs:List Value) (F:List Nat),ni w xs cs F→(∀ g ∈ F,w'.heap[g]?=w.heap[g]?)→ni w' xs cs F
 | [],cs,F,h,_=>by rw[ni] at h ⊢;exact h
 | x ::xs,cs,F,h,hk=>by
  rw[ni] at h ⊢;obtain⟨c,cs',F1,F2,hcs,hF,h1,h2⟩:=h;subst hF;exact⟨c,cs',F1,F2,hcs,rfl,Hold.keep x c F1 h1 fun b hb=>hk b (by simp[hb]),ni.keep xs cs' F2 h2 fun b hb=>hk b (by simp[hb])⟩
end
theorem ni.length {w:World}:∀ {xs:List PD} {cs:List Value} {F:List Nat},ni w xs cs F→cs.length=xs.length
 | [],cs,F,h=>by rw[ni] at h;simp[h.1]
 | x ::xs,cs,F,h=>by
  rw[ni] at h;obtain⟨c,cs',F1,F2,rfl,_,_,h2⟩:=h;simp[ni.length h2]
theorem ni.nil (w:World):ni w [] [] []:=by rw[ni];exact⟨rfl,rfl⟩
theorem ni.cons {w:World} {x:PD} {xs:List PD} {c:Value} {cs:List Value} {F1 F2:List Nat} (h1:Hold w x c F1) (h2:ni w xs cs F2):ni w (x ::xs) (c ::cs) (F1 ++F2):=by
 rw[ni];exact⟨c,cs,F1,F2,rfl,rfl,h1,h2⟩
theorem ni.append {w:World}:∀ {xs ys:List PD} {cs ds:List Value} {F G:List Nat},ni w xs cs F→ni w ys ds G→ni w (xs ++ys) (cs ++ds) (F ++G)
 | [],ys,cs,ds,F,G,h,k=>by
  rw[ni] at h;obtain⟨rfl,rfl⟩:=h;simpa using k
 | x ::xs,ys,cs,ds,F,G,h,k=>by
  rw[ni] at h;obtain⟨c,cs',F1,F2,rfl,rfl,h1,h2⟩:=h;have:=ni.cons h1 (ni.append h2 k);simpa using this
theorem Hold.bcr (w:World) (u:Value):Hold w (.lit u) u []:=by rw[Hold];exact⟨rfl,rfl⟩
theorem Hold.ab2 {w:World} {u v:Value} {F:List Nat} (h:Hold w (.lit u) v F):v=u∧F=[]:=by rwa[Hold] at h
mutual
theorem Hold.rep {w:World} {B:Nat}:∀ (d:PD) (v:Value) (F:List Nat),Hold w d v F→(∀ g ∈ F,g < B)→Rep w B d v
 | .lit u,v,F,h,_=>by rw[Hold] at h;rw[Rep];exact h.1
 | .row sz xs,v,F,h,hk=>by
  rw[Hold] at h;rw[Rep];obtain⟨A,n,c,hv,hl,hc,hm,⟨h0,_⟩|⟨h0,g,off,F',cs,hA,hF,ho,hr⟩⟩:=h
  ·exact⟨A,n,c,hv,hl,by omega,fun h=>absurd h (by omega)⟩
  ·subst hF
   exact⟨A,n,c,hv,hl,by omega,fun _=>⟨g,off,hA,hk g (by simp),ni.rep xs cs F' hr (fun b hb=>hk b (by simp[hb])) g off fun j u hu=>ho.cell hu⟩⟩
theorem ni.rep {w:World} {B:Nat}:∀ (xs:List PD) (cs:List Value) (F:List Nat),ni w xs cs F→(∀ g ∈ F,g < B)→∀ (g off:Nat),(∀ (j:Nat) (u:Value),cs[j]?=some u→w.cell? ⟨g,off+j,none⟩=some u)→aft w B g off xs
 | [],cs,F,h,_,g,off,_=>by rw[aft];trivial
 | x ::xs,cs,F,h,hk,g,off,hc=>by
  rw[ni] at h;obtain⟨c,cs',F1,F2,hcs,hF,h1,h2⟩:=h;subst hcs hF;rw[aft];refine⟨⟨c,hc 0 c (by simp),Hold.rep x c F1 h1 fun b hb=>hk b (by simp[hb])⟩,ni.rep xs cs' F2 h2 (fun b hb=>hk b (by simp[hb])) g (off+1) fun j u hu=>?_⟩;have:=hc (j+1) u (by simpa using hu)
  rwa[show off+(j+1)=off+1+j by omega] at this
end
def In (F:List Nat) (lo hi:Nat):Prop:=F.Nodup∧∀ g ∈ F,lo≤g∧g < hi
theorem In.nil (lo hi:Nat):In [] lo hi:=⟨List.nodup_nil,by simp⟩
theorem In.append {F G:List Nat} {a b c d:Nat} (h:In F a b) (k:In G c d) (h1:b≤c) (h2:a≤c) (h3:b≤d):In (F ++G) a d:=by
 refine⟨List.nodup_append.2 ⟨h.1,k.1,fun x hx y hy e=>?_⟩,fun g hg=>?_⟩
 ·have:=h.2 x hx
  have:=k.2 y hy;omega
 ·rcases List.mem_append.1 hg with hg|hg
  ·have:=h.2 g hg;omega
  ·have:=k.2 g hg;omega
theorem In.cons {F:List Nat} {g lo hi lo':Nat} (k:In F lo' hi) (h1:g < lo') (h2:lo≤g) (h3:g < hi):In (g ::F) lo hi:=by
 refine⟨List.nodup_cons.2 ⟨fun hg=>by have:=k.2 g hg;omega,k.1⟩,fun b hb=>?_⟩;rcases List.mem_cons.1 hb with rfl|hb
 ·exact⟨h2,h3⟩
 ·have:=k.2 b hb;omega
theorem In.more {F:List Nat} {lo hi lo' hi':Nat} (k:In F lo hi) (h1:lo'≤lo) (h2:hi≤hi'):In F lo' hi':=⟨k.1,fun g hg=>by have:=k.2 g hg;omega⟩
def Lv (w:World) (lo hi:Nat) (d:PD) (v:Value):Prop:=∃ F,Hold w d v F∧In F lo hi∧hi≤w.heap.size
theorem Lv.step {w w':World} {lo hi:Nat} {d:PD} {v:Value} (h:Lv w lo hi d v) (hb:Below w.heap.size w w'):Lv w' lo hi d v:=by
 obtain⟨F,h1,h2,h3⟩:=h;exact⟨F,Hold.keep d v F h1 fun g hg=>hb.block g (by have:=h2.2 g hg;omega),h2,Nat.le_trans h3 hb.size⟩
theorem Rep.form {w:World} {B sz:Nat} {xs:List PD} {v:Value} (h:Rep w B (.row sz xs) v):∃ A n c,v=.slice A n c:=by
 rw[Rep] at h;obtain⟨A,n,c,hv,_⟩:=h;exact⟨A,n,c,hv⟩
theorem Lv.form {w:World} {lo hi sz:Nat} {xs:List PD} {v:Value} (h:Lv w lo hi (.row sz xs) v):∃ A n c,v=.slice A n c:=by
 obtain⟨F,h,_⟩:=h;rw[Hold] at h;obtain⟨A,n,c,hv,_⟩:=h;exact⟨A,n,c,hv⟩
theorem Lv.setCell {w:World} {lo hi:Nat} {d:PD} {v:Value} (h:Lv w lo hi d v) {p:Addr} (hp:p.block < lo∨hi≤p.block) (u:Value):Lv (w.setCell p u) lo hi d v:=by
 obtain⟨F,h1,h2,h3⟩:=h;exact⟨F,Hold.keep d v F h1 fun g hg=>Below.heap_setCell w p u g (by have:=h2.2 g hg;omega),h2,by simpa [World.setCell] using h3⟩
theorem abx {α β:Type} {f:α→List β} {sz:Nat} (h:∀ t,(f t).length=sz):∀ ts:List α,(ts.flatMap f).length=ts.length * sz
 | []=>by simp
 | t ::ts=>by rw[List.flatMap_cons,List.length_append,h,abx h ts,List.length_cons,Nat.add_mul,Nat.one_mul];omega
theorem adn {α β:Type} {f:α→List β} {sz:Nat} (h:∀ t,(f t).length=sz):∀ {ts:List α} {k j:Nat} {t:α},ts[k]?=some t→j < sz→(ts.flatMap f)[k * sz+j]?=(f t)[j]?
 | [],k,j,t,hk,_=>by simp at hk
 | x ::ts,0,j,t,hk,hj=>by
  simp at hk;subst hk;rw[List.flatMap_cons,Nat.zero_mul,Nat.zero_add,List.getElem?_append_left (by rw[h];exact hj)]
 | x ::ts,k+1,j,t,hk,hj=>by
  have hk':ts[k]?=some t:=by simpa using hk
  rw[List.flatMap_cons,List.getElem?_append_right (by rw[h,Nat.add_mul];omega),h,← adn h hk' hj];congr 1;rw[Nat.add_mul];omega
theorem bf {α:Type} {f:α→List PD} {sz:Nat} {w:World} {B:Nat} {ts:List α} {v:Value} (hf:∀ t,(f t).length=sz) (hsz:0 < sz) (h:Rep w B (.row sz (ts.flatMap f)) v):
  ∃ A n c,v=.slice A n c∧n=ts.length∧n≤maxLen∧(0 < n→∃ g off,A=some ⟨g,off,none⟩∧g < B∧
   ∀ (k j:Nat) (t:α) (x:PD),ts[k]?=some t→(f t)[j]?=some x→∃ u,w.cell? ⟨g,off+(k * sz+j),none⟩=some u∧Rep w B x u):=by
 rw[Rep] at h;obtain⟨A,n,c,rfl,hl,hm,hx⟩:=h;rw[abx hf] at hl;refine⟨A,n,c,rfl,(Nat.eq_of_mul_eq_mul_right hsz hl).symm,hm,fun h0=>?_⟩;obtain⟨g,off,rfl,hg,hr⟩:=hx h0;refine⟨g,off,rfl,hg,fun k j t x hk hj=>?_⟩;have hjs:j < sz:=by rw[← hf t];exact(List.getElem?_eq_some_iff.1 hj).1
 exact alj.1 hr (k * sz+j) x (by rw[adn hf hk hjs];exact hj)
theorem Rep.ab2 {w:World} {B:Nat} {u v:Value} (h:Rep w B (.lit u) v):v=u:=by rwa[Rep] at h
def aoc:List Value→Nat→List Value→List Value
 | cs,_,[]=>cs
 | cs,i,c ::r=>aoc (cs.set i c) (i+1) r
theorem arz:∀ (r cs:List Value) (i:Nat),(aoc cs i r).length=cs.length
 | [],cs,i=>rfl
 | c ::r,cs,i=>by rw[aoc,arz r];simp
theorem awr:∀ (r cs:List Value) (i:Nat),i+r.length≤cs.length→(aoc cs i r).take (i+r.length)=cs.take i ++r
 | [],cs,i,_=>by simp[aoc]
 | c ::r,cs,i,h=>by
  have hl:(c ::r).length=r.length+1:=rfl;rw[hl] at h ⊢;rw[aoc,show i+(r.length+1)=(i+1)+r.length by omega,awr r (cs.set i c) (i+1) (by simp;omega)];rw[List.take_succ_eq_append_getElem (by simp;omega),List.take_set_of_le (Nat.le_refl _)];simp
def Fills (w wr:World) (g n sz:Nat) (ds:List PD) (k:Nat):Prop:=
 ∃ cs F,afn wr g 0 cs∧cs.length=n * sz∧ni wr ds (cs.take (k * sz)) F∧In F (g+1) wr.heap.size∧Below g w wr∧g+1≤wr.heap.size
theorem Fills.start {w wr:World} {g n sz:Nat} {cs:List Value} (h:afn wr g 0 cs) (hl:cs.length=n * sz) (hb:Below g w wr) (hs:g+1≤wr.heap.size):Fills w wr g n sz [] 0:=
 ⟨cs,[],h,hl,by simpa using ni.nil wr,In.nil _ _,hb,hs⟩
def setCells (w:World) (g:Nat):Nat→List Value→World
 | _,[]=>w
 | i,c ::r=>setCells (w.setCell ⟨g,i,none⟩ c) g (i+1) r
theorem setCells_size:∀ (r:List Value) (w:World) (g i:Nat),(setCells w g i r).heap.size=w.heap.size
 | [],w,g,i=>rfl
 | c ::r,w,g,i=>by rw[setCells,setCells_size r];simp[World.setCell]
theorem alk:∀ (r:List Value) (w:World) (g i b:Nat),b≠g→(setCells w g i r).heap[b]?=w.heap[b]?
 | [],w,g,i,b,_=>rfl
 | c ::r,w,g,i,b,h=>by rw[setCells,alk r _ _ _ _ h];exact Below.heap_setCell w _ _ b h
theorem aon:∀ (r:List Value) (w:World) (g i:Nat),Below g w (setCells w g i r)
 | [],w,g,i=>Below.refl _ _
 | c ::r,w,g,i=>by
  rw[setCells];exact((Below.refl g w).setCell (p:=⟨g,i,none⟩) (Nat.le_refl _) c).trans (aon r _ g (i+1))
theorem afn.sets:∀ (r:List Value) {w:World} {g i:Nat} {cs:List Value},afn w g 0 cs→i+r.length≤cs.length→afn (setCells w g i r) g 0 (aoc cs i r)
 | [],w,g,i,cs,h,_=>h
 | c ::r,w,g,i,cs,h,hl=>by
  have hl':i+(r.length+1)≤cs.length:=hl;rw[setCells,aoc];have:=h.set (i:=i) (by omega) c;rw[Nat.zero_add] at this;exact afn.sets r this (by simp;omega)
theorem Fills.cell {w wr wq:World} {g n sz k:Nat} {ds:List PD} (h:Fills w wr g n sz ds k) (hb:Below wr.heap.size wr wq) (hk:k < n) (j:Nat) (hj:j < sz):
  (∃ u,wq.cell? ⟨g,k * sz+j,none⟩=some u)∧wq.frozen? ⟨g,k * sz+j,none⟩=false:=by
 obtain⟨cs,F,ho,hl,_,_,_,hs⟩:=h;have ho':afn wq g 0 cs:=ho.below hb (by omega)
 have hkn:k * sz+sz≤n * sz:=by
  have:(k+1) * sz≤n * sz:=Nat.mul_le_mul_right _ hk
  rwa[Nat.add_mul,Nat.one_mul] at this
 have hlt:k * sz+j < cs.length:=by omega
 refine⟨⟨cs[k * sz+j],?_⟩,ho'.frozen _⟩;have:=ho'.cell (List.getElem?_eq_getElem hlt)
 rwa[Nat.zero_add] at this
theorem Fills.under {w wr:World} {g n sz k:Nat} {ds:List PD} (h:Fills w wr g n sz ds k):Below g w wr∧g < wr.heap.size:=by
 obtain⟨_,_,_,_,_,_,h,hs⟩:=h;exact⟨h,by omega⟩
theorem Fills.next {w wr wq:World} {g n sz k:Nat} {ds es:List PD} {chunk:List Value} {F2:List Nat} (h:Fills w wr g n sz ds k) (hb:Below wr.heap.size wr wq)
  (hh:ni wq es chunk F2) (hi:In F2 wr.heap.size wq.heap.size) (hc:chunk.length=sz) (hk:k < n):Fills w (setCells wq g (k * sz) chunk) g n sz (ds ++es) (k+1):=by
 obtain⟨cs,F,ho,hl,hd,hF,hbw,hs⟩:=h;have ho':afn wq g 0 cs:=ho.below hb (by omega)
 have hkn:k * sz+sz≤n * sz:=by
  have:(k+1) * sz≤n * sz:=Nat.mul_le_mul_right _ hk
  rwa[Nat.add_mul,Nat.one_mul] at this
 have hq:=hb.size;have hsz:=setCells_size chunk wq g (k * sz);refine⟨aoc cs (k * sz) chunk,F ++F2,ho'.sets chunk (by omega),by rw[arz,hl],?_,?_,(hbw.trans (hb.mono (by omega))).trans (aon _ _ _ _),by omega⟩
 ·have ht:(aoc cs (k * sz) chunk).take ((k+1) * sz)=cs.take (k * sz) ++chunk:=by
   rw[Nat.add_mul,Nat.one_mul];have:=awr chunk cs (k * sz) (by rw[hc,hl];exact hkn)
   rwa[hc] at this
  rw[ht]
  have hd1:ni (setCells wq g (k * sz) chunk) ds (cs.take (k * sz)) F:=ni.keep ds _ F hd fun b hb'=>by
   have:=hF.2 b hb';rw[alk _ _ _ _ _ (by omega)];exact hb.block b (by omega)
  have hd2:ni (setCells wq g (k * sz) chunk) es chunk F2:=ni.keep es _ F2 hh fun b hb'=>by
   have:=hi.2 b hb';exact alk _ _ _ _ _ (by omega)
  exact hd1.append hd2
 ·rw[hsz]
  exact hF.append hi (Nat.le_refl _) (by omega) hq
theorem Fills.done {w wr:World} {g n sz c:Nat} {ds:List PD} (h:Fills w wr g n sz ds n) (hl:ds.length=n * sz) (hc:n≤c) (hm:c≤maxLen):Lv wr g wr.heap.size (.row sz ds) (.slice (some ⟨g,0,none⟩) n c):=by
 obtain⟨cs,F,ho,hcl,hd,hF,hb,hs⟩:=h;rw[List.take_of_length_le (by omega)] at hd;by_cases h0:n=0
 ·subst h0
  exact⟨[],by rw[Hold];exact⟨_,0,c,rfl,hl,hc,hm,.inl ⟨rfl,rfl⟩⟩,In.nil _ _,Nat.le_refl _⟩
 ·exact⟨g ::F,by rw[Hold];exact⟨_,n,c,rfl,hl,hc,hm,.inr ⟨by omega,g,0,F,cs,rfl,rfl,ho,hd⟩⟩,hF.cons (by omega) (Nat.le_refl _) (by omega),Nat.le_refl _⟩
mutual
def PD.sz:PD→Nat
 | .lit (.string s)=>s.size
 | .lit _=>0
 | .row k xs=>xs.length / k+PD.szL xs
def PD.szL:List PD→Nat
 | []=>0
 | x ::xs=>x.sz+PD.szL xs
end
theorem ams:∀ (xs ys:List PD),PD.szL (xs ++ys)=PD.szL xs+PD.szL ys
 | [],ys=>by simp[PD.szL]
 | x ::xs,ys=>by simp[PD.szL,ams xs ys];omega
theorem zg1 {α:Type _} (l:List α) (i:Nat):l.toArray[i]?=l[i]?:=List.getElem?_toArray
theorem zg2 {α:Type _} {a:α} {l:List α} {i:Nat}:(a::l)[i+1]? =l[i]?:=rfl
theorem zg3 {α:Type _} {a:α} {l:List α}:(a::l)[0]? =some a:=rfl
theorem zs1 {α:Type _} (l:List α) (i:Nat) (a:α):l.toArray.setIfInBounds i a=(l.set i a).toArray:=List.setIfInBounds_toArray l i a
theorem zs2 {α:Type _} {x:α} {xs:List α} {a:α}:(x::xs).set 0 a=a::xs:=rfl
theorem zs3 {α:Type _} {x:α} {xs:List α} {i:Nat} {a:α}:(x::xs).set (i+1) a=x::xs.set i a:=rfl
section
variable {P:Program} {ops:Array Oper} {Q:Exit → Act → World → Prop} {md:Region.Mode} {S:World → Prop} {oi:Oper} {v:Value} {fuel:Nat} {listed:Array Bool} {a:Act} {w:World}
theorem zqt (i:Nat) (h:wpAnyH P md ops Q S fuel (listed.setIfInBounds i true) (a.put oi.dst v) w) (hi:ops[i]? =some oi:=by simp only [List.getElem?_toArray, List.getElem?_cons_succ, List.getElem?_cons_zero]; rfl)
  (hs:Region.noSelect ops=true:=by kernel_rfl) (hf:Region.free md ops listed i=true:=by kernel_rfl) (hr:(Region.ready md ops listed).contains i=true:=by kernel_rfl)
  (hQ:∀ c a w,Q (.panic c) (a.put oi.dst v) w → Q (.panic c) a w:=by exact fun _ _ _ h => h)
  (hy:YieldsIf P ops S oi v a:=by exact Or.inl ⟨by rfl, by intro w hSw; (try dsimp only at hSw); go_simp; try with_reducible rfl⟩) (hS:S w:=by assumption):wpAnyH P md ops Q S (fuel+1) listed a w:=wpAnyH_take hi hs hf hr hQ hy hS h
theorem zqo (i:Nat) (h:wpAnyH P md ops Q S fuel (listed.setIfInBounds i true) (a.put oi.dst undef) w) (hi:ops[i]? =some oi:=by simp only [List.getElem?_toArray, List.getElem?_cons_succ, List.getElem?_cons_zero]; rfl)
  (hs:Region.noSelect ops=true:=by kernel_rfl) (hf:Region.free md ops listed i=true:=by kernel_rfl) (hr:(Region.ready md ops listed).contains i=true:=by kernel_rfl)
  (hQ:∀ c a w,Q (.panic c) (a.put oi.dst undef) w → Q (.panic c) a w:=by exact fun _ _ _ h => h)
  (hy:YieldsIf P ops S oi undef a:=by exact Or.inr ⟨by rfl, rfl⟩) (hS:S w:=by assumption):wpAnyH P md ops Q S (fuel+1) listed a w:=wpAnyH_take hi hs hf hr hQ hy hS h
theorem zqs (rs:List Nat) (h:AllReadyH P md ops Q S fuel listed a w rs) (hr:Region.ready md ops listed=rs:=by kernel_rfl) (hne:rs ≠ []:=by simp):wpAnyH P md ops Q S (fuel+1) listed a w:=wpAnyH_ready hr hne h
theorem zqr (k:Nat) (h:∀ K':Act → World → Prop,Shut (∀ a w,S w → (S w → wpAnyH P md ops Q S fuel (listed.setIfInBounds k true) a w) → K' a w) → if Region.wanted oi (yielded ops a.tmps)=true then Oper.wp P oi a w K' Q else K' (a.put oi.dst undef) w)
  (ho:ops[k]? =some oi:=by simp only [List.getElem?_toArray, List.getElem?_cons_succ, List.getElem?_cons_zero]; rfl) (hr:Region.ready md ops listed=[k]:=by kernel_rfl):wpAnyH P md ops Q S (fuel+1) listed a w:=wpAnyH_ready hr (by simp) (AllReadyH.cons ho h AllReadyH.nil)
end
theorem zqb {w V:World} {o:Obj} (h:V=w.alloc o):Below w.heap.size w V:=by rw[h];exact(Below.refl _ _).alloc (Nat.le_refl _) _
theorem zqn {w V:World} {t:TypeId} {cs:Array Value} (h:V=w.alloc (.cells cs t)):Blk V w.heap.size t cs:=by rw[h];exact Blk.new w _ _
theorem zqe (w:World) (t:TypeId) (cs:Array Value):∃ W,W=w.alloc (.cells cs t):=⟨_,rfl⟩
theorem zqd {p:Prop} (h:p):RowKit.Hid p:=h
theorem zql (n:Nat):n≤n:=Nat.le_refl n
theorem zqf (B:Nat) (w:World):Below B w w:=Below.refl B w
theorem zc2 {w:World} {g:Nat} {t:TypeId} {a0 a1:Value} {r:List Value} (h:Blk w g t (List.toArray (a0::a1::r))):w.cell? ⟨g,0,none⟩=some a0∧w.cell? ⟨g,1,none⟩=some a1:=⟨h.cell 0,h.cell 1⟩
theorem zc3 {w:World} {g:Nat} {t:TypeId} {a0 a1 a2:Value} {r:List Value} (h:Blk w g t (List.toArray (a0::a1::a2::r))):w.cell? ⟨g,0,none⟩=some a0∧w.cell? ⟨g,1,none⟩=some a1∧w.cell? ⟨g,2,none⟩=some a2:=⟨h.cell 0,h.cell 1,h.cell 2⟩
theorem zc4 {w:World} {g:Nat} {t:TypeId} {a0 a1 a2 a3:Value} {r:List Value} (h:Blk w g t (List.toArray (a0::a1::a2::a3::r))):w.cell? ⟨g,0,none⟩=some a0∧w.cell? ⟨g,1,none⟩=some a1∧w.cell? ⟨g,2,none⟩=some a2∧w.cell? ⟨g,3,none⟩=some a3:=⟨h.cell 0,h.cell 1,h.cell 2,h.cell 3⟩
theorem zc5 {w:World} {g:Nat} {t:TypeId} {a0 a1 a2 a3 a4:Value} {r:List Value} (h:Blk w g t (List.toArray (a0::a1::a2::a3::a4::r))):w.cell? ⟨g,0,none⟩=some a0∧w.cell? ⟨g,1,none⟩=some a1∧w.cell? ⟨g,2,none⟩=some a2∧w.cell? ⟨g,3,none⟩=some a3∧w.cell? ⟨g,4,none⟩=some a4:=⟨h.cell 0,h.cell 1,h.cell 2,h.cell 3,h.cell 4⟩
theorem zc6 {w:World} {g:Nat} {t:TypeId} {a0 a1 a2 a3 a4 a5:Value} {r:List Value} (h:Blk w g t (List.toArray (a0::a1::a2::a3::a4::a5::r))):w.cell? ⟨g,0,none⟩=some a0∧w.cell? ⟨g,1,none⟩=some a1∧w.cell? ⟨g,2,none⟩=some a2∧w.cell? ⟨g,3,none⟩=some a3∧w.cell? ⟨g,4,none⟩=some a4∧w.cell? ⟨g,5,none⟩=some a5:=⟨h.cell 0,h.cell 1,h.cell 2,h.cell 3,h.cell 4,h.cell 5⟩
theorem zc7 {w:World} {g:Nat} {t:TypeId} {a0 a1 a2 a3 a4 a5 a6:Value} {r:List Value} (h:Blk w g t (List.toArray (a0::a1::a2::a3::a4::a5::a6::r))):w.cell? ⟨g,0,none⟩=some a0∧w.cell? ⟨g,1,none⟩=some a1∧w.cell? ⟨g,2,none⟩=some a2∧w.cell? ⟨g,3,none⟩=some a3∧w.cell? ⟨g,4,none⟩=some a4∧w.cell? ⟨g,5,none⟩=some a5∧w.cell? ⟨g,6,none⟩=some a6:=⟨h.cell 0,h.cell 1,h.cell 2,h.cell 3,h.cell 4,h.cell 5,h.cell 6⟩
section
variable {P:Program} {ops:Array Oper} {Q:Exit → Act → World → Prop} {md:Region.Mode} {S:World → Prop} {oi:Oper} {v:Value} {fuel:Nat} {listed l':Array Bool} {a a':Act} {w:World}
theorem zqx (i:Nat) (h:wpAnyH P md ops Q S fuel l' a' w) (hi:ops[i]? =some oi:=by simp only [List.getElem?_toArray, List.getElem?_cons_succ, List.getElem?_cons_zero]; rfl)
  (hs:Region.noSelect ops=true:=by kernel_rfl) (hf:Region.free md ops listed i=true:=by kernel_rfl) (hr:(Region.ready md ops listed).contains i=true:=by kernel_rfl)
  (hQ:∀ c a w,Q (.panic c) (a.put oi.dst v) w → Q (.panic c) a w:=by exact fun _ _ _ h => h)
  (hy:YieldsIf P ops S oi v a:=by exact Or.inl ⟨by rfl, by intro w hSw; (try dsimp only at hSw); go_simp; try with_reducible rfl⟩) (hS:S w:=by assumption)
  (hl:listed.setIfInBounds i true=l':=by (try simp only [zs1, zs2, zs3]); rfl) (ha:a.put oi.dst v=a':=by (try simp only [Act.put, zs1, zs2, zs3]); rfl):wpAnyH P md ops Q S (fuel+1) listed a w:=wpAnyH_take hi hs hf hr hQ hy hS (hl ▸ ha ▸ h)
theorem zqh {R:World → Prop} {id:Nat} (HS:RowKit.Hid (∀ V,R V → S V)) (hR:S w.drew) (h:S w.drew → wpAnyH P .any ops Q S ops.size (Array.replicate ops.size false) a w.drew) (hm:P.follows .mixedOrders=true:=by kernel_rfl):(Code.region id ops true).wp P Q a w:=wp_region_held_drew hm hR h
end
theorem zqk {b:Nat} {w V:World} {p:Addr} {v:Value} (h:Below b w V) (hc:w.cell? p=some v) (hp:p.block < b:=by simp only; omega):V.cell? p=some v:=(h.cell hp).trans hc
theorem zn20 {w W:World} {t0 t1:TypeId} {c0 c1:Array Value} (h:W=(w.alloc (.cells c0 t0)).alloc (.cells c1 t1)):Blk W (w.heap.size) t0 c0:=by rw[h];have:=(Blk.new w t0 c0).alloc (.cells c1 t1);simpa using this
theorem zn21 {w W:World} {t0 t1:TypeId} {c0 c1:Array Value} (h:W=(w.alloc (.cells c0 t0)).alloc (.cells c1 t1)):Blk W (w.heap.size+1) t1 c1:=by rw[h];have:=Blk.new (w.alloc (.cells c0 t0)) t1 c1;simpa using this
theorem zn31 {w W:World} {t0 t1 t2:TypeId} {c0 c1 c2:Array Value} (h:W=((w.alloc (.cells c0 t0)).alloc (.cells c1 t1)).alloc (.cells c2 t2)):Blk W (w.heap.size+1) t1 c1:=by rw[h];have:=(Blk.new (w.alloc (.cells c0 t0)) t1 c1).alloc (.cells c2 t2);simpa using this
theorem zn32 {w W:World} {t0 t1 t2:TypeId} {c0 c1 c2:Array Value} (h:W=((w.alloc (.cells c0 t0)).alloc (.cells c1 t1)).alloc (.cells c2 t2)):Blk W (w.heap.size+1+1) t2 c2:=by rw[h];have:=Blk.new ((w.alloc (.cells c0 t0)).alloc (.cells c1 t1)) t2 c2;simpa using this
theorem zn40 {w W:World} {t0 t1 t2 t3:TypeId} {c0 c1 c2 c3:Array Value} (h:W=(((w.alloc (.cells c0 t0)).alloc (.cells c1 t1)).alloc (.cells c2 t2)).alloc (.cells c3 t3)):Blk W (w.heap.size) t0 c0:=by rw[h];have:=(((Blk.new w t0 c0).alloc (.cells c1 t1)).alloc (.cells c2 t2)).alloc (.cells c3 t3);simpa using this
theorem zn41 {w W:World} {t0 t1 t2 t3:TypeId} {c0 c1 c2 c3:Array Value} (h:W=(((w.alloc (.cells c0 t0)).alloc (.cells c1 t1)).alloc (.cells c2 t2)).alloc (.cells c3 t3)):Blk W (w.heap.size+1) t1 c1:=by rw[h];have:=((Blk.new (w.alloc (.cells c0 t0)) t1 c1).alloc (.cells c2 t2)).alloc (.cells c3 t3);simpa using this
theorem zn42 {w W:World} {t0 t1 t2 t3:TypeId} {c0 c1 c2 c3:Array Value} (h:W=(((w.alloc (.cells c0 t0)).alloc (.cells c1 t1)).alloc (.cells c2 t2)).alloc (.cells c3 t3)):Blk W (w.heap.size+1+1) t2 c2:=by rw[h];have:=(Blk.new ((w.alloc (.cells c0 t0)).alloc (.cells c1 t1)) t2 c2).alloc (.cells c3 t3);simpa using this
theorem zn43 {w W:World} {t0 t1 t2 t3:TypeId} {c0 c1 c2 c3:Array Value} (h:W=(((w.alloc (.cells c0 t0)).alloc (.cells c1 t1)).alloc (.cells c2 t2)).alloc (.cells c3 t3)):Blk W (w.heap.size+1+1+1) t3 c3:=by rw[h];have:=Blk.new (((w.alloc (.cells c0 t0)).alloc (.cells c1 t1)).alloc (.cells c2 t2)) t3 c3;simpa using this
theorem zn50 {w W:World} {t0 t1 t2 t3 t4:TypeId} {c0 c1 c2 c3 c4:Array Value} (h:W=((((w.alloc (.cells c0 t0)).alloc (.cells c1 t1)).alloc (.cells c2 t2)).alloc (.cells c3 t3)).alloc (.cells c4 t4)):Blk W (w.heap.size) t0 c0:=by rw[h];have:=((((Blk.new w t0 c0).alloc (.cells c1 t1)).alloc (.cells c2 t2)).alloc (.cells c3 t3)).alloc (.cells c4 t4);simpa using this
theorem zn51 {w W:World} {t0 t1 t2 t3 t4:TypeId} {c0 c1 c2 c3 c4:Array Value} (h:W=((((w.alloc (.cells c0 t0)).alloc (.cells c1 t1)).alloc (.cells c2 t2)).alloc (.cells c3 t3)).alloc (.cells c4 t4)):Blk W (w.heap.size+1) t1 c1:=by rw[h];have:=(((Blk.new (w.alloc (.cells c0 t0)) t1 c1).alloc (.cells c2 t2)).alloc (.cells c3 t3)).alloc (.cells c4 t4);simpa using this
theorem zn52 {w W:World} {t0 t1 t2 t3 t4:TypeId} {c0 c1 c2 c3 c4:Array Value} (h:W=((((w.alloc (.cells c0 t0)).alloc (.cells c1 t1)).alloc (.cells c2 t2)).alloc (.cells c3 t3)).alloc (.cells c4 t4)):Blk W (w.heap.size+1+1) t2 c2:=by rw[h];have:=((Blk.new ((w.alloc (.cells c0 t0)).alloc (.cells c1 t1)) t2 c2).alloc (.cells c3 t3)).alloc (.cells c4 t4);simpa using this
theorem zn53 {w W:World} {t0 t1 t2 t3 t4:TypeId} {c0 c1 c2 c3 c4:Array Value} (h:W=((((w.alloc (.cells c0 t0)).alloc (.cells c1 t1)).alloc (.cells c2 t2)).alloc (.cells c3 t3)).alloc (.cells c4 t4)):Blk W (w.heap.size+1+1+1) t3 c3:=by rw[h];have:=(Blk.new (((w.alloc (.cells c0 t0)).alloc (.cells c1 t1)).alloc (.cells c2 t2)) t3 c3).alloc (.cells c4 t4);simpa using this
theorem zn54 {w W:World} {t0 t1 t2 t3 t4:TypeId} {c0 c1 c2 c3 c4:Array Value} (h:W=((((w.alloc (.cells c0 t0)).alloc (.cells c1 t1)).alloc (.cells c2 t2)).alloc (.cells c3 t3)).alloc (.cells c4 t4)):Blk W (w.heap.size+1+1+1+1) t4 c4:=by rw[h];have:=Blk.new ((((w.alloc (.cells c0 t0)).alloc (.cells c1 t1)).alloc (.cells c2 t2)).alloc (.cells c3 t3)) t4 c4;simpa using this
end Go.Proofs.YtfpannkadjdnaaaGreatDoor
