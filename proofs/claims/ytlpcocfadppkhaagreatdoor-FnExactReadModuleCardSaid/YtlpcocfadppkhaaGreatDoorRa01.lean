/-
  Words for memory and small laws that all walks of this seat use. No program in sight.
  Plain data with depth: one description for every type of the program's arguments and results. No program in sight.
  From a parameter's reading to plain data: whatever type of int64s, strings, bools, structs and slices of these.
-/
import Derived.WalkKit
import Derived.ProofKit
import Derived.OpenShut
import Derived.Lib.Hide
import Derived.Below
import Derived.Deep.Draws
import Derived.Deep.AppendLies
import Derived.Deep.Slices
import Derived.Deep.Fields
import Derived.Maps.AppendAt
import Derived.Laws.OwnMore
import Derived.Laws.Rows
import Derived.RegionTactic
import Derived.Deep.QuietTactic
import Derived.BigQuiet
import Derived.WalkSpells
import Derived.WalkLawsBesides
import Derived.Deep.DeepFit
import Derived.OwnWalk
namespace Go.Proofs.YtlpcocfadppkhaaGreatDoor
open Go.RowKit Go.ChangeShapes Go.WideShapes Go.ChangeAt
theorem qg {k:IntKind} {a b:Int} (h:a=b):Ending.returned (.int k a)=.returned (.int k b):=by rw[h]
theorem dn {a b:Bool} (h:a=b):Ending.returned (.bool a)=.returned (.bool b):=by rw[h]
theorem aa2 {a b:ByteArray} (h:a=b):Ending.returned (.string a)=.returned (.string b):=by rw[h]
theorem wf64 {n:Int} (h:(Lit.int .i64 n).wf=true):-9223372036854775808≤n∧n≤9223372036854775807:=by
 simpa [Lit.wf,IntKind.min,IntKind.max,IntKind.signed,IntKind.bits] using h
theorem below_drewN {B:Nat} {a w:World} (h:Below B a w) (n:Nat):Below B a (w.drewN n):=⟨h.os,h.tape,h.output,h.size,h.block⟩
def inB (n lo hi:Int):Bool:=decide (lo≤n) && decide (n≤hi)
theorem aut {n lo hi:Int} (h1:lo≤n) (h2:n≤hi):inB n lo hi=true:=by simp[inB,h1,h2]
theorem auu {n lo hi:Int}:inB n lo hi=true↔lo≤n∧n≤hi:=by simp[inB]
def Rd (w:World) (B size:Nat) (A:Option Addr) (n:Nat) (xs:List Value):Prop:=
 xs.length=n * size∧(0 < n→∃ g off,A=some ⟨g,off,none⟩∧g < B∧∀ (j:Nat) (u:Value),xs[j]?=some u→w.cell? ⟨g,off+j,none⟩=some u)
section
variable {w w':World} {B B' size n:Nat} {A:Option Addr} {xs:List Value}
theorem Rd.keep (h:Rd w B size A n xs) (hk:∀ p:Addr,p.block < B→w'.cell? p=w.cell? p):Rd w' B size A n xs:=
 ⟨h.1,fun hn=>by
  obtain⟨g,off,e,hb,hc⟩:=h.2 hn
  exact⟨g,off,e,hb,fun j u hu=>(hk _ hb).trans (hc j u hu)⟩⟩
theorem Rd.more (h:Rd w B size A n xs) (hB:B≤B'):Rd w B' size A n xs:=
 ⟨h.1,fun hn=>by
  obtain⟨g,off,e,hb,hc⟩:=h.2 hn
  exact⟨g,off,e,by omega,hc⟩⟩
theorem Rd.below (h:Rd w B size A n xs) (hb:Below B w w'):Rd w' B size A n xs:=h.keep fun _ hp=>hb.cell hp
theorem Rd.drew (h:Rd w B size A n xs):Rd w.drew B size A n xs:=h
theorem Rd.drewN (h:Rd w B size A n xs) (k:Nat):Rd (w.drewN k) B size A n xs:=h
theorem Rd.alloc (h:Rd w B size A n xs) (hB:B≤w.heap.size) (o:Obj):Rd (w.alloc o) B size A n xs:=h.keep fun p hp=>World.cell?_alloc_lt w o p (by omega)
theorem Rd.setCell (h:Rd w B size A n xs) {p:Addr} (hB:B≤p.block) (u:Value):Rd (w.setCell p u) B size A n xs:=
 h.keep fun q hq=>World.cell?_setCell_other w p q u (fun e=>by subst e;omega)
theorem Rd.grown (h:Rd w B size A n xs) {row:Option Nat} (hg:w.grownBy w' row) (hB:B≤w.heap.size) (hr:∀ g,row=some g→B≤g):Rd w' B size A n xs:=
 h.keep fun p hp=>World.cell?_of_block (hg.block p.block (by omega) (fun e=>by have:=hr _ e.symm;omega))
end
def akk (xs:List Int):List Value:=xs.map (Value.int .i64)
@[simp] theorem azl (xs:List Int):(akk xs).length=xs.length:=by simp[akk]
def RdI (w:World) (B:Nat) (A:Option Addr) (n:Nat) (xs:List Int):Prop:=
 n=xs.length∧Rd w B 1 A n (akk xs)∧∀ x ∈ xs,(Lit.int .i64 x).wf=true
theorem auv {xs:List Int} {j:Nat} {x:Int} (h:xs[j]?=some x):(akk xs)[j]?=some (.int .i64 x):=by simp[akk,h]
theorem RdI.at_ {w:World} {B:Nat} {A:Option Addr} {n:Nat} {xs:List Int} (h:RdI w B A n xs) (hn:0 < n):
  ∃ g off,A=some ⟨g,off,none⟩∧g < B∧∀ (k:Nat) (x:Int),xs[k]?=some x→w.cell? ⟨g,off+k,none⟩=some (.int .i64 x):=by
 obtain⟨hl,hr,_⟩:=h
 obtain⟨g,off,e,hb,hc⟩:=hr.2 hn
 exact⟨g,off,e,hb,fun k x hx=>hc k _ (auv hx)⟩
theorem l7 {α:Type} {xs:List α} {k n:Nat} (hn:n=xs.length) (hk:k < n):∃ x,xs[k]?=some x∧x ∈ xs:=
 ⟨xs[k]'(by omega),List.getElem?_eq_getElem (by omega),List.getElem_mem _⟩
theorem RdI.more {w:World} {B B':Nat} {A:Option Addr} {n:Nat} {xs:List Int} (h:RdI w B A n xs) (hB:B≤B'):RdI w B' A n xs:=⟨h.1,h.2.1.more hB,h.2.2⟩
theorem RdI.below {w w':World} {B:Nat} {A:Option Addr} {n:Nat} {xs:List Int} (h:RdI w B A n xs) (hb:Below B w w'):RdI w' B A n xs:=⟨h.1,h.2.1.below hb,h.2.2⟩
def axb (w:World) (v:Value):Prop:=
 ∃ A n c xs,v=.slice A n c∧n≤maxLen∧RdI w w.heap.size A n xs
theorem all_true {α:Type} {xs:List α} {p:α→Bool} (h:∀ (j:Nat) (x:α),xs[j]?=some x→p x=true):xs.all p=true:=by
 rw[List.all_eq_true]
 intro x hx
 obtain⟨j,hj,rfl⟩:=List.getElem_of_mem hx
 exact h j _ (List.getElem?_eq_getElem hj)
theorem all_false {α:Type} {xs:List α} {p:α→Bool} {k:Nat} {x:α} (hk:xs[k]?=some x) (h:p x=false):xs.all p=false:=by
 rw[List.all_eq_false]
 exact⟨x,List.mem_of_getElem? hk,by simp[h]⟩
structure Keep (lo hi:Nat) (w w':World):Prop where
 os:w'.os=w.os
 tape:w'.tape=w.tape
 output:w'.output=w.output
 size:w.heap.size≤w'.heap.size
 block:∀ k,k < w.heap.size→(k < lo∨hi≤k)→w'.heap[k]?=w.heap[k]?
section
variable {lo hi:Nat} {w w' w'':World}
theorem Keep.refl (lo hi:Nat) (w:World):Keep lo hi w w:=⟨rfl,rfl,rfl,Nat.le_refl _,fun _ _ _=>rfl⟩
theorem Keep.trans (h:Keep lo hi w w') (k:Keep lo hi w' w''):Keep lo hi w w'':=
 ⟨k.os.trans h.os,k.tape.trans h.tape,k.output.trans h.output,Nat.le_trans h.size k.size,fun i hi ho=>(k.block i (Nat.lt_of_lt_of_le hi h.size) ho).trans (h.block i hi ho)⟩
theorem Keep.setCell (h:Keep lo hi w w') {p:Addr} (h1:lo≤p.block) (h2:p.block < hi) (u:Value):Keep lo hi w (w'.setCell p u):=
 h.trans ⟨rfl,rfl,rfl,by simp[World.setCell],fun k _ ho=>Below.heap_setCell _ _ _ _ (by omega)⟩
theorem Keep.alloc (h:Keep lo hi w w') (o:Obj):Keep lo hi w (w'.alloc o):=
 h.trans ⟨rfl,rfl,rfl,by simp,fun k hk _=>Below.heap_alloc _ _ _ hk⟩
theorem Keep.drew (h:Keep lo hi w w'):Keep lo hi w w'.drew:=⟨h.os,h.tape,h.output,h.size,h.block⟩
theorem Keep.below (h:Keep lo hi w w') (hl:lo≤w.heap.size):Below lo w w':=⟨h.os,h.tape,h.output,h.size,fun k hk=>h.block k (by omega) (.inl hk)⟩
theorem Keep.cell (h:Keep lo hi w w') {p:Addr} (h1:p.block < w.heap.size) (h2:p.block < lo∨hi≤p.block):w'.cell? p=w.cell? p:=World.cell?_of_block (h.block _ h1 h2)
end
def Blk (w:World) (g:Nat) (t:TypeId) (cs:Array Value):Prop:=w.heap[g]?=some (.cells cs t (0,0))
section
variable {w w':World} {g:Nat} {t:TypeId} {cs:Array Value}
theorem Blk.lt (h:Blk w g t cs):g < w.heap.size:=(Array.getElem?_eq_some_iff.1 h).1
theorem Blk.cell (h:Blk w g t cs) (i:Nat):w.cell? ⟨g,i,none⟩=cs[i]?:=cell_of_row w g i cs t (0,0) h
theorem Blk.frozen (h:Blk w g t cs) (i:Nat):w.frozen? ⟨g,i,none⟩=false:=by
 unfold Blk at h
 simp[World.frozen?,h]
theorem Blk.new (w:World) (t:TypeId) (cs:Array Value):Blk (w.alloc (.cells cs t)) w.heap.size t cs:=heap_alloc_new w _
theorem Blk.drew (h:Blk w g t cs):Blk w.drew g t cs:=h
theorem Blk.alloc (h:Blk w g t cs) (o:Obj):Blk (w.alloc o) g t cs:=(Below.heap_alloc w o g h.lt).trans h
theorem Blk.dh (h:Blk w g t cs) (i:Nat) (u:Value):Blk (w.setCell ⟨g,i,none⟩ u) g t (cs.setIfInBounds i u):=by
 unfold Blk at h ⊢
 simp[World.setCell,Array.getElem?_modify,h]
theorem Blk.far (h:Blk w g t cs) {p:Addr} (hp:g≠p.block) (u:Value):Blk (w.setCell p u) g t cs:=(Below.heap_setCell w p u g hp).trans h
theorem Blk.below {B:Nat} (h:Blk w g t cs) (hb:Below B w w') (hg:g < B):Blk w' g t cs:=(hb.block g hg).trans h
theorem Blk.step (h:Blk w g t cs) (hb:Below w.heap.size w w'):Blk w' g t cs:=h.below hb h.lt
end
def wu (w:World) (g off:Nat) (cs:List Value):Prop:=
 ∃ cur e,w.heap[g]?=some (.cells cur e (0,0))∧∀ (j:Nat) (u:Value),cs[j]?=some u→cur[off+j]?=some u
section
variable {w w':World} {g off:Nat} {cs:List Value}
theorem wu.cell (h:wu w g off cs) {j:Nat} {u:Value} (hu:cs[j]?=some u):w.cell? ⟨g,off+j,none⟩=some u:=by
 obtain⟨cur,e,hh,hc⟩:=h
 rw[cell_of_row w g (off+j) cur e (0,0) hh]
 exact hc j u hu
theorem wu.frozen (h:wu w g off cs) (j:Nat):w.frozen? ⟨g,j,none⟩=false:=by
 obtain⟨cur,e,hh,_⟩:=h
 simp[World.frozen?,hh]
theorem wu.lt (h:wu w g off cs):g < w.heap.size:=by
 obtain⟨cur,e,hh,_⟩:=h
 exact(Array.getElem?_eq_some_iff.1 hh).1
theorem wu.keep (h:wu w g off cs) (hk:w'.heap[g]?=w.heap[g]?):wu w' g off cs:=by
 obtain⟨cur,e,hh,hc⟩:=h
 exact⟨cur,e,hk.trans hh,hc⟩
theorem wu.set (h:wu w g off cs) {i:Nat} (hi:i < cs.length) (u:Value):wu (w.setCell ⟨g,off+i,none⟩ u) g off (cs.set i u):=by
 obtain⟨cur,e,hh,hc⟩:=h
 refine⟨cur.setIfInBounds (off+i) u,e,by simp[World.setCell,Array.getElem?_modify,hh],fun j x hx=>?_⟩
 rw[Array.getElem?_setIfInBounds]
 rw[List.getElem?_set] at hx
 by_cases hij:i=j
 ·subst hij
  rw[if_pos rfl,if_pos hi] at hx
  have h1:=hc i cs[i] (List.getElem?_eq_getElem hi)
  have h2:off+i < cur.size:=by
   rcases Nat.lt_or_ge (off+i) cur.size with h|h
   ·exact h
   ·rw[Array.getElem?_eq_none h] at h1;cases h1
  rw[if_pos rfl,if_pos h2]
  exact hx
 ·rw[if_neg hij] at hx
  rw[if_neg (by omega)]
  exact hc j x hx
theorem wu.far (h:wu w g off cs) {p:Addr} (hp:g≠p.block) (u:Value):wu (w.setCell p u) g off cs:=h.keep (Below.heap_setCell w p u g hp)
theorem wu.alloc (h:wu w g off cs) (o:Obj):wu (w.alloc o) g off cs:=h.keep (Below.heap_alloc w o g h.lt)
theorem wu.drew (h:wu w g off cs):wu w.drew g off cs:=h
theorem wu.below {B:Nat} (h:wu w g off cs) (hb:Below B w w') (hg:g < B):wu w' g off cs:=h.keep (hb.block g hg)
end
def Own (w:World) (lo hi sz:Nat) (v:Value) (cs:List Value):Prop:=
 ∃ A n c,v=.slice A n c∧cs.length=n * sz∧n≤c∧c≤maxLen∧
  (0 < n→∃ g off,A=some ⟨g,off,none⟩∧lo≤g∧g < hi∧wu w g off cs)
section
variable {lo hi sz:Nat} {w w':World} {v:Value} {cs:List Value}
theorem Own.rd (h:Own w lo hi sz v cs):∃ A n c,v=.slice A n c∧n≤maxLen∧Rd w hi sz A n cs:=by
 obtain⟨A,n,c,rfl,hn,hc,hm,hb⟩:=h
 refine⟨A,n,c,rfl,by omega,hn,fun h0=>?_⟩
 obtain⟨g,off,rfl,h1,h2,ho⟩:=hb h0
 exact⟨g,off,rfl,h2,fun j u hu=>ho.cell hu⟩
theorem Own.keep (h:Own w lo hi sz v cs) (hk:∀ k,lo≤k→k < hi→w'.heap[k]?=w.heap[k]?):Own w' lo hi sz v cs:=by
 obtain⟨A,n,c,rfl,hn,hc,hm,hb⟩:=h
 refine⟨A,n,c,rfl,hn,hc,hm,fun h0=>?_⟩
 obtain⟨g,off,rfl,h1,h2,ho⟩:=hb h0
 exact⟨g,off,rfl,h1,h2,ho.keep (hk g h1 h2)⟩
theorem Own.below (h:Own w lo hi sz v cs) (hb:Below hi w w'):Own w' lo hi sz v cs:=h.keep fun k _ hk=>hb.block k hk
theorem Own.kept {lo' hi':Nat} (h:Own w lo hi sz v cs) (hk:Keep lo' hi' w w') (hs:hi≤w.heap.size) (ho:hi≤lo'∨hi'≤lo):Own w' lo hi sz v cs:=
 h.keep fun k h1 h2=>hk.block k (by omega) (by omega)
theorem Own.more {lo' hi':Nat} (h:Own w lo hi sz v cs) (h1:lo'≤lo) (h2:hi≤hi'):Own w lo' hi' sz v cs:=by
 obtain⟨A,n,c,rfl,hn,hc,hm,hb⟩:=h
 refine⟨A,n,c,rfl,hn,hc,hm,fun h0=>?_⟩
 obtain⟨g,off,rfl,h3,h4,ho⟩:=hb h0
 exact⟨g,off,rfl,by omega,by omega,ho⟩
theorem Own.nil (w:World) (lo hi sz:Nat):Own w lo hi sz (.slice none 0 0) []:=
 ⟨none,0,0,rfl,by simp,Nat.le_refl _,Nat.zero_le _,fun h=>absurd h (by omega)⟩
theorem Own.lu {base:Nat} {e:TypeId} {n:Nat} (h:w.ownsRow base e sz v n cs):Own w base w.heap.size sz v cs:=by
 rcases h.2 with ⟨rfl,h0⟩|⟨g,cap,cur,rfl,hb,hh,hnc,hcm,hcs,ht⟩
 ·exact⟨none,0,0,rfl,by rw[h.1,h0],Nat.le_refl _,Nat.zero_le _,fun h=>absurd h (by omega)⟩
 ·refine⟨_,n,cap,rfl,h.1,hnc,hcm,fun h0=>⟨g,0,rfl,hb,(Array.getElem?_eq_some_iff.1 hh).1,cur,e,hh,fun j u hu=>?_⟩⟩
  rw[← ht,List.getElem?_take] at hu
  split at hu
  ·simpa using hu
  ·cases hu
theorem Own.form (h:Own w lo hi sz v cs):∃ A n c,v=.slice A n c∧cs.length=n * sz∧n≤c∧c≤maxLen∧(0 < n→∃ g off,A=some ⟨g,off,none⟩∧lo≤g∧g < hi∧wu w g off cs):=h
end
def OwI (w:World) (lo hi:Nat) (v:Value) (xs:List Int):Prop:=Own w lo hi 1 v (akk xs)∧∀ x ∈ xs,(Lit.int .i64 x).wf=true
section
variable {lo hi:Nat} {w w':World} {v:Value} {xs:List Int}
theorem OwI.rd (h:OwI w lo hi v xs):∃ A n c,v=.slice A n c∧n≤maxLen∧RdI w hi A n xs:=by
 obtain⟨A,n,c,rfl,hm,hr⟩:=h.1.rd
 exact⟨A,n,c,rfl,hm,by have:=hr.1;simp at this;omega,hr,h.2⟩
theorem OwI.below (h:OwI w lo hi v xs) (hb:Below hi w w'):OwI w' lo hi v xs:=⟨h.1.below hb,h.2⟩
theorem OwI.kept {lo' hi':Nat} (h:OwI w lo hi v xs) (hk:Keep lo' hi' w w') (hs:hi≤w.heap.size) (ho:hi≤lo'∨hi'≤lo):OwI w' lo hi v xs:=⟨h.1.kept hk hs ho,h.2⟩
theorem OwI.more {lo' hi':Nat} (h:OwI w lo hi v xs) (h1:lo'≤lo) (h2:hi≤hi'):OwI w lo' hi' v xs:=⟨h.1.more h1 h2,h.2⟩
end
def IsI (w:World) (B:Nat) (v:Value) (xs:List Int):Prop:=∃ A n c,v=.slice A n c∧n≤maxLen∧RdI w B A n xs
def LvI (w:World) (lo hi:Nat) (v:Value) (xs:List Int):Prop:=OwI w lo hi v xs∧hi≤w.heap.size
section
variable {lo hi B:Nat} {w w':World} {v:Value} {xs:List Int}
theorem IsI.below (h:IsI w B v xs) (hb:Below B w w'):IsI w' B v xs:=by
 obtain⟨A,n,c,rfl,hm,hr⟩:=h
 exact⟨A,n,c,rfl,hm,hr.below hb⟩
theorem LvI.step (h:LvI w lo hi v xs) (hb:Below w.heap.size w w'):LvI w' lo hi v xs:=⟨h.1.below (hb.mono h.2),Nat.le_trans h.2 hb.size⟩
theorem LvI.kept {lo' hi':Nat} (h:LvI w lo hi v xs) (hk:Keep lo' hi' w w') (ho:hi≤lo'∨hi'≤lo):LvI w' lo hi v xs:=⟨h.1.kept hk h.2 ho,Nat.le_trans h.2 hk.size⟩
theorem LvI.is (h:LvI w lo hi v xs):IsI w w.heap.size v xs:=by
 obtain⟨A,n,c,rfl,hm,hr⟩:=(h.1.more (Nat.le_refl lo) h.2).rd
 exact⟨A,n,c,rfl,hm,hr⟩
theorem LvI.mk (h:OwI w lo hi v xs) (hs:hi≤w.heap.size):LvI w lo hi v xs:=⟨h,hs⟩
end
theorem axb.is {w:World} {v:Value} (h:axb w v):∃ A n c xs,v=.slice A n c∧n=xs.length∧n≤maxLen∧IsI w w.heap.size (.slice A n c) xs:=by
 obtain⟨A,n,c,xs,rfl,hm,hr⟩:=h
 exact⟨A,n,c,xs,rfl,hr.1,hm,A,n,c,rfl,hm,hr⟩
def marks (k:Int) (n:Nat):List Int:=(List.range n).map fun(i:Nat)=>k+(i:Int)
@[simp] theorem axc (k:Int) (n:Nat):(marks k n).length=n:=by simp[marks]
end Go.Proofs.YtlpcocfadppkhaaGreatDoor
namespace Go.Proofs.YtlpcocfadppkhaaGreatDoor
open Go.RowKit Go.ChangeShapes Go.WideShapes Go.ChangeAt
set_option linter.unusedVariables false
set_option linter.unusedSimpArgs false
set_option linter.unnecessarySimpa false
inductive PD where
 | lit (v:Value)
 | row (sz:Nat) (xs:List PD)
mutual
def Rep (w:World) (B:Nat):PD→Value→Prop
 | .lit u,v=>v=u
 | .row sz xs,v=>∃ A n c,v=.slice A n c∧xs.length=n * sz∧n≤maxLen∧(0 < n→∃ g off,A=some ⟨g,off,none⟩∧g < B∧yx w B g off xs)
def yx (w:World) (B g:Nat):Nat→List PD→Prop
 | _,[]=>True
 | off,x ::xs=>(∃ u,w.cell? ⟨g,off,none⟩=some u∧Rep w B x u)∧yx w B g (off+1) xs
end
theorem abz {w:World} {B g:Nat}:∀ {xs:List PD} {off:Nat},yx w B g off xs↔∀ (j:Nat) (x:PD),xs[j]?=some x→∃ u,w.cell? ⟨g,off+j,none⟩=some u∧Rep w B x u
 | [],off=>by simp[yx]
 | x ::xs,off=>by
  rw[yx,abz (xs:=xs) (off:=off+1)]
  constructor
  ·rintro⟨h0,h⟩ j y hy
   cases j with
   | zero=>simp at hy;subst hy;exact h0
   | succ j=>
    have:=h j y (by simpa using hy)
    rwa[show off+1+j=off+(j+1) by omega] at this
  ·intro h
   refine⟨h 0 x (by simp),fun j y hy=>?_⟩
   have:=h (j+1) y (by simpa using hy)
   rwa[show off+(j+1)=off+1+j by omega] at this
mutual
theorem Rep.keep {w w':World} {B:Nat} (hk:∀ p:Addr,p.block < B→w'.cell? p=w.cell? p):∀ (d:PD) (v:Value),Rep w B d v→Rep w' B d v
 | .lit u,v,h=>by rw[Rep] at h ⊢;exact h
 | .row sz xs,v,h=>by
  rw[Rep] at h ⊢
  obtain⟨A,n,c,hv,hl,hm,hx⟩:=h
  refine⟨A,n,c,hv,hl,hm,fun h0=>?_⟩
  obtain⟨g,off,hA,hg,hr⟩:=hx h0
  exact⟨g,off,hA,hg,yx.keep hk hg xs off hr⟩
theorem yx.keep {w w':World} {B g:Nat} (hk:∀ p:Addr,p.block < B→w'.cell? p=w.cell? p) (hg:g < B):∀ (xs:List PD) (off:Nat),yx w B g off xs→yx w' B g off xs
 | [],off,_=>by rw[yx];trivial
 | x ::xs,off,h=>by
  rw[yx] at h ⊢
  obtain⟨⟨u,hu,hr⟩,h2⟩:=h
  exact⟨⟨u,(hk _ hg).trans hu,Rep.keep hk x u hr⟩,yx.keep hk hg xs (off+1) h2⟩
end
mutual
theorem Rep.more {w:World} {B B':Nat} (hB:B≤B'):∀ (d:PD) (v:Value),Rep w B d v→Rep w B' d v
 | .lit u,v,h=>by rw[Rep] at h ⊢;exact h
 | .row sz xs,v,h=>by
  rw[Rep] at h ⊢
  obtain⟨A,n,c,hv,hl,hm,hx⟩:=h
  refine⟨A,n,c,hv,hl,hm,fun h0=>?_⟩
  obtain⟨g,off,hA,hg,hr⟩:=hx h0
  exact⟨g,off,hA,by omega,yx.more hB xs off hr⟩
theorem yx.more {w:World} {B B' g:Nat} (hB:B≤B'):∀ (xs:List PD) (off:Nat),yx w B g off xs→yx w B' g off xs
 | [],off,_=>by rw[yx];trivial
 | x ::xs,off,h=>by
  rw[yx] at h ⊢
  obtain⟨⟨u,hu,hr⟩,h2⟩:=h
  exact⟨⟨u,hu,Rep.more hB x u hr⟩,yx.more hB xs (off+1) h2⟩
end
theorem Rep.below {w w':World} {B:Nat} {d:PD} {v:Value} (h:Rep w B d v) (hb:Below B w w'):Rep w' B d v:=Rep.keep (fun p hp=>hb.cell hp) d v h
theorem Rep.drew {w:World} {B:Nat} {d:PD} {v:Value} (h:Rep w B d v):Rep w.drew B d v:=h.below (Below.refl B w).drew
def jd (w:World) (B:Nat) (ds:List PD) (cs:List Value):Prop:=ds.length=cs.length∧∀ (j:Nat) (x:PD) (u:Value),ds[j]?=some x→cs[j]?=some u→Rep w B x u
theorem jd.below {w w':World} {B:Nat} {ds:List PD} {cs:List Value} (h:jd w B ds cs) (hb:Below B w w'):jd w' B ds cs:=⟨h.1,fun j x u hx hu=>(h.2 j x u hx hu).below hb⟩
mutual
def Hold (w:World):PD→Value→List Nat→Prop
 | .lit u,v,F=>v=u∧F=[]
 | .row sz xs,v,F=>∃ A n c,v=.slice A n c∧xs.length=n * sz∧n≤c∧c≤maxLen∧
   ((n=0∧F=[])∨(0 < n∧∃ g off F' cs,A=some ⟨g,off,none⟩∧F=g ::F'∧wu w g off cs∧ah w xs cs F'))
def ah (w:World):List PD→List Value→List Nat→Prop
 | [],cs,F=>cs=[]∧F=[]
 | x ::xs,cs,F=>∃ c cs' F1 F2,cs=c ::cs'∧F=F1 ++F2∧Hold w x c F1∧ah w xs cs' F2
end
mutual
theorem Hold.keep {w w':World}:∀ (d:PD) (v:Value) (F:List Nat),Hold w d v F→(∀ g ∈ F,w'.heap[g]?=w.heap[g]?)→Hold w' d v F
 | .lit u,v,F,h,_=>by rw[Hold] at h ⊢;exact h
 | .row sz xs,v,F,h,hk=>by
  rw[Hold] at h ⊢
  obtain⟨A,n,c,hv,hl,hc,hm,h0|⟨h0,g,off,F',cs,hA,hF,ho,hr⟩⟩:=h
  ·exact⟨A,n,c,hv,hl,hc,hm,.inl h0⟩
  ·subst hF
   exact⟨A,n,c,hv,hl,hc,hm,.inr ⟨h0,g,off,F',cs,hA,rfl,ho.keep (hk g (by simp)),ah.keep xs cs F' hr fun b hb=>hk b (by simp[hb])⟩⟩
theorem ah.keep {w w':World}:∀ (xs:List PD) (cs:List Value) (F:List Nat),ah w xs cs F→(∀ g ∈ F,w'.heap[g]?=w.heap[g]?)→ah w' xs cs F
 | [],cs,F,h,_=>by rw[ah] at h ⊢;exact h
 | x ::xs,cs,F,h,hk=>by
  rw[ah] at h ⊢
  obtain⟨c,cs',F1,F2,hcs,hF,h1,h2⟩:=h
  subst hF
  exact⟨c,cs',F1,F2,hcs,rfl,Hold.keep x c F1 h1 fun b hb=>hk b (by simp[hb]),ah.keep xs cs' F2 h2 fun b hb=>hk b (by simp[hb])⟩
end
theorem ah.length {w:World}:∀ {xs:List PD} {cs:List Value} {F:List Nat},ah w xs cs F→cs.length=xs.length
 | [],cs,F,h=>by rw[ah] at h;simp[h.1]
 | x ::xs,cs,F,h=>by
  rw[ah] at h
  obtain⟨c,cs',F1,F2,rfl,_,_,h2⟩:=h
  simp[ah.length h2]
theorem ah.nil (w:World):ah w [] [] []:=by rw[ah];exact⟨rfl,rfl⟩
theorem ah.cons {w:World} {x:PD} {xs:List PD} {c:Value} {cs:List Value} {F1 F2:List Nat} (h1:Hold w x c F1) (h2:ah w xs cs F2):ah w (x ::xs) (c ::cs) (F1 ++F2):=by
 rw[ah];exact⟨c,cs,F1,F2,rfl,rfl,h1,h2⟩
theorem ah.append {w:World}:∀ {xs ys:List PD} {cs ds:List Value} {F G:List Nat},ah w xs cs F→ah w ys ds G→ah w (xs ++ys) (cs ++ds) (F ++G)
 | [],ys,cs,ds,F,G,h,k=>by
  rw[ah] at h
  obtain⟨rfl,rfl⟩:=h
  simpa using k
 | x ::xs,ys,cs,ds,F,G,h,k=>by
  rw[ah] at h
  obtain⟨c,cs',F1,F2,rfl,rfl,h1,h2⟩:=h
  have:=ah.cons h1 (ah.append h2 k)
  simpa using this
theorem Hold.afe (w:World) (u:Value):Hold w (.lit u) u []:=by rw[Hold];exact⟨rfl,rfl⟩
theorem Hold.uo {w:World} {u v:Value} {F:List Nat} (h:Hold w (.lit u) v F):v=u∧F=[]:=by rwa[Hold] at h
mutual
theorem Hold.rep {w:World} {B:Nat}:∀ (d:PD) (v:Value) (F:List Nat),Hold w d v F→(∀ g ∈ F,g < B)→Rep w B d v
 | .lit u,v,F,h,_=>by rw[Hold] at h;rw[Rep];exact h.1
 | .row sz xs,v,F,h,hk=>by
  rw[Hold] at h
  rw[Rep]
  obtain⟨A,n,c,hv,hl,hc,hm,⟨h0,_⟩|⟨h0,g,off,F',cs,hA,hF,ho,hr⟩⟩:=h
  ·exact⟨A,n,c,hv,hl,by omega,fun h=>absurd h (by omega)⟩
  ·subst hF
   exact⟨A,n,c,hv,hl,by omega,fun _=>⟨g,off,hA,hk g (by simp),ah.rep xs cs F' hr (fun b hb=>hk b (by simp[hb])) g off fun j u hu=>ho.cell hu⟩⟩
theorem ah.rep {w:World} {B:Nat}:∀ (xs:List PD) (cs:List Value) (F:List Nat),ah w xs cs F→(∀ g ∈ F,g < B)→∀ (g off:Nat),(∀ (j:Nat) (u:Value),cs[j]?=some u→w.cell? ⟨g,off+j,none⟩=some u)→yx w B g off xs
 | [],cs,F,h,_,g,off,_=>by rw[yx];trivial
 | x ::xs,cs,F,h,hk,g,off,hc=>by
  rw[ah] at h
  obtain⟨c,cs',F1,F2,hcs,hF,h1,h2⟩:=h
  subst hcs hF
  rw[yx]
  refine⟨⟨c,hc 0 c (by simp),Hold.rep x c F1 h1 fun b hb=>hk b (by simp[hb])⟩,ah.rep xs cs' F2 h2 (fun b hb=>hk b (by simp[hb])) g (off+1) fun j u hu=>?_⟩
  have:=hc (j+1) u (by simpa using hu)
  rwa[show off+(j+1)=off+1+j by omega] at this
end
def In (F:List Nat) (lo hi:Nat):Prop:=F.Nodup∧∀ g ∈ F,lo≤g∧g < hi
theorem In.nil (lo hi:Nat):In [] lo hi:=⟨List.nodup_nil,by simp⟩
theorem In.append {F G:List Nat} {a b c d:Nat} (h:In F a b) (k:In G c d) (h1:b≤c) (h2:a≤c) (h3:b≤d):In (F ++G) a d:=by
 refine⟨List.nodup_append.2 ⟨h.1,k.1,fun x hx y hy e=>?_⟩,fun g hg=>?_⟩
 ·have:=h.2 x hx
  have:=k.2 y hy
  omega
 ·rcases List.mem_append.1 hg with hg|hg
  ·have:=h.2 g hg;omega
  ·have:=k.2 g hg;omega
theorem In.cons {F:List Nat} {g lo hi lo':Nat} (k:In F lo' hi) (h1:g < lo') (h2:lo≤g) (h3:g < hi):In (g ::F) lo hi:=by
 refine⟨List.nodup_cons.2 ⟨fun hg=>by have:=k.2 g hg;omega,k.1⟩,fun b hb=>?_⟩
 rcases List.mem_cons.1 hb with rfl|hb
 ·exact⟨h2,h3⟩
 ·have:=k.2 b hb;omega
theorem In.more {F:List Nat} {lo hi lo' hi':Nat} (k:In F lo hi) (h1:lo'≤lo) (h2:hi≤hi'):In F lo' hi':=⟨k.1,fun g hg=>by have:=k.2 g hg;omega⟩
def Lv (w:World) (lo hi:Nat) (d:PD) (v:Value):Prop:=∃ F,Hold w d v F∧In F lo hi∧hi≤w.heap.size
theorem Lv.step {w w':World} {lo hi:Nat} {d:PD} {v:Value} (h:Lv w lo hi d v) (hb:Below w.heap.size w w'):Lv w' lo hi d v:=by
 obtain⟨F,h1,h2,h3⟩:=h
 exact⟨F,Hold.keep d v F h1 fun g hg=>hb.block g (by have:=h2.2 g hg;omega),h2,Nat.le_trans h3 hb.size⟩
theorem Lv.kept {w w':World} {lo hi lo' hi':Nat} {d:PD} {v:Value} (h:Lv w lo hi d v) (hk:Keep lo' hi' w w') (ho:hi≤lo'∨hi'≤lo):Lv w' lo hi d v:=by
 obtain⟨F,h1,h2,h3⟩:=h
 exact⟨F,Hold.keep d v F h1 fun g hg=>hk.block g (by have:=h2.2 g hg;omega) (by have:=h2.2 g hg;omega),h2,Nat.le_trans h3 hk.size⟩
theorem Rep.form {w:World} {B sz:Nat} {xs:List PD} {v:Value} (h:Rep w B (.row sz xs) v):∃ A n c,v=.slice A n c:=by
 rw[Rep] at h
 obtain⟨A,n,c,hv,_⟩:=h
 exact⟨A,n,c,hv⟩
theorem Lv.form {w:World} {lo hi sz:Nat} {xs:List PD} {v:Value} (h:Lv w lo hi (.row sz xs) v):∃ A n c,v=.slice A n c:=by
 obtain⟨F,h,_⟩:=h
 rw[Hold] at h
 obtain⟨A,n,c,hv,_⟩:=h
 exact⟨A,n,c,hv⟩
theorem Lv.setCell {w:World} {lo hi:Nat} {d:PD} {v:Value} (h:Lv w lo hi d v) {p:Addr} (hp:p.block < lo∨hi≤p.block) (u:Value):Lv (w.setCell p u) lo hi d v:=by
 obtain⟨F,h1,h2,h3⟩:=h
 exact⟨F,Hold.keep d v F h1 fun g hg=>Below.heap_setCell w p u g (by have:=h2.2 g hg;omega),h2,by simpa [World.setCell] using h3⟩
theorem Lv.more {w:World} {lo hi lo' hi':Nat} {d:PD} {v:Value} (h:Lv w lo hi d v) (h1:lo'≤lo) (h2:hi≤hi') (h3:hi'≤w.heap.size):Lv w lo' hi' d v:=by
 obtain⟨F,k1,k2,_⟩:=h
 exact⟨F,k1,k2.more h1 h2,h3⟩
theorem Lv.is {w:World} {lo hi:Nat} {d:PD} {v:Value} (h:Lv w lo hi d v):Rep w w.heap.size d v:=by
 obtain⟨F,h1,h2,h3⟩:=h
 exact Hold.rep d v F h1 fun g hg=>by have:=h2.2 g hg;omega
theorem iq {α β:Type} {f:α→List β} {sz:Nat} (h:∀ t,(f t).length=sz):∀ ts:List α,(ts.flatMap f).length=ts.length * sz
 | []=>by simp
 | t ::ts=>by rw[List.flatMap_cons,List.length_append,h,iq h ts,List.length_cons,Nat.add_mul,Nat.one_mul];omega
theorem iw {α β:Type} {f:α→List β} {sz:Nat} (h:∀ t,(f t).length=sz):∀ {ts:List α} {k j:Nat} {t:α},ts[k]?=some t→j < sz→(ts.flatMap f)[k * sz+j]?=(f t)[j]?
 | [],k,j,t,hk,_=>by simp at hk
 | x ::ts,0,j,t,hk,hj=>by
  simp at hk
  subst hk
  rw[List.flatMap_cons,Nat.zero_mul,Nat.zero_add,List.getElem?_append_left (by rw[h];exact hj)]
 | x ::ts,k+1,j,t,hk,hj=>by
  have hk':ts[k]?=some t:=by simpa using hk
  rw[List.flatMap_cons,List.getElem?_append_right (by rw[h,Nat.add_mul];omega),h,← iw h hk' hj]
  congr 1
  rw[Nat.add_mul]
  omega
theorem jr {α:Type} {f:α→List PD} {sz:Nat} {w:World} {B:Nat} {ts:List α} {v:Value} (hf:∀ t,(f t).length=sz) (hsz:0 < sz) (h:Rep w B (.row sz (ts.flatMap f)) v):
  ∃ A n c,v=.slice A n c∧n=ts.length∧n≤maxLen∧(0 < n→∃ g off,A=some ⟨g,off,none⟩∧g < B∧
   ∀ (k j:Nat) (t:α) (x:PD),ts[k]?=some t→(f t)[j]?=some x→∃ u,w.cell? ⟨g,off+(k * sz+j),none⟩=some u∧Rep w B x u):=by
 rw[Rep] at h
 obtain⟨A,n,c,rfl,hl,hm,hx⟩:=h
 rw[iq hf] at hl
 refine⟨A,n,c,rfl,(Nat.eq_of_mul_eq_mul_right hsz hl).symm,hm,fun h0=>?_⟩
 obtain⟨g,off,rfl,hg,hr⟩:=hx h0
 refine⟨g,off,rfl,hg,fun k j t x hk hj=>?_⟩
 have hjs:j < sz:=by rw[← hf t];exact(List.getElem?_eq_some_iff.1 hj).1
 exact abz.1 hr (k * sz+j) x (by rw[iw hf hk hjs];exact hj)
theorem Rep.uo {w:World} {B:Nat} {u v:Value} (h:Rep w B (.lit u) v):v=u:=by rwa[Rep] at h
def Fills (w wr:World) (g n sz:Nat) (ds:List PD) (k:Nat):Prop:=
 ∃ cs F,wu wr g 0 cs∧cs.length=n * sz∧ah wr ds (cs.take (k * sz)) F∧In F (g+1) wr.heap.size∧Below g w wr∧g+1≤wr.heap.size
theorem Fills.cell {w wr wq:World} {g n sz k:Nat} {ds:List PD} (h:Fills w wr g n sz ds k) (hb:Below wr.heap.size wr wq) (hk:k < n) (j:Nat) (hj:j < sz):
  (∃ u,wq.cell? ⟨g,k * sz+j,none⟩=some u)∧wq.frozen? ⟨g,k * sz+j,none⟩=false:=by
 obtain⟨cs,F,ho,hl,_,_,_,hs⟩:=h
 have ho':wu wq g 0 cs:=ho.below hb (by omega)
 have hkn:k * sz+sz≤n * sz:=by
  have:(k+1) * sz≤n * sz:=Nat.mul_le_mul_right _ hk
  rwa[Nat.add_mul,Nat.one_mul] at this
 have hlt:k * sz+j < cs.length:=by omega
 refine⟨⟨cs[k * sz+j],?_⟩,ho'.frozen _⟩
 have:=ho'.cell (List.getElem?_eq_getElem hlt)
 rwa[Nat.zero_add] at this
theorem Fills.done {w wr:World} {g n sz c:Nat} {ds:List PD} (h:Fills w wr g n sz ds n) (hl:ds.length=n * sz) (hc:n≤c) (hm:c≤maxLen):Lv wr g wr.heap.size (.row sz ds) (.slice (some ⟨g,0,none⟩) n c):=by
 obtain⟨cs,F,ho,hcl,hd,hF,hb,hs⟩:=h
 rw[List.take_of_length_le (by omega)] at hd
 by_cases h0:n=0
 ·subst h0
  exact⟨[],by rw[Hold];exact⟨_,0,c,rfl,hl,hc,hm,.inl ⟨rfl,rfl⟩⟩,In.nil _ _,Nat.le_refl _⟩
 ·exact⟨g ::F,by rw[Hold];exact⟨_,n,c,rfl,hl,hc,hm,.inr ⟨by omega,g,0,F,cs,rfl,rfl,ho,hd⟩⟩,hF.cons (by omega) (Nat.le_refl _) (by omega),Nat.le_refl _⟩
mutual
def PD.sz:PD→Nat
 | .lit (.string s)=>s.size
 | .lit _=>0
 | .row k xs=>xs.length / k+PD.szL xs
def PD.szL:List PD→Nat
 | []=>0
 | x ::xs=>x.sz+PD.szL xs
end
end Go.Proofs.YtlpcocfadppkhaaGreatDoor
namespace Go.Proofs.YtlpcocfadppkhaaGreatDoor
open Go.RowKit Go.ChangeShapes Go.WideShapes Go.ChangeAt Go.Deep
set_option linter.unusedVariables false
set_option linter.unusedSimpArgs false
set_option linter.unnecessarySimpa false
inductive TyC where
 | int|str|bool
 | sl (e:Nat)
 deriving DecidableEq
abbrev Dom:=List (Nat×List TyC)
def Dom.env (dom:Dom) (e:Nat):List TyC:=(dom.lookup e).getD []
mutual
def aco (env:Nat→List TyC):PD→TyC→Prop
 | .lit v,c=>match c with
  | .int=>∃ n:Int,v=.int .i64 n∧(Lit.int .i64 n).wf=true
  | .str=>∃ s:ByteArray,v=.string s∧s.size≤maxLen
  | .bool=>∃ b:Bool,v=.bool b
  | .sl _=>False
 | .row sz xs,c=>match c with
  | .sl e=>sz=(env e).length∧afw env e 0 xs
  | _=>False
def afw (env:Nat→List TyC) (e:Nat):Nat→List PD→Prop
 | _,[]=>True
 | j,x ::xs=>(∃ c,(env e)[j % (env e).length]?=some c∧aco env x c)∧afw env e (j+1) xs
end
def afx (env:Nat→List TyC) (ds:List PD) (cells:List TyC):Prop:=ds.length=cells.length∧∀ (j:Nat) (d:PD) (c:TyC),ds[j]?=some d→cells[j]?=some c→aco env d c
theorem afx.append {env:Nat→List TyC} {ds es:List PD} {a b:List TyC} (h:afx env ds a) (k:afx env es b):afx env (ds ++es) (a ++b):=by
 refine⟨by simp[h.1,k.1],fun j d c hd hc=>?_⟩
 rw[List.getElem?_append] at hd hc
 by_cases hj:j < ds.length
 ·rw[if_pos hj] at hd
  rw[if_pos (by rw[← h.1];exact hj)] at hc
  exact h.2 j d c hd hc
 ·rw[if_neg hj] at hd
  rw[if_neg (by rw[← h.1];exact hj)] at hc
  rw[← h.1] at hc
  exact k.2 _ d c hd hc
theorem jd.append {w:World} {B:Nat} {ds es:List PD} {a b:List Value} (h:jd w B ds a) (k:jd w B es b):jd w B (ds ++es) (a ++b):=by
 refine⟨by simp[h.1,k.1],fun j d c hd hc=>?_⟩
 rw[List.getElem?_append] at hd hc
 by_cases hj:j < ds.length
 ·rw[if_pos hj] at hd
  rw[if_pos (by rw[← h.1];exact hj)] at hc
  exact h.2 j d c hd hc
 ·rw[if_neg hj] at hd
  rw[if_neg (by rw[← h.1];exact hj)] at hc
  rw[← h.1] at hc
  exact k.2 _ d c hd hc
section
variable {H:Type} {enc:TypeId×Value→H} {P:Program} {w:World} {base:Nat} {spare:Nat→Bool} {held:Bool}
def Opens (w:World) (dom:Dom) (cells:List TyC) (cs:List Value):Prop:=∃ ds,afx dom.env ds cells∧jd w w.heap.size ds cs
end
section
variable {env:Nat→List TyC}
end
end Go.Proofs.YtlpcocfadppkhaaGreatDoor
