/-
  Words for memory and small laws that all walks of this seat use. No program in sight.
-/
import Derived.WalkKit
import Derived.ProofKit
import Derived.OpenShut
import Derived.Lib.Hide
import Derived.Below
import Derived.Deep.Draws
import Derived.Deep.AppendLies
import Derived.Deep.Slices
import Derived.Deep.Fields
import Derived.Maps.AppendAt
import Derived.Laws.OwnMore
import Derived.Laws.Rows
import Derived.RegionTactic
import Derived.Deep.QuietTactic
import Derived.BigQuiet
import Derived.WalkSpells
import Derived.WalkLawsBesides
import Derived.Deep.DeepFit
import Derived.OwnWalk
import Derived.OrdersHeld
import Derived.Deep.RegionHeld3
namespace Go.Proofs.YtbafphecjijdmaaGreatDoor
open Go.RowKit Go.ChangeShapes Go.WideShapes Go.ChangeAt
theorem y7 {k:IntKind} {a b:Int} (h:a=b):Ending.returned (.int k a)=.returned (.int k b):=by rw[h]
theorem ah {a b:Bool} (h:a=b):Ending.returned (.bool a)=.returned (.bool b):=by rw[h]
theorem wf64 {n:Int} (h:(Lit.int .i64 n).wf=true):-9223372036854775808≤n∧n≤9223372036854775807:=by
 simpa [Lit.wf,IntKind.min,IntKind.max,IntKind.signed,IntKind.bits] using h
theorem below_drewN {B:Nat} {a w:World} (h:Below B a w) (n:Nat):Below B a (w.drewN n):=⟨h.os,h.tape,h.output,h.size,h.block⟩
theorem ak4 {P:Program} (t e:TypeId) (i:TypeInfo) (z:Value) (ht:P.underlying t=some (.slice e)) (hi:P.info? e=some i) (hz:i.zero=some z)
  (kl kc:IntKind) (n c:Nat) (hnc:n≤c) (hbytes:i.bytes * c≤281474976710656) (h63:c≤9223372036854775807) (w:World):
  (Instr.makeSlice t (.int kl (n:Int)) (.int kc (c:Int))).run P w=.ok (.slice (some ⟨w.heap.size,0,none⟩) n c) (w.alloc (.cells (madeCells z.cells (c * i.size)) e)):=by
 have hb:(i.bytes:Int) * (c:Int)≤281474976710656:=by
  have h:((i.bytes * c:Nat):Int)≤281474976710656:=by omega
  rwa[Int.natCast_mul] at h
 have hr:=run_make (P:=P) w t e i z ht hi hz kl kc n c (by omega) (by omega) hb (by omega)
 simp only[Int.toNat_natCast] at hr
 exact hr
def inB (n lo hi:Int):Bool:=decide (lo≤n) && decide (n≤hi)
theorem ag6 {n lo hi:Int} (h1:lo≤n) (h2:n≤hi):inB n lo hi=true:=by simp[inB,h1,h2]
theorem a5j {n lo hi:Int} (h:n < lo):inB n lo hi=false:=by simp[inB];omega
theorem a5k {n lo hi:Int} (h:hi < n):inB n lo hi=false:=by simp[inB];omega
theorem agx {n lo hi:Int}:inB n lo hi=true↔lo≤n∧n≤hi:=by simp[inB]
theorem agq {n lo hi:Int}:inB n lo hi=false↔n < lo∨hi < n:=by
 cases h:inB n lo hi
 ·simp only[true_iff]
  simp[inB] at h
  omega
 ·simp only[reduceCtorEq,false_iff]
  rw[agx] at h
  omega
def Rd (w:World) (B size:Nat) (A:Option Addr) (n:Nat) (xs:List Value):Prop:=
 xs.length=n * size∧(0 < n→∃ g off,A=some ⟨g,off,none⟩∧g < B∧∀ (j:Nat) (u:Value),xs[j]?=some u→w.cell? ⟨g,off+j,none⟩=some u)
section
variable {w w':World} {B B' size n:Nat} {A:Option Addr} {xs:List Value}
theorem Rd.keep (h:Rd w B size A n xs) (hk:∀ p:Addr,p.block < B→w'.cell? p=w.cell? p):Rd w' B size A n xs:=
 ⟨h.1,fun hn=>by
  obtain⟨g,off,e,hb,hc⟩:=h.2 hn
  exact⟨g,off,e,hb,fun j u hu=>(hk _ hb).trans (hc j u hu)⟩⟩
theorem Rd.more (h:Rd w B size A n xs) (hB:B≤B'):Rd w B' size A n xs:=
 ⟨h.1,fun hn=>by
  obtain⟨g,off,e,hb,hc⟩:=h.2 hn
  exact⟨g,off,e,by omega,hc⟩⟩
theorem Rd.below (h:Rd w B size A n xs) (hb:Below B w w'):Rd w' B size A n xs:=h.keep fun _ hp=>hb.cell hp
theorem Rd.drew (h:Rd w B size A n xs):Rd w.drew B size A n xs:=h
theorem Rd.drewN (h:Rd w B size A n xs) (k:Nat):Rd (w.drewN k) B size A n xs:=h
theorem Rd.alloc (h:Rd w B size A n xs) (hB:B≤w.heap.size) (o:Obj):Rd (w.alloc o) B size A n xs:=h.keep fun p hp=>World.cell?_alloc_lt w o p (by omega)
theorem Rd.setCell (h:Rd w B size A n xs) {p:Addr} (hB:B≤p.block) (u:Value):Rd (w.setCell p u) B size A n xs:=
 h.keep fun q hq=>World.cell?_setCell_other w p q u (fun e=>by subst e;omega)
theorem Rd.grown (h:Rd w B size A n xs) {row:Option Nat} (hg:w.grownBy w' row) (hB:B≤w.heap.size) (hr:∀ g,row=some g→B≤g):Rd w' B size A n xs:=
 h.keep fun p hp=>World.cell?_of_block (hg.block p.block (by omega) (fun e=>by have:=hr _ e.symm;omega))
end
def a1n (xs:List Int):List Value:=xs.map (Value.int .i64)
@[simp] theorem bsu (xs:List Int):(a1n xs).length=xs.length:=by simp[a1n]
def RdI (w:World) (B:Nat) (A:Option Addr) (n:Nat) (xs:List Int):Prop:=
 n=xs.length∧Rd w B 1 A n (a1n xs)∧∀ x ∈ xs,(Lit.int .i64 x).wf=true
theorem bmt {xs:List Int} {j:Nat} {x:Int} (h:xs[j]?=some x):(a1n xs)[j]?=some (.int .i64 x):=by simp[a1n,h]
theorem RdI.at_ {w:World} {B:Nat} {A:Option Addr} {n:Nat} {xs:List Int} (h:RdI w B A n xs) (hn:0 < n):
  ∃ g off,A=some ⟨g,off,none⟩∧g < B∧∀ (k:Nat) (x:Int),xs[k]?=some x→w.cell? ⟨g,off+k,none⟩=some (.int .i64 x):=by
 obtain⟨hl,hr,_⟩:=h
 obtain⟨g,off,e,hb,hc⟩:=hr.2 hn
 exact⟨g,off,e,hb,fun k x hx=>hc k _ (bmt hx)⟩
theorem um {α:Type} {xs:List α} {k n:Nat} (hn:n=xs.length) (hk:k < n):∃ x,xs[k]?=some x∧x ∈ xs:=
 ⟨xs[k]'(by omega),List.getElem?_eq_getElem (by omega),List.getElem_mem _⟩
theorem RdI.more {w:World} {B B':Nat} {A:Option Addr} {n:Nat} {xs:List Int} (h:RdI w B A n xs) (hB:B≤B'):RdI w B' A n xs:=⟨h.1,h.2.1.more hB,h.2.2⟩
theorem RdI.below {w w':World} {B:Nat} {A:Option Addr} {n:Nat} {xs:List Int} (h:RdI w B A n xs) (hb:Below B w w'):RdI w' B A n xs:=⟨h.1,h.2.1.below hb,h.2.2⟩
def bqo (w:World) (v:Value):Prop:=
 ∃ A n c xs,v=.slice A n c∧n≤maxLen∧RdI w w.heap.size A n xs
theorem all_true {α:Type} {xs:List α} {p:α→Bool} (h:∀ (j:Nat) (x:α),xs[j]?=some x→p x=true):xs.all p=true:=by
 rw[List.all_eq_true]
 intro x hx
 obtain⟨j,hj,rfl⟩:=List.getElem_of_mem hx
 exact h j _ (List.getElem?_eq_getElem hj)
theorem all_false {α:Type} {xs:List α} {p:α→Bool} {k:Nat} {x:α} (hk:xs[k]?=some x) (h:p x=false):xs.all p=false:=by
 rw[List.all_eq_false]
 exact⟨x,List.mem_of_getElem? hk,by simp[h]⟩
structure Keep (lo hi:Nat) (w w':World):Prop where
 os:w'.os=w.os
 tape:w'.tape=w.tape
 output:w'.output=w.output
 size:w.heap.size≤w'.heap.size
 block:∀ k,k < w.heap.size→(k < lo∨hi≤k)→w'.heap[k]?=w.heap[k]?
section
variable {lo hi:Nat} {w w' w'':World}
theorem Keep.refl (lo hi:Nat) (w:World):Keep lo hi w w:=⟨rfl,rfl,rfl,Nat.le_refl _,fun _ _ _=>rfl⟩
theorem Keep.trans (h:Keep lo hi w w') (k:Keep lo hi w' w''):Keep lo hi w w'':=
 ⟨k.os.trans h.os,k.tape.trans h.tape,k.output.trans h.output,Nat.le_trans h.size k.size,fun i hi ho=>(k.block i (Nat.lt_of_lt_of_le hi h.size) ho).trans (h.block i hi ho)⟩
theorem Keep.of_below (h:Below w.heap.size w w'):Keep lo hi w w':=⟨h.os,h.tape,h.output,h.size,fun k hk _=>h.block k hk⟩
theorem Keep.setCell (h:Keep lo hi w w') {p:Addr} (h1:lo≤p.block) (h2:p.block < hi) (u:Value):Keep lo hi w (w'.setCell p u):=
 h.trans ⟨rfl,rfl,rfl,by simp[World.setCell],fun k _ ho=>Below.heap_setCell _ _ _ _ (by omega)⟩
theorem Keep.alloc (h:Keep lo hi w w') (o:Obj):Keep lo hi w (w'.alloc o):=
 h.trans ⟨rfl,rfl,rfl,by simp,fun k hk _=>Below.heap_alloc _ _ _ hk⟩
theorem Keep.drew (h:Keep lo hi w w'):Keep lo hi w w'.drew:=⟨h.os,h.tape,h.output,h.size,h.block⟩
theorem Keep.below (h:Keep lo hi w w') (hl:lo≤w.heap.size):Below lo w w':=⟨h.os,h.tape,h.output,h.size,fun k hk=>h.block k (by omega) (.inl hk)⟩
theorem Keep.cell (h:Keep lo hi w w') {p:Addr} (h1:p.block < w.heap.size) (h2:p.block < lo∨hi≤p.block):w'.cell? p=w.cell? p:=World.cell?_of_block (h.block _ h1 h2)
end
def Blk (w:World) (g:Nat) (t:TypeId) (cs:Array Value):Prop:=w.heap[g]?=some (.cells cs t (0,0))
section
variable {w w':World} {g:Nat} {t:TypeId} {cs:Array Value}
theorem Blk.lt (h:Blk w g t cs):g < w.heap.size:=(Array.getElem?_eq_some_iff.1 h).1
theorem Blk.cell (h:Blk w g t cs) (i:Nat):w.cell? ⟨g,i,none⟩=cs[i]?:=cell_of_row w g i cs t (0,0) h
theorem Blk.frozen (h:Blk w g t cs) (i:Nat):w.frozen? ⟨g,i,none⟩=false:=by
 unfold Blk at h
 simp[World.frozen?,h]
theorem Blk.new (w:World) (t:TypeId) (cs:Array Value):Blk (w.alloc (.cells cs t)) w.heap.size t cs:=heap_alloc_new w _
theorem Blk.drew (h:Blk w g t cs):Blk w.drew g t cs:=h
theorem Blk.alloc (h:Blk w g t cs) (o:Obj):Blk (w.alloc o) g t cs:=(Below.heap_alloc w o g h.lt).trans h
theorem Blk.aam (h:Blk w g t cs) (i:Nat) (u:Value):Blk (w.setCell ⟨g,i,none⟩ u) g t (cs.setIfInBounds i u):=by
 unfold Blk at h ⊢
 simp[World.setCell,Array.getElem?_modify,h]
theorem Blk.far (h:Blk w g t cs) {p:Addr} (hp:g≠p.block) (u:Value):Blk (w.setCell p u) g t cs:=(Below.heap_setCell w p u g hp).trans h
theorem Blk.below {B:Nat} (h:Blk w g t cs) (hb:Below B w w') (hg:g < B):Blk w' g t cs:=(hb.block g hg).trans h
theorem Blk.step (h:Blk w g t cs) (hb:Below w.heap.size w w'):Blk w' g t cs:=h.below hb h.lt
end
def ae7 (w:World) (g off:Nat) (cs:List Value):Prop:=
 ∃ cur e,w.heap[g]?=some (.cells cur e (0,0))∧∀ (j:Nat) (u:Value),cs[j]?=some u→cur[off+j]?=some u
section
variable {w w':World} {g off:Nat} {cs:List Value}
theorem ae7.cell (h:ae7 w g off cs) {j:Nat} {u:Value} (hu:cs[j]?=some u):w.cell? ⟨g,off+j,none⟩=some u:=by
 obtain⟨cur,e,hh,hc⟩:=h
 rw[cell_of_row w g (off+j) cur e (0,0) hh]
 exact hc j u hu
theorem ae7.frozen (h:ae7 w g off cs) (j:Nat):w.frozen? ⟨g,j,none⟩=false:=by
 obtain⟨cur,e,hh,_⟩:=h
 simp[World.frozen?,hh]
theorem ae7.lt (h:ae7 w g off cs):g < w.heap.size:=by
 obtain⟨cur,e,hh,_⟩:=h
 exact(Array.getElem?_eq_some_iff.1 hh).1
theorem ae7.keep (h:ae7 w g off cs) (hk:w'.heap[g]?=w.heap[g]?):ae7 w' g off cs:=by
 obtain⟨cur,e,hh,hc⟩:=h
 exact⟨cur,e,hk.trans hh,hc⟩
theorem ae7.set (h:ae7 w g off cs) {i:Nat} (hi:i < cs.length) (u:Value):ae7 (w.setCell ⟨g,off+i,none⟩ u) g off (cs.set i u):=by
 obtain⟨cur,e,hh,hc⟩:=h
 refine⟨cur.setIfInBounds (off+i) u,e,by simp[World.setCell,Array.getElem?_modify,hh],fun j x hx=>?_⟩
 rw[Array.getElem?_setIfInBounds]
 rw[List.getElem?_set] at hx
 by_cases hij:i=j
 ·subst hij
  rw[if_pos rfl,if_pos hi] at hx
  have h1:=hc i cs[i] (List.getElem?_eq_getElem hi)
  have h2:off+i < cur.size:=by
   rcases Nat.lt_or_ge (off+i) cur.size with h|h
   ·exact h
   ·rw[Array.getElem?_eq_none h] at h1;cases h1
  rw[if_pos rfl,if_pos h2]
  exact hx
 ·rw[if_neg hij] at hx
  rw[if_neg (by omega)]
  exact hc j x hx
theorem ae7.far (h:ae7 w g off cs) {p:Addr} (hp:g≠p.block) (u:Value):ae7 (w.setCell p u) g off cs:=h.keep (Below.heap_setCell w p u g hp)
theorem ae7.alloc (h:ae7 w g off cs) (o:Obj):ae7 (w.alloc o) g off cs:=h.keep (Below.heap_alloc w o g h.lt)
theorem ae7.drew (h:ae7 w g off cs):ae7 w.drew g off cs:=h
theorem ae7.below {B:Nat} (h:ae7 w g off cs) (hb:Below B w w') (hg:g < B):ae7 w' g off cs:=h.keep (hb.block g hg)
theorem ae7.new (w:World) (cs:Array Value) (e:TypeId):ae7 (w.alloc (.cells cs e)) w.heap.size 0 cs.toList:=
 ⟨cs,e,heap_alloc_new w _,fun j u hu=>by simpa using hu⟩
end
def Own (w:World) (lo hi sz:Nat) (v:Value) (cs:List Value):Prop:=
 ∃ A n c,v=.slice A n c∧cs.length=n * sz∧n≤c∧c≤maxLen∧
  (0 < n→∃ g off,A=some ⟨g,off,none⟩∧lo≤g∧g < hi∧ae7 w g off cs)
section
variable {lo hi sz:Nat} {w w':World} {v:Value} {cs:List Value}
theorem Own.rd (h:Own w lo hi sz v cs):∃ A n c,v=.slice A n c∧n≤maxLen∧Rd w hi sz A n cs:=by
 obtain⟨A,n,c,rfl,hn,hc,hm,hb⟩:=h
 refine⟨A,n,c,rfl,by omega,hn,fun h0=>?_⟩
 obtain⟨g,off,rfl,h1,h2,ho⟩:=hb h0
 exact⟨g,off,rfl,h2,fun j u hu=>ho.cell hu⟩
theorem Own.keep (h:Own w lo hi sz v cs) (hk:∀ k,lo≤k→k < hi→w'.heap[k]?=w.heap[k]?):Own w' lo hi sz v cs:=by
 obtain⟨A,n,c,rfl,hn,hc,hm,hb⟩:=h
 refine⟨A,n,c,rfl,hn,hc,hm,fun h0=>?_⟩
 obtain⟨g,off,rfl,h1,h2,ho⟩:=hb h0
 exact⟨g,off,rfl,h1,h2,ho.keep (hk g h1 h2)⟩
theorem Own.below (h:Own w lo hi sz v cs) (hb:Below hi w w'):Own w' lo hi sz v cs:=h.keep fun k _ hk=>hb.block k hk
theorem Own.kept {lo' hi':Nat} (h:Own w lo hi sz v cs) (hk:Keep lo' hi' w w') (hs:hi≤w.heap.size) (ho:hi≤lo'∨hi'≤lo):Own w' lo hi sz v cs:=
 h.keep fun k h1 h2=>hk.block k (by omega) (by omega)
theorem Own.more {lo' hi':Nat} (h:Own w lo hi sz v cs) (h1:lo'≤lo) (h2:hi≤hi'):Own w lo' hi' sz v cs:=by
 obtain⟨A,n,c,rfl,hn,hc,hm,hb⟩:=h
 refine⟨A,n,c,rfl,hn,hc,hm,fun h0=>?_⟩
 obtain⟨g,off,rfl,h3,h4,ho⟩:=hb h0
 exact⟨g,off,rfl,by omega,by omega,ho⟩
theorem Own.nil (w:World) (lo hi sz:Nat):Own w lo hi sz (.slice none 0 0) []:=
 ⟨none,0,0,rfl,by simp,Nat.le_refl _,Nat.zero_le _,fun h=>absurd h (by omega)⟩
theorem Own.aj7 {base:Nat} {e:TypeId} {n:Nat} (h:w.ownsRow base e sz v n cs):Own w base w.heap.size sz v cs:=by
 rcases h.2 with ⟨rfl,h0⟩|⟨g,cap,cur,rfl,hb,hh,hnc,hcm,hcs,ht⟩
 ·exact⟨none,0,0,rfl,by rw[h.1,h0],Nat.le_refl _,Nat.zero_le _,fun h=>absurd h (by omega)⟩
 ·refine⟨_,n,cap,rfl,h.1,hnc,hcm,fun h0=>⟨g,0,rfl,hb,(Array.getElem?_eq_some_iff.1 hh).1,cur,e,hh,fun j u hu=>?_⟩⟩
  rw[← ht,List.getElem?_take] at hu
  split at hu
  ·simpa using hu
  ·cases hu
theorem Own.form (h:Own w lo hi sz v cs):∃ A n c,v=.slice A n c∧cs.length=n * sz∧n≤c∧c≤maxLen∧(0 < n→∃ g off,A=some ⟨g,off,none⟩∧lo≤g∧g < hi∧ae7 w g off cs):=h
end
def OwI (w:World) (lo hi:Nat) (v:Value) (xs:List Int):Prop:=Own w lo hi 1 v (a1n xs)∧∀ x ∈ xs,(Lit.int .i64 x).wf=true
section
variable {lo hi:Nat} {w w':World} {v:Value} {xs:List Int}
theorem OwI.rd (h:OwI w lo hi v xs):∃ A n c,v=.slice A n c∧n≤maxLen∧RdI w hi A n xs:=by
 obtain⟨A,n,c,rfl,hm,hr⟩:=h.1.rd
 exact⟨A,n,c,rfl,hm,by have:=hr.1;simp at this;omega,hr,h.2⟩
theorem OwI.below (h:OwI w lo hi v xs) (hb:Below hi w w'):OwI w' lo hi v xs:=⟨h.1.below hb,h.2⟩
theorem OwI.kept {lo' hi':Nat} (h:OwI w lo hi v xs) (hk:Keep lo' hi' w w') (hs:hi≤w.heap.size) (ho:hi≤lo'∨hi'≤lo):OwI w' lo hi v xs:=⟨h.1.kept hk hs ho,h.2⟩
theorem OwI.more {lo' hi':Nat} (h:OwI w lo hi v xs) (h1:lo'≤lo) (h2:hi≤hi'):OwI w lo' hi' v xs:=⟨h.1.more h1 h2,h.2⟩
end
def IsI (w:World) (B:Nat) (v:Value) (xs:List Int):Prop:=∃ A n c,v=.slice A n c∧n≤maxLen∧RdI w B A n xs
def LvI (w:World) (lo hi:Nat) (v:Value) (xs:List Int):Prop:=OwI w lo hi v xs∧hi≤w.heap.size
section
variable {lo hi B:Nat} {w w':World} {v:Value} {xs:List Int}
theorem IsI.below (h:IsI w B v xs) (hb:Below B w w'):IsI w' B v xs:=by
 obtain⟨A,n,c,rfl,hm,hr⟩:=h
 exact⟨A,n,c,rfl,hm,hr.below hb⟩
theorem LvI.step (h:LvI w lo hi v xs) (hb:Below w.heap.size w w'):LvI w' lo hi v xs:=⟨h.1.below (hb.mono h.2),Nat.le_trans h.2 hb.size⟩
theorem LvI.kept {lo' hi':Nat} (h:LvI w lo hi v xs) (hk:Keep lo' hi' w w') (ho:hi≤lo'∨hi'≤lo):LvI w' lo hi v xs:=⟨h.1.kept hk h.2 ho,Nat.le_trans h.2 hk.size⟩
theorem LvI.is (h:LvI w lo hi v xs):IsI w w.heap.size v xs:=by
 obtain⟨A,n,c,rfl,hm,hr⟩:=(h.1.more (Nat.le_refl lo) h.2).rd
 exact⟨A,n,c,rfl,hm,hr⟩
theorem LvI.mk (h:OwI w lo hi v xs) (hs:hi≤w.heap.size):LvI w lo hi v xs:=⟨h,hs⟩
end
theorem bqo.is {w:World} {v:Value} (h:bqo w v):∃ A n c xs,v=.slice A n c∧n=xs.length∧n≤maxLen∧IsI w w.heap.size (.slice A n c) xs:=by
 obtain⟨A,n,c,xs,rfl,hm,hr⟩:=h
 exact⟨A,n,c,xs,rfl,hr.1,hm,A,n,c,rfl,hm,hr⟩
def marks (k:Int) (n:Nat):List Int:=(List.range n).map fun(i:Nat)=>k+(i:Int)
@[simp] theorem bqp (k:Int) (n:Nat):(marks k n).length=n:=by simp[marks]
theorem zg1 {α:Type _} (l:List α) (i:Nat):l.toArray[i]?=l[i]?:=List.getElem?_toArray
theorem zg2 {α:Type _} {a:α} {l:List α} {i:Nat}:(a::l)[i+1]? =l[i]?:=rfl
theorem zg3 {α:Type _} {a:α} {l:List α}:(a::l)[0]? =some a:=rfl
theorem zs1 {α:Type _} (l:List α) (i:Nat) (a:α):l.toArray.setIfInBounds i a=(l.set i a).toArray:=List.setIfInBounds_toArray l i a
theorem zs2 {α:Type _} {x:α} {xs:List α} {a:α}:(x::xs).set 0 a=a::xs:=rfl
theorem zs3 {α:Type _} {x:α} {xs:List α} {i:Nat} {a:α}:(x::xs).set (i+1) a=x::xs.set i a:=rfl
section
variable {P:Program} {ops:Array Oper} {Q:Exit → Act → World → Prop} {md:Region.Mode} {S:World → Prop} {oi:Oper} {v:Value} {fuel:Nat} {listed:Array Bool} {a:Act} {w:World}
theorem zqt (i:Nat) (h:wpAnyH P md ops Q S fuel (listed.setIfInBounds i true) (a.put oi.dst v) w) (hi:ops[i]? =some oi:=by simp only [List.getElem?_toArray, List.getElem?_cons_succ, List.getElem?_cons_zero]; rfl)
  (hs:Region.noSelect ops=true:=by kernel_rfl) (hf:Region.free md ops listed i=true:=by kernel_rfl) (hr:(Region.ready md ops listed).contains i=true:=by kernel_rfl)
  (hQ:∀ c a w,Q (.panic c) (a.put oi.dst v) w → Q (.panic c) a w:=by exact fun _ _ _ h => h)
  (hy:YieldsIf P ops S oi v a:=by exact Or.inl ⟨by rfl, by intro w hSw; (try dsimp only at hSw); go_simp; try with_reducible rfl⟩) (hS:S w:=by assumption):wpAnyH P md ops Q S (fuel+1) listed a w:=wpAnyH_take hi hs hf hr hQ hy hS h
theorem zqo (i:Nat) (h:wpAnyH P md ops Q S fuel (listed.setIfInBounds i true) (a.put oi.dst undef) w) (hi:ops[i]? =some oi:=by simp only [List.getElem?_toArray, List.getElem?_cons_succ, List.getElem?_cons_zero]; rfl)
  (hs:Region.noSelect ops=true:=by kernel_rfl) (hf:Region.free md ops listed i=true:=by kernel_rfl) (hr:(Region.ready md ops listed).contains i=true:=by kernel_rfl)
  (hQ:∀ c a w,Q (.panic c) (a.put oi.dst undef) w → Q (.panic c) a w:=by exact fun _ _ _ h => h)
  (hy:YieldsIf P ops S oi undef a:=by exact Or.inr ⟨by rfl, rfl⟩) (hS:S w:=by assumption):wpAnyH P md ops Q S (fuel+1) listed a w:=wpAnyH_take hi hs hf hr hQ hy hS h
theorem zqs (rs:List Nat) (h:AllReadyH P md ops Q S fuel listed a w rs) (hr:Region.ready md ops listed=rs:=by kernel_rfl) (hne:rs ≠ []:=by simp):wpAnyH P md ops Q S (fuel+1) listed a w:=wpAnyH_ready hr hne h
theorem zqr (k:Nat) (h:∀ K':Act → World → Prop,Shut (∀ a w,S w → (S w → wpAnyH P md ops Q S fuel (listed.setIfInBounds k true) a w) → K' a w) → if Region.wanted oi (yielded ops a.tmps)=true then Oper.wp P oi a w K' Q else K' (a.put oi.dst undef) w)
  (ho:ops[k]? =some oi:=by simp only [List.getElem?_toArray, List.getElem?_cons_succ, List.getElem?_cons_zero]; rfl) (hr:Region.ready md ops listed=[k]:=by kernel_rfl):wpAnyH P md ops Q S (fuel+1) listed a w:=wpAnyH_ready hr (by simp) (AllReadyH.cons ho h AllReadyH.nil)
end
theorem zqb {w V:World} {o:Obj} (h:V=w.alloc o):Below w.heap.size w V:=by rw[h];exact(Below.refl _ _).alloc (Nat.le_refl _) _
theorem zqn {w V:World} {t:TypeId} {cs:Array Value} (h:V=w.alloc (.cells cs t)):Blk V w.heap.size t cs:=by rw[h];exact Blk.new w _ _
theorem zqe (w:World) (t:TypeId) (cs:Array Value):∃ W,W=w.alloc (.cells cs t):=⟨_,rfl⟩
theorem zqd {p:Prop} (h:p):RowKit.Hid p:=h
theorem zql (n:Nat):n≤n:=Nat.le_refl n
theorem zqf (B:Nat) (w:World):Below B w w:=Below.refl B w
theorem zc2 {w:World} {g:Nat} {t:TypeId} {a0 a1:Value} {r:List Value} (h:Blk w g t (List.toArray (a0::a1::r))):w.cell? ⟨g,0,none⟩=some a0∧w.cell? ⟨g,1,none⟩=some a1:=⟨h.cell 0,h.cell 1⟩
theorem zc3 {w:World} {g:Nat} {t:TypeId} {a0 a1 a2:Value} {r:List Value} (h:Blk w g t (List.toArray (a0::a1::a2::r))):w.cell? ⟨g,0,none⟩=some a0∧w.cell? ⟨g,1,none⟩=some a1∧w.cell? ⟨g,2,none⟩=some a2:=⟨h.cell 0,h.cell 1,h.cell 2⟩
theorem zc4 {w:World} {g:Nat} {t:TypeId} {a0 a1 a2 a3:Value} {r:List Value} (h:Blk w g t (List.toArray (a0::a1::a2::a3::r))):w.cell? ⟨g,0,none⟩=some a0∧w.cell? ⟨g,1,none⟩=some a1∧w.cell? ⟨g,2,none⟩=some a2∧w.cell? ⟨g,3,none⟩=some a3:=⟨h.cell 0,h.cell 1,h.cell 2,h.cell 3⟩
theorem zc5 {w:World} {g:Nat} {t:TypeId} {a0 a1 a2 a3 a4:Value} {r:List Value} (h:Blk w g t (List.toArray (a0::a1::a2::a3::a4::r))):w.cell? ⟨g,0,none⟩=some a0∧w.cell? ⟨g,1,none⟩=some a1∧w.cell? ⟨g,2,none⟩=some a2∧w.cell? ⟨g,3,none⟩=some a3∧w.cell? ⟨g,4,none⟩=some a4:=⟨h.cell 0,h.cell 1,h.cell 2,h.cell 3,h.cell 4⟩
theorem zc6 {w:World} {g:Nat} {t:TypeId} {a0 a1 a2 a3 a4 a5:Value} {r:List Value} (h:Blk w g t (List.toArray (a0::a1::a2::a3::a4::a5::r))):w.cell? ⟨g,0,none⟩=some a0∧w.cell? ⟨g,1,none⟩=some a1∧w.cell? ⟨g,2,none⟩=some a2∧w.cell? ⟨g,3,none⟩=some a3∧w.cell? ⟨g,4,none⟩=some a4∧w.cell? ⟨g,5,none⟩=some a5:=⟨h.cell 0,h.cell 1,h.cell 2,h.cell 3,h.cell 4,h.cell 5⟩
theorem zc7 {w:World} {g:Nat} {t:TypeId} {a0 a1 a2 a3 a4 a5 a6:Value} {r:List Value} (h:Blk w g t (List.toArray (a0::a1::a2::a3::a4::a5::a6::r))):w.cell? ⟨g,0,none⟩=some a0∧w.cell? ⟨g,1,none⟩=some a1∧w.cell? ⟨g,2,none⟩=some a2∧w.cell? ⟨g,3,none⟩=some a3∧w.cell? ⟨g,4,none⟩=some a4∧w.cell? ⟨g,5,none⟩=some a5∧w.cell? ⟨g,6,none⟩=some a6:=⟨h.cell 0,h.cell 1,h.cell 2,h.cell 3,h.cell 4,h.cell 5,h.cell 6⟩
end Go.Proofs.YtbafphecjijdmaaGreatDoor
