/-
  Interfaces that are right, and the reasons between them: words for both walks (gen_fcu.py) (by program: gen_why.py).
  A row of structs that a call makes by append, element by element. No program in sight.
-/
import Derived.Test.YtbafphecjijdmaaGreatDoorWa30
import Derived.Test.YtbafphecjijdmaaGreatDoorWa25
import Derived.Test.YtbafphecjijdmaaGreatDoorWa24
import Derived.Test.YtbafphecjijdmaaGreatDoorWa15
import Derived.Deep.AppendLies
namespace Go.Proofs.YtbafphecjijdmaaGreatDoor
open Go.RowKit
set_option linter.unusedVariables false
set_option linter.unusedSimpArgs false
set_option linter.unnecessarySimpa false
set_option maxRecDepth 16000
structure bmu (f:qg):Prop where
 pk:f.package.size≤12
 nm:f.name.size≤12
 ver:f.version.size≤maxLen
 blh:f.resources.length≤4
 fs8:f.funcs.length≤8
 res:∀ r ∈ f.resources,r.size≤12
 fs:∀ x ∈ f.funcs,x.name.size≤12∧ah5 x.typ=true
theorem aup {f:qg} (h:agc f=true):bmu f:=by
 simp only[agc,ao2,Bool.and_eq_true,decide_eq_true_eq,List.all_eq_true] at h
 obtain⟨h1,h2,h3,h4,h5,⟨_,h6⟩,h7,_⟩:=h
 refine⟨(ahs h1).2,(ahs h2).2,?_,h4,h5,fun r hr=>(ahs (h6 r hr)).2,fun x hx=>?_⟩
 ·have:=azn h3 (by have:=ang f.version;omega)
  rw[a2h h3] at this
  unfold maxLen;omega
 ·have:=h7 x hx
  simp only[fnB,Bool.and_eq_true] at this
  exact⟨(ahs this.1).2,this.2.1⟩
def av2 (f:qg):ByteArray:=(f.package ++bax) ++f.name
theorem a2s {at_:ByteArray} {hs ws:List ByteArray} {k:Nat} {x:ByteArray} (hx:ws[k]?=some x) (h:acg (strEq x) hs < 0):ao3 at_ hs ws k=some (6,aiy at_ x):=by simp only[ao3,hx];rw[if_pos h]
theorem a6i {at_:ByteArray} {hs ws:List ByteArray} {k:Nat} {x:ByteArray} (hx:ws[k]?=some x) (h:¬ acg (strEq x) hs < 0):ao3 at_ hs ws k=none:=by simp only[ao3,hx];rw[if_neg h]
theorem a6j {at_:ByteArray} {hs ws:List Fun} {k:Nat} {x:Fun} (hx:ws[k]?=some x) (h:ah7 hs x.name < 0):akg at_ hs ws k=some (9,aiy at_ x.name):=by
 simp only[akg,hx]
 split
 ·rfl
 ·rw[if_pos h]
theorem ayq {at_:ByteArray} {hs ws:List Fun} {k i:Nat} {x y:Fun} (hx:ws[k]?=some x) (h:ah7 hs x.name=i) (hy:hs[i]?=some y):akg at_ hs ws k=ajv (agl 4) y.typ x.typ (aiy at_ x.name):=by
 have hi:(ah7 hs x.name).toNat=i:=by omega
 simp only[akg,hx,hi,hy]
 rw[if_neg (by omega)]
theorem anm {a b:qg} {at_:ByteArray} {vs:Bool} (h:¬ (a.package=b.package∧a.name=b.name)):aki a b at_ vs=some (11,at_):=if_pos h
theorem azp {a b:qg} {at_:ByteArray} (h:a.package=b.package∧a.name=b.name) (h2:aoo a.version b.version=false):aki a b at_ true=some (10,at_):=by rw[aki,if_neg (by simpa using h),if_pos ⟨rfl,h2⟩]
theorem a2t {a b:qg} {at_:ByteArray} {vs:Bool} (h:a.package=b.package∧a.name=b.name) (h2:vs=true→aoo a.version b.version=true):aki a b at_ vs=match aa0 (ao3 at_ a.resources b.resources) b.resources.length with
  | some r=>some r
  | none=>aa0 (akg at_ a.funcs b.funcs) b.funcs.length:=by
 rw[aki,if_neg (by simpa using h),if_neg (fun hh=>by have:=h2 hh.1;rw[this] at hh;cases hh.2)]
 cases aa0 (ao3 at_ a.resources b.resources) b.resources.length<;>rfl
end Go.Proofs.YtbafphecjijdmaaGreatDoor
namespace Go.Proofs.YtbafphecjijdmaaGreatDoor
open Go.RowKit
set_option linter.unusedVariables false
set_option linter.unusedSimpArgs false
set_option linter.unnecessarySimpa false
theorem a8j (w:World) (row:Option Nat):w.grownBy w row:=⟨rfl,rfl,rfl,Nat.le_refl _,fun _ _ _=>rfl⟩
def Grow (w wr:World) (lo:Nat) (e:TypeId) (sz n:Nat) (v:Value) (ds:List PD) (cs:List Value) (F:List Nat):Prop:=
 wr.ownsRow lo e sz v n cs∧uj wr ds cs F∧In F lo wr.heap.size∧(∀ g,v.ownBlock=some g→g ∉ F)∧Below w.heap.size w wr∧w.heap.size≤lo∧lo≤wr.heap.size
section
variable {w wr w1 w2 w3:World} {e:TypeId} {lo sz n m:Nat} {v v':Value} {ds es:List PD} {cs us:List Value} {F F2:List Nat}
theorem Grow.none_ (h:Below w.heap.size w wr):Grow w wr wr.heap.size e sz 0 (.slice none 0 0) [] [] []:=
 ⟨World.ownsRow_nil wr wr.heap.size e sz,uj.nil _,In.nil _ _,fun g hg=>by simp,h,h.size,Nat.le_refl _⟩
theorem Grow.step (h:Grow w wr lo e sz n v ds cs F) (hb:Below wr.heap.size wr w1):Grow w w1 lo e sz n v ds cs F:=by
 obtain⟨h1,h2,h3,h4,h5,h6,h7⟩:=h
 exact⟨af8 h1 hb,uj.keep ds cs F h2 fun g hg=>hb.block g (h3.2 g hg).2,h3.more (Nat.le_refl _) hb.size,h4,h5.trans (hb.mono h5.size),h6,Nat.le_trans h7 hb.size⟩
theorem Grow.set (h:Grow w wr lo e sz n v ds cs F) {p:Addr} (hp:p.block < lo) (hw:w.heap.size≤p.block) (u:Value):Grow w (wr.setCell p u) lo e sz n v ds cs F:=by
 obtain⟨h1,h2,h3,h4,h5,h6,h7⟩:=h
 refine⟨⟨h1.1,?_⟩,uj.keep ds cs F h2 fun g hg=>Below.heap_setCell wr p u g (by have:=(h3.2 g hg).1;omega),by simpa [World.setCell] using h3,h4,h5.setCell hw u,h6,by simpa [World.setCell] using h7⟩
 rcases h1.2 with h|⟨g,cap,cur,rfl,hbb,hh,hr⟩
 ·exact .inl h
 ·exact .inr ⟨g,cap,cur,rfl,hbb,(Below.heap_setCell wr p u g (by omega)).trans hh,hr⟩
theorem Grow.next (h:Grow w wr lo e sz n v ds cs F) (hb1:Below wr.heap.size wr w1)
  (hh:uj w1 es us F2) (hi:In F2 wr.heap.size w1.heap.size) (hb2:Below w1.heap.size w1 w2) (hown:w3.ownsRow lo e sz v' (n+m) (cs ++us)) (hgrow:w2.grownBy w3 v.ownBlock)
  (hat:v'.ownBlock=v.ownBlock∨v'.ownBlock=some w2.heap.size):Grow w w3 lo e sz (n+m) v' (ds ++es) (cs ++us) (F ++F2):=by
 obtain⟨h1,h2,h3,h4,h5,h6,h7⟩:=h
 have s1:=hb1.size
 have s2:=hb2.size
 have s3:=hgrow.size
 have s5:=h5.size
 have hv:∀ g,v.ownBlock=some g→lo≤g∧g < wr.heap.size:=fun g hg=>h1.lt g hg
 have k1:∀ g ∈ F,w3.heap[g]?=wr.heap[g]?:=fun g hg=>by
  have:=h3.2 g hg
  rw[hgrow.block g (by omega) (fun hne=>h4 g hne.symm hg),hb2.block g (by omega),hb1.block g (by omega)]
 have k2:∀ g ∈ F2,w3.heap[g]?=w1.heap[g]?:=fun g hg=>by
  have:=hi.2 g hg
  rw[hgrow.block g (by omega) (fun hne=>by have:=hv g hne.symm;omega),hb2.block g (by omega)]
 refine⟨hown,(uj.keep ds cs F h2 k1).append (uj.keep es us F2 hh k2),(h3.append hi (Nat.le_refl _) (by omega) (by omega)).more (Nat.le_refl _) (by omega),fun g hg hm=>?_,?_,h6,by omega⟩
 ·rcases List.mem_append.1 hm with hm|hm
  ·rcases hat with hat|hat
   ·exact h4 g (hat ▸ hg) hm
   ·have h6:g=w2.heap.size:=by rw[hat] at hg;exact(Option.some.inj hg).symm
    have:=h3.2 g hm
    omega
  ·have h7:=hi.2 g hm
   rcases hat with hat|hat
   ·have:=hv g (hat ▸ hg);omega
   ·have h6:g=w2.heap.size:=by rw[hat] at hg;exact(Option.some.inj hg).symm
    omega
 ·exact((h5.trans (hb1.mono s5)).trans (hb2.mono (by omega))).grown hgrow (by omega) (fun g hg=>by have:=(hv g hg).1;omega)
theorem Grow.done (h:Grow w wr lo e sz n v ds cs F):Lv wr lo wr.heap.size (.row sz ds) v:=by
 obtain⟨h1,h2,h3,h4,h5,h6,h7⟩:=h
 have hlen:=h2.length
 rcases h1.2 with ⟨rfl,rfl⟩|⟨g,cap,cur,rfl,hbg,hg,hnc,hcm,hcs,ht⟩
 ·have hl:ds.length=0 * sz:=by rw[← hlen,h1.1]
  exact⟨[],by rw[Hold];exact⟨none,0,0,rfl,hl,Nat.le_refl _,by decide,.inl ⟨rfl,rfl⟩⟩,In.nil _ _,Nat.le_refl _⟩
 ·have hl:ds.length=n * sz:=by rw[← hlen,h1.1]
  have hgl:g < wr.heap.size:=(Array.getElem?_eq_some_iff.1 hg).1
  by_cases h0:n=0
  ·exact⟨[],by rw[Hold];exact⟨_,n,cap,rfl,hl,hnc,hcm,.inl ⟨h0,rfl⟩⟩,In.nil _ _,Nat.le_refl _⟩
  ·have hget:∀ (j:Nat) (u:Value),cs[j]?=some u→cur[0+j]?=some u:=fun j u hu=>by
    rw[← ht,List.getElem?_take] at hu
    split at hu
    ·simpa using hu
    ·cases hu
   refine⟨g ::F,by rw[Hold];exact⟨_,n,cap,rfl,hl,hnc,hcm,.inr ⟨by omega,g,0,F,cs,rfl,rfl,⟨cur,e,hg,hget⟩,h2⟩⟩,⟨List.nodup_cons.2 ⟨h4 g rfl,h3.1⟩,fun b hb=>?_⟩,Nat.le_refl _⟩
   rcases List.mem_cons.1 hb with rfl|hb
   ·exact⟨hbg,hgl⟩
   ·exact h3.2 b hb
end
def aq9 (w:World) (src:Value) (size m:Nat) (news:List Value):Prop:=
 (∃ c,src=.slice none 0 c∧m=0∧news=[])∨∃ ad c,src=.slice (some ad) m c∧news.length=m * size∧∀ j u,news[j]?=some u→w.cell? (ad.add j)=some u
section
variable {P:Program} {w:World}
theorem asn (base:Nat) (t ty e:TypeId) (i:TypeInfo) (size c:Nat) (ht:P.underlying t=some (.slice e)) (hi:P.info? e=some i)
  (v:Value) (n:Nat) (xs:List Value) (hown:w.ownsRow base e size v n xs):
  (Builtin.append_ #[t,t] ty #[v,.slice none 0 c]).run P w=.ok v w:=by
 rcases hown.2 with ⟨rfl,rfl⟩|⟨g,cap,cur,rfl,_,_,hnc,_⟩
 ·simp[Builtin.append_,run_underlying ht,sizeOf,typeInfo,hi,Builtin.lenOf,Builtin.firstCells]
 ·simp[Builtin.append_,run_underlying ht,sizeOf,typeInfo,hi,Builtin.lenOf,Builtin.firstCells,hnc,storeCells]
theorem ayr (base:Nat) (t ty e:TypeId) (i:TypeInfo) (z:Value) (size bytes:Nat) (ht:P.underlying t=some (.slice e)) (hi:P.info? e=some i) (hz:i.zero=some z)
  (hsize:i.size=size) (hby:i.bytes=bytes) (hzs:z.cells.size=size) (hsz:0 < size)
  (v:Value) (n:Nat) (xs:List Value) (hown:w.ownsRow base e size v n xs) (src:Value) (m:Nat) (news:List Value) (hsrc:aq9 w src size m news) (h1:∀ u ∈ news,u.oneCell'=true)
  (h63:n+m≤maxLen) (hbytes:(n+m) * bytes≤140737488355328) (hbase:base≤w.heap.size):
  ∃ v' w',(Builtin.append_ #[t,t] ty #[v,src]).run P w=.ok v' w'∧w'.ownsRow base e size v' (n+m) (xs ++news)∧w.grownBy w' v.ownBlock∧(v'.ownBlock=v.ownBlock∨v'.ownBlock=some w.heap.size):=by
 rcases hsrc with ⟨c,rfl,rfl,rfl⟩|⟨ad,c,rfl,hl,hnews⟩
 ·exact⟨v,w,asn base t ty e i size c ht hi v n xs hown,by simpa using hown,a8j _ _,.inl rfl⟩
 ·obtain⟨v',w',hr,h2,h3,_,h5⟩:=run_append_own_at (P:=P) w base t ty e i z size bytes ht hi hz hsize hby hzs hsz v n xs hown ad m c news hl hnews h1 h63 hbytes hbase
  exact⟨v',w',hr,h2,h3,h5⟩
theorem asg {o:Oper} {a:Act} {K:Act→World→Prop} {Q:Exit→Act→World→Prop} (s x:Operand) (t:TypeId)
  (ho:o.op=.call {callee:=.builtin .append,args:=#[s,x],argTypes:=#[t,t]})
  (base:Nat) (e:TypeId) (i:TypeInfo) (z:Value) (size bytes:Nat) (ht:P.underlying t=some (.slice e)) (hi:P.info? e=some i) (hz:i.zero=some z)
  (hsize:i.size=size) (hby:i.bytes=bytes) (hzs:z.cells.size=size) (hsz:0 < size)
  (v:Value) (n:Nat) (xs:List Value) (hs:a.eval s=v) (hown:w.ownsRow base e size v n xs)
  (src:Value) (m:Nat) (news:List Value) (hx:a.eval x=src) (hsrc:aq9 w src size m news) (h1:∀ u ∈ news,u.oneCell'=true)
  (h63:n+m≤maxLen) (hbytes:(n+m) * bytes≤140737488355328) (hbase:base≤w.heap.size)
  (h:∀ v' w',w'.ownsRow base e size v' (n+m) (xs ++news)→w.grownBy w' v.ownBlock→(v'.ownBlock=v.ownBlock∨v'.ownBlock=some w.heap.size)→K (a.put o.dst v') w'):o.wp P a w K Q:=by
 obtain⟨v',w',hr,h2,h3,h4⟩:=ayr (P:=P) (w:=w) base t o.type e i z size bytes ht hi hz hsize hby hzs hsz v n xs hown src m news hsrc h1 h63 hbytes hbase
 unfold Oper.wp execOp
 simp only[ho,resolve,invoke,builtin,Sem.run_bind,Sem.run_pure,Result.andThen_ok,List.map_toArray,List.map_cons,List.map_nil,hs,hx,hr]
 exact h v' w' h2 h3 h4
theorem ai6 {ops:Array Oper} {rest:List Oper} {o:Oper} {a:Act} {Q:Exit→Act→World→Prop} (hgd:o.guard=none) (s x:Operand) (t:TypeId)
  (ho:o.op=.call {callee:=.builtin .append,args:=#[s,x],argTypes:=#[t,t]})
  (base:Nat) (e:TypeId) (i:TypeInfo) (z:Value) (size bytes:Nat) (ht:P.underlying t=some (.slice e)) (hi:P.info? e=some i) (hz:i.zero=some z)
  (hsize:i.size=size) (hby:i.bytes=bytes) (hzs:z.cells.size=size) (hsz:0 < size)
  (v:Value) (n:Nat) (xs:List Value) (hs:a.eval s=v) (hown:w.ownsRow base e size v n xs)
  (src:Value) (m:Nat) (news:List Value) (hx:a.eval x=src) (hsrc:aq9 w src size m news) (h1:∀ u ∈ news,u.oneCell'=true)
  (h63:n+m≤maxLen) (hbytes:(n+m) * bytes≤140737488355328) (hbase:base≤w.heap.size)
  (h:∀ v' w',w'.ownsRow base e size v' (n+m) (xs ++news)→w.grownBy w' v.ownBlock→(v'.ownBlock=v.ownBlock∨v'.ownBlock=some w.heap.size)→wpList P ops Q rest (a.put o.dst v') w'):wpList P ops Q (o ::rest) a w:=
 wpList_plain hgd fun _ hK=>asg s x t ho base e i z size bytes ht hi hz hsize hby hzs hsz v n xs hs hown src m news hx hsrc h1 h63 hbytes hbase fun v' w' h2 h3 h4=>hK _ _ (h v' w' h2 h3 h4)
theorem afn {ops:Array Oper} {o:Oper} {a:Act} {K:Act→World→Prop} {Q:Exit→Act→World→Prop} {E:Prop} (hgd:o.guard=none) (s x:Operand) (t:TypeId)
  (ho:o.op=.call {callee:=.builtin .append,args:=#[s,x],argTypes:=#[t,t]})
  (base:Nat) (e:TypeId) (i:TypeInfo) (z:Value) (size bytes:Nat) (ht:P.underlying t=some (.slice e)) (hi:P.info? e=some i) (hz:i.zero=some z)
  (hsize:i.size=size) (hby:i.bytes=bytes) (hzs:z.cells.size=size) (hsz:0 < size)
  (v:Value) (n:Nat) (xs:List Value) (hs:a.eval s=v) (hown:w.ownsRow base e size v n xs)
  (src:Value) (m:Nat) (news:List Value) (hx:a.eval x=src) (hsrc:aq9 w src size m news) (h1:∀ u ∈ news,u.oneCell'=true)
  (h63:n+m≤maxLen) (hbytes:(n+m) * bytes≤140737488355328) (hbase:base≤w.heap.size)
  (h:∀ v' w',w'.ownsRow base e size v' (n+m) (xs ++news)→w.grownBy w' v.ownBlock→(v'.ownBlock=v.ownBlock∨v'.ownBlock=some w.heap.size)→K (a.put o.dst v') w'):if Region.wanted o (yielded ops a.tmps)=true then Oper.wp P o a w K Q else E:=by
 have hw:Region.wanted o (yielded ops a.tmps)=true:=by simp[Region.wanted,hgd]
 rw[if_pos hw]
 exact asg s x t ho base e i z size bytes ht hi hz hsize hby hzs hsz v n xs hs hown src m news hx hsrc h1 h63 hbytes hbase h
end
theorem a6k {w:World} {B:Nat} {v:Value} {xs:List ByteArray} (h:Rep w B (.row 1 (xs.flatMap tu)) v):aq9 w v 1 xs.length (strs xs):=by
 obtain⟨A,n,c,rfl,hnl,_,hat⟩:=ny aat (by decide) h
 by_cases h0:0 < n
 ·obtain⟨g,off,rfl,hg,hc⟩:=hat h0
  refine .inr ⟨_,c,by rw[hnl],by simp[strs],fun j u hu=>?_⟩
  have hj:∃ s,xs[j]?=some s∧u=.string s:=by
   rw[strs,List.getElem?_map] at hu
   cases hx:xs[j]? with
   | none=>rw[hx] at hu;cases hu
   | some s=>rw[hx] at hu;cases hu;exact⟨s,rfl,rfl⟩
  obtain⟨s,hs,rfl⟩:=hj
  obtain⟨q,h1,h2⟩:=hc j 0 s _ hs rfl
  rw[h2.ad8] at h1
  have hadd:(⟨g,off,none⟩:Addr).add j=⟨g,off+j,none⟩:=by unfold Addr.add;split<;>simp_all
  rw[hadd]
  simpa using h1
 ·have hx:xs=[]:=List.eq_nil_of_length_eq_zero (by omega)
  subst hx
  have hn:n=0:=by omega
  subst hn
  cases A with
  | none=>exact .inl ⟨c,rfl,rfl,rfl⟩
  | some a=>exact .inr ⟨a,c,rfl,rfl,fun j u hu=>by simp[strs] at hu⟩
theorem alx (xs:List ByteArray):∀ u ∈ strs xs,u.oneCell'=true:=by
 intro u hu
 simp only[strs,List.mem_map] at hu
 obtain⟨x,_,rfl⟩:=hu
 rfl
theorem axh (w:World):∀ xs:List ByteArray,uj w (xs.flatMap tu) (strs xs) []
 | []=>by simp only[List.flatMap_nil,strs,List.map_nil];rw[uj];exact⟨rfl,rfl⟩
 | x ::xs=>by
  rw[List.flatMap_cons,tu,List.singleton_append,uj]
  exact⟨_,_,[],[],rfl,rfl,by rw[Hold];exact⟨rfl,rfl⟩,axh w xs⟩
theorem LvC.bmv {w:World} {lo hi lo1 hi1 lo2 hi2:Nat} {d1 d2:PD} {v1 v2:Value} (k1:Lv w lo1 hi1 d1 v1) (k2:Lv w lo2 hi2 d2 v2) (h:hi1≤lo2∨hi2≤lo1) (hl1:lo≤lo1) (hl2:lo≤lo2) (hh1:hi1≤hi) (hh2:hi2≤hi) (hh:hi≤w.heap.size):LvC w lo hi [d1,d2] [v1,v2]:=by
 obtain⟨F1,a1,a2,a3⟩:=k1
 obtain⟨F2,b1,b2,b3⟩:=k2
 refine⟨F1 ++(F2 ++[]),uj.cons a1 (uj.cons b1 (uj.nil w)),⟨?_,fun g hg=>?_⟩,hh⟩
 ·rw[List.append_nil]
  refine List.nodup_append.2 ⟨a2.1,b2.1,fun x hx y hy e=>?_⟩
  have:=a2.2 x hx
  have:=b2.2 y hy
  omega
 ·rw[List.append_nil] at hg
  rcases List.mem_append.1 hg with hg|hg
  ·have:=a2.2 g hg;omega
  ·have:=b2.2 g hg;omega
end Go.Proofs.YtbafphecjijdmaaGreatDoor
