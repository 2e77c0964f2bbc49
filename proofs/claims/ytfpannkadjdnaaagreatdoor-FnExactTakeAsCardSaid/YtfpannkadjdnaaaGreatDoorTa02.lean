/-
  From a parameter's reading to plain data: whatever type of int64s, strings, bools, structs and slices of these.
-/
import Derived.Test.YtfpannkadjdnaaaGreatDoorTa01
namespace Go.Proofs.YtfpannkadjdnaaaGreatDoor
open Go.RowKit Go.ChangeShapes Go.WideShapes Go.ChangeAt Go.Deep
set_option linter.all false
inductive TyC where
 | int|str|bool
 | sl (e:Nat)
 deriving DecidableEq
abbrev Dom:=List (Nat×List TyC)
def Dom.env (dom:Dom) (e:Nat):List TyC:=(dom.lookup e).getD []
mutual
def afo (env:Nat→List TyC):PD→TyC→Prop
 | .lit v,c=>match c with
  | .int=>∃ n:Int,v=.int .i64 n∧(Lit.int .i64 n).wf=true
  | .str=>∃ s:ByteArray,v=.string s∧s.size≤maxLen
  | .bool=>∃ b:Bool,v=.bool b
  | .sl _=>False
 | .row sz xs,c=>match c with
  | .sl e=>sz=(env e).length∧aky env e 0 xs
  | _=>False
def aky (env:Nat→List TyC) (e:Nat):Nat→List PD→Prop
 | _,[]=>True
 | j,x ::xs=>(∃ c,(env e)[j % (env e).length]?=some c∧afo env x c)∧aky env e (j+1) xs
end
theorem ap4 {env:Nat→List TyC} {e:Nat}:∀ {xs:List PD} {i:Nat},aky env e i xs↔∀ (j:Nat) (x:PD),xs[j]?=some x→∃ c,(env e)[(i+j) % (env e).length]?=some c∧afo env x c
 | [],i=>by simp[aky]
 | x ::xs,i=>by
  rw[aky,ap4 (xs:=xs) (i:=i+1)];constructor
  ·rintro⟨h0,h⟩ j y hy
   cases j with
   | zero=>simp at hy;subst hy;exact h0
   | succ j=>
    have:=h j y (by simpa using hy)
    rwa[show i+1+j=i+(j+1) by omega] at this
  ·intro h
   refine⟨h 0 x (by simp),fun j y hy=>?_⟩;have:=h (j+1) y (by simpa using hy)
   rwa[show i+(j+1)=i+1+j by omega] at this
def ajk (env:Nat→List TyC) (ds:List PD) (cells:List TyC):Prop:=ds.length=cells.length∧∀ (j:Nat) (d:PD) (c:TyC),ds[j]?=some d→cells[j]?=some c→afo env d c
theorem ajk.append {env:Nat→List TyC} {ds es:List PD} {a b:List TyC} (h:ajk env ds a) (k:ajk env es b):ajk env (ds ++es) (a ++b):=by
 refine⟨by simp[h.1,k.1],fun j d c hd hc=>?_⟩;rw[List.getElem?_append] at hd hc;by_cases hj:j < ds.length
 ·rw[if_pos hj] at hd
  rw[if_pos (by rw[← h.1];exact hj)] at hc;exact h.2 j d c hd hc
 ·rw[if_neg hj] at hd
  rw[if_neg (by rw[← h.1];exact hj)] at hc;rw[← h.1] at hc;exact k.2 _ d c hd hc
theorem jq.append {w:World} {B:Nat} {ds es:List PD} {a b:List Value} (h:jq w B ds a) (k:jq w B es b):jq w B (ds ++es) (a ++b):=by
 refine⟨by simp[h.1,k.1],fun j d c hd hc=>?_⟩;rw[List.getElem?_append] at hd hc;by_cases hj:j < ds.length
 ·rw[if_pos hj] at hd
  rw[if_pos (by rw[← h.1];exact hj)] at hc;exact h.2 j d c hd hc
 ·rw[if_neg hj] at hd
  rw[if_neg (by rw[← h.1];exact hj)] at hc;rw[← h.1] at hc;exact k.2 _ d c hd hc
def fieldsB (P:Program) (dom:Dom):Nat→List Field→List TyC→Bool
 | _,[],cells=>cells.isEmpty
 | off,f ::fs,cells=>f.offset ==off && (match dom.lookup f.type with
  | some cf=>P.cellsOf f.type ==cf.length && cells.take cf.length ==cf && fieldsB P dom (off+cf.length) fs (cells.drop cf.length)
  | none=>false)
def a4n (P:Program) (dom:Dom) (t:Nat) (cells:List TyC):Bool:=
 match P.underlying t with
 | some (.int .i64)=>cells ==[.int]
 | some .string=>cells ==[.str]
 | some .bool=>cells ==[.bool]
 | some (.slice e)=>cells ==[.sl e] && (match dom.lookup e with
  | some ce=>P.cellsOf e ==ce.length && !ce.isEmpty
  | none=>false)
 | some (.struct fs)=>P.cellsOf t ==cells.length && fieldsB P dom 0 fs.toList cells
 | _=>false
def bcs (P:Program) (dom:Dom):Bool:=dom.all fun p=>a4n P dom p.1 p.2
theorem a2b {dom:Dom} {t:Nat} {cells:List TyC} (h:dom.lookup t=some cells):(t,cells) ∈ dom:=by
 induction dom with
 | nil=>simp at h
 | cons p dom ih=>
  obtain⟨a,b⟩:=p;rw[List.lookup_cons] at h;split at h
  ·rename_i hab
   have:t=a:=by simpa using hab
   injection h with h
   subst this h;simp
  ·exact List.mem_cons_of_mem _ (ih h)
theorem flat_length {α:Type} {n sz:Nat} {D:Nat→List α} (h:∀ i,i < n→(D i).length=sz):((List.range n).flatMap D).length=n * sz:=by
 induction n with
 | zero=>simp
 | succ n ih=>
  rw[List.range_succ,List.flatMap_append,List.length_append,ih fun i hi=>h i (by omega)];simp[h n (by omega),Nat.add_mul]
theorem flat_get {α:Type} {n sz:Nat} {D:Nat→List α} (h:∀ i,i < n→(D i).length=sz) {i r:Nat} (hi:i < n) (hr:r < sz):((List.range n).flatMap D)[i * sz+r]?=(D i)[r]?:=by
 induction n with
 | zero=>omega
 | succ n ih=>
  rw[List.range_succ,List.flatMap_append];have hl:=flat_length (fun i hi=>h i (by omega):∀ i,i < n→(D i).length=sz);have hb:(i+1) * sz=i * sz+sz:=by rw[Nat.add_mul,Nat.one_mul]
  by_cases hin:i < n
  ·have:(i+1) * sz≤n * sz:=Nat.mul_le_mul_right _ hin
   rw[List.getElem?_append_left (by rw[hl];omega)];exact ih (fun i hi=>h i (by omega)) hin
  ·have:i=n:=by omega
   subst this;rw[List.getElem?_append_right (by rw[hl];omega),hl];simp
section
variable {H:Type} {enc:TypeId×Value→H} {P:Program} {w:World} {base:Nat} {spare:Nat→Bool} {held:Bool}
theorem a4o {t fuel:Nat} {cs:List Value} {x:DataW H×List MemPlace} (ht:P.underlying t=some (.int .i64)) (h:DataW.trod enc P w base spare held fuel t cs=some x):∃ n:Int,cs=[.int .i64 n]∧(Lit.int .i64 n).wf=true:=by
 obtain⟨a,e0,_,wa⟩:=DataW.trod_int ht h;exact⟨a,e0,wa⟩
theorem a4p {t fuel:Nat} {cs:List Value} {x:DataW H×List MemPlace} (ht:P.underlying t=some .string) (h:DataW.trod enc P w base spare held fuel t cs=some x):∃ s:ByteArray,cs=[.string s]∧s.size≤maxLen:=by
 cases fuel with
 | zero=>simp[DataW.trod] at h
 | succ n=>
  unfold DataW.trod at h;rw[ht] at h;split at h<;>simp_all
theorem a2c {t fuel:Nat} {cs:List Value} {x:DataW H×List MemPlace} (ht:P.underlying t=some .bool) (h:DataW.trod enc P w base spare held fuel t cs=some x):∃ b:Bool,cs=[.bool b]:=by
 cases fuel with
 | zero=>simp[DataW.trod] at h
 | succ n=>
  unfold DataW.trod at h;rw[ht] at h;split at h<;>simp_all
def Opens (w:World) (dom:Dom) (cells:List TyC) (cs:List Value):Prop:=∃ ds,ajk dom.env ds cells∧jq w w.heap.size ds cs
theorem asj {dom:Dom} {c:TyC} {u v:Value} (hd:afo dom.env (.lit v) c) (hv:u=v):Opens w dom [c] [u]:=by
 refine⟨[.lit v],⟨rfl,fun j d c' hd' hc=>?_⟩,⟨rfl,fun j d u' hd' hu=>?_⟩⟩
 ·cases j with
  | zero=>simp at hd' hc;subst hd' hc;exact hd
  | succ j=>simp at hd'
 ·cases j with
  | zero=>simp at hd' hu;subst hd' hu;rw[Rep];exact hv
  | succ j=>simp at hd'
theorem ar0 {dom:Dom} {n:Nat} {cs:List Value}
  (ih:∀ (t:Nat) (cells:List TyC) (cs:List Value) (x:DataW H×List MemPlace),dom.lookup t=some cells→DataW.trod enc P w base spare held n t cs=some x→Opens w dom cells cs):
  ∀ (fl:List Field) (off:Nat) (cells:List TyC),fieldsB P dom off fl cells=true→off+cells.length≤cs.length→
   (∀ f ∈ fl,∃ y,DataW.trod enc P w base spare held n f.type ((cs.drop f.offset).take (P.cellsOf f.type))=some y)→Opens w dom cells ((cs.drop off).take cells.length)
 | [],off,cells,hB,_,_=>by
  have:cells=[]:=by simpa [fieldsB] using hB
  subst this;exact⟨[],⟨rfl,by simp⟩,⟨by simp,by simp⟩⟩
 | f ::fl,off,cells,hB,hlen,hf=>by
  rw[fieldsB,Bool.and_eq_true] at hB;obtain⟨ho,hB⟩:=hB;have ho:f.offset=off:=by simpa using ho
  cases hl:dom.lookup f.type with
  | none=>rw[hl] at hB;simp at hB
  | some cf=>
   rw[hl] at hB;simp only[Bool.and_eq_true,beq_iff_eq] at hB;obtain⟨⟨hc,htk⟩,hrest⟩:=hB;obtain⟨y,hy⟩:=hf f (by simp);rw[ho,hc] at hy
   have hle:cf.length≤cells.length:=by
    have:=congrArg List.length htk;simp at this;omega
   obtain⟨ds1,h1,r1⟩:=ih f.type cf _ y hl hy;obtain⟨ds2,h2,r2⟩:=ar0 ih fl (off+cf.length) (cells.drop cf.length) hrest (by simp;omega) fun g hg=>hf g (by simp[hg]);refine⟨ds1 ++ds2,?_,?_⟩
   ·have:=h1.append h2
    rwa[show cf ++cells.drop cf.length=cells by rw[← htk];simp[List.length_take,Nat.min_eq_left hle]] at this
   ·have:=r1.append r2
    rwa[show(cs.drop off).take cf.length ++(cs.drop (off+cf.length)).take (cells.drop cf.length).length=(cs.drop off).take cells.length by
     rw[List.length_drop,← List.drop_drop,← List.take_add];congr 1;omega] at this
theorem a4q {dom:Dom} (hd:bcs P dom=true):∀ (fuel t:Nat) (cells:List TyC) (cs:List Value) (x:DataW H×List MemPlace),dom.lookup t=some cells→
  DataW.trod enc P w base spare held fuel t cs=some x→Opens w dom cells cs:=by
 intro fuel
 induction fuel with
 | zero=>intro t cells cs x _ h;simp[DataW.trod] at h
 | succ n ih=>
  intro t cells cs x hl h;have hb:=List.all_eq_true.1 hd _ (a2b hl);simp only[a4n] at hb;split at hb
  ·rename_i ht
   have hc:cells=[.int]:=by simpa using hb
   obtain⟨a,rfl,wa⟩:=a4o ht h;subst hc;exact asj (v:=.int .i64 a) (by rw[afo];exact⟨a,rfl,wa⟩) rfl
  ·rename_i ht
   have hc:cells=[.str]:=by simpa using hb
   obtain⟨a,rfl,wa⟩:=a4p ht h;subst hc;exact asj (v:=.string a) (by rw[afo];exact⟨a,rfl,wa⟩) rfl
  ·rename_i ht
   have hc:cells=[.bool]:=by simpa using hb
   obtain⟨a,rfl⟩:=a2c ht h;subst hc;exact asj (v:=.bool a) (by rw[afo];exact⟨a,rfl⟩) rfl
  ·rename_i e ht
   simp only[Bool.and_eq_true,beq_iff_eq] at hb;obtain⟨hc,hb⟩:=hb;subst hc;cases hle:dom.lookup e with
   | none=>rw[hle] at hb;simp at hb
   | some ce=>
    rw[hle] at hb;simp only[Bool.and_eq_true,beq_iff_eq,Bool.not_eq_true'] at hb;obtain⟨hce,hne⟩:=hb;have henv:dom.env e=ce:=by simp[Dom.env,hle]
    have hpos:0 < ce.length:=by
     cases ce with
     | nil=>simp at hne
     | cons c ce=>simp
    rcases DataW.trod_slice ht h with ⟨hcs,_⟩|⟨a,len,cap,elems,rest,n',hn',hcs,_,_,hlc,hcm,hlen,hel,_,_⟩
    ·subst hcs
     refine⟨[.row ce.length []],⟨rfl,fun j d c hj hc=>?_⟩,⟨rfl,fun j d u hj hu=>?_⟩⟩
     ·cases j with
      | zero=>
       simp at hj hc;subst hj hc;rw[afo];exact⟨by rw[henv],by rw[aky];trivial⟩
      | succ j=>simp at hj
     ·cases j with
      | zero=>
       simp at hj hu;subst hj hu;rw[Rep];exact⟨none,0,0,rfl,by simp,Nat.zero_le _,fun h=>absurd h (by omega)⟩
      | succ j=>simp at hj
    ·subst hcs
     have hnn:n=n':=by omega
     subst hnn;rw[hce] at hel
     have hex:∀ i,i < len→∃ ds,ajk dom.env ds ce∧∃ cs',w.cells? base (a.add (i * ce.length)) ce.length=some cs'∧jq w w.heap.size ds cs':=by
      intro i hi;have h1:=hel i hi;rw[List.getElem?_eq_getElem (by omega)] at h1;obtain⟨cs',h2,h3⟩:=Option.bind_eq_some_iff.1 h1;obtain⟨ds,h4,h5⟩:=ih e ce cs' _ hle h3;exact⟨ds,h4,cs',h2,h5⟩
     have hD:∃ D:Nat→List PD,∀ i,i < len→ajk dom.env (D i) ce∧∃ cs',w.cells? base (a.add (i * ce.length)) ce.length=some cs'∧jq w w.heap.size (D i) cs':=
      ⟨fun i=>if h:i < len then Classical.choose (hex i h)else [],fun i hi=>by simp only[dif_pos hi];exact Classical.choose_spec (hex i hi)⟩
     obtain⟨D,hD⟩:=hD;have hDl:∀ i,i < len→(D i).length=ce.length:=fun i hi=>(hD i hi).1.1;have hfl:=flat_length hDl
     have ayf:∀ {j:Nat} {y:PD},((List.range len).flatMap D)[j]?=some y→j / ce.length < len∧j % ce.length < ce.length∧(D (j / ce.length))[j % ce.length]?=some y∧j / ce.length * ce.length+j % ce.length=j:=by
      intro j y hj;have h1:j < len * ce.length:=by rw[← hfl];exact(List.getElem?_eq_some_iff.1 hj).1
      have h2:j / ce.length < len:=Nat.div_lt_of_lt_mul (by rwa[Nat.mul_comm] at h1);have h3:=Nat.mod_lt j hpos;have h4:j / ce.length * ce.length+j % ce.length=j:=Nat.div_add_mod' j ce.length;refine⟨h2,h3,?_,h4⟩;rw[← flat_get hDl h2 h3,h4];exact hj
     refine⟨[.row ce.length ((List.range len).flatMap D)],⟨rfl,fun j d c hj hc=>?_⟩,⟨rfl,fun j d u hj hu=>?_⟩⟩
     ·cases j with
      | zero=>
       simp at hj hc;subst hj hc;rw[afo];refine⟨by rw[henv],ap4.2 fun j x hx=>?_⟩;obtain⟨h2,h3,h4,_⟩:=ayf hx;rw[henv,Nat.zero_add];exact⟨ce[j % ce.length],List.getElem?_eq_getElem h3,(hD _ h2).1.2 _ _ _ h4 (List.getElem?_eq_getElem h3)⟩
      | succ j=>simp at hj
     ·cases j with
      | zero=>
       simp at hj hu;subst hj hu;rw[Rep];refine⟨some a,len,cap,rfl,hfl,by omega,fun h0=>?_⟩;obtain⟨g,off,spot⟩:=a
       have cellAt:∀ i r,i < len→r < ce.length→∃ cs' u,jq w w.heap.size (D i) cs'∧cs'[r]?=some u∧w.cell? (((⟨g,off,spot⟩:Addr).add (i * ce.length)).add r)=some u:=by
        intro i r hi hr;obtain⟨cs',h1,h2⟩:=(hD i hi).2;obtain⟨_,hl',hc'⟩:=World.cells?_some h1;have:=hc' r hr;exact⟨cs',cs'[r]'(by omega),h2,List.getElem?_eq_getElem (by omega),by rw[this];exact List.getElem?_eq_getElem (by omega)⟩
       have hspot:spot=none:=by
        obtain⟨cs',u,_,_,hc⟩:=cellAt 0 0 h0 hpos;simpa [Addr.add] using World.cell?_spot hc
       subst hspot
       have hadd:∀ i r:Nat,((⟨g,off,none⟩:Addr).add i).add r=⟨g,off+(i+r),none⟩:=by
        intro i r;unfold Addr.add;split<;>split<;>simp_all<;>omega
       refine⟨g,off,rfl,?_,alj.2 fun j x hx=>?_⟩
       ·obtain⟨cs',u,_,_,hc⟩:=cellAt 0 0 h0 hpos
        have:=World.block_lt_of_cell? w _ hc;rw[hadd] at this;exact this
       ·obtain⟨h2,h3,h4,h5⟩:=ayf hx
        obtain⟨cs',u,hr,hu,hc⟩:=cellAt _ _ h2 h3;rw[hadd,h5] at hc;exact⟨u,hc,hr.2 _ _ _ h4 hu⟩
      | succ j=>simp at hj
  ·rename_i fs ht
   simp only[Bool.and_eq_true,beq_iff_eq] at hb;obtain⟨hc,hB⟩:=hb;obtain⟨xs,n',hn',_,hlen,hxl,hf⟩:=DataW.trod_struct ht h;have hnn:n=n':=by omega
   subst hnn
   have:=ar0 (P:=P) (w:=w) (enc:=enc) (base:=base) (spare:=spare) (held:=held) (cs:=cs) ih fs.toList 0 cells hB (by omega) fun f hf'=>by
    obtain⟨i,hi,rfl⟩:=List.getElem_of_mem hf';have hi':i < fs.size:=by simpa using hi
    have:=hf i fs[i] (Array.getElem?_eq_getElem hi');rw[List.getElem?_eq_getElem (by omega)] at this;exact⟨_,this⟩
   rwa[List.drop_zero,List.take_of_length_le (by omega)] at this
  ·simp at hb
end
section
variable {env:Nat→List TyC}
theorem asl {d:PD} (h:afo env d .int):∃ n:Int,d=.lit (.int .i64 n)∧(Lit.int .i64 n).wf=true:=by
 cases d with
 | lit v=>rw[afo] at h;obtain⟨n,rfl,hw⟩:=h;exact⟨n,rfl,hw⟩
 | row sz xs=>simp[afo] at h
theorem asn {d:PD} (h:afo env d .str):∃ s:ByteArray,d=.lit (.string s)∧s.size≤maxLen:=by
 cases d with
 | lit v=>rw[afo] at h;obtain⟨n,rfl,hw⟩:=h;exact⟨n,rfl,hw⟩
 | row sz xs=>simp[afo] at h
theorem ava {d:PD} {e:Nat} (h:afo env d (.sl e)):∃ xs:List PD,d=.row (env e).length xs∧∀ (j:Nat) (x:PD),xs[j]?=some x→∃ c,(env e)[j % (env e).length]?=some c∧afo env x c:=by
 cases d with
 | lit v=>rw[afo] at h;exact h.elim
 | row sz xs=>
  rw[afo] at h;obtain⟨rfl,h⟩:=h;exact⟨xs,rfl,fun j x hx=>by have:=ap4.1 h j x hx;rwa[Nat.zero_add] at this⟩
end
theorem ar1 {H:Type} {enc:TypeId×Value→H} {P:Program} {w:World} {base b0:Nat} {spare:Nat→Bool} {held:Bool} {r:Reach} {v:Value} {d:DataW H} {ps:List MemPlace} {dom:Dom} {t:Nat} {fs:Array Field} {cells:List TyC}
  (hs:P.underlying t=some (.struct fs)) (hd:bcs P dom=true) (hl:dom.lookup t=some cells)
  (hv:Value.okWide P w r b0 t v) (h:DataW.Trod enc P w base spare held t v d ps):∃ cs,v=.agg cs.toArray∧Opens w dom cells cs:=by
 obtain⟨cs,rfl,_⟩:=okWide_struct hs hv;obtain⟨fuel,hf⟩:=h;exact⟨cs.toList,by simp,a4q hd fuel t cells _ _ hl (by simpa [Value.cells] using hf)⟩
end Go.Proofs.YtfpannkadjdnaaaGreatDoor
