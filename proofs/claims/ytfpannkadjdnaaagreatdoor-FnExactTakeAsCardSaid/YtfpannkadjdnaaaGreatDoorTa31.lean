/-
  A row of structs that a call makes by append, element by element. No program in sight. (and 1 more texts)
-/
import Derived.Test.YtfpannkadjdnaaaGreatDoorTa29
import Derived.Test.YtfpannkadjdnaaaGreatDoorTa15
import Derived.Deep.AppendLies
import Derived.Test.YtfpannkadjdnaaaGreatDoorTa23
import Derived.Test.YtfpannkadjdnaaaGreatDoorTa30
import Derived.Test.YtfpannkadjdnaaaGreatDoorTa06
import Derived.Test.YtfpannkadjdnaaaGreatDoorTa14
namespace Go.Proofs.YtfpannkadjdnaaaGreatDoor
open Go.RowKit
set_option linter.all false
theorem a2r (w:World) (row:Option Nat):w.grownBy w row:=⟨rfl,rfl,rfl,zql _,fun _ _ _=>rfl⟩
def Grow (w wr:World) (lo:Nat) (e:TypeId) (sz n:Nat) (v:Value) (ds:List PD) (cs:List Value) (F:List Nat):Prop:=
 wr.ownsRow lo e sz v n cs∧ni wr ds cs F∧In F lo wr.heap.size∧(∀ g,v.ownBlock=some g→g ∉ F)∧Below w.heap.size w wr∧w.heap.size≤lo∧lo≤wr.heap.size
section
variable {w wr w1 w2 w3:World} {e:TypeId} {lo sz n m:Nat} {v v':Value} {ds es:List PD} {cs us:List Value} {F F2:List Nat}
theorem Grow.none_ (h:Below w.heap.size w wr):Grow w wr wr.heap.size e sz 0 (.slice none 0 0) [] [] []:=
 ⟨World.ownsRow_nil wr wr.heap.size e sz,ni.nil _,In.nil _ _,fun g hg=>by simp,h,h.size,zql _⟩
theorem Grow.step (h:Grow w wr lo e sz n v ds cs F) (hb:Below wr.heap.size wr w1):Grow w w1 lo e sz n v ds cs F:=by
 obtain⟨h1,h2,h3,h4,h5,h6,h7⟩:=h;exact⟨axa h1 hb,ni.keep ds cs F h2 fun g hg=>hb.block g (h3.2 g hg).2,h3.more (zql _) hb.size,h4,h5.trans (hb.mono h5.size),h6,Nat.le_trans h7 hb.size⟩
theorem Grow.set (h:Grow w wr lo e sz n v ds cs F) {p:Addr} (hp:p.block < lo) (hw:w.heap.size≤p.block) (u:Value):Grow w (wr.setCell p u) lo e sz n v ds cs F:=by
 obtain⟨h1,h2,h3,h4,h5,h6,h7⟩:=h;refine⟨⟨h1.1,?_⟩,ni.keep ds cs F h2 fun g hg=>Below.heap_setCell wr p u g (by have:=(h3.2 g hg).1;omega),by simpa [World.setCell] using h3,h4,h5.setCell hw u,h6,by simpa [World.setCell] using h7⟩;rcases h1.2 with h|⟨g,cap,cur,rfl,hbb,hh,hr⟩
 ·exact .inl h
 ·exact .inr ⟨g,cap,cur,rfl,hbb,(Below.heap_setCell wr p u g (by omega)).trans hh,hr⟩
theorem Grow.next (h:Grow w wr lo e sz n v ds cs F) (hb1:Below wr.heap.size wr w1)
  (hh:ni w1 es us F2) (hi:In F2 wr.heap.size w1.heap.size) (hb2:Below w1.heap.size w1 w2) (hown:w3.ownsRow lo e sz v' (n+m) (cs ++us)) (hgrow:w2.grownBy w3 v.ownBlock)
  (hat:v'.ownBlock=v.ownBlock∨v'.ownBlock=some w2.heap.size):Grow w w3 lo e sz (n+m) v' (ds ++es) (cs ++us) (F ++F2):=by
 obtain⟨h1,h2,h3,h4,h5,h6,h7⟩:=h;have s1:=hb1.size;have s2:=hb2.size;have s3:=hgrow.size;have s5:=h5.size;have hv:∀ g,v.ownBlock=some g→lo≤g∧g < wr.heap.size:=fun g hg=>h1.lt g hg
 have k1:∀ g ∈ F,w3.heap[g]?=wr.heap[g]?:=fun g hg=>by
  have:=h3.2 g hg;rw[hgrow.block g (by omega) (fun hne=>h4 g hne.symm hg),hb2.block g (by omega),hb1.block g (by omega)]
 have k2:∀ g ∈ F2,w3.heap[g]?=w1.heap[g]?:=fun g hg=>by
  have:=hi.2 g hg;rw[hgrow.block g (by omega) (fun hne=>by have:=hv g hne.symm;omega),hb2.block g (by omega)]
 refine⟨hown,(ni.keep ds cs F h2 k1).append (ni.keep es us F2 hh k2),(h3.append hi (zql _) (by omega) (by omega)).more (zql _) (by omega),fun g hg hm=>?_,?_,h6,by omega⟩
 ·rcases List.mem_append.1 hm with hm|hm
  ·rcases hat with hat|hat
   ·exact h4 g (hat ▸ hg) hm
   ·have h6:g=w2.heap.size:=by rw[hat] at hg;exact(Option.some.inj hg).symm
    have:=h3.2 g hm;omega
  ·have h7:=hi.2 g hm
   rcases hat with hat|hat
   ·have:=hv g (hat ▸ hg);omega
   ·have h6:g=w2.heap.size:=by rw[hat] at hg;exact(Option.some.inj hg).symm
    omega
 ·exact((h5.trans (hb1.mono s5)).trans (hb2.mono (by omega))).grown hgrow (by omega) (fun g hg=>by have:=(hv g hg).1;omega)
theorem Grow.done (h:Grow w wr lo e sz n v ds cs F):Lv wr lo wr.heap.size (.row sz ds) v:=by
 obtain⟨h1,h2,h3,h4,h5,h6,h7⟩:=h;have hlen:=h2.length;rcases h1.2 with ⟨rfl,rfl⟩|⟨g,cap,cur,rfl,hbg,hg,hnc,hcm,hcs,ht⟩
 ·have hl:ds.length=0 * sz:=by rw[← hlen,h1.1]
  exact⟨[],by rw[Hold];exact⟨none,0,0,rfl,hl,zql _,by decide,.inl ⟨rfl,rfl⟩⟩,In.nil _ _,zql _⟩
 ·have hl:ds.length=n * sz:=by rw[← hlen,h1.1]
  have hgl:g < wr.heap.size:=(Array.getElem?_eq_some_iff.1 hg).1;by_cases h0:n=0
  ·exact⟨[],by rw[Hold];exact⟨_,n,cap,rfl,hl,hnc,hcm,.inl ⟨h0,rfl⟩⟩,In.nil _ _,zql _⟩
  ·have hget:∀ (j:Nat) (u:Value),cs[j]?=some u→cur[0+j]?=some u:=fun j u hu=>by
    rw[← ht,List.getElem?_take] at hu;split at hu
    ·simpa using hu
    ·cases hu
   refine⟨g ::F,by rw[Hold];exact⟨_,n,cap,rfl,hl,hnc,hcm,.inr ⟨by omega,g,0,F,cs,rfl,rfl,⟨cur,e,hg,hget⟩,h2⟩⟩,⟨List.nodup_cons.2 ⟨h4 g rfl,h3.1⟩,fun b hb=>?_⟩,zql _⟩;rcases List.mem_cons.1 hb with rfl|hb
   ·exact⟨hbg,hgl⟩
   ·exact h3.2 b hb
end
def ado (w:World) (src:Value) (size m:Nat) (news:List Value):Prop:=
 (∃ c,src=.slice none 0 c∧m=0∧news=[])∨∃ ad c,src=.slice (some ad) m c∧news.length=m * size∧∀ j u,news[j]?=some u→w.cell? (ad.add j)=some u
section
variable {P:Program} {w:World}
theorem ap2 (base:Nat) (t ty e:TypeId) (i:TypeInfo) (size c:Nat) (ht:P.underlying t=some (.slice e)) (hi:P.info? e=some i)
  (v:Value) (n:Nat) (xs:List Value) (hown:w.ownsRow base e size v n xs):
  (Builtin.append_ #[t,t] ty #[v,.slice none 0 c]).run P w=.ok v w:=by
 rcases hown.2 with ⟨rfl,rfl⟩|⟨g,cap,cur,rfl,_,_,hnc,_⟩
 ·simp[Builtin.append_,run_underlying ht,sizeOf,typeInfo,hi,Builtin.lenOf,Builtin.firstCells]
 ·simp[Builtin.append_,run_underlying ht,sizeOf,typeInfo,hi,Builtin.lenOf,Builtin.firstCells,hnc,storeCells]
theorem awg (base:Nat) (t ty e:TypeId) (i:TypeInfo) (z:Value) (size bytes:Nat) (ht:P.underlying t=some (.slice e)) (hi:P.info? e=some i) (hz:i.zero=some z)
  (hsize:i.size=size) (hby:i.bytes=bytes) (hzs:z.cells.size=size) (hsz:0 < size)
  (v:Value) (n:Nat) (xs:List Value) (hown:w.ownsRow base e size v n xs) (src:Value) (m:Nat) (news:List Value) (hsrc:ado w src size m news) (h1:∀ u ∈ news,u.oneCell'=true)
  (h63:n+m≤maxLen) (hbytes:(n+m) * bytes≤140737488355328) (hbase:base≤w.heap.size):
  ∃ v' w',(Builtin.append_ #[t,t] ty #[v,src]).run P w=.ok v' w'∧w'.ownsRow base e size v' (n+m) (xs ++news)∧w.grownBy w' v.ownBlock∧(v'.ownBlock=v.ownBlock∨v'.ownBlock=some w.heap.size):=by
 rcases hsrc with ⟨c,rfl,rfl,rfl⟩|⟨ad,c,rfl,hl,hnews⟩
 ·exact⟨v,w,ap2 base t ty e i size c ht hi v n xs hown,by simpa using hown,a2r _ _,.inl rfl⟩
 ·obtain⟨v',w',hr,h2,h3,_,h5⟩:=run_append_own_at (P:=P) w base t ty e i z size bytes ht hi hz hsize hby hzs hsz v n xs hown ad m c news hl hnews h1 h63 hbytes hbase
  exact⟨v',w',hr,h2,h3,h5⟩
theorem ax4 {o:Oper} {a:Act} {K:Act→World→Prop} {Q:Exit→Act→World→Prop} (s x:Operand) (t:TypeId)
  (ho:o.op=.call {callee:=.builtin .append,args:=#[s,x],argTypes:=#[t,t]})
  (base:Nat) (e:TypeId) (i:TypeInfo) (z:Value) (size bytes:Nat) (ht:P.underlying t=some (.slice e)) (hi:P.info? e=some i) (hz:i.zero=some z)
  (hsize:i.size=size) (hby:i.bytes=bytes) (hzs:z.cells.size=size) (hsz:0 < size)
  (v:Value) (n:Nat) (xs:List Value) (hs:a.eval s=v) (hown:w.ownsRow base e size v n xs)
  (src:Value) (m:Nat) (news:List Value) (hx:a.eval x=src) (hsrc:ado w src size m news) (h1:∀ u ∈ news,u.oneCell'=true)
  (h63:n+m≤maxLen) (hbytes:(n+m) * bytes≤140737488355328) (hbase:base≤w.heap.size)
  (h:∀ v' w',w'.ownsRow base e size v' (n+m) (xs ++news)→w.grownBy w' v.ownBlock→(v'.ownBlock=v.ownBlock∨v'.ownBlock=some w.heap.size)→K (a.put o.dst v') w'):o.wp P a w K Q:=by
 obtain⟨v',w',hr,h2,h3,h4⟩:=awg (P:=P) (w:=w) base t o.type e i z size bytes ht hi hz hsize hby hzs hsz v n xs hown src m news hsrc h1 h63 hbytes hbase;unfold Oper.wp execOp;simp only[ho,resolve,invoke,builtin,Sem.run_bind,Sem.run_pure,Result.andThen_ok,List.map_toArray,List.map_cons,List.map_nil,hs,hx,hr];exact h v' w' h2 h3 h4
theorem su {ops:Array Oper} {o:Oper} {a:Act} {K:Act→World→Prop} {Q:Exit→Act→World→Prop} {E:Prop} (hgd:o.guard=none) (s x:Operand) (t:TypeId)
  (ho:o.op=.call {callee:=.builtin .append,args:=#[s,x],argTypes:=#[t,t]})
  (base:Nat) (e:TypeId) (i:TypeInfo) (z:Value) (size bytes:Nat) (ht:P.underlying t=some (.slice e)) (hi:P.info? e=some i) (hz:i.zero=some z)
  (hsize:i.size=size) (hby:i.bytes=bytes) (hzs:z.cells.size=size) (hsz:0 < size)
  (v:Value) (n:Nat) (xs:List Value) (hs:a.eval s=v) (hown:w.ownsRow base e size v n xs)
  (src:Value) (m:Nat) (news:List Value) (hx:a.eval x=src) (hsrc:ado w src size m news) (h1:∀ u ∈ news,u.oneCell'=true)
  (h63:n+m≤maxLen) (hbytes:(n+m) * bytes≤140737488355328) (hbase:base≤w.heap.size)
  (h:∀ v' w',w'.ownsRow base e size v' (n+m) (xs ++news)→w.grownBy w' v.ownBlock→(v'.ownBlock=v.ownBlock∨v'.ownBlock=some w.heap.size)→K (a.put o.dst v') w'):if Region.wanted o (yielded ops a.tmps)=true then Oper.wp P o a w K Q else E:=by
 have hw:Region.wanted o (yielded ops a.tmps)=true:=by simp[Region.wanted,hgd]
 rw[if_pos hw];exact ax4 s x t ho base e i z size bytes ht hi hz hsize hby hzs hsz v n xs hs hown src m news hx hsrc h1 h63 hbytes hbase h
end
end Go.Proofs.YtfpannkadjdnaaaGreatDoor
namespace Go.Proofs.YtfpannkadjdnaaaGreatDoor
open Go.RowKit
set_option linter.all false
set_option maxRecDepth 16000
def agn (fid:Nat) (n:Nat):Prop:=∀ (v:Val) (a b:Ty) (B:Nat) (cs ds es:List Value) (w:World),B≤w.heap.size→OkT n a→OkT n b→PD.wfL (Val.pd v)→uq n v a=true→agr n a b→jq w B (Val.pd v) cs→jq w B (Ty.pd a) ds→jq w B (Ty.pd b) es→
 Calls Tryz.prog fid #[.agg cs.toArray,.agg ds.toArray,.agg es.toArray] w fun e w'=>∃ us,e=.returned (.agg us.toArray)∧LvC w' w.heap.size w'.heap.size (Val.pd (ru n a b v)) us∧Below w.heap.size w w'
theorem abg (k n:Int) (s:ByteArray) (A:Option Addr) (m c:Nat):∀ u ∈ [Value.int .i64 k,Value.int .i64 n,Value.string s,Value.slice A m c],u.oneCell'=true:=by
 intro u hu;simp only[List.mem_cons,List.not_mem_nil,or_false] at hu;rcases hu with rfl|rfl|rfl|rfl<;>rfl
theorem ak9 {w wr:World} {B g off k lo a0 a1 a2 a3:Nat} {vs:List Val} {kind num:Int} {text:ByteArray} {kids:List Val} (hb:Below lo w wr) (hlo:B≤lo) (hg:g < B)
  (hcell:∀ (k j:Nat) (t:Val) (x:PD),vs[k]?=some t→(Val.pd t)[j]?=some x→∃ u,w.cell? ⟨g,off+(k * 4+j),none⟩=some u∧Rep w B x u) (hx:vs[k]?=some ⟨kind,num,text,kids⟩)
  (ha:a0=off+k * 4∧a1=off+k * 4+1∧a2=off+k * 4+2∧a3=off+k * 4+3):
  ∃ kV,wr.cell? ⟨g,a0,none⟩=some (.int .i64 kind)∧wr.cell? ⟨g,a1,none⟩=some (.int .i64 num)∧wr.cell? ⟨g,a2,none⟩=some (.string text)∧wr.cell? ⟨g,a3,none⟩=some kV∧Rep wr B (.row 4 (kids.flatMap Val.pd)) kV:=by
 obtain⟨rfl,rfl,rfl,rfl⟩:=ha;have c0:=ng hb (by omega) (hcell k 0 _ _ hx (by rw[Val.ji];rfl));have c1:=ng hb (by omega) (hcell k 1 _ _ hx (by rw[Val.ji];rfl));have c2:=ng hb (by omega) (hcell k 2 _ _ hx (by rw[Val.ji];rfl));obtain⟨kV,c3,hr3⟩:=xq hb (by omega) hlo (hcell k 3 _ _ hx (by rw[Val.ji];rfl));exact⟨kV,c0,c1,c2,c3,hr3⟩
theorem abd.few {n:Nat} {ak bk:Int} {an bn:ByteArray} {al bl:List ByteArray} {aks bks:List Ty} {vn:Int} {vks:List Val} (h:abd n ak an al aks bk bn bl bks vn vks) (h16:¬ ak=16):vks.length≤16:=by
 have e:=aic h.kids;rw[← e];by_cases h12:ak=12
 ·subst h12
  obtain⟨s,rfl⟩:=aoy (ade (.inl rfl) (shF h.sa).right);rw[amb,List.length_replicate];omega
 by_cases h15:ak=15
 ·subst h15
  have:=asz (shF h.sa).right;rw[agz (.inl rfl)];omega
 have hu:∀ o:Option Ty,(ag9 o).length≤1:=fun o=>by
  cases o with
  | none=>simp[ag9]
  | some t=>rw[ag9];split<;>simp
 rw[og,if_neg h12,if_neg (by omega)];split
 ·have:=hu (caseT ak vn aks);omega
 ·simp
theorem abd.lab {n:Nat} {ak bk:Int} {an bn:ByteArray} {al bl:List ByteArray} {aks bks:List Ty} {vn:Int} {vks:List Val} (h:abd n ak an al aks bk bn bl bks vn vks) (hk:ak=17∨ak=18):
  ∃ (k i:Nat) (l:ByteArray),vn=(k:Int)∧al[k]?=some l∧aav (strEq l) bl=(i:Int)∧aah ak al bl vn=(i:Int):=by
 have hb:=abm.1 ((aie hk _ _).symm.trans h.num);obtain⟨k,rfl⟩:∃ k:Nat,vn=(k:Int):=⟨vn.toNat,by omega⟩;have hk2:k < al.length:=by omega
 have hl:al[k]?=some al[k]:=List.getElem?_eq_getElem hk2;rcases ai8 h.may with ⟨h1,h2⟩|⟨rfl,_,hw⟩
 ·rcases hk with rfl|rfl<;>exact absurd h1 (by decide)
 ·obtain⟨i,hi,hil⟩:=avy (by omega) hw k _ hl
  refine⟨k,i,_,rfl,hl,hi,?_⟩;rw[aah,if_pos hk,a2i,Int.toNat_natCast,hl];exact hi
theorem auy {name:ByteArray} {labels:List ByteArray} {kids:List Ty} (h:Ty.shapes ⟨19,name,labels,kids⟩=true):labels.Nodup:=by
 rw[Ty.shapes,Bool.and_eq_true] at h;have h1:((if named 19 then abh name else decide (name.size=0)) && (if inB 19 16 19 then aaj labels else decide (labels.length=0)) && jk 19 labels.length kids)=true:=h.1;simp only[Bool.and_eq_true] at h1;have h2:=h1.1.2;rw[if_pos (by decide),aaj,Bool.and_eq_true] at h2;exact of_decide_eq_true h2.2
theorem az0 {n:Nat} (h:n≤16):(2:Int) ^ n≤65536:=by
 rcases(show n=0∨n=1∨n=2∨n=3∨n=4∨n=5∨n=6∨n=7∨n=8∨n=9∨n=10∨n=11∨n=12∨n=13∨n=14∨n=15∨n=16 by omega)with rfl|rfl|rfl|rfl|rfl|rfl|rfl|rfl|rfl|rfl|rfl|rfl|rfl|rfl|rfl|rfl|rfl<;>decide
theorem abd.flags {n:Nat} {bk:Int} {an bn:ByteArray} {al bl:List ByteArray} {aks bks:List Ty} {vn:Int} {vks:List Val} (h:abd n 19 an al aks bk bn bl bks vn vks):alq al bl:=by
 rcases ai8 h.may with ⟨h1,h2⟩|⟨rfl,_,hw⟩
 ·exact absurd h1 (by decide)
 ·exact avy (.inr (.inr rfl)) hw
theorem az1 (n:Int):bits .and .i64 n 1=n % 2:=by
 have h1:(BitVec.ofInt 64 1).toNat=2 ^ 1 - 1:=by decide
 have key:(BitVec.ofInt 64 n &&& BitVec.ofInt 64 1).toNat=(n % ((2 ^ 64:Nat):Int)).toNat % 2 ^ 1:=by
  rw[BitVec.toNat_and,BitVec.toNat_ofInt,h1,Nat.and_two_pow_sub_one_eq_mod]
 show IntKind.i64.wrap ((BitVec.ofInt 64 n &&& BitVec.ofInt 64 1).toNat:Nat)=n % 2;rw[key,IntKind.wrap_i64];omega
theorem auz {ix:Nat} (h:ix < 16):0≤(2:Int) ^ ix∧(2:Int) ^ ix≤32768:=by
 rcases(show ix=0∨ix=1∨ix=2∨ix=3∨ix=4∨ix=5∨ix=6∨ix=7∨ix=8∨ix=9∨ix=10∨ix=11∨ix=12∨ix=13∨ix=14∨ix=15 by omega)with rfl|rfl|rfl|rfl|rfl|rfl|rfl|rfl|rfl|rfl|rfl|rfl|rfl|rfl|rfl|rfl<;>decide
theorem atf (al bl:List ByteArray) (m:Int) (k:Nat):(amz m k=1∧ae4 al bl m (k+1)=ae4 al bl m k+2 ^ aff al bl k)∨(amz m k=0∧ae4 al bl m (k+1)=ae4 al bl m k):=by
 have hb:amz m k=0∨amz m k=1:=by
  rw[amz];obtain⟨q,hq⟩:∃ q,m / 2 ^ k=q:=⟨_,rfl⟩;rw[hq];omega
 rcases hb with h|h
 ·right;exact⟨h,by rw[ae4,if_neg (by omega),Nat.add_zero]⟩
 ·left;exact⟨h,by rw[ae4,if_pos h]⟩
theorem a5w {al bl:List ByteArray} {m:Int} {k ix:Nat} (hfa:aff al bl k=ix) (hfree:(ae4 al bl m k).testBit ix=false) (hN:ae4 al bl m k < 65536) (hi:ix < 16):
  bits .or .i64 ((ae4 al bl m k:Nat):Int) (wrap64 (bits .and .i64 (m / 2 ^ k) 1 * 2 ^ ix))=((ae4 al bl m (k+1):Nat):Int):=by
 have hp:=auz hi;rw[az1,show m / 2 ^ k % 2=amz m k from rfl];rcases atf al bl m k with ⟨h1,h2⟩|⟨h1,h2⟩
 ·rw[h1,h2,hfa,Int.one_mul,IntWalk.wrap64_in _ ⟨by omega,by omega⟩,bo7 hN hi hfree]
  simp
 ·rw[h1,h2,Int.zero_mul,IntWalk.wrap64_in 0 ⟨by omega,by omega⟩,bdi _ hN]
def Kp (W0 W:World) (hi b:Nat):Prop:=∀ q:Addr,q.block < hi→q.block≠b→W.cell? q=W0.cell? q
theorem akw {w:World} {B lo:Nat} {ts:List Ty} {v:Value} (h:ag0 w B lo 4 (ts.flatMap Ty.pd) v):∃ A n c,v=.slice A n c∧n=ts.length∧n≤maxLen∧(0 < n→∃ g off,A=some ⟨g,off,none⟩∧(g < B∨lo≤g)∧g < w.heap.size∧
  ∀ (k j:Nat) (t:Ty) (x:PD),ts[k]?=some t→(Ty.pd t)[j]?=some x→∃ u,w.cell? ⟨g,off+(k * 4+j),none⟩=some u∧Rep w B x u):=by
 obtain⟨A,n,c,rfl,h1,h2,h3⟩:=h;rw[abx Ty.ay] at h1;refine⟨A,n,c,rfl,by omega,h2,fun h0=>?_⟩;obtain⟨g,off,rfl,hg,hgl,hr⟩:=h3 h0;refine⟨g,off,rfl,hg,hgl,fun k j t x hk hj=>?_⟩;have hjs:j < 4:=by rw[← Ty.ay t];exact(List.getElem?_eq_some_iff.1 hj).1
 exact hr (k * 4+j) x (by rw[adn Ty.ay hk hjs];exact hj)
theorem tyX {w W:World} {B hi b g off k a0 a1 a2 a3:Nat} {ts:List Ty} {kind:Int} {name:ByteArray} {labels:List ByteArray} {kids:List Ty} (hk:Kp w W hi b) (hb:B≤b) (hbh:b < hi) (hg:g < hi) (hgb:g≠b)
  (hcell:∀ (k j:Nat) (t:Ty) (x:PD),ts[k]?=some t→(Ty.pd t)[j]?=some x→∃ u,w.cell? ⟨g,off+(k * 4+j),none⟩=some u∧Rep w B x u) (hx:ts[k]?=some ⟨kind,name,labels,kids⟩)
  (e:a0=off+k * 4∧a1=off+k * 4+1∧a2=off+k * 4+2∧a3=off+k * 4+3):
  ∃ lV kV,W.cell? ⟨g,a0,none⟩=some (.int .i64 kind)∧W.cell? ⟨g,a1,none⟩=some (.string name)∧W.cell? ⟨g,a2,none⟩=some lV∧W.cell? ⟨g,a3,none⟩=some kV∧Rep W B (.row 1 (labels.flatMap aam)) lV∧Rep W B (.row 4 (kids.flatMap Ty.pd)) kV:=by
 obtain⟨rfl,rfl,rfl,rfl⟩:=e;have hkp:∀ p:Addr,p.block < B→W.cell? p=w.cell? p:=fun p hp=>hk p (by omega) (by omega);obtain⟨u0,h0,r0⟩:=hcell k 0 _ _ hx (by rw[Ty.ji];rfl);obtain⟨u1,h1,r1⟩:=hcell k 1 _ _ hx (by rw[Ty.ji];rfl);obtain⟨lV,h2,r2⟩:=hcell k 2 _ _ hx (by rw[Ty.ji];rfl);obtain⟨kV,h3,r3⟩:=hcell k 3 _ _ hx (by rw[Ty.ji];rfl);obtain rfl:=r0.ab2;obtain rfl:=r1.ab2;exact⟨lV,kV,(hk _ hg hgb).trans h0,(hk _ hg hgb).trans h1,(hk _ hg hgb).trans h2,(hk _ hg hgb).trans h3,Rep.keep hkp _ _ r2,Rep.keep hkp _ _ r3⟩
end Go.Proofs.YtfpannkadjdnaaaGreatDoor
