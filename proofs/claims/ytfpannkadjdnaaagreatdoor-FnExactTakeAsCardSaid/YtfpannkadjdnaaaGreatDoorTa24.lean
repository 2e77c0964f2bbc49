/-
  slices.Repeat at a row of one type (by program: gen_tkr.py).
-/
import Derived.Test.YtfpannkadjdnaaaGreatDoorTa23
import Derived.Test.YtfpannkadjdnaaaGreatDoorTa11
import Derived.Shelf.Bits.Mul64
import Derived.OrdersHeld
import Derived.Deep.RegionHeld3
namespace Go.Proofs.YtfpannkadjdnaaaGreatDoor
open Go.RowKit Go.Shelf
set_option linter.all false
set_option maxRecDepth 16000
def bta:Go.Shelf.Ren:=⟨fun
  | 212=>98|263=>112|264=>113|n=>n,fun
  | 46=>65|51=>122|53=>121|146=>123|148=>125|n=>n,fun
  n=>n⟩
set_option maxHeartbeats 4000000 in
theorem bpb:Lays.n212 Tryz.prog bta where
 mixed:=by kernel_rfl
 f212:=Tryz.func98.trans (congrArg some (by kernel_rfl))
 f263:=Tryz.func112.trans (congrArg some (by kernel_rfl))
 f264:=Tryz.func113.trans (congrArg some (by kernel_rfl))
 t46:=by kernel_rfl
 a46:=fun _=>by kernel_rfl
 z46:=fun _=>by kernel_rfl
 v46:=fun _=>by kernel_rfl
 t51:=by kernel_rfl
 a51:=fun _=>by kernel_rfl
 z51:=fun _=>by kernel_rfl
 v51:=fun _=>by kernel_rfl
 t53:=by kernel_rfl
 a53:=fun _=>by kernel_rfl
 z53:=fun _=>by kernel_rfl
 v53:=fun _=>by kernel_rfl
 t146:=by kernel_rfl
 a146:=fun _=>by kernel_rfl
 z146:=fun _=>by kernel_rfl
 v146:=fun _=>by kernel_rfl
 t148:=by kernel_rfl
 a148:=fun _=>by kernel_rfl
 z148:=fun _=>by kernel_rfl
 v148:=fun _=>by kernel_rfl
def aej (k:Nat) (X:List Value):List Value:=(List.replicate k X).flatten
theorem als (k:Nat) (X:List Value):(aej k X).length=k * X.length:=by
 induction k with
 | zero=>simp[aej]
 | succ k ih=>
  have:aej (k+1) X=X ++aej k X:=by rw[aej,List.replicate_succ,List.flatten_cons];rfl
  rw[this,List.length_append,ih,Nat.succ_mul,Nat.add_comm]
theorem azp (a b:Nat) (X:List Value):aej (a+b) X=aej a X ++aej b X:=by
 rw[aej,← List.replicate_append_replicate,List.flatten_append];rfl
theorem bdw (X:List Value):aej 1 X=X:=by simp[aej]
theorem bdx {k:Nat} {X:List Value} {v:Value} (h:v ∈ aej k X):v ∈ X:=by
 obtain⟨l,hl,hv⟩:=List.mem_flatten.1 h;rw[(List.mem_replicate.1 hl).2] at hv;exact hv
theorem a5q {a k:Nat} (h:a≤k) {X:List Value} (hX:X.length=4):(aej k X).take (a * 4)=aej a X:=by
 have e:aej k X=aej a X ++aej (k - a) X:=by rw[← azp,Nat.add_sub_cancel' h]
 have hl:a * 4=(aej a X).length:=by rw[als,hX]
 rw[e,hl,List.take_left]
theorem a05 {cur X:List Value} {k j m:Nat} (hX:X.length=4) (hl:cur.length=m * 4) (hk:cur.take (k * 4)=aej k X) (hj:k+j≤m):
  (cur.take (k * 4) ++aej j X ++cur.drop (k * 4+(aej j X).length)).length=m * 4∧(cur.take (k * 4) ++aej j X ++cur.drop (k * 4+(aej j X).length)).take ((k+j) * 4)=aej (k+j) X:=by
 have h1:(aej j X).length=j * 4:=by rw[als,hX]
 have h2:(aej k X).length=k * 4:=by rw[als,hX]
 refine⟨?_,?_⟩
 ·rw[hk,List.length_append,List.length_append,h1,h2,List.length_drop];omega
 ·have h3:(k+j) * 4=(aej k X ++aej j X).length:=by rw[List.length_append,h1,h2];omega
  rw[hk,h3,List.take_left,azp]
def as6 (W:World) (G m k:Nat) (X:List Value):Prop:=∃ cur:List Value,Blk W G 39 cur.toArray∧cur.length=m * 4∧cur.take (k * 4)=aej k X
theorem aw6 {W:World} {G m k:Nat} {X:List Value} (h:as6 W G m k X) (i:Nat) (v:Value) (hv:(aej k X)[i]?=some v) (hX:X.length=4):W.cell? ⟨G,i,none⟩=some v:=by
 obtain⟨cur,hb,hl,hk⟩:=h;have hi:i < k * 4:=by have:=(List.getElem?_eq_some_iff.1 hv).1;rw[als,hX] at this;exact this
 rw[hb.cell i,List.getElem?_toArray];rw[← hk,List.getElem?_take,if_pos hi] at hv;exact hv
theorem a5r (G o j:Nat):(⟨G,o,none⟩:Addr).add j=⟨G,o+j,none⟩:=by unfold Addr.add;split<;>simp_all
theorem bop {W:World} {G m k j:Nat} {X:List Value} (h:as6 W G m k X) (hX:X.length=4) (h1:∀ v ∈ X,v.oneCell'=true) (hj:k+j≤m) (ty:TypeId) (a:Addr) (sLen sCap dLen dCap:Nat) (hm:j=Nat.min sLen dLen)
  (hsrc:∀ i v,(aej j X)[i]?=some v→W.cell? (a.add i)=some v):
  ∃ W',(Builtin.copy_ #[37,37] ty #[.slice (some ⟨G,k * 4,none⟩) dLen dCap,.slice (some a) sLen sCap]).run Tryz.prog W=.ok (goInt j) W'∧as6 W' G m (k+j) X∧∀ B w0,Below B w0 W→B≤G→Below B w0 W':=by
 obtain⟨cur,hb,hl,hk⟩:=h;obtain⟨h2,h3⟩:=a05 (j:=j) hX hl hk hj;refine⟨_,axz W 37 37 ty 39 G (k * 4) dLen dCap a sLen sCap 4 j cur.toArray 39 (aej j X) Tryz.underlying37 (by kernel_rfl) hb hm (by rw[als,hX]) hsrc (by rw[als,hX];simp only[List.size_toArray];omega) (fun v hv=>h1 v (bdx hv)),⟨_,setRow_heap W G _ _ _ _ hb,?_,?_⟩,fun B w0 hB hG=>below_setRow hB hG _⟩
 ·simpa using h2
 ·simpa using h3
def ag0 (w:World) (B lo sz:Nat) (xs:List PD) (v:Value):Prop:=∃ A n c,v=.slice A n c∧xs.length=n * sz∧n≤maxLen∧(0 < n→∃ g off,A=some ⟨g,off,none⟩∧(g < B∨lo≤g)∧g < w.heap.size∧∀ (i:Nat) (x:PD),xs[i]?=some x→∃ q,w.cell? ⟨g,off+i,none⟩=some q∧Rep w B x q)
theorem ag0.rep {w:World} {B lo sz:Nat} {xs:List PD} {v:Value} (h:ag0 w B lo sz xs v) (hB:B≤w.heap.size):Rep w w.heap.size (.row sz xs) v:=by
 obtain⟨A,n,c,rfl,h1,h2,h3⟩:=h;rw[Rep];refine⟨_,_,_,rfl,h1,h2,fun hn=>?_⟩;obtain⟨g,off,rfl,_,hg,hc⟩:=h3 hn;exact⟨g,off,rfl,hg,alj.2 fun i x hx=>by obtain⟨q,h1,h2⟩:=hc i x hx;exact⟨q,h1,Rep.more hB x q h2⟩⟩
theorem ag0.a5s {w:World} {B lo sz:Nat} {xs:List PD} {v:Value} (h:Rep w B (.row sz xs) v) (hB:B≤w.heap.size):ag0 w B lo sz xs v:=by
 rw[Rep] at h;obtain⟨A,n,c,rfl,h1,h2,h3⟩:=h;exact⟨A,n,c,rfl,h1,h2,fun hn=>by obtain⟨g,off,e,hg,hr⟩:=h3 hn;exact⟨g,off,e,.inl hg,by omega,alj.1 hr⟩⟩
theorem ag0.nil {w:World} {B lo sz:Nat}:ag0 w B lo sz [] (.slice none 0 0):=⟨none,0,0,rfl,by simp,by unfold maxLen;omega,fun h=>absurd h (by omega)⟩
theorem ag0.low {w:World} {B lo lo' sz:Nat} {xs:List PD} {v:Value} (h:ag0 w B lo sz xs v) (hl:lo'≤lo):ag0 w B lo' sz xs v:=by
 obtain⟨A,n,c,rfl,h1,h2,h3⟩:=h;exact⟨A,n,c,rfl,h1,h2,fun hn=>by obtain⟨g,off,e,hg,hr⟩:=h3 hn;exact⟨g,off,e,hg.imp id fun q=>by omega,hr⟩⟩
theorem ag0.form {w:World} {B lo sz:Nat} {xs:List PD} {v:Value} (h:ag0 w B lo sz xs v):∃ A n c,v=.slice A n c:=by
 obtain⟨A,n,c,rfl,_⟩:=h;exact⟨_,_,_,rfl⟩
theorem bdy {W:World} {B G m lo:Nat} {kind:Int} {name:ByteArray} {labels:List ByteArray} {kids:List Ty} {lV kV:Value} (h:as6 W G m m [.int .i64 kind,.string name,lV,kV]) (hm:m≤8) (hB:B≤W.heap.size) (hr:jq W B (Ty.pd ⟨kind,name,labels,kids⟩) [.int .i64 kind,.string name,lV,kV]) (hlo:lo≤G):
  ag0 W B lo 4 (((List.replicate m (Ty.mk kind name labels kids)).flatMap Ty.pd)) (.slice (some ⟨G,0,none⟩) m m):=by
 have hG:G < W.heap.size:=by obtain⟨cur,hb,_⟩:=h;exact hb.lt
 have hpd:∀ k,(List.replicate k (Ty.mk kind name labels kids)).flatMap Ty.pd=(List.replicate k (Ty.pd ⟨kind,name,labels,kids⟩)).flatten:=fun k=>by
  induction k with
  | zero=>rfl
  | succ k ih=>rw[List.replicate_succ,List.flatMap_cons,ih,List.replicate_succ,List.flatten_cons]
 have hlen:∀ k,((List.replicate k (Ty.pd ⟨kind,name,labels,kids⟩)).flatten).length=k * 4:=fun k=>by
  induction k with
  | zero=>rfl
  | succ k ih=>rw[List.replicate_succ,List.flatten_cons,List.length_append,ih,Ty.ay];omega
 have hat:∀ (k i:Nat) (x:PD),((List.replicate k (Ty.pd ⟨kind,name,labels,kids⟩)).flatten)[i]?=some x→∃ u,(aej k [.int .i64 kind,.string name,lV,kV])[i]?=some u∧Rep W B x u:=fun k=>by
  induction k with
  | zero=>intro i x hx;simp at hx
  | succ k ih=>
   intro i x hx;have e:aej (k+1) [.int .i64 kind,.string name,lV,kV]=[.int .i64 kind,.string name,lV,kV] ++aej k [.int .i64 kind,.string name,lV,kV]:=by rw[aej,List.replicate_succ,List.flatten_cons];rfl
   rw[List.replicate_succ,List.flatten_cons] at hx;rw[e];have hl4:=Ty.ay ⟨kind,name,labels,kids⟩;by_cases hi:i < 4
   ·rw[List.getElem?_append_left (by omega)] at hx
    obtain⟨u,hu⟩:∃ u,([Value.int .i64 kind,.string name,lV,kV])[i]?=some u:=⟨_,List.getElem?_eq_getElem (by simpa using hi)⟩;exact⟨u,by rw[List.getElem?_append_left (by simpa using hi)];exact hu,hr.2 i x u hx hu⟩
   ·rw[List.getElem?_append_right (by omega),hl4] at hx
    obtain⟨u,hu,hru⟩:=ih _ x hx;exact⟨u,by rw[List.getElem?_append_right (by simp;omega)];simpa using hu,hru⟩
 refine⟨_,_,_,rfl,by rw[hpd,hlen],by unfold maxLen;omega,fun _=>⟨G,0,rfl,.inr hlo,hG,fun i x hx=>?_⟩⟩;rw[hpd] at hx;obtain⟨u,hu,hru⟩:=hat m i x hx;exact⟨u,by rw[Nat.zero_add];exact aw6 h i u hu rfl,hru⟩
set_option maxHeartbeats 1600000 in
theorem a2p (k0:Ty) (m:Nat) (hm:m≤8) {B:Nat} {v:Value} {w:World} (hB:B≤w.heap.size) (h:Rep w B (.row 4 ([k0].flatMap Ty.pd)) v):
  Calls Tryz.prog 77 #[v,.int .i64 m] w fun e w'=>∃ u,e=.returned u∧ag0 w' B w.heap.size 4 ((List.replicate m k0).flatMap Ty.pd) u∧Below w.heap.size w w':=by
 obtain⟨A,n,c,rfl,hnl,hmx,hat⟩:=bf Ty.ay (by decide) h;obtain rfl:n=1:=by simpa using hnl
 obtain⟨g,off,rfl,hg,hcell⟩:=hat (by omega);obtain⟨kind,name,labels,kids⟩:=k0;obtain⟨lV,kV,c0,c1,c2,c3,Rl,Rk⟩:=acs (k:=0) (a0:=off) (a1:=off+1) (a2:=off+2) (a3:=off+3) (Below.refl w.heap.size w) hg hB hcell (show [Ty.mk kind name labels kids][0]?=some _ from rfl) ⟨by omega,by omega,by omega,by omega⟩
 have hfl:lV.oneCell'=true∧kV.oneCell'=true:=by
  obtain⟨_,_,_,rfl⟩:=Rl.form;obtain⟨_,_,_,rfl⟩:=Rk.form;exact⟨rfl,rfl⟩
 obtain⟨X,hX⟩:∃ X:List Value,X=[.int .i64 kind,.string name,lV,kV]:=⟨_,rfl⟩;have HX:=zqd hX;have hX4:X.length=4:=by rw[hX];rfl
 have hX1:∀ v ∈ X,v.oneCell'=true:=by
  rw[hX];intro v hv;simp only[List.mem_cons,List.not_mem_nil,or_false] at hv;rcases hv with rfl|rfl|rfl|rfl
  ·rfl
  ·rfl
  ·exact hfl.1
  ·exact hfl.2
 have bdz:=zqd (fun(V:World) (hV:Below w.heap.size w V)=>Ty.close_ (kind:=kind) (name:=name) (Rl.below (hV.mono hB)) (Rk.below (hV.mono hB)))
 have abf:Hid (∀ V,Below w.heap.size w V→∀ i v,X[i]?=some v→V.cell? ((⟨g,off,none⟩:Addr).add i)=some v):=zqd fun V hV i v hv=>by
  rw[a5r];refine(hV.cell (p:=⟨g,off+i,none⟩) (by simp only;omega)).trans ?_;rw[hX] at hv
  match i,hv with
  | 0,hv=>cases hv;exact c0
  | 1,hv=>cases hv;exact c1
  | 2,hv=>cases hv;exact c2
  | 3,hv=>cases hv;exact c3
  | i+4,hv=>simp at hv
 have HX4:=zqd hX4;have HX1:=zqd hX1
 obtain⟨i0,hi,hz⟩:∃ i,Tryz.prog.info? 39=some i∧i.zero=some (.agg #[.int .i64 0,.string {data:=#[]},.slice none 0 0,.slice none 0 0])∧i.size=4∧i.bytes=72:=by
  have hq:(Tryz.prog.info? 39).map (fun i=>(i.zero,i.size,i.bytes))=some (some (.agg #[.int .i64 0,.string {data:=#[]},.slice none 0 0,.slice none 0 0]),4,72):=by kernel_rfl
  cases hinfo:Tryz.prog.info? 39 with
  | none=>rw[hinfo] at hq;cases hq
  | some i=>
   rw[hinfo] at hq;simp only[Option.map_some,Option.some.injEq,Prod.mk.injEq] at hq;exact⟨i,rfl,hq.1,hq.2.1,hq.2.2⟩
 obtain⟨hz0,hz1,hz2⟩:=hz;have hmk:=ajz (P:=Tryz.prog) 37 39 i0 _ Tryz.underlying37 hi hz0 .i64 .i64 m m (zql _) (by rw[hz2];omega) (by omega) w;have bd0:=zqd (Any.bits_Mul bpb 1 m (by omega) (by omega) w);have em1:1 * m / 18446744073709551616=0:=by omega
 have em2:1 * m % 18446744073709551616=m:=by omega
 rw[em1,em2] at bd0;have HI1:=zqd hz1;obtain⟨G,hG⟩:∃ G,G=w.heap.size:=⟨_,rfl⟩;obtain⟨w1,hw1⟩:∃ V,V=w.alloc (.cells (madeCells (Value.cells (.agg #[.int .i64 0,.string {data:=#[]},.slice none 0 0,.slice none 0 0])) (m * i0.size)) 39):=⟨_,rfl⟩;have hB1:=zqb hw1
 have HF0:as6 w1 G m 0 X:=by
  refine⟨(madeCells (Value.cells (.agg #[.int .i64 0,.string {data:=#[]},.slice none 0 0,.slice none 0 0])) (m * i0.size)).toList,?_,?_,by simp[aej]⟩
  ·rw[hw1,hG,Array.toArray_toList];exact Blk.new w _ _
  ·rw[Array.length_toList,size_madeCells,HI1.out]
 obtain⟨j,hj⟩:∃ j,j=Nat.min 1 m:=⟨_,rfl⟩
 have hj1:j≤m∧j≤1∧(m=0∨1≤j):=by
  have h1:j=min 1 m:=hj;omega
 obtain⟨w2,hc,HF2,hk2⟩:=bop (k:=0) (j:=j) HF0 HX4.out HX1.out (by omega) 3 ⟨g,off,none⟩ 1 c m m hj (fun i v hv=>by
  refine abf.out w1 hB1 i v ?_;rcases Nat.eq_zero_or_pos j with h0|h0
  ·rw[h0] at hv;simp[aej] at hv
  ·rw[show j=1 by omega,bdw] at hv;exact hv)
 rw[Nat.zero_mul] at hc;rw[Nat.zero_add] at HF2;have hB2:=hk2 _ _ hB1 (by omega);have HFH:=zqd HF2;have HW1:=zqd hw1;have HJ:=zqd hj1;have HG:=zqd hG;rw[← hw1,← hG] at hmk;clear h hnl hmx hat hcell c0 c1 c2 c3 Rl Rk hX hfl HF0 hk2 HF2 hj hj1 hz1 hz2 hX1 hX4 em1 em2 hw1 hG;go_enter Tryz.func77,Tryz.ntmps77
 go_wp2_with fail
 refine bd0.out.mono ?_;rintro e w' ⟨rfl,rfl⟩;go_wp2_with fail
 clear hc hmk;go_loopw [8] (fun i wr=>∃ k:Nat,k≤m∧(m=0∨1≤k)∧i=.int .i64 k∧Hid (as6 wr G m k X)∧Below w'.heap.size w' wr) (fun i _=>m - (intOf i).toNat)
 case atStart=>exact⟨j,HJ.out.1,HJ.out.2.2,by go_num,HFH,hB2⟩
 case round=>
  obtain⟨k,hk,hk1,rfl,HF,hbr⟩:=hrel;have hsr:=hbr.size;by_cases hlt:k < m
  case neg=>
   obtain rfl:k=m:=by omega
   have HR:Hid (ag0 wr B w'.heap.size 4 ((List.replicate k (Ty.mk kind name labels kids)).flatMap Ty.pd) (.slice (some ⟨G,0,none⟩) k k)):=by
    show ag0 _ _ _ _ _ _;have h1:=HF.out;rw[HX.out] at h1;exact bdy h1 hm (Nat.le_trans hB hsr) (bdz.out wr hbr) (Nat.le_of_eq HG.out.symm)
   go_wp2_with fail
   go_ret
   exact⟨_,rfl,HR.out,hbr⟩
  obtain⟨q,hq⟩:∃ q,q=Nat.min k (m - k):=⟨_,rfl⟩
  have hq1:1≤q∧q≤k∧k+q≤m:=by
   have h1:q=min k (m - k):=hq;omega
  have HFD:as6 wr.drew G m k X:=HF.out
  obtain⟨w3,hc,HF3,hk3⟩:=bop (k:=k) (j:=q) HFD HX4.out HX1.out hq1.2.2 3 ⟨G,0,none⟩ k m (m - k) (m - k) hq (fun i v hv=>by
   rw[a5r,Nat.zero_add];refine aw6 HFD i v ?_ HX4.out;have h1:=a5q hq1.2.1 HX4.out;rw[← h1,List.getElem?_take] at hv;split at hv
   ·exact hv
   ·cases hv)
  have hB3:=hk3 _ _ hbr.drew (by have:=HG.out;omega);have HF4:=zqd HF3;have HQ:=zqd hq1;have bym:((m:Int) - (k:Int)).toNat=m - k:=by omega
  have byn:¬ m=k:=by omega
  have bdp:(k:Int)≤(m:Int):=by omega
  have hkq:IntKind.i64.wrap ((k:Int)+(q:Int))=((k+q:Nat):Int):=(IntWalk.i64_in _ (by omega)).trans (by omega);have byo:wrap64 ((k:Int)+(q:Int))=((k+q:Nat):Int):=by unfold wrap64;omega
  clear HFD hk3 HF3 hq hq1;go_wp2_with fail
  refine wp_region_held_drew (S:=(fun _=>True)) (by kernel_rfl) trivial (fun hHeld=>?_);refine zqx 0 ?_;refine zqx 1 ?_;refine zqx 2 ?_;refine zqx 3 ?_;refine zqx 4 ?_;refine zqx 5 ?_;refine zqx 6 ?_;refine zqr 7 fun K hK=>?_;go_simp;refine hK.out _ _ (by first|exact trivial|go_keep) (fun hHeld=>?_);clear hK K;try simp only[Act.put,zs1,zs2,zs3]
  refine zqx 8 ?_;refine zqx 9 ?_;refine wpAnyH_done (by kernel_rfl) ?_ _;go_wp2_with fail
  go_roundw
  case rel=>exact⟨k+q,HQ.out.2.2,.inr (Nat.le_trans HQ.out.1 (Nat.le_add_left _ _)),by go_num,HF4,hB3⟩
  case measure=>
   have h1:=HQ.out;clear HQ hc hkq byo byn bym bdp bd0;simp[intOf];exact Nat.sub_lt_sub_left (Nat.lt_of_lt_of_le (Nat.lt_add_of_pos_right h1.1) h1.2.2) (Nat.lt_add_of_pos_right h1.1)
end Go.Proofs.YtfpannkadjdnaaaGreatDoor
