/-
  The reference's well-formed modules: l15ImportAt, l15CoreAt, l15Core, l15Shape.
  A module while it is read: its rows are the call's own, each with a block of its own. No program in sight.
  A range over a function whose iterator keeps what is left in a box of its own. No program in sight.
-/
import Derived.Test.YtlpcocfadppkhaaGreatDoorRa06
import Derived.Test.YtlpcocfadppkhaaGreatDoorRa02
import Derived.Test.YtlpcocfadppkhaaGreatDoorRa12
import Derived.Test.YtlpcocfadppkhaaGreatDoorRa08
import Derived.RangeFuncNested
import Derived.RangeFuncBound
import Derived.RangeFuncCalls
import Derived.RangeFuncLeaves
import Derived.Below
namespace Go.Proofs.YtlpcocfadppkhaaGreatDoor
open Go.RowKit
set_option linter.unusedVariables false
set_option linter.unusedSimpArgs false
set_option linter.unnecessarySimpa false
theorem aum {name:ByteArray} {params:Int} {result:Bool} (h:PD.wfL (Imp.pd ⟨name,params,result⟩)):name.size≤maxLen:=by
 rw[Imp.aj] at h
 simp only[PD.wfL,PD.wf] at h
 exact h.1
theorem arh {name:ByteArray} {params locals:Int} {result:Bool} {code:List Ins} (h:PD.wfL (Core.pd ⟨name,params,locals,result,code⟩)):name.size≤maxLen:=by
 rw[Core.aj] at h
 simp only[PD.wfL,PD.wf] at h
 exact h.1
theorem aun {pages:Int} {imports:List Imp} {cores:List Core} (h:PD.wfL (Mod.pd ⟨pages,imports,cores⟩)):(∀ x ∈ imports,PD.wfL (Imp.pd x))∧∀ c ∈ cores,PD.wfL (Core.pd c):=by
 rw[Mod.aj] at h
 simp only[PD.wfL,PD.wf] at h
 exact⟨abd.1 h.2.1,abd.1 h.2.2.1⟩
set_option maxHeartbeats 1600000 in
theorem ai4 (x:ByteArray) {B:Nat} {v:Value} {ts:List Imp} {w:World} (h:Rep w B (.row 3 (ts.flatMap Imp.pd)) v):
  Calls Tryz.prog 28 #[v,.string x] w fun e w'=>e=.returned (.int .i64 (oz (fun y=>decide (y.name=x)) ts))∧w=w':=by
 obtain⟨A,n,c,rfl,hnl,hm,hat⟩:=jr Imp.au (by decide) h
 unfold maxLen at hm
 have HN:=Lib.hid hnl
 clear h hnl
 go_enter Tryz.func28,Tryz.ntmps28
 go_wp2_with fail
 go_loop [5] (fun i=>∃ k:Nat,k≤n∧i=.int .i64 k∧Hid (∀ (j:Nat) (t:Imp),j < k→ts[j]?=some t→(fun y:Imp=>decide (y.name=x)) t=false)) (fun i=>n - (intOf i).toNat)
 case atStart=>exact⟨0,Nat.zero_le _,rfl,Lib.hid fun j t h=>absurd h (by omega)⟩
 case round=>
  obtain⟨k,hk,rfl,HP⟩:=hrel
  have hbr:=Below.refl B w
  by_cases hlt:k < n
  ·obtain⟨g,off,rfl,hg,hcell⟩:=hat (by omega)
   obtain⟨t,hx,hmem⟩:=l7 HN.out hlt
   obtain⟨name,params,result⟩:=t
   have abm:w.cell? ⟨g,off+k * 3,none⟩=some (.string name):=ak hbr (by omega) (hcell k 0 _ _ hx (by rw[Imp.aj];rfl))
   have HX:=Lib.hid hx
   have HM:=Lib.hid hmem
   clear hx hmem
   clear hcell
   by_cases hb:name=x
   ·have HI:Hid (oz (fun y:Imp=>decide (y.name=x)) ts=(k:Int)):=aeh HP.out HX.out (by simp[hb])
    subst hb
    go_wp2_with fail
    go_ret
    exact⟨qg HI.out.symm,rfl⟩
   ·have hs:(name.toList ==x.toList)=false:=aa4 hb
    have HB:=Lib.hid (abk HP.out HX.out (by simp[hb]))
    clear hb
    go_wp2_with fail
    go_round
    case rel=>exact⟨k+1,by omega,by go_num,HB⟩
    case measure=>simp[intOf];omega
  ·have hkn:k=n:=by omega
   subst hkn
   have HI:Hid (oz (fun y:Imp=>decide (y.name=x)) ts=-1):=ads fun j t ht=>HP.out j t (by have:=(List.getElem?_eq_some_iff.1 ht).1;have:=HN.out;omega) ht
   go_wp2_with fail
   go_ret
   exact⟨qg HI.out.symm,rfl⟩
set_option maxHeartbeats 1600000 in
theorem ak4 (x:ByteArray) {B:Nat} {v:Value} {ts:List Core} {w:World} (h:Rep w B (.row 5 (ts.flatMap Core.pd)) v):
  Calls Tryz.prog 30 #[v,.string x] w fun e w'=>e=.returned (.int .i64 (oz (fun y=>decide (y.name=x)) ts))∧w=w':=by
 obtain⟨A,n,c,rfl,hnl,hm,hat⟩:=jr Core.au (by decide) h
 unfold maxLen at hm
 have HN:=Lib.hid hnl
 clear h hnl
 go_enter Tryz.func30,Tryz.ntmps30
 go_wp2_with fail
 go_loop [5] (fun i=>∃ k:Nat,k≤n∧i=.int .i64 k∧Hid (∀ (j:Nat) (t:Core),j < k→ts[j]?=some t→(fun y:Core=>decide (y.name=x)) t=false)) (fun i=>n - (intOf i).toNat)
 case atStart=>exact⟨0,Nat.zero_le _,rfl,Lib.hid fun j t h=>absurd h (by omega)⟩
 case round=>
  obtain⟨k,hk,rfl,HP⟩:=hrel
  have hbr:=Below.refl B w
  by_cases hlt:k < n
  ·obtain⟨g,off,rfl,hg,hcell⟩:=hat (by omega)
   obtain⟨t,hx,hmem⟩:=l7 HN.out hlt
   obtain⟨name,params,locals,result,code⟩:=t
   have abm:w.cell? ⟨g,off+k * 5,none⟩=some (.string name):=ak hbr (by omega) (hcell k 0 _ _ hx (by rw[Core.aj];rfl))
   have HX:=Lib.hid hx
   have HM:=Lib.hid hmem
   clear hx hmem
   clear hcell
   by_cases hb:name=x
   ·have HI:Hid (oz (fun y:Core=>decide (y.name=x)) ts=(k:Int)):=aeh HP.out HX.out (by simp[hb])
    subst hb
    go_wp2_with fail
    go_ret
    exact⟨qg HI.out.symm,rfl⟩
   ·have hs:(name.toList ==x.toList)=false:=aa4 hb
    have HB:=Lib.hid (abk HP.out HX.out (by simp[hb]))
    clear hb
    go_wp2_with fail
    go_round
    case rel=>exact⟨k+1,by omega,by go_num,HB⟩
    case measure=>simp[intOf];omega
  ·have hkn:k=n:=by omega
   subst hkn
   have HI:Hid (oz (fun y:Core=>decide (y.name=x)) ts=-1):=ads fun j t ht=>HP.out j t (by have:=(List.getElem?_eq_some_iff.1 ht).1;have:=HN.out;omega) ht
   go_wp2_with fail
   go_ret
   exact⟨qg HI.out.symm,rfl⟩
set_option maxHeartbeats 1600000 in
theorem am9 (t:Core) {B:Nat} {cs:List Value} {w:World} (hB:B≤w.heap.size) (hwf:PD.wfL (Core.pd t)) (h:jd w B (Core.pd t) cs):
  Calls Tryz.prog 29 #[.agg cs.toArray] w fun e w'=>e=.returned (.bool (jv t.name && yt t))∧Below w.heap.size w w':=by
 obtain⟨name,params,locals,result,code⟩:=t
 have hs:=arh hwf
 obtain⟨R,hR⟩:∃ R:Bool,R=(jv name && yt ⟨name,params,locals,result,code⟩):=⟨_,rfl⟩
 have hR':=hR
 rw[yt] at hR'
 simp only at hR'
 rw[show(jv (Core.mk name params locals result code).name && yt ⟨name,params,locals,result,code⟩)=R from hR.symm]
 have HR:=Lib.hid hR'
 clear hR hR'
 obtain⟨yj,rfl,qy⟩:=Core.open_ h
 have yu:=Lib.hid qy
 clear qy
 obtain⟨A,n,c,rfl,hnl,hm,hat⟩:=jr Ins.au (by decide) yu.out
 unfold maxLen at hm
 have HN:=Lib.hid hnl
 clear h hnl hwf
 go_enter Tryz.func29,Tryz.ntmps29
 go_wp2_with fail
 obtain⟨w0,hw0⟩:∃ W,W=w.alloc (.cells #[.string name,.int .i64 params,.int .i64 locals,.bool result,.slice A n c] 36):=⟨_,rfl⟩
 rw[← hw0]
 have bA:Blk w0 w.heap.size 36 #[.string name,.int .i64 params,.int .i64 locals,.bool result,.slice A n c]:=by rw[hw0];exact Blk.new w _ _
 have hB0:Below w.heap.size w w0:=by rw[hw0];exact(Below.refl _ _).alloc (Nat.le_refl _) _
 clear hw0
 have ana:w0.cell? ⟨w.heap.size,0,none⟩=some (.string name):=bA.cell 0
 have anb:w0.cell? ⟨w.heap.size,1,none⟩=some (.int .i64 params):=bA.cell 1
 have akn:w0.cell? ⟨w.heap.size,2,none⟩=some (.int .i64 locals):=bA.cell 2
 have a0w:w0.cell? ⟨w.heap.size,4,none⟩=some (.slice A n c):=bA.cell 4
 try go_wp2_with fail
 refine(ag4 name hs _).mono ?_
 rintro e w1 ⟨rfl,rfl⟩
 cases hw:jv name
 ·have HF:Hid (R=false):=by show _=_;rw[HR.out,hw,Bool.false_and]
  go_wp2_with fail
  go_ret
  exact⟨dn HF.out.symm,hB0⟩
 go_wp2_with fail
 refine(adt _ _ _ _).mono ?_
 rintro e w1 ⟨rfl,rfl⟩
 cases hp:inB params 0 8
 ·have HF:Hid (R=false):=by show _=_;rw[HR.out,hw,hp];rfl
  go_wp2_with fail
  go_ret
  exact⟨dn HF.out.symm,hB0⟩
 go_wp2_with fail
 refine(adt _ _ _ _).mono ?_
 rintro e w1 ⟨rfl,rfl⟩
 cases hl:inB locals 0 8
 ·have HF:Hid (R=false):=by show _=_;rw[HR.out,hw,hp,hl];rfl
  go_wp2_with fail
  go_ret
  exact⟨dn HF.out.symm,hB0⟩
 by_cases hn:n≤120
 case neg=>
  have HF:Hid (R=false):=by show _=_;rw[HR.out,hw,hp,hl,decide_eq_false (by have:=HN.out;omega)];rfl
  go_wp2_with fail
  go_ret
  exact⟨dn HF.out.symm,hB0⟩
 have HF:Hid (R=!code.any fun i=>!af0 i):=by show _=_;rw[HR.out,hw,hp,hl,decide_eq_true (by have:=HN.out;omega)];rfl
 clear hw hp hl HR
 go_wp2_with fail
 go_loopw [3] (fun i wr=>∃ k:Nat,k≤n∧i=.int .i64 k∧Hid (∀ (j:Nat) (t:Ins),j < k→code[j]?=some t→(fun i=>!af0 i) t=false)∧Below w0.heap.size w0 wr) (fun i _=>n - (intOf i).toNat)
 case atStart=>exact⟨0,Nat.zero_le _,rfl,Lib.hid fun j t h=>absurd h (by omega),Below.refl _ _⟩
 case round=>
  obtain⟨k,hk,rfl,HP,hbr⟩:=hrel
  have hsz:=hbr.size
  have hBr:=hB0.trans (hbr.mono hB0.size)
  have bR:=bA.step hbr
  have b4:wr.cell? ⟨w.heap.size,4,none⟩=some (.slice A n c):=bR.cell 4
  by_cases hlt:k < n
  ·obtain⟨g,off,rfl,hg,hcell⟩:=hat (by omega)
   obtain⟨t,hx,hmem⟩:=l7 HN.out hlt
   obtain⟨op,a⟩:=t
   have hbw:Below w.heap.size w wr:=hBr
   have c_op:wr.cell? ⟨g,off+k * 2,none⟩=some (.int .i64 op):=ak hbw (by omega) (hcell k 0 _ _ hx (by rw[Ins.aj];rfl))
   have c_a:wr.cell? ⟨g,off+k * 2+1,none⟩=some (.int .i64 a):=ak hbw (by omega) (hcell k 1 _ _ hx (by rw[Ins.aj];rfl))
   have HX:=Lib.hid hx
   clear hx hmem hcell
   go_wp2_with fail
   refine(afg op a _).mono ?_
   rintro e w1 ⟨rfl,hb1⟩
   have ahf:=hbr.trans (hb1.mono hbr.size)
   cases hb:gy op a
   ·have HF2:Hid (R=false):=by show _=_;rw[HF.out,akq HX.out (by simp[af0,hb])];rfl
    go_wp2_with fail
    go_ret
    exact⟨dn HF2.out.symm,hB0.trans (ahf.mono hB0.size)⟩
   ·have HQ:=Lib.hid (abk HP.out HX.out (by simp[af0,hb]))
    go_wp2_with fail
    go_roundw
    case rel=>exact⟨k+1,by omega,by go_num,HQ,ahf⟩
    case measure=>simp[intOf];omega
  ·have hkn:k=n:=by omega
   have HF2:Hid (R=true):=by show _=_;rw[HF.out,any_none (by have:=HN.out;omega) HP.out];rfl
   subst hkn
   go_wp2_with fail
   go_ret
   exact⟨dn HF2.out.symm,hBr⟩
def aqb (cs:List Value):Prop:=∀ A n c,Value.slice A n c ∈ cs→n≤c
theorem avw {w:World} {lo hi:Nat} {pages:Int} {imports:List Imp} {cores:List Core} {us:List Value} (h:LvC w lo hi (Mod.pd ⟨pages,imports,cores⟩) us):aqb us:=by
 obtain⟨F,h,_⟩:=h
 rw[Mod.aj,ah] at h
 obtain⟨c1,cs1,F1,F2,rfl,_,h1,h⟩:=h
 rw[ah] at h
 obtain⟨c2,cs2,F3,F4,rfl,_,h2,h⟩:=h
 rw[ah] at h
 obtain⟨c3,cs3,F5,F6,rfl,_,h3,h⟩:=h
 rw[ah] at h
 obtain⟨rfl,_⟩:=h
 obtain⟨rfl,_⟩:=Hold.uo h1
 rw[Hold] at h2 h3
 obtain⟨A2,n2,e2,rfl,_,k2,_⟩:=h2
 obtain⟨A3,n3,e3,rfl,_,k3,_⟩:=h3
 intro A n c hm
 simp only[List.mem_cons,List.not_mem_nil,or_false] at hm
 rcases hm with hm|hm|hm
 ·cases hm
 ·cases hm;exact k2
 ·cases hm;exact k3
theorem ad4 {s:ByteArray} {b:Bool} {w:World} (hs:s.size≤maxLen) (h:jv s=b):Calls Tryz.prog 27 #[.string s] w fun e w'=>e=.returned (.bool b)∧w'=w:=by
 rw[← h]
 exact(ag4 s hs w).mono fun e w' q=>⟨q.1,q.2.symm⟩
theorem ak5 {n lo hi:Int} {b:Bool} {w:World} (h:inB n lo hi=b):Calls Tryz.prog 26 #[.int .i64 n,.int .i64 lo,.int .i64 hi] w fun e w'=>e=.returned (.bool b)∧w'=w:=by
 rw[← h]
 exact(adt n lo hi w).mono fun e w' q=>⟨q.1,q.2.symm⟩
theorem afv {x:ByteArray} {i:Int} {B:Nat} {v:Value} {ts:List Imp} {w:World} (h:Rep w B (.row 3 (ts.flatMap Imp.pd)) v) (hi:oz (fun y=>decide (y.name=x)) ts=i):
  Calls Tryz.prog 28 #[v,.string x] w fun e w'=>e=.returned (.int .i64 i)∧w'=w:=by
 rw[← hi]
 exact(ai4 x h).mono fun e w' q=>⟨q.1,q.2.symm⟩
theorem ahg {x:ByteArray} {i:Int} {B:Nat} {v:Value} {ts:List Core} {w:World} (h:Rep w B (.row 5 (ts.flatMap Core.pd)) v) (hi:oz (fun y=>decide (y.name=x)) ts=i):
  Calls Tryz.prog 30 #[v,.string x] w fun e w'=>e=.returned (.int .i64 i)∧w'=w:=by
 rw[← hi]
 exact(ak4 x h).mono fun e w' q=>⟨q.1,q.2.symm⟩
structure ac4 where
 t:TypeId
 sz:Nat
 v:Value
 n:Nat
 cs:List Value
def ac4.ok (W:World) (lo:Nat) (r:ac4):Prop:=W.ownsRow lo r.t r.sz r.v r.n r.cs
def Apart (a b:ac4):Prop:=∀ g,a.v.ownBlock=some g→b.v.ownBlock≠some g
theorem Apart.symm {a b:ac4} (h:Apart a b):Apart b a:=fun g hb ha=>h g ha hb
def jl (lo:Nat) (W:World) (rs:List ac4):Prop:=(∀ r ∈ rs,r.ok W lo)∧rs.Pairwise Apart
section
variable {lo:Nat} {W W':World} {rs L R:List ac4} {r r':ac4}
theorem jl.get (h:jl lo W rs) (hr:r ∈ rs):r.ok W lo:=h.1 r hr
theorem jl.step (h:jl lo W rs) (hb:Below W.heap.size W W'):jl lo W' rs:=⟨fun r hr=>acf (h.1 r hr) hb,h.2⟩
theorem adg (h:r.ok W lo) (hk:∀ g,r.v.ownBlock=some g→W'.heap[g]?=W.heap[g]?):r.ok W' lo:=by
 refine⟨h.1,?_⟩
 rcases h.2 with h0|⟨g,cap,cur,hv,hb,hh,hrest⟩
 ·exact .inl h0
 ·exact .inr ⟨g,cap,cur,hv,hb,(hk g (by rw[hv];rfl)).trans hh,hrest⟩
theorem jl.kept (h:jl lo W rs) (hk:∀ r ∈ rs,∀ g,r.v.ownBlock=some g→W'.heap[g]?=W.heap[g]?):jl lo W' rs:=⟨fun r hr=>adg (h.1 r hr) (hk r hr),h.2⟩
theorem jl.far (h:jl lo W rs) {p:Addr} (hp:p.block < lo) (u:Value):jl lo (W.setCell p u) rs:=
 h.kept fun r hr g hg=>Below.heap_setCell W p u g (by have:=((h.1 r hr).lt g hg).1;omega)
theorem ape {x:ac4}:x ∈ L ++r ::R↔x ∈ L∨x=r∨x ∈ R:=by simp
theorem agh:(L ++r ::R).Pairwise Apart↔(L ++R).Pairwise Apart∧(∀ x ∈ L ++R,Apart r x):=by
 rw[List.pairwise_append,List.pairwise_cons,List.pairwise_append]
 constructor
 ·rintro⟨h1,⟨h2,h3⟩,h4⟩
  refine⟨⟨h1,h3,fun a ha b hb=>h4 a ha b (by simp[hb])⟩,fun x hx=>?_⟩
  rcases List.mem_append.1 hx with hx|hx
  ·exact(h4 x hx r (by simp)).symm
  ·exact h2 x hx
 ·rintro⟨⟨h1,h3,h4⟩,h5⟩
  refine⟨h1,⟨fun x hx=>h5 x (by simp[hx]),h3⟩,fun a ha b hb=>?_⟩
  rcases List.mem_cons.1 hb with rfl|hb
  ·exact(h5 a (by simp[ha])).symm
  ·exact h4 a ha b hb
theorem jl.grow (h:jl lo W (L ++r ::R)) (hg:W.grownBy W' r.v.ownBlock) (hr:r'.ok W' lo) (hat:r'.v.ownBlock=r.v.ownBlock∨r'.v.ownBlock=some W.heap.size):jl lo W' (L ++r' ::R):=by
 obtain⟨h1,h2⟩:=h
 rw[agh] at h2
 refine⟨fun x hx=>?_,agh.2 ⟨h2.1,fun x hx g hg1 hg2=>?_⟩⟩
 ·rcases ape.1 hx with hx|rfl|hx
  ·exact adg (h1 x (by simp[hx])) fun g hgx=>hg.block g ((h1 x (by simp[hx])).lt g hgx).2 fun e=>h2.2 x (by simp[hx]) g e.symm hgx
  ·exact hr
  ·exact adg (h1 x (by simp[hx])) fun g hgx=>hg.block g ((h1 x (by simp[hx])).lt g hgx).2 fun e=>h2.2 x (by simp[hx]) g e.symm hgx
 ·rcases hat with hat|hat
  ·exact h2.2 x hx g (hat ▸ hg1) hg2
  ·rw[hat] at hg1
   have:g=W.heap.size:=(Option.some.inj hg1).symm
   have hx2:x ∈ L ++r ::R:=by rcases List.mem_append.1 hx with h|h<;>simp[h]
   have:=((h1 x hx2).lt g hg2).2
   omega
theorem jl.put (h:jl lo W (L ++r ::R)) {g m cap:Nat} (hv:r.v=.slice (some ⟨g,0,none⟩) m cap) {i:Nat} (hi:i < r.n * r.sz) (u:Value):
  jl lo (W.setCell ⟨g,i,none⟩ u) (L ++⟨r.t,r.sz,r.v,r.n,r.cs.set i u⟩ ::R):=by
 obtain⟨h1,h2⟩:=h
 rw[agh] at h2
 have hb:r.v.ownBlock=some g:=by rw[hv];rfl
 have hk:∀ x ∈ L ++R,x.ok (W.setCell ⟨g,i,none⟩ u) lo:=fun x hx=>by
  have hx2:x ∈ L ++r ::R:=by rcases List.mem_append.1 hx with h|h<;>simp[h]
  exact adg (h1 x hx2) fun k hgx=>Below.heap_setCell W _ u k fun e=>by
   have e:k=g:=e
   subst e
   exact h2.2 x hx k hb hgx
 refine⟨fun x hx=>?_,agh.2 ⟨h2.1,fun x hx=>h2.2 x hx⟩⟩
 rcases ape.1 hx with hx|rfl|hx
 ·exact hk x (by simp[hx])
 ·have ho:=h1 r (by simp)
  rcases ho.2 with ⟨h0,_⟩|⟨g2,cap2,cur,hv2,hbb,hh,hnc,hcm,hcs,ht⟩
  ·rw[hv] at h0;cases h0
  ·rw[hv] at hv2
   injection hv2 with e1 e2 e3
   have e1:g=g2:=by injection e1 with e1;injection e1
   subst e1 e2 e3
   have hlt:g < W.heap.size:=(Array.getElem?_eq_some_iff.1 hh).1
   refine⟨by simpa using ho.1,.inr ⟨g,cap,cur.setIfInBounds i u,hv,hbb,?_,hnc,hcm,by simpa using hcs,?_⟩⟩
   ·simp[World.setCell,Array.getElem?_modify,hh]
   ·rw[Array.toList_setIfInBounds,List.take_set,ht]
 ·exact hk x (by simp[hx])
theorem jl.axy (h:jl lo W rs) (t:TypeId) (sz:Nat):jl lo W (rs ++[⟨t,sz,.slice none 0 0,0,[]⟩]):=by
 refine⟨fun x hx=>?_,List.pairwise_append.2 ⟨h.2,by simp,fun a _ b hb g _ hgb=>?_⟩⟩
 ·rcases List.mem_append.1 hx with hx|hx
  ·exact h.1 x hx
  ·simp at hx
   subst hx
   exact World.ownsRow_nil W lo t sz
 ·simp at hb
  subst hb
  cases hgb
end
structure abn (b:Nat) (W W':World):Prop where
 os:W'.os=W.os
 tape:W'.tape=W.tape
 output:W'.output=W.output
 size:W.heap.size≤W'.heap.size
 block:∀ k,k≠b→k < W.heap.size→W'.heap[k]?=W.heap[k]?
theorem abn.refl (b:Nat) (W:World):abn b W W:=⟨rfl,rfl,rfl,Nat.le_refl _,fun _ _ _=>rfl⟩
theorem abn.trans {b:Nat} {X Y Z:World} (h:abn b X Y) (k:abn b Y Z):abn b X Z:=
 ⟨k.os.trans h.os,k.tape.trans h.tape,k.output.trans h.output,Nat.le_trans h.size k.size,fun i hi hl=>(k.block i hi (Nat.lt_of_lt_of_le hl h.size)).trans (h.block i hi hl)⟩
theorem abn.of_below {b:Nat} {W W':World} (h:Below W.heap.size W W'):abn b W W':=⟨h.os,h.tape,h.output,h.size,fun k _ hk=>h.block k hk⟩
theorem abn.setCell (W:World) (p:Addr) (u:Value):abn p.block W (W.setCell p u):=⟨rfl,rfl,rfl,by simp[World.setCell],fun k hk _=>Below.heap_setCell W p u k hk⟩
structure ady (lo b:Nat) (W W':World):Prop where
 os:W'.os=W.os
 tape:W'.tape=W.tape
 output:W'.output=W.output
 size:W.heap.size≤W'.heap.size
 block:∀ (k:Nat) (o:Obj),k≠b→W.heap[k]?=some o→(k < lo∨o.isCells=true)→W'.heap[k]?=some o
theorem abn.stay {b:Nat} {W W':World} (h:abn b W W') (lo:Nat):ady lo b W W':=
 ⟨h.os,h.tape,h.output,h.size,fun k o hk ho _=>(h.block k hk (Array.getElem?_eq_some_iff.1 ho).1).trans ho⟩
theorem ady.putObj {lo b l:Nat} {W:World} {o:Obj} (o':Obj) (hl:lo≤l) (ho:W.heap[l]?=some o) (hc:o.isCells=false):ady lo b W (W.putObj l o'):=
 ⟨rfl,rfl,rfl,by simp,fun k q hk hq hor=>by
  refine(World.putObj_heap_other fun e=>?_).trans hq
  subst e
  rcases hor with h|h
  ·omega
  ·rw[ho] at hq;cases hq;rw[hc] at h;cases h⟩
theorem ady.alloc {lo b:Nat} (W:World) (o:Obj):ady lo b W (W.alloc o):=(abn.of_below ((Below.refl _ W).alloc (Nat.le_refl _) o)).stay lo
def axz (lo b:Nat) (I:World→Prop) (W:World):Exit→Act→World→Prop
 | .normal,_,W'=>KeepsFrom lo W W'∧W'.heap[b]?=W.heap[b]?∧I W'
 | .ret,_,_=>False
 | .exit _,_,_=>False
 | .goto _,_,_=>False
 | .panic _,_,_=>False
 | .outgrown,_,_=>False
def ari {α:Type} (F:Fence) (n:Nat) (P:Program) (gf:Nat) (lb:Array Value) (encs:α→Array Value) (xs:List α) (b:Nat) (w:World):Prop:=
 ∀ (l:Nat) (J:List α→World→Prop) (W:World),Below w.heap.size w W→(∀ pre A B,J pre A→abn b A B→J pre B)→
  (∀ pre x W1,J pre W1→(pre ++[x]) <+:xs→YieldAt F (n - 1) P l (encs x) W1 fun e W'=>e=.returned (.bool true)∧J (pre ++[x]) W'∧W1.heap.size≤W'.heap.size∧W'.heap[b]?=W1.heap[b]?)→
  J [] W→CallsIn F n P gf (#[.func (.yield l) #[] #[]] ++lb) W fun e W'=>(∃ v,e=.returned v)∧J xs W'
theorem ax0 {α:Type} {F:Fence} {n:Nat} {P:Program} {g:Operand} {ps:Array Tmp} {assign body:Code} {Q:Exit→Act→World→Prop} {a:Act} {w:World}
  (hro:F.round=none) (h1:F.depth.isSome=true→1≤n) {gf:Nat} {lb:Array Value} (hg:a.eval g=.func (.func gf) #[] lb) (hFg:F.fn gf) (eg:∀ args w,(callFunc gf args).run P w=.ok (.enter gf args) w)
  {encs:α→Array Value} (hps:∀ x,(encs x).size=ps.size) {xs:List α} {b:Nat} (hb:b < w.heap.size) (hseq:ari F (n - 1) P gf lb encs xs b w)
  (I:List α→World→Prop) (hI:∀ pre A B,I pre A→ady w.heap.size b A B→I pre B) (h0:I [] w) (a₁:α→Act)
  (hassign:∀ (l:Nat) (x:α) (W:World) (K:Act→World→Prop),K (a₁ x) W→
   assign.wpIn (F.inRound l) (n - 1 - 1) P (Exit.then K (fun _ _ _=>False)) {tmps:=(ps.zip (encs x)).foldl (fun t (p,v)=>t.setIfInBounds p v) a.tmps,defers:=[]} W)
  (hbody:∀ (l:Nat) (pre:List α) (x:α) (W:World),I pre W→(pre ++[x]) <+:xs→body.wpIn (F.inRound l) (n - 1 - 1) P (axz w.heap.size b (I (pre ++[x])) W) (a₁ x) W)
  (hdone:∀ (D:Nat) (W:World),w.heap.size≤D→I xs W→W.heap[D]?=some (.deferred (some []))→Q .normal {a with defers:={target:=.collected D,args:=#[]} ::a.defers} W):
  (Code.rangeFunc g ps assign body).wpIn F n P Q a w:=by
 refine wpIn_rangeFunc ?_
 intro fn hfn
 rw[hro]
 obtain⟨rec,hrec⟩:∃ rec:LoopState→Option Code→Loop,rec=fun st pe=>{state:=st,pending:=pe,fn,tmps:=a.tmps,params:=ps,assign,body,defers:=w.heap.size}:=⟨_,rfl⟩
 obtain⟨W1,hW1⟩:∃ W1,(w.alloc (.deferred (some []))).alloc (.loop (rec .ready none))=W1:=⟨_,rfl⟩
 have hL1:W1.heap[w.heap.size+1]?=some (.loop (rec .ready none)):=by
  rw[← hW1];have:=World.alloc_heap_new (w.alloc (.deferred (some []))) (.loop (rec .ready none));rwa[World.size_alloc] at this
 have hK1:W1.heap[w.heap.size]?=some (.deferred (some [])):=by
  rw[← hW1];exact(Below.heap_alloc _ _ _ (by simp)).trans (World.alloc_heap_new w _)
 have hI1:I [] W1:=by rw[← hW1];exact hI _ _ _ (hI _ _ _ h0 (ady.alloc _ _)) (ady.alloc _ _)
 have hb1:Below w.heap.size w W1:=by
  rw[← hW1];exact((Below.refl _ w).alloc (Nat.le_refl _) _).alloc (by simp) _
 refine⟨w.heap.size+1,[{target:=.collected w.heap.size,args:=#[]}],W1,{target:=.fn (.func gf) lb,args:=#[.func (.yield (w.heap.size+1)) #[] #[]]},W1,gf,
  #[.func (.yield (w.heap.size+1)) #[] #[]] ++lb,W1,?_,?_,?_,?_,h1,?_⟩
 ·rw[← hW1,hrec];exact run_enterLoop_outer _ _ _ _ _
 ·simp only[resolve,hg]
  simp[go_sem]
 ·intro f' hf';simp[Target.leads] at hf';subst hf';exact hFg
 ·simp[invoke,go_sem,eg]
 ·refine(hseq (w.heap.size+1)
   (fun pre W=>I pre W∧W.heap[w.heap.size+1]?=some (.loop (rec .ready none))∧W.heap[w.heap.size]?=some (.deferred (some [])))
   W1 hb1
   (fun pre A B hs hAB=>⟨hI pre A B hs.1 (hAB.stay _),(hAB.block _ (by omega) (Array.getElem?_eq_some_iff.1 hs.2.1).1).trans hs.2.1,(hAB.block _ (by omega) (Array.getElem?_eq_some_iff.1 hs.2.2).1).trans hs.2.2⟩)
   ?_ ⟨hI1,hL1,hK1⟩).mono ?_
  ·rintro pre x W ⟨hi,hl,hk⟩ hlen
   have hlt:w.heap.size+1 < W.heap.size:=(Array.getElem?_eq_some_iff.1 hl).1
   have hy:=run_yield (P:=P) (args:=encs x) hl (by rw[hrec];exact hps x)
   rw[hrec] at hy
   refine⟨fn,_,assign,body,hy,roundIn_of_wpIn hfn (hassign _ x W _ ⟨_,run_beginRound hl (by rw[hrec]),?_⟩)⟩
   have hl2:(W.putObj (w.heap.size+1) (.loop {rec .ready none with state:=.busy})).heap[w.heap.size+1]?=some (.loop {rec .ready none with state:=.busy}):=World.putObj_heap_same hlt
   have hk2:(W.putObj (w.heap.size+1) (.loop {rec .ready none with state:=.busy})).heap[w.heap.size]?=some (.deferred (some [])):=(World.putObj_heap_other (by omega)).trans hk
   have hb2:(W.putObj (w.heap.size+1) (.loop {rec .ready none with state:=.busy})).heap[b]?=W.heap[b]?:=World.putObj_heap_other (by omega)
   refine wpIn_mono (hbody _ pre x _ (hI _ _ _ hi (ady.putObj _ (by omega) hl rfl)) hlen) ?_
   rintro e a3 W3 hp
   cases e with
   | normal=>
    obtain⟨hk3,hb3,hi3⟩:=hp
    have hl3:=hk3.same _ _ (by omega) hl2 rfl
    have hs3:=hk3.size
    have hr:=run_endRound (P:=P) none hl3
    rw[hrec] at hr
    refine⟨_,_,hr,rfl,⟨hI _ _ _ hi3 (ady.putObj _ (by omega) hl3 rfl),?_,?_⟩,by simpa using hs3,?_⟩
    ·rw[hrec];exact World.putObj_heap_same (Array.getElem?_eq_some_iff.1 hl3).1
    ·exact(World.putObj_heap_other (by omega)).trans (hk3.same _ _ (Nat.le_refl _) hk2 rfl)
    ·exact(World.putObj_heap_other (by omega)).trans (hb3.trans hb2)
   | ret=>exact hp.elim
   | exit id=>exact hp.elim
   | goto t=>exact hp.elim
   | panic ch=>exact hp.elim
   | outgrown=>exact hp.elim
  ·rintro e W2 ⟨⟨v,rfl⟩,hi,hl,hk⟩
   exact⟨none,_,by have:=run_endLoop (P:=P) hl (by rw[hrec];simp);rw[hrec] at this;exact this,hdone _ _ (Nat.le_refl _) (hI _ _ _ hi (ady.putObj _ (by omega) hl rfl)) ((World.putObj_heap_other (by omega)).trans hk)⟩
end Go.Proofs.YtlpcocfadppkhaaGreatDoor
