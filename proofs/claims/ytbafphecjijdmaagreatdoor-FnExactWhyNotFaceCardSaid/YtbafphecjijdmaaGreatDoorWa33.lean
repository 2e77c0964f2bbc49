/-
  Function types are copied (the reference: l03OwnFunc; by program: gen_ownf.py).
-/
import Derived.Test.YtbafphecjijdmaaGreatDoorWa32
namespace Go.Proofs.YtbafphecjijdmaaGreatDoor
open Go.RowKit
set_option linter.unusedVariables false
set_option linter.unusedSimpArgs false
set_option linter.unnecessarySimpa false
set_option maxRecDepth 16000
theorem atg (s:ByteArray) (k:Int) (s2:ByteArray) (A A':Option Addr) (n n' c c':Nat):∀ u ∈ [Value.string s,Value.int .i64 k,Value.string s2,Value.slice A n c,Value.slice A' n' c'],u.oneCell'=true:=by
 intro u hu
 simp only[List.mem_cons,List.not_mem_nil,or_false] at hu
 rcases hu with rfl|rfl|rfl|rfl|rfl<;>rfl
theorem LvC.mix {w:World} {lo hi lo1 hi1 lo2 hi2:Nat} {d1:PD} {v1:Value} {ds:List PD} {us:List Value} (k1:Lv w lo1 hi1 d1 v1) (k2:LvC w lo2 hi2 ds us) (h:hi1≤lo2∨hi2≤lo1) (hl1:lo≤lo1) (hl2:lo≤lo2) (hh1:hi1≤hi) (hh2:hi2≤hi) (hh:hi≤w.heap.size):LvC w lo hi (d1 ::ds) (v1 ::us):=by
 obtain⟨F1,a1,a2,a3⟩:=k1
 obtain⟨F2,b1,b2,b3⟩:=k2
 refine⟨F1 ++F2,uj.cons a1 b1,⟨?_,fun g hg=>?_⟩,hh⟩
 ·refine List.nodup_append.2 ⟨a2.1,b2.1,fun x hx y hy e=>?_⟩
  have:=a2.2 x hx
  have:=b2.2 y hy
  omega
 ·rcases List.mem_append.1 hg with hg|hg
  ·have:=a2.2 g hg;omega
  ·have:=b2.2 g hg;omega
set_option maxHeartbeats 12800000 in
theorem a5a (f:jh):ToC 93 (jh.pd f):=by
 intro B cs w hB hsz h
 obtain⟨params,⟨bg,cu,jv,mg⟩,async⟩:=f
 obtain⟨ad3,oq,ug,rfl,adu,aaf,aaw⟩:=jh.open_ h
 have af5:=Lib.hid adu
 clear adu
 have ab9:=Lib.hid aaf
 clear aaf
 have ac6:=Lib.hid aaw
 clear aaw
 obtain⟨aea,aeb,aec,rfl⟩:=ab9.out.form
 obtain⟨aex,aey,aez,rfl⟩:=ac6.out.form
 obtain⟨A,n,c,rfl,hnl,hm,hat⟩:=ny Param.jw (by decide) af5.out
 unfold maxLen at hm
 obtain⟨i0,hi,hz0,hz1,hz2⟩:=info_parts asb
 have hsr:PD.szL (Ty.pd ⟨bg,cu,jv,mg⟩)≤1048576∧PD.szL (params.flatMap Param.pd)≤1048576∧params.length≤1048576:=by
  rw[jh.ay] at hsz
  rw[Ty.ay]
  simp only[PD.szL] at hsz ⊢
  rw[aic Param.jw (by decide)] at hsz
  omega
 have hnn:n≤1048576:=by omega
 have HN:=Lib.hid hnl
 have HS:=Lib.hid hsr
 have HAT:=Lib.hid hat
 clear h hnl hsz hat hsr
 go_enter Tryz.func93,Tryz.ntmps93
 go_wp2_with fail
 obtain⟨w0,hw0⟩:∃ w0,w0=(w.alloc (.cells #[.slice A n c,.int .i64 bg,.string cu,.slice aea aeb aec,.slice aex aey aez,.bool async] 62)).alloc (.cells #[.slice none 0 0,.int .i64 0,.string {data:=#[]},.slice none 0 0,.slice none 0 0,.bool false] 62):=⟨_,rfl⟩
 rw[← hw0]
 have bP:Blk w0 w.heap.size 62 #[.slice A n c,.int .i64 bg,.string cu,.slice aea aeb aec,.slice aex aey aez,.bool async]:=by rw[hw0];exact(Blk.new w _ _).alloc _
 have bR:Blk w0 (w.heap.size+1) 62 #[.slice none 0 0,.int .i64 0,.string {data:=#[]},.slice none 0 0,.slice none 0 0,.bool false]:=by rw[hw0];have:=Blk.new (w.alloc (.cells #[.slice A n c,.int .i64 bg,.string cu,.slice aea aeb aec,.slice aex aey aez,.bool async] 62)) 62 #[.slice none 0 0,.int .i64 0,.string {data:=#[]},.slice none 0 0,.slice none 0 0,.bool false];simpa using this
 have hB0:Below w.heap.size w w0:=by rw[hw0];exact((Below.refl _ _).alloc (Nat.le_refl _) _).alloc (by simp) _
 have hs0:w0.heap.size=w.heap.size+2:=by rw[hw0];simp
 have HS0:=Lib.hid hs0
 clear hw0 hs0
 have HC1:=Lib.hid (fun(W:World) (hW:Below w0.heap.size w0 W)=>ays ⟨bg,cu,jv,mg⟩ B [.int .i64 bg,.string cu,.slice aea aeb aec,.slice aex aey aez] W (Nat.le_trans hB (Nat.le_trans hB0.size hW.size)) HS.out.1 (Ty.close_ (ab9.out.below ((hB0.trans (hW.mono hB0.size)).mono hB)) (ac6.out.below ((hB0.trans (hW.mono hB0.size)).mono hB))))
 go_cut [3] from 5 to 11 (fun v wx=>∃ (b:Nat) (lA:Option Addr) (lN lC:Nat) (kA:Option Addr) (kN kC:Nat) (FR:List Nat),v=.pointer (some ⟨b,0,none⟩)∧w0.heap.size≤b∧b < wx.heap.size∧Blk wx b 62 #[.slice none 0 0,.int .i64 bg,.string cu,.slice lA lN lC,.slice kA kN kC,.bool async]∧Hid (uj wx (Ty.pd ⟨bg,cu,jv,mg⟩) [.int .i64 bg,.string cu,.slice lA lN lC,.slice kA kN kC] FR)∧In FR w0.heap.size wx.heap.size∧Hid (b ∉ FR)∧Below w0.heap.size w0 wx)
 case first=>
  have hlP:w.heap.size < w0.heap.size:=bP.lt
  have hb0:Below w0.heap.size w0 w0.drew:=(Below.refl _ _).drew
  have hbZ:Below w0.heap.size w0 (w0.alloc (.cells #[.slice none 0 0,.int .i64 0,.string {data:=#[]},.slice none 0 0,.slice none 0 0,.bool false] 62)).drew:=((Below.refl _ _).alloc (Nat.le_refl _) _).drew
  have xA:Blk (w0.alloc (.cells #[.slice none 0 0,.int .i64 0,.string {data:=#[]},.slice none 0 0,.slice none 0 0,.bool false] 62)).drew w0.heap.size 62 #[.slice none 0 0,.int .i64 0,.string {data:=#[]},.slice none 0 0,.slice none 0 0,.bool false]:=Blk.new w0 _ _
  have bP0:=bP.below hb0 hlP
  have bPZ:=bP.below hbZ hlP
  refine wp_region_held_drew (S:=(fun w'=>w'.cell? ⟨w.heap.size,1,none⟩=some (.int .i64 bg)∧w'.cell? ⟨w.heap.size,2,none⟩=some (.string cu)∧w'.cell? ⟨w.heap.size,3,none⟩=some (.slice aea aeb aec)∧w'.cell? ⟨w.heap.size,4,none⟩=some (.slice aex aey aez)∧w'.cell? ⟨w.heap.size,5,none⟩=some (.bool async))) (by kernel_rfl) ⟨bP0.cell 1,bP0.cell 2,bP0.cell 3,bP0.cell 4,bP0.cell 5⟩ (fun hHeld=>?_)
  refine wpAnyH_take (i:=0) (oi:=_) (v:=_) (by simp only[List.getElem?_toArray,List.getElem?_cons_succ,List.getElem?_cons_zero];rfl) (by kernel_rfl) (by kernel_rfl) (by kernel_rfl) (by exact fun _ _ _ h=>h) (Or.inl ⟨by rfl,by intro w hSw;(try dsimp only at hSw);go_simp;try with_reducible rfl⟩) (by assumption) ?_
  try simp only[Act.put,List.setIfInBounds_toArray,List.set_cons_zero,List.set_cons_succ]
  refine wpAnyH_take (i:=1) (oi:=_) (v:=_) (by simp only[List.getElem?_toArray,List.getElem?_cons_succ,List.getElem?_cons_zero];rfl) (by kernel_rfl) (by kernel_rfl) (by kernel_rfl) (by exact fun _ _ _ h=>h) (Or.inl ⟨by rfl,by intro w hSw;(try dsimp only at hSw);go_simp;try with_reducible rfl⟩) (by assumption) ?_
  try simp only[Act.put,List.setIfInBounds_toArray,List.set_cons_zero,List.set_cons_succ]
  refine wpAnyH_take (i:=3) (oi:=_) (v:=_) (by simp only[List.getElem?_toArray,List.getElem?_cons_succ,List.getElem?_cons_zero];rfl) (by kernel_rfl) (by kernel_rfl) (by kernel_rfl) (by exact fun _ _ _ h=>h) (Or.inl ⟨by rfl,by intro w hSw;(try dsimp only at hSw);go_simp;try with_reducible rfl⟩) (by assumption) ?_
  try simp only[Act.put,List.setIfInBounds_toArray,List.set_cons_zero,List.set_cons_succ]
  refine wpAnyH_take (i:=4) (oi:=_) (v:=_) (by simp only[List.getElem?_toArray,List.getElem?_cons_succ,List.getElem?_cons_zero];rfl) (by kernel_rfl) (by kernel_rfl) (by kernel_rfl) (by exact fun _ _ _ h=>h) (Or.inl ⟨by rfl,by intro w hSw;(try dsimp only at hSw);go_simp;try with_reducible rfl⟩) (by assumption) ?_
  try simp only[Act.put,List.setIfInBounds_toArray,List.set_cons_zero,List.set_cons_succ]
  refine wpAnyH_ready (rs:=[2,6]) (by kernel_rfl) (by simp) ?_
  refine AllReadyH.cons (o:=?bvy) ?bpl (fun K hK=>?bpm) (AllReadyH.cons (o:=?bvz) ?bpn (fun K hK=>?bpo) AllReadyH.nil)
  case bpl=>
   simp only[List.getElem?_toArray,List.getElem?_cons_succ,List.getElem?_cons_zero];rfl
  case bpn=>
   simp only[List.getElem?_toArray,List.getElem?_cons_succ,List.getElem?_cons_zero];rfl
  case bpm=>
   go_simp
   go_at_call 125
   refine(HC1.out _ hb0).mono ?_
   rintro e wq ⟨us,rfl,hl,aoe⟩
   obtain⟨lA,lN,lC,kA,kN,kC,rfl⟩:=Ty.afp hl
   obtain⟨FR,hh,hi2,_⟩:=hl
   have HH:=Lib.hid hh
   have hbq:=hb0.trans (aoe.mono hb0.size)
   refine hK.out _ _ (by first|exact⟨(bP.below hbq hlP).cell 1,(bP.below hbq hlP).cell 2,(bP.below hbq hlP).cell 3,(bP.below hbq hlP).cell 4,(bP.below hbq hlP).cell 5⟩|go_keep) (fun hHeld=>?_)
   clear hK K
   try simp only[Act.put,List.setIfInBounds_toArray,List.set_cons_zero,List.set_cons_succ]
   refine wpAnyH_take (i:=5) (oi:=_) (v:=_) (by simp only[List.getElem?_toArray,List.getElem?_cons_succ,List.getElem?_cons_zero];rfl) (by kernel_rfl) (by kernel_rfl) (by kernel_rfl) (by exact fun _ _ _ h=>h) (Or.inl ⟨by rfl,by intro w hSw;(try dsimp only at hSw);go_simp;try with_reducible rfl⟩) (by assumption) ?_
   try simp only[Act.put,List.setIfInBounds_toArray,List.set_cons_zero,List.set_cons_succ]
   refine wpAnyH_ready (rs:=[6]) (by kernel_rfl) (by simp) ?_
   refine AllReadyH.cons (o:=?o2) ?h2 (fun K hK=>?k2) AllReadyH.nil
   case h2=>
    simp only[List.getElem?_toArray,List.getElem?_cons_succ,List.getElem?_cons_zero];rfl
   go_simp
   refine hK.out _ _ (by first|exact⟨((bP.below hbq hlP).alloc _).cell 1,((bP.below hbq hlP).alloc _).cell 2,((bP.below hbq hlP).alloc _).cell 3,((bP.below hbq hlP).alloc _).cell 4,((bP.below hbq hlP).alloc _).cell 5⟩|go_keep) (fun hHeld=>?_)
   clear hK K
   try simp only[Act.put,List.setIfInBounds_toArray,List.set_cons_zero,List.set_cons_succ]
   refine wpAnyH_ready (rs:=[7]) (by kernel_rfl) (by simp) ?_
   refine AllReadyH.cons (o:=?o3) ?h3 (fun K hK=>?k3) AllReadyH.nil
   case h3=>
    simp only[List.getElem?_toArray,List.getElem?_cons_succ,List.getElem?_cons_zero];rfl
   go_simp
   refine hK.out _ _ (by first|exact⟨((bP.below hbq hlP).alloc _).cell 1,((bP.below hbq hlP).alloc _).cell 2,((bP.below hbq hlP).alloc _).cell 3,((bP.below hbq hlP).alloc _).cell 4,((bP.below hbq hlP).alloc _).cell 5⟩|go_keep) (fun hHeld=>?_)
   clear hK K
   try simp only[Act.put,List.setIfInBounds_toArray,List.set_cons_zero,List.set_cons_succ]
   refine wpAnyH_done (by kernel_rfl) ?_ _
   go_wp2_with fail
   go_meet
   exact⟨wq.heap.size,lA,lN,lC,kA,kN,kC,FR,rfl,by have:=hbq.size;omega,by simp,Blk.new wq _ _,Lib.hid (uj.keep _ _ _ HH.out fun g hg=>Below.heap_alloc wq _ g (hi2.2 g hg).2),hi2.more (Nat.le_refl _) (by simp),Lib.hid (fun hm=>by have:=(hi2.2 _ hm).2;omega),hbq.alloc hbq.size _⟩
  case bpo=>
   go_simp
   refine hK.out _ _ (by first|exact⟨bPZ.cell 1,bPZ.cell 2,bPZ.cell 3,bPZ.cell 4,bPZ.cell 5⟩|go_keep) (fun hHeld=>?_)
   clear hK K
   try simp only[Act.put,List.setIfInBounds_toArray,List.set_cons_zero,List.set_cons_succ]
   refine wpAnyH_ready (rs:=[2]) (by kernel_rfl) (by simp) ?_
   refine AllReadyH.cons (o:=?o4) ?h4 (fun K hK=>?k4) AllReadyH.nil
   case h4=>
    simp only[List.getElem?_toArray,List.getElem?_cons_succ,List.getElem?_cons_zero];rfl
   go_simp
   go_at_call 125
   refine(HC1.out _ hbZ).mono ?_
   rintro e wq ⟨us,rfl,hl,aoe⟩
   obtain⟨lA,lN,lC,kA,kN,kC,rfl⟩:=Ty.afp hl
   obtain⟨FR,hh,hi2,_⟩:=hl
   have HH:=Lib.hid hh
   have hbq:=hbZ.trans (aoe.mono hbZ.size)
   have oA:=xA.step aoe
   have fA0:=oA.frozen 0
   have fA1:=oA.frozen 1
   have fA2:=oA.frozen 2
   have fA3:=oA.frozen 3
   have fA4:=oA.frozen 4
   have fA5:=oA.frozen 5
   have cA0:wq.cell? ⟨w0.heap.size,0,none⟩=some (.slice none 0 0):=oA.cell 0
   have cA1:wq.cell? ⟨w0.heap.size,1,none⟩=some (.int .i64 0):=oA.cell 1
   have cA2:wq.cell? ⟨w0.heap.size,2,none⟩=some (.string {data:=#[]}):=oA.cell 2
   have cA3:wq.cell? ⟨w0.heap.size,3,none⟩=some (.slice none 0 0):=oA.cell 3
   have cA4:wq.cell? ⟨w0.heap.size,4,none⟩=some (.slice none 0 0):=oA.cell 4
   have cA5:wq.cell? ⟨w0.heap.size,5,none⟩=some (.bool false):=oA.cell 5
   refine hK.out _ _ (by first|exact⟨(bP.below hbq hlP).cell 1,(bP.below hbq hlP).cell 2,(bP.below hbq hlP).cell 3,(bP.below hbq hlP).cell 4,(bP.below hbq hlP).cell 5⟩|go_keep) (fun hHeld=>?_)
   clear hK K
   try simp only[Act.put,List.setIfInBounds_toArray,List.set_cons_zero,List.set_cons_succ]
   refine wpAnyH_take (i:=5) (oi:=_) (v:=_) (by simp only[List.getElem?_toArray,List.getElem?_cons_succ,List.getElem?_cons_zero];rfl) (by kernel_rfl) (by kernel_rfl) (by kernel_rfl) (by exact fun _ _ _ h=>h) (Or.inl ⟨by rfl,by intro w hSw;(try dsimp only at hSw);go_simp;try with_reducible rfl⟩) (by assumption) ?_
   try simp only[Act.put,List.setIfInBounds_toArray,List.set_cons_zero,List.set_cons_succ]
   refine wpAnyH_ready (rs:=[7]) (by kernel_rfl) (by simp) ?_
   refine AllReadyH.cons (o:=?o5) ?h5 (fun K hK=>?k5) AllReadyH.nil
   case h5=>
    simp only[List.getElem?_toArray,List.getElem?_cons_succ,List.getElem?_cons_zero];rfl
   go_simp
   refine hK.out _ _ (by first|exact⟨(((((((((((((bP.below hbq hlP)).far (by first|omega|(simp;done)|(simp;omega)|(simp only;omega)|(show w.heap.size≠w0.heap.size;omega)) _)).far (by first|omega|(simp;done)|(simp;omega)|(simp only;omega)|(show w.heap.size≠w0.heap.size;omega)) _)).far (by first|omega|(simp;done)|(simp;omega)|(simp only;omega)|(show w.heap.size≠w0.heap.size;omega)) _)).far (by first|omega|(simp;done)|(simp;omega)|(simp only;omega)|(show w.heap.size≠w0.heap.size;omega)) _)).far (by first|omega|(simp;done)|(simp;omega)|(simp only;omega)|(show w.heap.size≠w0.heap.size;omega)) _)).far (by first|omega|(simp;done)|(simp;omega)|(simp only;omega)|(show w.heap.size≠w0.heap.size;omega)) _).cell 1,(((((((((((((bP.below hbq hlP)).far (by first|omega|(simp;done)|(simp;omega)|(simp only;omega)|(show w.heap.size≠w0.heap.size;omega)) _)).far (by first|omega|(simp;done)|(simp;omega)|(simp only;omega)|(show w.heap.size≠w0.heap.size;omega)) _)).far (by first|omega|(simp;done)|(simp;omega)|(simp only;omega)|(show w.heap.size≠w0.heap.size;omega)) _)).far (by first|omega|(simp;done)|(simp;omega)|(simp only;omega)|(show w.heap.size≠w0.heap.size;omega)) _)).far (by first|omega|(simp;done)|(simp;omega)|(simp only;omega)|(show w.heap.size≠w0.heap.size;omega)) _)).far (by first|omega|(simp;done)|(simp;omega)|(simp only;omega)|(show w.heap.size≠w0.heap.size;omega)) _).cell 2,(((((((((((((bP.below hbq hlP)).far (by first|omega|(simp;done)|(simp;omega)|(simp only;omega)|(show w.heap.size≠w0.heap.size;omega)) _)).far (by first|omega|(simp;done)|(simp;omega)|(simp only;omega)|(show w.heap.size≠w0.heap.size;omega)) _)).far (by first|omega|(simp;done)|(simp;omega)|(simp only;omega)|(show w.heap.size≠w0.heap.size;omega)) _)).far (by first|omega|(simp;done)|(simp;omega)|(simp only;omega)|(show w.heap.size≠w0.heap.size;omega)) _)).far (by first|omega|(simp;done)|(simp;omega)|(simp only;omega)|(show w.heap.size≠w0.heap.size;omega)) _)).far (by first|omega|(simp;done)|(simp;omega)|(simp only;omega)|(show w.heap.size≠w0.heap.size;omega)) _).cell 3,(((((((((((((bP.below hbq hlP)).far (by first|omega|(simp;done)|(simp;omega)|(simp only;omega)|(show w.heap.size≠w0.heap.size;omega)) _)).far (by first|omega|(simp;done)|(simp;omega)|(simp only;omega)|(show w.heap.size≠w0.heap.size;omega)) _)).far (by first|omega|(simp;done)|(simp;omega)|(simp only;omega)|(show w.heap.size≠w0.heap.size;omega)) _)).far (by first|omega|(simp;done)|(simp;omega)|(simp only;omega)|(show w.heap.size≠w0.heap.size;omega)) _)).far (by first|omega|(simp;done)|(simp;omega)|(simp only;omega)|(show w.heap.size≠w0.heap.size;omega)) _)).far (by first|omega|(simp;done)|(simp;omega)|(simp only;omega)|(show w.heap.size≠w0.heap.size;omega)) _).cell 4,(((((((((((((bP.below hbq hlP)).far (by first|omega|(simp;done)|(simp;omega)|(simp only;omega)|(show w.heap.size≠w0.heap.size;omega)) _)).far (by first|omega|(simp;done)|(simp;omega)|(simp only;omega)|(show w.heap.size≠w0.heap.size;omega)) _)).far (by first|omega|(simp;done)|(simp;omega)|(simp only;omega)|(show w.heap.size≠w0.heap.size;omega)) _)).far (by first|omega|(simp;done)|(simp;omega)|(simp only;omega)|(show w.heap.size≠w0.heap.size;omega)) _)).far (by first|omega|(simp;done)|(simp;omega)|(simp only;omega)|(show w.heap.size≠w0.heap.size;omega)) _)).far (by first|omega|(simp;done)|(simp;omega)|(simp only;omega)|(show w.heap.size≠w0.heap.size;omega)) _).cell 5⟩|go_keep) (fun hHeld=>?_)
   clear hK K
   try simp only[Act.put,List.setIfInBounds_toArray,List.set_cons_zero,List.set_cons_succ]
   refine wpAnyH_done (by kernel_rfl) ?_ _
   go_wp2_with fail
   go_meet
   refine⟨w0.heap.size,lA,lN,lC,kA,kN,kC,FR,rfl,Nat.le_refl _,by have:=oA.lt;first|omega|(simp[World.setCell];omega)|simpa [World.setCell] using this,?_,?_,?_,Lib.hid (fun hm=>by have:=(hi2.2 _ hm).1;simp at this;omega),?_⟩
   ·have:=(((((oA.abf 0 (.slice none 0 0)).abf 1 (.int .i64 bg)).abf 2 (.string cu)).abf 3 (.slice lA lN lC)).abf 4 (.slice kA kN kC)).abf 5 (.bool async)
    simpa using this
   ·refine Lib.hid (uj.keep _ _ _ HH.out fun g hg=>?_)
    have hne:g≠w0.heap.size:=fun e=>by have:=(hi2.2 _ hg).1;simp at this;omega
    iterate 6 (refine(Below.heap_setCell _ _ _ _ hne).trans ?_)
    rfl
   ·exact hi2.more (by simp) (by simp[World.setCell])
   ·iterate 6 (refine Below.setCell ?_ (by simp) _)
    exact hbq
 case rest=>
  obtain⟨b,lA,lN,lC,kA,kN,kC,FR,rfl,hb1,hb2,bO,HHR,hIN,HNE,hBx⟩:=hcut
  have hlP:=bP.lt
  have hlR:=bR.lt
  have hs0:=HS0.out
  have bP1:=bP.below hBx hlP
  have bR1:=bR.below hBx hlR
  have hBc:=hB0.trans (hBx.mono hB0.size)
  have HIN:=Lib.hid hIN
  have hwc:=hBx.size
  clear bP bR hBx hIN
  go_wp2_with fail
  go_loopw [4] (fun i wr=>∃ (k:Nat) (u:Value) (cs:List Value) (F:List Nat),k≤n∧i=.int .i64 k∧Grow w wr wc.heap.size 115 5 k u ((params.take k).flatMap Param.pd) cs F∧Blk wr b 62 #[u,.int .i64 bg,.string cu,.slice lA lN lC,.slice kA kN kC,.bool async]∧Blk wr w.heap.size 62 #[.slice A n c,.int .i64 bg,.string cu,.slice aea aeb aec,.slice aex aey aez,.bool async]∧Blk wr (w.heap.size+1) 62 #[.slice none 0 0,.int .i64 0,.string {data:=#[]},.slice none 0 0,.slice none 0 0,.bool false]∧Hid (uj wr (Ty.pd ⟨bg,cu,jv,mg⟩) [.int .i64 bg,.string cu,.slice lA lN lC,.slice kA kN kC] FR)) (fun i _=>n - (intOf i).toNat)
  case atStart=>exact⟨0,.slice none 0 0,[],[],Nat.zero_le _,rfl,Grow.none_ hBc,bO,bP1,bR1,HHR⟩
  case round=>
   clear bO bP1 bR1 HHR
   obtain⟨k,u,cs,F,hk,rfl,hG,bO,bP,bR,HHR⟩:=hrel
   obtain⟨uA,uN,uC,rfl,_⟩:=(Own.ai7 hG.1).form
   have hbr:=hG.2.2.2.2.1
   have hlo:=hG.2.2.2.2.2.2
   have hsz:=hbr.size
   by_cases hlt:k < n
   ·have hat:=HAT.out
    obtain⟨g,off,rfl,hg,hcell⟩:=hat (by omega)
    obtain⟨t,hx,hmem⟩:=xg HN.out hlt
    obtain⟨name,⟨iy,ji,og,um⟩⟩:=t
    have an3:wr.cell? ⟨g,off+k * 5,none⟩=some (.string name):=gq hbr (by omega) (hcell k 0 _ _ hx (by rw[Param.ay];rfl))
    have ak5:wr.cell? ⟨g,off+k * 5+1,none⟩=some (.int .i64 iy):=gq hbr (by omega) (hcell k 1 _ _ hx (by rw[Param.ay];rfl))
    have ak6:wr.cell? ⟨g,off+k * 5+2,none⟩=some (.string ji):=gq hbr (by omega) (hcell k 2 _ _ hx (by rw[Param.ay];rfl))
    obtain⟨aau,ajb,abd⟩:∃ u,wr.cell? ⟨g,off+k * 5+3,none⟩=some u∧Rep wr B (.row 1 (og.flatMap tu)) u:=ku hbr (by omega) hB (hcell k 3 _ _ hx (by rw[Param.ay];rfl))
    have acs:=Lib.hid abd
    clear abd
    obtain⟨abx,ak7,ace⟩:∃ u,wr.cell? ⟨g,off+k * 5+4,none⟩=some u∧Rep wr B (.row 4 (um.flatMap Ty.pd)) u:=ku hbr (by omega) hB (hcell k 4 _ _ hx (by rw[Param.ay];rfl))
    have adz:=Lib.hid ace
    clear ace
    obtain⟨abh,abj,abk,rfl⟩:=acs.out.form
    obtain⟨aci,acj,acn,rfl⟩:=adz.out.form
    have HX:=Lib.hid hx
    have HM:=Lib.hid hmem
    clear hx hmem
    clear hcell
    have HL2:=Lib.hid (ahr (f:=Param.pd) HX.out)
    have HPZ:Hid (PD.szL (Ty.pd ⟨iy,ji,og,um⟩)≤PD.szL (Param.pd ⟨name,⟨iy,ji,og,um⟩⟩)):=by
     show _≤PD.szL ([PD.lit (.string name)] ++Ty.pd ⟨iy,ji,og,um⟩)
     rw[aib];omega
    clear hat HAT
    have hcall:=fun(W:World) (hW:Below wr.heap.size wr W)=>ays ⟨iy,ji,og,um⟩ B [.int .i64 iy,.string ji,.slice abh abj abk,.slice aci acj acn] W (Nat.le_trans hB (Nat.le_trans hbr.size hW.size)) (by have:=HS.out;have:=HL2.out;have:=HPZ.out;omega) (Ty.close_ (acs.out.below (hW.mono (Nat.le_trans hB hbr.size))) (adz.out.below (hW.mono (Nat.le_trans hB hbr.size))))
    have HC:=Lib.hid hcall
    clear hcall
    have hgB:g < w.heap.size:=by omega
    have KC:Hid (∀ W:World,(∀ i,i < wc.heap.size→i≠b→W.heap[i]?=wr.heap[i]?)→W.cell? ⟨w.heap.size,0,none⟩=some (.slice (some ⟨g,off,none⟩) n c)∧W.cell? ⟨g,off+k * 5,none⟩=some (.string name)∧W.cell? ⟨g,off+k * 5+1,none⟩=some (.int .i64 iy)∧W.cell? ⟨g,off+k * 5+2,none⟩=some (.string ji)∧W.cell? ⟨g,off+k * 5+3,none⟩=some (.slice abh abj abk)∧W.cell? ⟨g,off+k * 5+4,none⟩=some (.slice aci acj acn)):=fun W hW=>⟨(World.cell?_of_block (hW w.heap.size (by omega) (by omega))).trans (bP.cell 0),(World.cell?_of_block (hW g (by omega) (by omega))).trans an3,(World.cell?_of_block (hW g (by omega) (by omega))).trans ak5,(World.cell?_of_block (hW g (by omega) (by omega))).trans ak6,(World.cell?_of_block (hW g (by omega) (by omega))).trans ajb,(World.cell?_of_block (hW g (by omega) (by omega))).trans ak7⟩
    have hbD:Below wr.heap.size wr wr.drew:=(Below.refl _ _).drew
    have eD:∀ i,i < wc.heap.size→i≠b→wr.drew.heap[i]?=wr.heap[i]?:=fun i hi _=>rfl
    have o3:wr.drew.cell? ⟨b,0,none⟩=some (.slice uA uN uC):=bO.drew.cell 0
    have o3':wr.cell? ⟨b,0,none⟩=some (.slice uA uN uC):=bO.cell 0
    have p3:wr.cell? ⟨w.heap.size,0,none⟩=some (.slice (some ⟨g,off,none⟩) n c):=bP.cell 0
    have hk0:(0:Int)≤(k:Int):=by omega
    have hkn:(k:Int) < (n:Int):=by omega
    have HG:=Lib.hid hG
    have HB4:=Lib.hid bP
    have HB5:=Lib.hid bR
    clear hG bP bR an3 ak5 ak6 ajb ak7
    go_wp2_with fail
    refine wp_region_held_drew (S:=(fun w'=>w'.cell? ⟨w.heap.size,0,none⟩=some (.slice (some ⟨g,off,none⟩) n c)∧w'.cell? ⟨g,off+k * 5,none⟩=some (.string name)∧w'.cell? ⟨g,off+k * 5+1,none⟩=some (.int .i64 iy)∧w'.cell? ⟨g,off+k * 5+2,none⟩=some (.string ji)∧w'.cell? ⟨g,off+k * 5+3,none⟩=some (.slice abh abj abk)∧w'.cell? ⟨g,off+k * 5+4,none⟩=some (.slice aci acj acn))) (by kernel_rfl) (KC.out _ eD) (fun hHeld=>?_)
    refine wpAnyH_take (i:=0) (oi:=_) (v:=_) (by simp only[List.getElem?_toArray,List.getElem?_cons_succ,List.getElem?_cons_zero];rfl) (by kernel_rfl) (by kernel_rfl) (by kernel_rfl) (by exact fun _ _ _ h=>h) (Or.inl ⟨by rfl,by intro w hSw;(try dsimp only at hSw);go_simp;try with_reducible rfl⟩) (by assumption) ?_
    try simp only[Act.put,List.setIfInBounds_toArray,List.set_cons_zero,List.set_cons_succ]
    refine wpAnyH_take (i:=2) (oi:=_) (v:=_) (by simp only[List.getElem?_toArray,List.getElem?_cons_succ,List.getElem?_cons_zero];rfl) (by kernel_rfl) (by kernel_rfl) (by kernel_rfl) (by exact fun _ _ _ h=>h) (Or.inl ⟨by rfl,by intro w hSw;(try dsimp only at hSw);go_simp;try with_reducible rfl⟩) (by assumption) ?_
    try simp only[Act.put,List.setIfInBounds_toArray,List.set_cons_zero,List.set_cons_succ]
    refine wpAnyH_take (i:=3) (oi:=_) (v:=_) (by simp only[List.getElem?_toArray,List.getElem?_cons_succ,List.getElem?_cons_zero];rfl) (by kernel_rfl) (by kernel_rfl) (by kernel_rfl) (by exact fun _ _ _ h=>h) (Or.inl ⟨by rfl,by intro w hSw;(try dsimp only at hSw);go_simp;try with_reducible rfl⟩) (by assumption) ?_
    try simp only[Act.put,List.setIfInBounds_toArray,List.set_cons_zero,List.set_cons_succ]
    refine wpAnyH_take (i:=4) (oi:=_) (v:=_) (by simp only[List.getElem?_toArray,List.getElem?_cons_succ,List.getElem?_cons_zero];rfl) (by kernel_rfl) (by kernel_rfl) (by kernel_rfl) (by exact fun _ _ _ h=>h) (Or.inl ⟨by rfl,by intro w hSw;(try dsimp only at hSw);go_simp;try with_reducible rfl⟩) (by assumption) ?_
    try simp only[Act.put,List.setIfInBounds_toArray,List.set_cons_zero,List.set_cons_succ]
    refine wpAnyH_take (i:=5) (oi:=_) (v:=_) (by simp only[List.getElem?_toArray,List.getElem?_cons_succ,List.getElem?_cons_zero];rfl) (by kernel_rfl) (by kernel_rfl) (by kernel_rfl) (by exact fun _ _ _ h=>h) (Or.inl ⟨by rfl,by intro w hSw;(try dsimp only at hSw);go_simp;try with_reducible rfl⟩) (by assumption) ?_
    try simp only[Act.put,List.setIfInBounds_toArray,List.set_cons_zero,List.set_cons_succ]
    refine wpAnyH_take (i:=6) (oi:=_) (v:=_) (by simp only[List.getElem?_toArray,List.getElem?_cons_succ,List.getElem?_cons_zero];rfl) (by kernel_rfl) (by kernel_rfl) (by kernel_rfl) (by exact fun _ _ _ h=>h) (Or.inl ⟨by rfl,by intro w hSw;(try dsimp only at hSw);go_simp;try with_reducible rfl⟩) (by assumption) ?_
    try simp only[Act.put,List.setIfInBounds_toArray,List.set_cons_zero,List.set_cons_succ]
    refine wpAnyH_take (i:=7) (oi:=_) (v:=_) (by simp only[List.getElem?_toArray,List.getElem?_cons_succ,List.getElem?_cons_zero];rfl) (by kernel_rfl) (by kernel_rfl) (by kernel_rfl) (by exact fun _ _ _ h=>h) (Or.inl ⟨by rfl,by intro w hSw;(try dsimp only at hSw);go_simp;try with_reducible rfl⟩) (by assumption) ?_
    try simp only[Act.put,List.setIfInBounds_toArray,List.set_cons_zero,List.set_cons_succ]
    refine wpAnyH_take (i:=8) (oi:=_) (v:=_) (by simp only[List.getElem?_toArray,List.getElem?_cons_succ,List.getElem?_cons_zero];rfl) (by kernel_rfl) (by kernel_rfl) (by kernel_rfl) (by exact fun _ _ _ h=>h) (Or.inl ⟨by rfl,by intro w hSw;(try dsimp only at hSw);go_simp;try with_reducible rfl⟩) (by assumption) ?_
    try simp only[Act.put,List.setIfInBounds_toArray,List.set_cons_zero,List.set_cons_succ]
    refine wpAnyH_take (i:=9) (oi:=_) (v:=_) (by simp only[List.getElem?_toArray,List.getElem?_cons_succ,List.getElem?_cons_zero];rfl) (by kernel_rfl) (by kernel_rfl) (by kernel_rfl) (by exact fun _ _ _ h=>h) (Or.inl ⟨by rfl,by intro w hSw;(try dsimp only at hSw);go_simp;try with_reducible rfl⟩) (by assumption) ?_
    try simp only[Act.put,List.setIfInBounds_toArray,List.set_cons_zero,List.set_cons_succ]
    refine wpAnyH_take (i:=10) (oi:=_) (v:=_) (by simp only[List.getElem?_toArray,List.getElem?_cons_succ,List.getElem?_cons_zero];rfl) (by kernel_rfl) (by kernel_rfl) (by kernel_rfl) (by exact fun _ _ _ h=>h) (Or.inl ⟨by rfl,by intro w hSw;(try dsimp only at hSw);go_simp;try with_reducible rfl⟩) (by assumption) ?_
    try simp only[Act.put,List.setIfInBounds_toArray,List.set_cons_zero,List.set_cons_succ]
    refine wpAnyH_take (i:=11) (oi:=_) (v:=_) (by simp only[List.getElem?_toArray,List.getElem?_cons_succ,List.getElem?_cons_zero];rfl) (by kernel_rfl) (by kernel_rfl) (by kernel_rfl) (by exact fun _ _ _ h=>h) (Or.inl ⟨by rfl,by intro w hSw;(try dsimp only at hSw);go_simp;try with_reducible rfl⟩) (by assumption) ?_
    try simp only[Act.put,List.setIfInBounds_toArray,List.set_cons_zero,List.set_cons_succ]
    refine wpAnyH_take (i:=12) (oi:=_) (v:=_) (by simp only[List.getElem?_toArray,List.getElem?_cons_succ,List.getElem?_cons_zero];rfl) (by kernel_rfl) (by kernel_rfl) (by kernel_rfl) (by exact fun _ _ _ h=>h) (Or.inl ⟨by rfl,by intro w hSw;(try dsimp only at hSw);go_simp;try with_reducible rfl⟩) (by assumption) ?_
    try simp only[Act.put,List.setIfInBounds_toArray,List.set_cons_zero,List.set_cons_succ]
    refine wpAnyH_take (i:=13) (oi:=_) (v:=_) (by simp only[List.getElem?_toArray,List.getElem?_cons_succ,List.getElem?_cons_zero];rfl) (by kernel_rfl) (by kernel_rfl) (by kernel_rfl) (by exact fun _ _ _ h=>h) (Or.inl ⟨by rfl,by intro w hSw;(try dsimp only at hSw);go_simp;try with_reducible rfl⟩) (by assumption) ?_
    try simp only[Act.put,List.setIfInBounds_toArray,List.set_cons_zero,List.set_cons_succ]
    refine wpAnyH_ready (rs:=[1,14]) (by kernel_rfl) (by simp) ?_
    refine AllReadyH.cons (o:=?bv0) ?bpp (fun K hK=>?bpq) (AllReadyH.cons (o:=?bu3) ?bm5 (fun K hK=>?bm6) AllReadyH.nil)
    case bpp=>
     simp only[List.getElem?_toArray,List.getElem?_cons_succ,List.getElem?_cons_zero];rfl
    case bm5=>
     simp only[List.getElem?_toArray,List.getElem?_cons_succ,List.getElem?_cons_zero];rfl
    case bpq=>
     go_simp
     refine hK.out _ _ (by first|exact(KC.out _ eD)|go_keep) (fun hHeld=>?_)
     clear hK K
     try simp only[Act.put,List.setIfInBounds_toArray,List.set_cons_zero,List.set_cons_succ]
     refine wpAnyH_ready (rs:=[14]) (by kernel_rfl) (by simp) ?_
     refine AllReadyH.cons (o:=?o7) ?h7 (fun K hK=>?k7) AllReadyH.nil
     case h7=>
      simp only[List.getElem?_toArray,List.getElem?_cons_succ,List.getElem?_cons_zero];rfl
     go_simp
     go_at_call 125
     refine(HC.out _ hbD).mono ?_
     rintro e wq ⟨us,rfl,hl,aoe⟩
     obtain⟨lA2,lN2,lC2,kA2,kN2,kC2,rfl⟩:=Ty.afp hl
     obtain⟨F2,hh,hi2,_⟩:=hl
     have hi3:In F2 wr.heap.size wq.heap.size:=hi2
     have HH:Hid (uj wq (Param.pd ⟨name,⟨iy,ji,og,um⟩⟩) [.string name,.int .i64 iy,.string ji,.slice lA2 lN2 lC2,.slice kA2 kN2 kC2] F2):=Lib.hid (uj.cons (Hold.a0t wq _) hh)
     have hbq:Below wr.heap.size wr wq:=hbD.trans aoe
     have eQ:∀ i,i < wc.heap.size→wq.heap[i]?=wr.heap[i]?:=fun i hi=>hbq.block i (by omega)
     have oQ:=bO.step hbq
     have o3q:wq.cell? ⟨b,0,none⟩=some (.slice uA uN uC):=oQ.cell 0
     have oA:=oQ.alloc (.cells #[.string name,.int .i64 iy,.string ji,.slice lA2 lN2 lC2,.slice kA2 kN2 kC2] 115)
     have o3a:(wq.alloc (.cells #[.string name,.int .i64 iy,.string ji,.slice lA2 lN2 lC2,.slice kA2 kN2 kC2] 115)).cell? ⟨b,0,none⟩=some (.slice uA uN uC):=oA.cell 0
     have eA:∀ i,i < wc.heap.size→(wq.alloc (.cells #[.string name,.int .i64 iy,.string ji,.slice lA2 lN2 lC2,.slice kA2 kN2 kC2] 115)).heap[i]?=wr.heap[i]?:=fun i hi=>(Below.heap_alloc wq _ i (by have:=hbq.size;omega)).trans (eQ i hi)
     clear hh hi2
     try go_wp2_with fail
     refine hK.out _ _ (by first|exact(KC.out _ (fun i hi _=>eQ i hi))|go_keep) (fun hHeld=>?_)
     clear hK K
     try simp only[Act.put,List.setIfInBounds_toArray,List.set_cons_zero,List.set_cons_succ]
     refine wpAnyH_take (i:=15) (oi:=_) (v:=_) (by simp only[List.getElem?_toArray,List.getElem?_cons_succ,List.getElem?_cons_zero];rfl) (by kernel_rfl) (by kernel_rfl) (by kernel_rfl) (by exact fun _ _ _ h=>h) (Or.inl ⟨by rfl,by intro w hSw;(try dsimp only at hSw);go_simp;try with_reducible rfl⟩) (by assumption) ?_
     try simp only[Act.put,List.setIfInBounds_toArray,List.set_cons_zero,List.set_cons_succ]
     refine wpAnyH_ready (rs:=[16]) (by kernel_rfl) (by simp) ?_
     refine AllReadyH.cons (o:=?o8) ?h8 (fun K hK=>?k8) AllReadyH.nil
     case h8=>
      simp only[List.getElem?_toArray,List.getElem?_cons_succ,List.getElem?_cons_zero];rfl
     go_simp
     refine hK.out _ _ (by first|exact(KC.out _ (fun i hi _=>eA i hi))|go_keep) (fun hHeld=>?_)
     clear hK K
     try simp only[Act.put,List.setIfInBounds_toArray,List.set_cons_zero,List.set_cons_succ]
     refine wpAnyH_ready (rs:=[17]) (by kernel_rfl) (by simp) ?_
     refine AllReadyH.cons (o:=?o9) ?h9 (fun K hK=>?k9) AllReadyH.nil
     case h9=>
      simp only[List.getElem?_toArray,List.getElem?_cons_succ,List.getElem?_cons_zero];rfl
     refine afn (by rfl) _ _ 57 (by rfl) wc.heap.size 115 i0 (.agg #[.string {data:=#[]},.int .i64 0,.string {data:=#[]},.slice none 0 0,.slice none 0 0]) 5 88 Tryz.underlying57 hi hz0 hz1 hz2 rfl (by decide) (.slice uA uN uC) k cs (by rfl) (((HG.out.step hbq).1).alloc _) (.slice (some ⟨wq.heap.size,0,none⟩) 1 1) 1 [.string name,.int .i64 iy,.string ji,.slice lA2 lN2 lC2,.slice kA2 kN2 kC2] (by rfl) (.inr ⟨⟨wq.heap.size,0,none⟩,1,rfl,rfl,World.news_of_block (heap_alloc_new wq _)⟩) (atg _ _ _ _ _ _ _ _ _) (by simp only[maxLen];omega) (by omega) (by have:=hbq.size;simp;omega) ?_
     intro v' w3 hown' hgrow agq
     obtain⟨vA,vN,vC,rfl,_⟩:=(Own.ai7 hown').form
     have HG2:=Lib.hid (HG.out.next hbq HH.out hi3 ((Below.refl _ _).alloc (Nat.le_refl _) _) hown' hgrow agq)
     have hrow:∀ i,i < wc.heap.size→some i≠(Value.slice uA uN uC).ownBlock:=fun i hi e=>by have:=(HG.out.1.lt _ e.symm).1;omega
     have oW:Blk w3 b 62 #[.slice uA uN uC,.int .i64 bg,.string cu,.slice lA lN lC,.slice kA kN kC,.bool async]:=(hgrow.block b oA.lt (hrow b hb2)).trans oA
     have e3:∀ i,i < wc.heap.size→w3.heap[i]?=wr.heap[i]?:=fun i hi=>(hgrow.block i (by have:=hbq.size;simp;omega) (hrow i (by omega))).trans (eA i hi)
     have eS:∀ i,i < wc.heap.size→i≠b→(w3.setCell ⟨b,0,none⟩ (.slice vA vN vC)).heap[i]?=wr.heap[i]?:=fun i hi hne=>(Below.heap_setCell w3 ⟨b,0,none⟩ (.slice vA vN vC) i hne).trans (e3 i hi)
     have fO:=oW.frozen 0
     have cO:w3.cell? ⟨b,0,none⟩=some (.slice uA uN uC):=oW.cell 0
     clear hown' hgrow agq hrow
     refine hK.out _ _ (by first|exact(KC.out _ (fun i hi _=>e3 i hi))|go_keep) (fun hHeld=>?_)
     clear hK K
     try simp only[Act.put,List.setIfInBounds_toArray,List.set_cons_zero,List.set_cons_succ]
     refine wpAnyH_take (i:=18) (oi:=_) (v:=_) (by simp only[List.getElem?_toArray,List.getElem?_cons_succ,List.getElem?_cons_zero];rfl) (by kernel_rfl) (by kernel_rfl) (by kernel_rfl) (by exact fun _ _ _ h=>h) (Or.inl ⟨by rfl,by intro w hSw;(try dsimp only at hSw);go_simp;try with_reducible rfl⟩) (by assumption) ?_
     try simp only[Act.put,List.setIfInBounds_toArray,List.set_cons_zero,List.set_cons_succ]
     refine wpAnyH_ready (rs:=[19]) (by kernel_rfl) (by simp) ?_
     refine AllReadyH.cons (o:=?o10) ?h10 (fun K hK=>?k10) AllReadyH.nil
     case h10=>
      simp only[List.getElem?_toArray,List.getElem?_cons_succ,List.getElem?_cons_zero];rfl
     go_simp
     refine hK.out _ _ (by first|exact(KC.out _ eS)|go_keep) (fun hHeld=>?_)
     clear hK K
     try simp only[Act.put,List.setIfInBounds_toArray,List.set_cons_zero,List.set_cons_succ]
     refine wpAnyH_done (by kernel_rfl) ?_ _
     go_wp2_with fail
     go_roundw
     case rel=>exact⟨k+1,.slice vA vN vC,_,_,by omega,by go_num,by rw[List.take_add_one,HX.out,List.flatMap_append,ais];exact HG2.out.set (p:=⟨b,0,none⟩) hb2 (by show w.heap.size≤b;omega) _,by have:=oW.abf 0 (.slice vA vN vC);simpa using this,(eS w.heap.size (by omega) (by omega)).trans HB4.out,(eS (w.heap.size+1) (by omega) (by omega)).trans HB5.out,Lib.hid (uj.keep _ _ _ HHR.out fun g hg=>eS g (HIN.out.2 g hg).2 (fun e=>HNE.out (e ▸ hg)))⟩
     case measure=>simp[intOf];omega
    case bm6=>
     go_simp
     go_at_call 125
     refine(HC.out _ hbD).mono ?_
     rintro e wq ⟨us,rfl,hl,aoe⟩
     obtain⟨lA2,lN2,lC2,kA2,kN2,kC2,rfl⟩:=Ty.afp hl
     obtain⟨F2,hh,hi2,_⟩:=hl
     have hi3:In F2 wr.heap.size wq.heap.size:=hi2
     have HH:Hid (uj wq (Param.pd ⟨name,⟨iy,ji,og,um⟩⟩) [.string name,.int .i64 iy,.string ji,.slice lA2 lN2 lC2,.slice kA2 kN2 kC2] F2):=Lib.hid (uj.cons (Hold.a0t wq _) hh)
     have hbq:Below wr.heap.size wr wq:=hbD.trans aoe
     have eQ:∀ i,i < wc.heap.size→wq.heap[i]?=wr.heap[i]?:=fun i hi=>hbq.block i (by omega)
     have oQ:=bO.step hbq
     have o3q:wq.cell? ⟨b,0,none⟩=some (.slice uA uN uC):=oQ.cell 0
     have oA:=oQ.alloc (.cells #[.string name,.int .i64 iy,.string ji,.slice lA2 lN2 lC2,.slice kA2 kN2 kC2] 115)
     have o3a:(wq.alloc (.cells #[.string name,.int .i64 iy,.string ji,.slice lA2 lN2 lC2,.slice kA2 kN2 kC2] 115)).cell? ⟨b,0,none⟩=some (.slice uA uN uC):=oA.cell 0
     have eA:∀ i,i < wc.heap.size→(wq.alloc (.cells #[.string name,.int .i64 iy,.string ji,.slice lA2 lN2 lC2,.slice kA2 kN2 kC2] 115)).heap[i]?=wr.heap[i]?:=fun i hi=>(Below.heap_alloc wq _ i (by have:=hbq.size;omega)).trans (eQ i hi)
     clear hh hi2
     try go_wp2_with fail
     refine hK.out _ _ (by first|exact(KC.out _ (fun i hi _=>eQ i hi))|go_keep) (fun hHeld=>?_)
     clear hK K
     try simp only[Act.put,List.setIfInBounds_toArray,List.set_cons_zero,List.set_cons_succ]
     refine wpAnyH_take (i:=15) (oi:=_) (v:=_) (by simp only[List.getElem?_toArray,List.getElem?_cons_succ,List.getElem?_cons_zero];rfl) (by kernel_rfl) (by kernel_rfl) (by kernel_rfl) (by exact fun _ _ _ h=>h) (Or.inl ⟨by rfl,by intro w hSw;(try dsimp only at hSw);go_simp;try with_reducible rfl⟩) (by assumption) ?_
     try simp only[Act.put,List.setIfInBounds_toArray,List.set_cons_zero,List.set_cons_succ]
     refine wpAnyH_ready (rs:=[1,16]) (by kernel_rfl) (by simp) ?_
     refine AllReadyH.cons (o:=?bu4) ?bm7 (fun K hK=>?bm8) (AllReadyH.cons (o:=?bub) ?blj (fun K hK=>?bll) AllReadyH.nil)
     case bm7=>
      simp only[List.getElem?_toArray,List.getElem?_cons_succ,List.getElem?_cons_zero];rfl
     case blj=>
      simp only[List.getElem?_toArray,List.getElem?_cons_succ,List.getElem?_cons_zero];rfl
     case bm8=>
      go_simp
      refine hK.out _ _ (by first|exact(KC.out _ (fun i hi _=>eQ i hi))|go_keep) (fun hHeld=>?_)
      clear hK K
      try simp only[Act.put,List.setIfInBounds_toArray,List.set_cons_zero,List.set_cons_succ]
      refine wpAnyH_ready (rs:=[16]) (by kernel_rfl) (by simp) ?_
      refine AllReadyH.cons (o:=?o12) ?h12 (fun K hK=>?k12) AllReadyH.nil
      case h12=>
       simp only[List.getElem?_toArray,List.getElem?_cons_succ,List.getElem?_cons_zero];rfl
      go_simp
      refine hK.out _ _ (by first|exact(KC.out _ (fun i hi _=>eA i hi))|go_keep) (fun hHeld=>?_)
      clear hK K
      try simp only[Act.put,List.setIfInBounds_toArray,List.set_cons_zero,List.set_cons_succ]
      refine wpAnyH_ready (rs:=[17]) (by kernel_rfl) (by simp) ?_
      refine AllReadyH.cons (o:=?o13) ?h13 (fun K hK=>?k13) AllReadyH.nil
      case h13=>
       simp only[List.getElem?_toArray,List.getElem?_cons_succ,List.getElem?_cons_zero];rfl
      refine afn (by rfl) _ _ 57 (by rfl) wc.heap.size 115 i0 (.agg #[.string {data:=#[]},.int .i64 0,.string {data:=#[]},.slice none 0 0,.slice none 0 0]) 5 88 Tryz.underlying57 hi hz0 hz1 hz2 rfl (by decide) (.slice uA uN uC) k cs (by rfl) (((HG.out.step hbq).1).alloc _) (.slice (some ⟨wq.heap.size,0,none⟩) 1 1) 1 [.string name,.int .i64 iy,.string ji,.slice lA2 lN2 lC2,.slice kA2 kN2 kC2] (by rfl) (.inr ⟨⟨wq.heap.size,0,none⟩,1,rfl,rfl,World.news_of_block (heap_alloc_new wq _)⟩) (atg _ _ _ _ _ _ _ _ _) (by simp only[maxLen];omega) (by omega) (by have:=hbq.size;simp;omega) ?_
      intro v' w3 hown' hgrow agq
      obtain⟨vA,vN,vC,rfl,_⟩:=(Own.ai7 hown').form
      have HG2:=Lib.hid (HG.out.next hbq HH.out hi3 ((Below.refl _ _).alloc (Nat.le_refl _) _) hown' hgrow agq)
      have hrow:∀ i,i < wc.heap.size→some i≠(Value.slice uA uN uC).ownBlock:=fun i hi e=>by have:=(HG.out.1.lt _ e.symm).1;omega
      have oW:Blk w3 b 62 #[.slice uA uN uC,.int .i64 bg,.string cu,.slice lA lN lC,.slice kA kN kC,.bool async]:=(hgrow.block b oA.lt (hrow b hb2)).trans oA
      have e3:∀ i,i < wc.heap.size→w3.heap[i]?=wr.heap[i]?:=fun i hi=>(hgrow.block i (by have:=hbq.size;simp;omega) (hrow i (by omega))).trans (eA i hi)
      have eS:∀ i,i < wc.heap.size→i≠b→(w3.setCell ⟨b,0,none⟩ (.slice vA vN vC)).heap[i]?=wr.heap[i]?:=fun i hi hne=>(Below.heap_setCell w3 ⟨b,0,none⟩ (.slice vA vN vC) i hne).trans (e3 i hi)
      have fO:=oW.frozen 0
      have cO:w3.cell? ⟨b,0,none⟩=some (.slice uA uN uC):=oW.cell 0
      clear hown' hgrow agq hrow
      refine hK.out _ _ (by first|exact(KC.out _ (fun i hi _=>e3 i hi))|go_keep) (fun hHeld=>?_)
      clear hK K
      try simp only[Act.put,List.setIfInBounds_toArray,List.set_cons_zero,List.set_cons_succ]
      refine wpAnyH_take (i:=18) (oi:=_) (v:=_) (by simp only[List.getElem?_toArray,List.getElem?_cons_succ,List.getElem?_cons_zero];rfl) (by kernel_rfl) (by kernel_rfl) (by kernel_rfl) (by exact fun _ _ _ h=>h) (Or.inl ⟨by rfl,by intro w hSw;(try dsimp only at hSw);go_simp;try with_reducible rfl⟩) (by assumption) ?_
      try simp only[Act.put,List.setIfInBounds_toArray,List.set_cons_zero,List.set_cons_succ]
      refine wpAnyH_ready (rs:=[19]) (by kernel_rfl) (by simp) ?_
      refine AllReadyH.cons (o:=?o14) ?h14 (fun K hK=>?k14) AllReadyH.nil
      case h14=>
       simp only[List.getElem?_toArray,List.getElem?_cons_succ,List.getElem?_cons_zero];rfl
      go_simp
      refine hK.out _ _ (by first|exact(KC.out _ eS)|go_keep) (fun hHeld=>?_)
      clear hK K
      try simp only[Act.put,List.setIfInBounds_toArray,List.set_cons_zero,List.set_cons_succ]
      refine wpAnyH_done (by kernel_rfl) ?_ _
      go_wp2_with fail
      go_roundw
      case rel=>exact⟨k+1,.slice vA vN vC,_,_,by omega,by go_num,by rw[List.take_add_one,HX.out,List.flatMap_append,ais];exact HG2.out.set (p:=⟨b,0,none⟩) hb2 (by show w.heap.size≤b;omega) _,by have:=oW.abf 0 (.slice vA vN vC);simpa using this,(eS w.heap.size (by omega) (by omega)).trans HB4.out,(eS (w.heap.size+1) (by omega) (by omega)).trans HB5.out,Lib.hid (uj.keep _ _ _ HHR.out fun g hg=>eS g (HIN.out.2 g hg).2 (fun e=>HNE.out (e ▸ hg)))⟩
      case measure=>simp[intOf];omega
     case bll=>
      go_simp
      refine hK.out _ _ (by first|exact(KC.out _ (fun i hi _=>eA i hi))|go_keep) (fun hHeld=>?_)
      clear hK K
      try simp only[Act.put,List.setIfInBounds_toArray,List.set_cons_zero,List.set_cons_succ]
      refine wpAnyH_ready (rs:=[1]) (by kernel_rfl) (by simp) ?_
      refine AllReadyH.cons (o:=?o15) ?h15 (fun K hK=>?k15) AllReadyH.nil
      case h15=>
       simp only[List.getElem?_toArray,List.getElem?_cons_succ,List.getElem?_cons_zero];rfl
      go_simp
      refine hK.out _ _ (by first|exact(KC.out _ (fun i hi _=>eA i hi))|go_keep) (fun hHeld=>?_)
      clear hK K
      try simp only[Act.put,List.setIfInBounds_toArray,List.set_cons_zero,List.set_cons_succ]
      refine wpAnyH_ready (rs:=[17]) (by kernel_rfl) (by simp) ?_
      refine AllReadyH.cons (o:=?o16) ?h16 (fun K hK=>?k16) AllReadyH.nil
      case h16=>
       simp only[List.getElem?_toArray,List.getElem?_cons_succ,List.getElem?_cons_zero];rfl
      refine afn (by rfl) _ _ 57 (by rfl) wc.heap.size 115 i0 (.agg #[.string {data:=#[]},.int .i64 0,.string {data:=#[]},.slice none 0 0,.slice none 0 0]) 5 88 Tryz.underlying57 hi hz0 hz1 hz2 rfl (by decide) (.slice uA uN uC) k cs (by rfl) (((HG.out.step hbq).1).alloc _) (.slice (some ⟨wq.heap.size,0,none⟩) 1 1) 1 [.string name,.int .i64 iy,.string ji,.slice lA2 lN2 lC2,.slice kA2 kN2 kC2] (by rfl) (.inr ⟨⟨wq.heap.size,0,none⟩,1,rfl,rfl,World.news_of_block (heap_alloc_new wq _)⟩) (atg _ _ _ _ _ _ _ _ _) (by simp only[maxLen];omega) (by omega) (by have:=hbq.size;simp;omega) ?_
      intro v' w3 hown' hgrow agq
      obtain⟨vA,vN,vC,rfl,_⟩:=(Own.ai7 hown').form
      have HG2:=Lib.hid (HG.out.next hbq HH.out hi3 ((Below.refl _ _).alloc (Nat.le_refl _) _) hown' hgrow agq)
      have hrow:∀ i,i < wc.heap.size→some i≠(Value.slice uA uN uC).ownBlock:=fun i hi e=>by have:=(HG.out.1.lt _ e.symm).1;omega
      have oW:Blk w3 b 62 #[.slice uA uN uC,.int .i64 bg,.string cu,.slice lA lN lC,.slice kA kN kC,.bool async]:=(hgrow.block b oA.lt (hrow b hb2)).trans oA
      have e3:∀ i,i < wc.heap.size→w3.heap[i]?=wr.heap[i]?:=fun i hi=>(hgrow.block i (by have:=hbq.size;simp;omega) (hrow i (by omega))).trans (eA i hi)
      have eS:∀ i,i < wc.heap.size→i≠b→(w3.setCell ⟨b,0,none⟩ (.slice vA vN vC)).heap[i]?=wr.heap[i]?:=fun i hi hne=>(Below.heap_setCell w3 ⟨b,0,none⟩ (.slice vA vN vC) i hne).trans (e3 i hi)
      have fO:=oW.frozen 0
      have cO:w3.cell? ⟨b,0,none⟩=some (.slice uA uN uC):=oW.cell 0
      clear hown' hgrow agq hrow
      refine hK.out _ _ (by first|exact(KC.out _ (fun i hi _=>e3 i hi))|go_keep) (fun hHeld=>?_)
      clear hK K
      try simp only[Act.put,List.setIfInBounds_toArray,List.set_cons_zero,List.set_cons_succ]
      refine wpAnyH_take (i:=18) (oi:=_) (v:=_) (by simp only[List.getElem?_toArray,List.getElem?_cons_succ,List.getElem?_cons_zero];rfl) (by kernel_rfl) (by kernel_rfl) (by kernel_rfl) (by exact fun _ _ _ h=>h) (Or.inl ⟨by rfl,by intro w hSw;(try dsimp only at hSw);go_simp;try with_reducible rfl⟩) (by assumption) ?_
      try simp only[Act.put,List.setIfInBounds_toArray,List.set_cons_zero,List.set_cons_succ]
      refine wpAnyH_ready (rs:=[19]) (by kernel_rfl) (by simp) ?_
      refine AllReadyH.cons (o:=?o17) ?h17 (fun K hK=>?k17) AllReadyH.nil
      case h17=>
       simp only[List.getElem?_toArray,List.getElem?_cons_succ,List.getElem?_cons_zero];rfl
      go_simp
      refine hK.out _ _ (by first|exact(KC.out _ eS)|go_keep) (fun hHeld=>?_)
      clear hK K
      try simp only[Act.put,List.setIfInBounds_toArray,List.set_cons_zero,List.set_cons_succ]
      refine wpAnyH_done (by kernel_rfl) ?_ _
      go_wp2_with fail
      go_roundw
      case rel=>exact⟨k+1,.slice vA vN vC,_,_,by omega,by go_num,by rw[List.take_add_one,HX.out,List.flatMap_append,ais];exact HG2.out.set (p:=⟨b,0,none⟩) hb2 (by show w.heap.size≤b;omega) _,by have:=oW.abf 0 (.slice vA vN vC);simpa using this,(eS w.heap.size (by omega) (by omega)).trans HB4.out,(eS (w.heap.size+1) (by omega) (by omega)).trans HB5.out,Lib.hid (uj.keep _ _ _ HHR.out fun g hg=>eS g (HIN.out.2 g hg).2 (fun e=>HNE.out (e ▸ hg)))⟩
      case measure=>simp[intOf];omega
   ·have hkn:k=n:=by omega
    have HT:Hid (params.take k=params):=List.take_of_length_le (by have:=HN.out;omega)
    have hfin:=hG.done
    rw[HT.out] at hfin
    have LK:=Lib.hid hfin
    have cO0:wr.cell? ⟨b,0,none⟩=some (.slice uA uN uC):=bO.cell 0
    have cO1:wr.cell? ⟨b,1,none⟩=some (.int .i64 bg):=bO.cell 1
    have cO2:wr.cell? ⟨b,2,none⟩=some (.string cu):=bO.cell 2
    have cO3:wr.cell? ⟨b,3,none⟩=some (.slice lA lN lC):=bO.cell 3
    have cO4:wr.cell? ⟨b,4,none⟩=some (.slice kA kN kC):=bO.cell 4
    have cO5:wr.cell? ⟨b,5,none⟩=some (.bool async):=bO.cell 5
    have p3:wr.cell? ⟨w.heap.size,0,none⟩=some (.slice A n c):=bP.cell 0
    have fR0:=bR.frozen 0
    have fR1:=bR.frozen 1
    have fR2:=bR.frozen 2
    have fR3:=bR.frozen 3
    have fR4:=bR.frozen 4
    have fR5:=bR.frozen 5
    have cR0:wr.cell? ⟨w.heap.size+1,0,none⟩=some (.slice none 0 0):=bR.cell 0
    have cR1:wr.cell? ⟨w.heap.size+1,1,none⟩=some (.int .i64 0):=bR.cell 1
    have cR2:wr.cell? ⟨w.heap.size+1,2,none⟩=some (.string {data:=#[]}):=bR.cell 2
    have cR3:wr.cell? ⟨w.heap.size+1,3,none⟩=some (.slice none 0 0):=bR.cell 3
    have cR4:wr.cell? ⟨w.heap.size+1,4,none⟩=some (.slice none 0 0):=bR.cell 4
    have cR5:wr.cell? ⟨w.heap.size+1,5,none⟩=some (.bool false):=bR.cell 5
    clear hG hfin HAT bO bP
    go_wp2_with fail
    refine bodyPost_ret (v:=.agg #[.slice uA uN uC,.int .i64 bg,.string cu,.slice lA lN lC,.slice kA kN kC,.bool async]) (by simp[results,Tryz.results93,go_sem,cR0,cR1,cR2,cR3,cR4,cR5]) rfl ⟨[.slice uA uN uC,.int .i64 bg,.string cu,.slice lA lN lC,.slice kA kN kC,.bool async],rfl,?_,?_⟩
    ·have LR:LvC wr w0.heap.size wc.heap.size (Ty.pd ⟨bg,cu,jv,mg⟩) [.int .i64 bg,.string cu,.slice lA lN lC,.slice kA kN kC]:=⟨FR,HHR.out,HIN.out,hlo⟩
     have LB:LvC wr wc.heap.size wc.heap.size [.lit (.bool async)] [.bool async]:=(LvC.nil wr _ _ hlo).lit _
     have LT:=LvC.append LR LB (Nat.le_refl _) (by omega) (Nat.le_refl _)
     have base:=LvC.mix (lo:=w0.heap.size) (hi:=wr.heap.size) LK.out LT (.inr (Nat.le_refl _)) (by omega) (Nat.le_refl _) (Nat.le_refl _) hlo (Nat.le_refl _)
     have hpd:jh.pd ⟨params,⟨bg,cu,jv,mg⟩,async⟩=PD.row 5 (params.flatMap Param.pd) ::(Ty.pd ⟨bg,cu,jv,mg⟩ ++[.lit (.bool async)]):=by rw[jh.pd];rfl
     rw[hpd]
     refine LvC.low (lo2:=w0.heap.size) ?_ (by omega)
     refine LvC.more (hi:=wr.heap.size) ?_ (Nat.le_refl _) (by simp[World.setCell]) (Nat.le_refl _)
     iterate 6 (refine LvC.setCell ?_ (.inl (by show w.heap.size+1 < w0.heap.size;omega)) _)
     exact base
    ·iterate 6 (refine Below.setCell ?_ (by simp;try omega) _)
     exact hbr
end Go.Proofs.YtbafphecjijdmaaGreatDoor
