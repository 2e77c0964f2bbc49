/-
  Function types are copied (the reference: l03OwnFunc; by program: gen_ownf.py).
-/
import Derived.Test.YtbafphecjijdmaaGreatDoorUb31
namespace Go.Proofs.YtbafphecjijdmaaGreatDoor
open Go.RowKit
set_option linter.all false
set_option maxRecDepth 16000
theorem avs (s:ByteArray) (k:Int) (s2:ByteArray) (A A':Option Addr) (n n' c c':Nat):∀ u ∈ [Value.string s,Value.int .i64 k,Value.string s2,Value.slice A n c,Value.slice A' n' c'],u.oneCell'=true:=by
 intro u hu
 simp only[List.mem_cons,List.not_mem_nil,or_false] at hu
 rcases hu with rfl|rfl|rfl|rfl|rfl<;>rfl
theorem LvC.mix {w:World} {lo hi lo1 hi1 lo2 hi2:Nat} {d1:PD} {v1:Value} {ds:List PD} {us:List Value} (k1:Lv w lo1 hi1 d1 v1) (k2:LvC w lo2 hi2 ds us) (h:hi1≤lo2∨hi2≤lo1) (hl1:lo≤lo1) (hl2:lo≤lo2) (hh1:hi1≤hi) (hh2:hi2≤hi) (hh:hi≤w.heap.size):LvC w lo hi (d1 ::ds) (v1 ::us):=by
 obtain⟨F1,a1,a2,a3⟩:=k1
 obtain⟨F2,b1,b2,b3⟩:=k2
 refine⟨F1 ++F2,uh.cons a1 b1,⟨?_,fun g hg=>?_⟩,hh⟩
 ·refine List.nodup_append.2 ⟨a2.1,b2.1,fun x hx y hy e=>?_⟩
  have:=a2.2 x hx
  have:=b2.2 y hy
  omega
 ·rcases List.mem_append.1 hg with hg|hg
  ·have:=a2.2 g hg;omega
  ·have:=b2.2 g hg;omega
set_option maxHeartbeats 12800000 in
theorem ba7 (f:jh):ToC 93 (jh.pd f):=by
 intro B cs w hB hsz h
 obtain⟨params,⟨dh,dn,ku,ny⟩,async⟩:=f
 obtain⟨aeh,pq,uf,rfl,aea,aao,aa2⟩:=jh.open_ h
 have ags:=zqd aea
 clear aea
 have acs:=zqd aao
 clear aao
 have ado:=zqd aa2
 clear aa2
 obtain⟨aep,aer,aes,rfl⟩:=acs.out.form
 obtain⟨afd,afe,aff,rfl⟩:=ado.out.form
 obtain⟨A,n,c,rfl,hnl,hm,hat⟩:=ni Param.jd (by decide) ags.out
 unfold maxLen at hm
 obtain⟨i0,hi,hz0,hz1,hz2⟩:=info_parts aun
 have hsr:PD.szL (Ty.pd ⟨dh,dn,ku,ny⟩)≤1048576∧PD.szL (params.flatMap Param.pd)≤1048576∧params.length≤1048576:=by
  rw[jh.aj] at hsz
  rw[Ty.aj]
  simp only[PD.szL] at hsz ⊢
  rw[ahw Param.jd (by decide)] at hsz
  omega
 have hnn:n≤1048576:=by omega
 have HN:=zqd hnl
 have HS:=zqd hsr
 have HAT:=zqd hat
 clear h hnl hsz hat hsr
 go_enter Tryz.func93,Tryz.ntmps93
 go_wp2_with fail
 obtain⟨w0,hw0⟩:∃ w0,w0=(w.alloc (.cells #[.slice A n c,.int .i64 dh,.string dn,.slice aep aer aes,.slice afd afe aff,.bool async] 62)).alloc (.cells #[.slice none 0 0,.int .i64 0,.string {data:=#[]},.slice none 0 0,.slice none 0 0,.bool false] 62):=⟨_,rfl⟩
 rw[← hw0]
 have bP:Blk w0 w.heap.size 62 #[.slice A n c,.int .i64 dh,.string dn,.slice aep aer aes,.slice afd afe aff,.bool async]:=by rw[hw0];exact(Blk.new w _ _).alloc _
 have bR:Blk w0 (w.heap.size+1) 62 #[.slice none 0 0,.int .i64 0,.string {data:=#[]},.slice none 0 0,.slice none 0 0,.bool false]:=by rw[hw0];have:=Blk.new (w.alloc (.cells #[.slice A n c,.int .i64 dh,.string dn,.slice aep aer aes,.slice afd afe aff,.bool async] 62)) 62 #[.slice none 0 0,.int .i64 0,.string {data:=#[]},.slice none 0 0,.slice none 0 0,.bool false];simpa using this
 have hB0:Below w.heap.size w w0:=by rw[hw0];exact((zqf _ _).alloc (zql _) _).alloc (by simp) _
 have hs0:w0.heap.size=w.heap.size+2:=by rw[hw0];simp
 have HS0:=zqd hs0
 clear hw0 hs0
 have HC1:=zqd (fun(W:World) (hW:Below w0.heap.size w0 W)=>a2i ⟨dh,dn,ku,ny⟩ B [.int .i64 dh,.string dn,.slice aep aer aes,.slice afd afe aff] W (Nat.le_trans hB (Nat.le_trans hB0.size hW.size)) HS.out.1 (Ty.close_ (acs.out.below ((hB0.trans (hW.mono hB0.size)).mono hB)) (ado.out.below ((hB0.trans (hW.mono hB0.size)).mono hB))))
 go_cut [3] from 5 to 11 (fun v wx=>∃ (b:Nat) (lA:Option Addr) (lN lC:Nat) (kA:Option Addr) (kN kC:Nat) (FR:List Nat),v=.pointer (some ⟨b,0,none⟩)∧w0.heap.size≤b∧b < wx.heap.size∧Blk wx b 62 #[.slice none 0 0,.int .i64 dh,.string dn,.slice lA lN lC,.slice kA kN kC,.bool async]∧Hid (uh wx (Ty.pd ⟨dh,dn,ku,ny⟩) [.int .i64 dh,.string dn,.slice lA lN lC,.slice kA kN kC] FR)∧In FR w0.heap.size wx.heap.size∧Hid (b ∉ FR)∧Below w0.heap.size w0 wx)
 case first=>
  have hlP:w.heap.size < w0.heap.size:=bP.lt
  have hb0:Below w0.heap.size w0 w0.drew:=(zqf _ _).drew
  have hbZ:Below w0.heap.size w0 (w0.alloc (.cells #[.slice none 0 0,.int .i64 0,.string {data:=#[]},.slice none 0 0,.slice none 0 0,.bool false] 62)).drew:=((zqf _ _).alloc (zql _) _).drew
  have xA:Blk (w0.alloc (.cells #[.slice none 0 0,.int .i64 0,.string {data:=#[]},.slice none 0 0,.slice none 0 0,.bool false] 62)).drew w0.heap.size 62 #[.slice none 0 0,.int .i64 0,.string {data:=#[]},.slice none 0 0,.slice none 0 0,.bool false]:=Blk.new w0 _ _
  have bP0:=bP.below hb0 hlP
  have bPZ:=bP.below hbZ hlP
  refine wp_region_held_drew (S:=(fun w'=>w'.cell? ⟨w.heap.size,1,none⟩=some (.int .i64 dh)∧w'.cell? ⟨w.heap.size,2,none⟩=some (.string dn)∧w'.cell? ⟨w.heap.size,3,none⟩=some (.slice aep aer aes)∧w'.cell? ⟨w.heap.size,4,none⟩=some (.slice afd afe aff)∧w'.cell? ⟨w.heap.size,5,none⟩=some (.bool async))) (by kernel_rfl) ⟨bP0.cell 1,bP0.cell 2,bP0.cell 3,bP0.cell 4,bP0.cell 5⟩ (fun hHeld=>?_)
  refine zqt 0 ?_
  try simp only[Act.put,zs1,zs2,zs3]
  refine zqt 1 ?_
  try simp only[Act.put,zs1,zs2,zs3]
  refine zqt 3 ?_
  try simp only[Act.put,zs1,zs2,zs3]
  refine zqt 4 ?_
  try simp only[Act.put,zs1,zs2,zs3]
  refine zqs [2,6] ?_
  refine AllReadyH.cons (o:=?bv6) ?bj6 (fun K hK=>?bj7) (AllReadyH.cons (o:=?b3i) ?bv7 (fun K hK=>?bv8) AllReadyH.nil)
  case bj6=>
   simp only[zg1,zg2,zg3];rfl
  case bv7=>
   simp only[zg1,zg2,zg3];rfl
  case bj7=>
   go_simp
   go_at_call 125
   refine(HC1.out _ hb0).mono ?_
   rintro e wq ⟨us,rfl,hl,apr⟩
   obtain⟨lA,lN,lC,kA,kN,kC,rfl⟩:=Ty.afv hl
   obtain⟨FR,hh,hi2,_⟩:=hl
   have HH:=zqd hh
   have hbq:=hb0.trans (apr.mono hb0.size)
   refine hK.out _ _ (by first|exact⟨(bP.below hbq hlP).cell 1,(bP.below hbq hlP).cell 2,(bP.below hbq hlP).cell 3,(bP.below hbq hlP).cell 4,(bP.below hbq hlP).cell 5⟩|go_keep) (fun hHeld=>?_)
   clear hK K
   try simp only[Act.put,zs1,zs2,zs3]
   refine zqt 5 ?_
   try simp only[Act.put,zs1,zs2,zs3]
   refine zqr 6 fun K hK=>?_
   go_simp
   refine hK.out _ _ (by first|exact⟨((bP.below hbq hlP).alloc _).cell 1,((bP.below hbq hlP).alloc _).cell 2,((bP.below hbq hlP).alloc _).cell 3,((bP.below hbq hlP).alloc _).cell 4,((bP.below hbq hlP).alloc _).cell 5⟩|go_keep) (fun hHeld=>?_)
   clear hK K
   try simp only[Act.put,zs1,zs2,zs3]
   refine zqr 7 fun K hK=>?_
   go_simp
   refine hK.out _ _ (by first|exact⟨((bP.below hbq hlP).alloc _).cell 1,((bP.below hbq hlP).alloc _).cell 2,((bP.below hbq hlP).alloc _).cell 3,((bP.below hbq hlP).alloc _).cell 4,((bP.below hbq hlP).alloc _).cell 5⟩|go_keep) (fun hHeld=>?_)
   clear hK K
   try simp only[Act.put,zs1,zs2,zs3]
   refine wpAnyH_done (by kernel_rfl) ?_ _
   go_wp2_with fail
   go_meet
   exact⟨wq.heap.size,lA,lN,lC,kA,kN,kC,FR,rfl,by have:=hbq.size;omega,by simp,Blk.new wq _ _,zqd (uh.keep _ _ _ HH.out fun g hg=>Below.heap_alloc wq _ g (hi2.2 g hg).2),hi2.more (zql _) (by simp),zqd (fun hm=>by have:=(hi2.2 _ hm).2;omega),hbq.alloc hbq.size _⟩
  case bv8=>
   go_simp
   refine hK.out _ _ (by first|exact⟨bPZ.cell 1,bPZ.cell 2,bPZ.cell 3,bPZ.cell 4,bPZ.cell 5⟩|go_keep) (fun hHeld=>?_)
   clear hK K
   try simp only[Act.put,zs1,zs2,zs3]
   refine zqr 2 fun K hK=>?_
   go_simp
   go_at_call 125
   refine(HC1.out _ hbZ).mono ?_
   rintro e wq ⟨us,rfl,hl,apr⟩
   obtain⟨lA,lN,lC,kA,kN,kC,rfl⟩:=Ty.afv hl
   obtain⟨FR,hh,hi2,_⟩:=hl
   have HH:=zqd hh
   have hbq:=hbZ.trans (apr.mono hbZ.size)
   have oA:=xA.step apr
   have fA0:=oA.frozen 0
   have fA1:=oA.frozen 1
   have fA2:=oA.frozen 2
   have fA3:=oA.frozen 3
   have fA4:=oA.frozen 4
   have fA5:=oA.frozen 5
   obtain⟨cA0,cA1,cA2,cA3,cA4,cA5⟩:=zc6 oA
   refine hK.out _ _ (by first|exact⟨(bP.below hbq hlP).cell 1,(bP.below hbq hlP).cell 2,(bP.below hbq hlP).cell 3,(bP.below hbq hlP).cell 4,(bP.below hbq hlP).cell 5⟩|go_keep) (fun hHeld=>?_)
   clear hK K
   try simp only[Act.put,zs1,zs2,zs3]
   refine zqt 5 ?_
   try simp only[Act.put,zs1,zs2,zs3]
   refine zqr 7 fun K hK=>?_
   go_simp
   refine hK.out _ _ (by first|exact⟨(((((((((((((bP.below hbq hlP)).far (by first|omega|(simp;done)|(simp;omega)|(simp only;omega)|(show w.heap.size≠w0.heap.size;omega)) _)).far (by first|omega|(simp;done)|(simp;omega)|(simp only;omega)|(show w.heap.size≠w0.heap.size;omega)) _)).far (by first|omega|(simp;done)|(simp;omega)|(simp only;omega)|(show w.heap.size≠w0.heap.size;omega)) _)).far (by first|omega|(simp;done)|(simp;omega)|(simp only;omega)|(show w.heap.size≠w0.heap.size;omega)) _)).far (by first|omega|(simp;done)|(simp;omega)|(simp only;omega)|(show w.heap.size≠w0.heap.size;omega)) _)).far (by first|omega|(simp;done)|(simp;omega)|(simp only;omega)|(show w.heap.size≠w0.heap.size;omega)) _).cell 1,(((((((((((((bP.below hbq hlP)).far (by first|omega|(simp;done)|(simp;omega)|(simp only;omega)|(show w.heap.size≠w0.heap.size;omega)) _)).far (by first|omega|(simp;done)|(simp;omega)|(simp only;omega)|(show w.heap.size≠w0.heap.size;omega)) _)).far (by first|omega|(simp;done)|(simp;omega)|(simp only;omega)|(show w.heap.size≠w0.heap.size;omega)) _)).far (by first|omega|(simp;done)|(simp;omega)|(simp only;omega)|(show w.heap.size≠w0.heap.size;omega)) _)).far (by first|omega|(simp;done)|(simp;omega)|(simp only;omega)|(show w.heap.size≠w0.heap.size;omega)) _)).far (by first|omega|(simp;done)|(simp;omega)|(simp only;omega)|(show w.heap.size≠w0.heap.size;omega)) _).cell 2,(((((((((((((bP.below hbq hlP)).far (by first|omega|(simp;done)|(simp;omega)|(simp only;omega)|(show w.heap.size≠w0.heap.size;omega)) _)).far (by first|omega|(simp;done)|(simp;omega)|(simp only;omega)|(show w.heap.size≠w0.heap.size;omega)) _)).far (by first|omega|(simp;done)|(simp;omega)|(simp only;omega)|(show w.heap.size≠w0.heap.size;omega)) _)).far (by first|omega|(simp;done)|(simp;omega)|(simp only;omega)|(show w.heap.size≠w0.heap.size;omega)) _)).far (by first|omega|(simp;done)|(simp;omega)|(simp only;omega)|(show w.heap.size≠w0.heap.size;omega)) _)).far (by first|omega|(simp;done)|(simp;omega)|(simp only;omega)|(show w.heap.size≠w0.heap.size;omega)) _).cell 3,(((((((((((((bP.below hbq hlP)).far (by first|omega|(simp;done)|(simp;omega)|(simp only;omega)|(show w.heap.size≠w0.heap.size;omega)) _)).far (by first|omega|(simp;done)|(simp;omega)|(simp only;omega)|(show w.heap.size≠w0.heap.size;omega)) _)).far (by first|omega|(simp;done)|(simp;omega)|(simp only;omega)|(show w.heap.size≠w0.heap.size;omega)) _)).far (by first|omega|(simp;done)|(simp;omega)|(simp only;omega)|(show w.heap.size≠w0.heap.size;omega)) _)).far (by first|omega|(simp;done)|(simp;omega)|(simp only;omega)|(show w.heap.size≠w0.heap.size;omega)) _)).far (by first|omega|(simp;done)|(simp;omega)|(simp only;omega)|(show w.heap.size≠w0.heap.size;omega)) _).cell 4,(((((((((((((bP.below hbq hlP)).far (by first|omega|(simp;done)|(simp;omega)|(simp only;omega)|(show w.heap.size≠w0.heap.size;omega)) _)).far (by first|omega|(simp;done)|(simp;omega)|(simp only;omega)|(show w.heap.size≠w0.heap.size;omega)) _)).far (by first|omega|(simp;done)|(simp;omega)|(simp only;omega)|(show w.heap.size≠w0.heap.size;omega)) _)).far (by first|omega|(simp;done)|(simp;omega)|(simp only;omega)|(show w.heap.size≠w0.heap.size;omega)) _)).far (by first|omega|(simp;done)|(simp;omega)|(simp only;omega)|(show w.heap.size≠w0.heap.size;omega)) _)).far (by first|omega|(simp;done)|(simp;omega)|(simp only;omega)|(show w.heap.size≠w0.heap.size;omega)) _).cell 5⟩|go_keep) (fun hHeld=>?_)
   clear hK K
   try simp only[Act.put,zs1,zs2,zs3]
   refine wpAnyH_done (by kernel_rfl) ?_ _
   go_wp2_with fail
   go_meet
   refine⟨w0.heap.size,lA,lN,lC,kA,kN,kC,FR,rfl,zql _,by have:=oA.lt;first|omega|(simp[World.setCell];omega)|simpa [World.setCell] using this,?_,?_,?_,zqd (fun hm=>by have:=(hi2.2 _ hm).1;simp at this;omega),?_⟩
   ·have:=(((((oA.aam 0 (.slice none 0 0)).aam 1 (.int .i64 dh)).aam 2 (.string dn)).aam 3 (.slice lA lN lC)).aam 4 (.slice kA kN kC)).aam 5 (.bool async)
    simpa using this
   ·refine zqd (uh.keep _ _ _ HH.out fun g hg=>?_)
    have hne:g≠w0.heap.size:=fun e=>by have:=(hi2.2 _ hg).1;simp at this;omega
    iterate 6 (refine(Below.heap_setCell _ _ _ _ hne).trans ?_)
    rfl
   ·exact hi2.more (by simp) (by simp[World.setCell])
   ·iterate 6 (refine Below.setCell ?_ (by simp) _)
    exact hbq
 case rest=>
  obtain⟨b,lA,lN,lC,kA,kN,kC,FR,rfl,hb1,hb2,bO,HHR,hIN,HNE,hBx⟩:=hcut
  have hlP:=bP.lt
  have hlR:=bR.lt
  have hs0:=HS0.out
  have bP1:=bP.below hBx hlP
  have bR1:=bR.below hBx hlR
  have hBc:=hB0.trans (hBx.mono hB0.size)
  have HIN:=zqd hIN
  have hwc:=hBx.size
  clear bP bR hBx hIN
  go_wp2_with fail
  go_loopw [4] (fun i wr=>∃ (k:Nat) (u:Value) (cs:List Value) (F:List Nat),k≤n∧i=.int .i64 k∧Grow w wr wc.heap.size 115 5 k u ((params.take k).flatMap Param.pd) cs F∧Blk wr b 62 #[u,.int .i64 dh,.string dn,.slice lA lN lC,.slice kA kN kC,.bool async]∧Blk wr w.heap.size 62 #[.slice A n c,.int .i64 dh,.string dn,.slice aep aer aes,.slice afd afe aff,.bool async]∧Blk wr (w.heap.size+1) 62 #[.slice none 0 0,.int .i64 0,.string {data:=#[]},.slice none 0 0,.slice none 0 0,.bool false]∧Hid (uh wr (Ty.pd ⟨dh,dn,ku,ny⟩) [.int .i64 dh,.string dn,.slice lA lN lC,.slice kA kN kC] FR)) (fun i _=>n - (intOf i).toNat)
  case atStart=>exact⟨0,.slice none 0 0,[],[],Nat.zero_le _,rfl,Grow.none_ hBc,bO,bP1,bR1,HHR⟩
  case round=>
   clear bO bP1 bR1 HHR
   obtain⟨k,u,cs,F,hk,rfl,hG,bO,bP,bR,HHR⟩:=hrel
   obtain⟨uA,uN,uC,rfl,_⟩:=(Own.aj7 hG.1).form
   have hbr:=hG.2.2.2.2.1
   have hlo:=hG.2.2.2.2.2.2
   have hsz:=hbr.size
   by_cases hlt:k < n
   ·have hat:=HAT.out
    obtain⟨g,off,rfl,hg,hcell⟩:=hat (by omega)
    obtain⟨t,hx,hmem⟩:=um HN.out hlt
    obtain⟨name,⟨je,jm,ou,uj⟩⟩:=t
    have ape:wr.cell? ⟨g,off+k * 5,none⟩=some (.string name):=bg hbr (by omega) (hcell k 0 _ _ hx (by rw[Param.aj];rfl))
    have al8:wr.cell? ⟨g,off+k * 5+1,none⟩=some (.int .i64 je):=bg hbr (by omega) (hcell k 1 _ _ hx (by rw[Param.aj];rfl))
    have al9:wr.cell? ⟨g,off+k * 5+2,none⟩=some (.string jm):=bg hbr (by omega) (hcell k 2 _ _ hx (by rw[Param.aj];rfl))
    obtain⟨aa0,ake,abo⟩:∃ u,wr.cell? ⟨g,off+k * 5+3,none⟩=some u∧Rep wr B (.row 1 (ou.flatMap qj)) u:=jc hbr (by omega) hB (hcell k 3 _ _ hx (by rw[Param.aj];rfl))
    have ac7:=zqd abo
    clear abo
    obtain⟨ab7,ama,acw⟩:∃ u,wr.cell? ⟨g,off+k * 5+4,none⟩=some u∧Rep wr B (.row 4 (uj.flatMap Ty.pd)) u:=jc hbr (by omega) hB (hcell k 4 _ _ hx (by rw[Param.aj];rfl))
    have aef:=zqd acw
    clear acw
    obtain⟨abr,abt,abu,rfl⟩:=ac7.out.form
    obtain⟨ac0,ac1,ac2,rfl⟩:=aef.out.form
    have HX:=zqd hx
    have HM:=zqd hmem
    clear hx hmem
    clear hcell
    have HL2:=zqd (ahf (f:=Param.pd) HX.out)
    have HPZ:Hid (PD.szL (Ty.pd ⟨je,jm,ou,uj⟩)≤PD.szL (Param.pd ⟨name,⟨je,jm,ou,uj⟩⟩)):=by
     show _≤PD.szL ([PD.lit (.string name)] ++Ty.pd ⟨je,jm,ou,uj⟩)
     rw[aje];omega
    clear hat HAT
    have hcall:=fun(W:World) (hW:Below wr.heap.size wr W)=>a2i ⟨je,jm,ou,uj⟩ B [.int .i64 je,.string jm,.slice abr abt abu,.slice ac0 ac1 ac2] W (Nat.le_trans hB (Nat.le_trans hbr.size hW.size)) (by have:=HS.out;have:=HL2.out;have:=HPZ.out;omega) (Ty.close_ (ac7.out.below (hW.mono (Nat.le_trans hB hbr.size))) (aef.out.below (hW.mono (Nat.le_trans hB hbr.size))))
    have HC:=zqd hcall
    clear hcall
    have hgB:g < w.heap.size:=by omega
    have KC:Hid (∀ W:World,(∀ i,i < wc.heap.size→i≠b→W.heap[i]?=wr.heap[i]?)→W.cell? ⟨w.heap.size,0,none⟩=some (.slice (some ⟨g,off,none⟩) n c)∧W.cell? ⟨g,off+k * 5,none⟩=some (.string name)∧W.cell? ⟨g,off+k * 5+1,none⟩=some (.int .i64 je)∧W.cell? ⟨g,off+k * 5+2,none⟩=some (.string jm)∧W.cell? ⟨g,off+k * 5+3,none⟩=some (.slice abr abt abu)∧W.cell? ⟨g,off+k * 5+4,none⟩=some (.slice ac0 ac1 ac2)):=fun W hW=>⟨(World.cell?_of_block (hW w.heap.size (by omega) (by omega))).trans (bP.cell 0),(World.cell?_of_block (hW g (by omega) (by omega))).trans ape,(World.cell?_of_block (hW g (by omega) (by omega))).trans al8,(World.cell?_of_block (hW g (by omega) (by omega))).trans al9,(World.cell?_of_block (hW g (by omega) (by omega))).trans ake,(World.cell?_of_block (hW g (by omega) (by omega))).trans ama⟩
    have hbD:Below wr.heap.size wr wr.drew:=(zqf _ _).drew
    have eD:∀ i,i < wc.heap.size→i≠b→wr.drew.heap[i]?=wr.heap[i]?:=fun i hi _=>rfl
    have o3:wr.drew.cell? ⟨b,0,none⟩=some (.slice uA uN uC):=bO.drew.cell 0
    have o3':wr.cell? ⟨b,0,none⟩=some (.slice uA uN uC):=bO.cell 0
    have p3:wr.cell? ⟨w.heap.size,0,none⟩=some (.slice (some ⟨g,off,none⟩) n c):=bP.cell 0
    have hk0:(0:Int)≤(k:Int):=by omega
    have hkn:(k:Int) < (n:Int):=by omega
    have HG:=zqd hG
    have HB4:=zqd bP
    have HB5:=zqd bR
    clear hG bP bR ape al8 al9 ake ama
    go_wp2_with fail
    refine wp_region_held_drew (S:=(fun w'=>w'.cell? ⟨w.heap.size,0,none⟩=some (.slice (some ⟨g,off,none⟩) n c)∧w'.cell? ⟨g,off+k * 5,none⟩=some (.string name)∧w'.cell? ⟨g,off+k * 5+1,none⟩=some (.int .i64 je)∧w'.cell? ⟨g,off+k * 5+2,none⟩=some (.string jm)∧w'.cell? ⟨g,off+k * 5+3,none⟩=some (.slice abr abt abu)∧w'.cell? ⟨g,off+k * 5+4,none⟩=some (.slice ac0 ac1 ac2))) (by kernel_rfl) (KC.out _ eD) (fun hHeld=>?_)
    refine zqt 0 ?_
    try simp only[Act.put,zs1,zs2,zs3]
    refine zqt 2 ?_
    try simp only[Act.put,zs1,zs2,zs3]
    refine zqt 3 ?_
    try simp only[Act.put,zs1,zs2,zs3]
    refine zqt 4 ?_
    try simp only[Act.put,zs1,zs2,zs3]
    refine zqt 5 ?_
    try simp only[Act.put,zs1,zs2,zs3]
    refine zqt 6 ?_
    try simp only[Act.put,zs1,zs2,zs3]
    refine zqt 7 ?_
    try simp only[Act.put,zs1,zs2,zs3]
    refine zqt 8 ?_
    try simp only[Act.put,zs1,zs2,zs3]
    refine zqt 9 ?_
    try simp only[Act.put,zs1,zs2,zs3]
    refine zqt 10 ?_
    try simp only[Act.put,zs1,zs2,zs3]
    refine zqt 11 ?_
    try simp only[Act.put,zs1,zs2,zs3]
    refine zqt 12 ?_
    try simp only[Act.put,zs1,zs2,zs3]
    refine zqt 13 ?_
    try simp only[Act.put,zs1,zs2,zs3]
    refine zqs [1,14] ?_
    refine AllReadyH.cons (o:=?b3j) ?bv9 (fun K hK=>?bwa) (AllReadyH.cons (o:=?b2i) ?btj (fun K hK=>?btk) AllReadyH.nil)
    case bv9=>
     simp only[zg1,zg2,zg3];rfl
    case btj=>
     simp only[zg1,zg2,zg3];rfl
    case bwa=>
     go_simp
     refine hK.out _ _ (by first|exact(KC.out _ eD)|go_keep) (fun hHeld=>?_)
     clear hK K
     try simp only[Act.put,zs1,zs2,zs3]
     refine zqr 14 fun K hK=>?_
     go_simp
     go_at_call 125
     refine(HC.out _ hbD).mono ?_
     rintro e wq ⟨us,rfl,hl,apr⟩
     obtain⟨lA2,lN2,lC2,kA2,kN2,kC2,rfl⟩:=Ty.afv hl
     obtain⟨F2,hh,hi2,_⟩:=hl
     have hi3:In F2 wr.heap.size wq.heap.size:=hi2
     have HH:Hid (uh wq (Param.pd ⟨name,⟨je,jm,ou,uj⟩⟩) [.string name,.int .i64 je,.string jm,.slice lA2 lN2 lC2,.slice kA2 kN2 kC2] F2):=zqd (uh.cons (Hold.a5l wq _) hh)
     have hbq:Below wr.heap.size wr wq:=hbD.trans apr
     have eQ:∀ i,i < wc.heap.size→wq.heap[i]?=wr.heap[i]?:=fun i hi=>hbq.block i (by omega)
     have oQ:=bO.step hbq
     have o3q:wq.cell? ⟨b,0,none⟩=some (.slice uA uN uC):=oQ.cell 0
     have oA:=oQ.alloc (.cells #[.string name,.int .i64 je,.string jm,.slice lA2 lN2 lC2,.slice kA2 kN2 kC2] 115)
     have o3a:(wq.alloc (.cells #[.string name,.int .i64 je,.string jm,.slice lA2 lN2 lC2,.slice kA2 kN2 kC2] 115)).cell? ⟨b,0,none⟩=some (.slice uA uN uC):=oA.cell 0
     have eA:∀ i,i < wc.heap.size→(wq.alloc (.cells #[.string name,.int .i64 je,.string jm,.slice lA2 lN2 lC2,.slice kA2 kN2 kC2] 115)).heap[i]?=wr.heap[i]?:=fun i hi=>(Below.heap_alloc wq _ i (by have:=hbq.size;omega)).trans (eQ i hi)
     clear hh hi2
     try go_wp2_with fail
     refine hK.out _ _ (by first|exact(KC.out _ (fun i hi _=>eQ i hi))|go_keep) (fun hHeld=>?_)
     clear hK K
     try simp only[Act.put,zs1,zs2,zs3]
     refine zqt 15 ?_
     try simp only[Act.put,zs1,zs2,zs3]
     refine zqr 16 fun K hK=>?_
     go_simp
     refine hK.out _ _ (by first|exact(KC.out _ (fun i hi _=>eA i hi))|go_keep) (fun hHeld=>?_)
     clear hK K
     try simp only[Act.put,zs1,zs2,zs3]
     refine zqr 17 fun K hK=>?_
     refine aga (by rfl) _ _ 57 (by rfl) wc.heap.size 115 i0 (.agg #[.string {data:=#[]},.int .i64 0,.string {data:=#[]},.slice none 0 0,.slice none 0 0]) 5 88 Tryz.underlying57 hi hz0 hz1 hz2 rfl (by decide) (.slice uA uN uC) k cs (by rfl) (((HG.out.step hbq).1).alloc _) (.slice (some ⟨wq.heap.size,0,none⟩) 1 1) 1 [.string name,.int .i64 je,.string jm,.slice lA2 lN2 lC2,.slice kA2 kN2 kC2] (by rfl) (.inr ⟨⟨wq.heap.size,0,none⟩,1,rfl,rfl,World.news_of_block (heap_alloc_new wq _)⟩) (avs _ _ _ _ _ _ _ _ _) (by simp only[maxLen];omega) (by omega) (by have:=hbq.size;simp;omega) ?_
     intro v' w3 hown' hgrow ahe
     obtain⟨vA,vN,vC,rfl,_⟩:=(Own.aj7 hown').form
     have HG2:=zqd (HG.out.next hbq HH.out hi3 ((zqf _ _).alloc (zql _) _) hown' hgrow ahe)
     have hrow:∀ i,i < wc.heap.size→some i≠(Value.slice uA uN uC).ownBlock:=fun i hi e=>by have:=(HG.out.1.lt _ e.symm).1;omega
     have oW:Blk w3 b 62 #[.slice uA uN uC,.int .i64 dh,.string dn,.slice lA lN lC,.slice kA kN kC,.bool async]:=(hgrow.block b oA.lt (hrow b hb2)).trans oA
     have e3:∀ i,i < wc.heap.size→w3.heap[i]?=wr.heap[i]?:=fun i hi=>(hgrow.block i (by have:=hbq.size;simp;omega) (hrow i (by omega))).trans (eA i hi)
     have eS:∀ i,i < wc.heap.size→i≠b→(w3.setCell ⟨b,0,none⟩ (.slice vA vN vC)).heap[i]?=wr.heap[i]?:=fun i hi hne=>(Below.heap_setCell w3 ⟨b,0,none⟩ (.slice vA vN vC) i hne).trans (e3 i hi)
     have fO:=oW.frozen 0
     have cO:w3.cell? ⟨b,0,none⟩=some (.slice uA uN uC):=oW.cell 0
     clear hown' hgrow ahe hrow
     refine hK.out _ _ (by first|exact(KC.out _ (fun i hi _=>e3 i hi))|go_keep) (fun hHeld=>?_)
     clear hK K
     try simp only[Act.put,zs1,zs2,zs3]
     refine zqt 18 ?_
     try simp only[Act.put,zs1,zs2,zs3]
     refine zqr 19 fun K hK=>?_
     go_simp
     refine hK.out _ _ (by first|exact(KC.out _ eS)|go_keep) (fun hHeld=>?_)
     clear hK K
     try simp only[Act.put,zs1,zs2,zs3]
     refine wpAnyH_done (by kernel_rfl) ?_ _
     go_wp2_with fail
     go_roundw
     case rel=>exact⟨k+1,.slice vA vN vC,_,_,by omega,by go_num,by rw[List.take_add_one,HX.out,List.flatMap_append,aiy];exact HG2.out.set (p:=⟨b,0,none⟩) hb2 (by show w.heap.size≤b;omega) _,by have:=oW.aam 0 (.slice vA vN vC);simpa using this,(eS w.heap.size (by omega) (by omega)).trans HB4.out,(eS (w.heap.size+1) (by omega) (by omega)).trans HB5.out,zqd (uh.keep _ _ _ HHR.out fun g hg=>eS g (HIN.out.2 g hg).2 (fun e=>HNE.out (e ▸ hg)))⟩
     case measure=>simp[intOf];omega
    case btk=>
     go_simp
     go_at_call 125
     refine(HC.out _ hbD).mono ?_
     rintro e wq ⟨us,rfl,hl,apr⟩
     obtain⟨lA2,lN2,lC2,kA2,kN2,kC2,rfl⟩:=Ty.afv hl
     obtain⟨F2,hh,hi2,_⟩:=hl
     have hi3:In F2 wr.heap.size wq.heap.size:=hi2
     have HH:Hid (uh wq (Param.pd ⟨name,⟨je,jm,ou,uj⟩⟩) [.string name,.int .i64 je,.string jm,.slice lA2 lN2 lC2,.slice kA2 kN2 kC2] F2):=zqd (uh.cons (Hold.a5l wq _) hh)
     have hbq:Below wr.heap.size wr wq:=hbD.trans apr
     have eQ:∀ i,i < wc.heap.size→wq.heap[i]?=wr.heap[i]?:=fun i hi=>hbq.block i (by omega)
     have oQ:=bO.step hbq
     have o3q:wq.cell? ⟨b,0,none⟩=some (.slice uA uN uC):=oQ.cell 0
     have oA:=oQ.alloc (.cells #[.string name,.int .i64 je,.string jm,.slice lA2 lN2 lC2,.slice kA2 kN2 kC2] 115)
     have o3a:(wq.alloc (.cells #[.string name,.int .i64 je,.string jm,.slice lA2 lN2 lC2,.slice kA2 kN2 kC2] 115)).cell? ⟨b,0,none⟩=some (.slice uA uN uC):=oA.cell 0
     have eA:∀ i,i < wc.heap.size→(wq.alloc (.cells #[.string name,.int .i64 je,.string jm,.slice lA2 lN2 lC2,.slice kA2 kN2 kC2] 115)).heap[i]?=wr.heap[i]?:=fun i hi=>(Below.heap_alloc wq _ i (by have:=hbq.size;omega)).trans (eQ i hi)
     clear hh hi2
     try go_wp2_with fail
     refine hK.out _ _ (by first|exact(KC.out _ (fun i hi _=>eQ i hi))|go_keep) (fun hHeld=>?_)
     clear hK K
     try simp only[Act.put,zs1,zs2,zs3]
     refine zqt 15 ?_
     try simp only[Act.put,zs1,zs2,zs3]
     refine zqs [1,16] ?_
     refine AllReadyH.cons (o:=?b2j) ?btl (fun K hK=>?btm) (AllReadyH.cons (o:=?b1h) ?brr (fun K hK=>?brs) AllReadyH.nil)
     case btl=>
      simp only[zg1,zg2,zg3];rfl
     case brr=>
      simp only[zg1,zg2,zg3];rfl
     case btm=>
      go_simp
      refine hK.out _ _ (by first|exact(KC.out _ (fun i hi _=>eQ i hi))|go_keep) (fun hHeld=>?_)
      clear hK K
      try simp only[Act.put,zs1,zs2,zs3]
      refine zqr 16 fun K hK=>?_
      go_simp
      refine hK.out _ _ (by first|exact(KC.out _ (fun i hi _=>eA i hi))|go_keep) (fun hHeld=>?_)
      clear hK K
      try simp only[Act.put,zs1,zs2,zs3]
      refine zqr 17 fun K hK=>?_
      refine aga (by rfl) _ _ 57 (by rfl) wc.heap.size 115 i0 (.agg #[.string {data:=#[]},.int .i64 0,.string {data:=#[]},.slice none 0 0,.slice none 0 0]) 5 88 Tryz.underlying57 hi hz0 hz1 hz2 rfl (by decide) (.slice uA uN uC) k cs (by rfl) (((HG.out.step hbq).1).alloc _) (.slice (some ⟨wq.heap.size,0,none⟩) 1 1) 1 [.string name,.int .i64 je,.string jm,.slice lA2 lN2 lC2,.slice kA2 kN2 kC2] (by rfl) (.inr ⟨⟨wq.heap.size,0,none⟩,1,rfl,rfl,World.news_of_block (heap_alloc_new wq _)⟩) (avs _ _ _ _ _ _ _ _ _) (by simp only[maxLen];omega) (by omega) (by have:=hbq.size;simp;omega) ?_
      intro v' w3 hown' hgrow ahe
      obtain⟨vA,vN,vC,rfl,_⟩:=(Own.aj7 hown').form
      have HG2:=zqd (HG.out.next hbq HH.out hi3 ((zqf _ _).alloc (zql _) _) hown' hgrow ahe)
      have hrow:∀ i,i < wc.heap.size→some i≠(Value.slice uA uN uC).ownBlock:=fun i hi e=>by have:=(HG.out.1.lt _ e.symm).1;omega
      have oW:Blk w3 b 62 #[.slice uA uN uC,.int .i64 dh,.string dn,.slice lA lN lC,.slice kA kN kC,.bool async]:=(hgrow.block b oA.lt (hrow b hb2)).trans oA
      have e3:∀ i,i < wc.heap.size→w3.heap[i]?=wr.heap[i]?:=fun i hi=>(hgrow.block i (by have:=hbq.size;simp;omega) (hrow i (by omega))).trans (eA i hi)
      have eS:∀ i,i < wc.heap.size→i≠b→(w3.setCell ⟨b,0,none⟩ (.slice vA vN vC)).heap[i]?=wr.heap[i]?:=fun i hi hne=>(Below.heap_setCell w3 ⟨b,0,none⟩ (.slice vA vN vC) i hne).trans (e3 i hi)
      have fO:=oW.frozen 0
      have cO:w3.cell? ⟨b,0,none⟩=some (.slice uA uN uC):=oW.cell 0
      clear hown' hgrow ahe hrow
      refine hK.out _ _ (by first|exact(KC.out _ (fun i hi _=>e3 i hi))|go_keep) (fun hHeld=>?_)
      clear hK K
      try simp only[Act.put,zs1,zs2,zs3]
      refine zqt 18 ?_
      try simp only[Act.put,zs1,zs2,zs3]
      refine zqr 19 fun K hK=>?_
      go_simp
      refine hK.out _ _ (by first|exact(KC.out _ eS)|go_keep) (fun hHeld=>?_)
      clear hK K
      try simp only[Act.put,zs1,zs2,zs3]
      refine wpAnyH_done (by kernel_rfl) ?_ _
      go_wp2_with fail
      go_roundw
      case rel=>exact⟨k+1,.slice vA vN vC,_,_,by omega,by go_num,by rw[List.take_add_one,HX.out,List.flatMap_append,aiy];exact HG2.out.set (p:=⟨b,0,none⟩) hb2 (by show w.heap.size≤b;omega) _,by have:=oW.aam 0 (.slice vA vN vC);simpa using this,(eS w.heap.size (by omega) (by omega)).trans HB4.out,(eS (w.heap.size+1) (by omega) (by omega)).trans HB5.out,zqd (uh.keep _ _ _ HHR.out fun g hg=>eS g (HIN.out.2 g hg).2 (fun e=>HNE.out (e ▸ hg)))⟩
      case measure=>simp[intOf];omega
     case brs=>
      go_simp
      refine hK.out _ _ (by first|exact(KC.out _ (fun i hi _=>eA i hi))|go_keep) (fun hHeld=>?_)
      clear hK K
      try simp only[Act.put,zs1,zs2,zs3]
      refine zqr 1 fun K hK=>?_
      go_simp
      refine hK.out _ _ (by first|exact(KC.out _ (fun i hi _=>eA i hi))|go_keep) (fun hHeld=>?_)
      clear hK K
      try simp only[Act.put,zs1,zs2,zs3]
      refine zqr 17 fun K hK=>?_
      refine aga (by rfl) _ _ 57 (by rfl) wc.heap.size 115 i0 (.agg #[.string {data:=#[]},.int .i64 0,.string {data:=#[]},.slice none 0 0,.slice none 0 0]) 5 88 Tryz.underlying57 hi hz0 hz1 hz2 rfl (by decide) (.slice uA uN uC) k cs (by rfl) (((HG.out.step hbq).1).alloc _) (.slice (some ⟨wq.heap.size,0,none⟩) 1 1) 1 [.string name,.int .i64 je,.string jm,.slice lA2 lN2 lC2,.slice kA2 kN2 kC2] (by rfl) (.inr ⟨⟨wq.heap.size,0,none⟩,1,rfl,rfl,World.news_of_block (heap_alloc_new wq _)⟩) (avs _ _ _ _ _ _ _ _ _) (by simp only[maxLen];omega) (by omega) (by have:=hbq.size;simp;omega) ?_
      intro v' w3 hown' hgrow ahe
      obtain⟨vA,vN,vC,rfl,_⟩:=(Own.aj7 hown').form
      have HG2:=zqd (HG.out.next hbq HH.out hi3 ((zqf _ _).alloc (zql _) _) hown' hgrow ahe)
      have hrow:∀ i,i < wc.heap.size→some i≠(Value.slice uA uN uC).ownBlock:=fun i hi e=>by have:=(HG.out.1.lt _ e.symm).1;omega
      have oW:Blk w3 b 62 #[.slice uA uN uC,.int .i64 dh,.string dn,.slice lA lN lC,.slice kA kN kC,.bool async]:=(hgrow.block b oA.lt (hrow b hb2)).trans oA
      have e3:∀ i,i < wc.heap.size→w3.heap[i]?=wr.heap[i]?:=fun i hi=>(hgrow.block i (by have:=hbq.size;simp;omega) (hrow i (by omega))).trans (eA i hi)
      have eS:∀ i,i < wc.heap.size→i≠b→(w3.setCell ⟨b,0,none⟩ (.slice vA vN vC)).heap[i]?=wr.heap[i]?:=fun i hi hne=>(Below.heap_setCell w3 ⟨b,0,none⟩ (.slice vA vN vC) i hne).trans (e3 i hi)
      have fO:=oW.frozen 0
      have cO:w3.cell? ⟨b,0,none⟩=some (.slice uA uN uC):=oW.cell 0
      clear hown' hgrow ahe hrow
      refine hK.out _ _ (by first|exact(KC.out _ (fun i hi _=>e3 i hi))|go_keep) (fun hHeld=>?_)
      clear hK K
      try simp only[Act.put,zs1,zs2,zs3]
      refine zqt 18 ?_
      try simp only[Act.put,zs1,zs2,zs3]
      refine zqr 19 fun K hK=>?_
      go_simp
      refine hK.out _ _ (by first|exact(KC.out _ eS)|go_keep) (fun hHeld=>?_)
      clear hK K
      try simp only[Act.put,zs1,zs2,zs3]
      refine wpAnyH_done (by kernel_rfl) ?_ _
      go_wp2_with fail
      go_roundw
      case rel=>exact⟨k+1,.slice vA vN vC,_,_,by omega,by go_num,by rw[List.take_add_one,HX.out,List.flatMap_append,aiy];exact HG2.out.set (p:=⟨b,0,none⟩) hb2 (by show w.heap.size≤b;omega) _,by have:=oW.aam 0 (.slice vA vN vC);simpa using this,(eS w.heap.size (by omega) (by omega)).trans HB4.out,(eS (w.heap.size+1) (by omega) (by omega)).trans HB5.out,zqd (uh.keep _ _ _ HHR.out fun g hg=>eS g (HIN.out.2 g hg).2 (fun e=>HNE.out (e ▸ hg)))⟩
      case measure=>simp[intOf];omega
   ·have hkn:k=n:=by omega
    have HT:Hid (params.take k=params):=List.take_of_length_le (by have:=HN.out;omega)
    have hfin:=hG.done
    rw[HT.out] at hfin
    have LK:=zqd hfin
    obtain⟨cO0,cO1,cO2,cO3,cO4,cO5⟩:=zc6 bO
    have p3:wr.cell? ⟨w.heap.size,0,none⟩=some (.slice A n c):=bP.cell 0
    have fR0:=bR.frozen 0
    have fR1:=bR.frozen 1
    have fR2:=bR.frozen 2
    have fR3:=bR.frozen 3
    have fR4:=bR.frozen 4
    have fR5:=bR.frozen 5
    obtain⟨cR0,cR1,cR2,cR3,cR4,cR5⟩:=zc6 bR
    clear hG hfin HAT bO bP
    go_wp2_with fail
    refine bodyPost_ret (v:=.agg #[.slice uA uN uC,.int .i64 dh,.string dn,.slice lA lN lC,.slice kA kN kC,.bool async]) (by simp[results,Tryz.results93,go_sem,cR0,cR1,cR2,cR3,cR4,cR5]) rfl ⟨[.slice uA uN uC,.int .i64 dh,.string dn,.slice lA lN lC,.slice kA kN kC,.bool async],rfl,?_,?_⟩
    ·have LR:LvC wr w0.heap.size wc.heap.size (Ty.pd ⟨dh,dn,ku,ny⟩) [.int .i64 dh,.string dn,.slice lA lN lC,.slice kA kN kC]:=⟨FR,HHR.out,HIN.out,hlo⟩
     have LB:LvC wr wc.heap.size wc.heap.size [.lit (.bool async)] [.bool async]:=(LvC.nil wr _ _ hlo).lit _
     have LT:=LvC.append LR LB (zql _) (by omega) (zql _)
     have base:=LvC.mix (lo:=w0.heap.size) (hi:=wr.heap.size) LK.out LT (.inr (zql _)) (by omega) (zql _) (zql _) hlo (zql _)
     have hpd:jh.pd ⟨params,⟨dh,dn,ku,ny⟩,async⟩=PD.row 5 (params.flatMap Param.pd) ::(Ty.pd ⟨dh,dn,ku,ny⟩ ++[.lit (.bool async)]):=by rw[jh.pd];rfl
     rw[hpd]
     refine LvC.low (lo2:=w0.heap.size) ?_ (by omega)
     refine LvC.more (hi:=wr.heap.size) ?_ (zql _) (by simp[World.setCell]) (zql _)
     iterate 6 (refine LvC.setCell ?_ (.inl (by show w.heap.size+1 < w0.heap.size;omega)) _)
     exact base
    ·iterate 6 (refine Below.setCell ?_ (by simp;try omega) _)
     exact hbr
end Go.Proofs.YtbafphecjijdmaaGreatDoor
