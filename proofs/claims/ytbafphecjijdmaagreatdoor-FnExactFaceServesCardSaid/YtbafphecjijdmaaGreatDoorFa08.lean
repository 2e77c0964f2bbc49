/-
  The laws' own helpers 'eq..' over the program's types (by program: tygen2.py, tyfam.py).
-/
import Derived.Test.YtbafphecjijdmaaGreatDoorFa04
import Derived.Test.YtbafphecjijdmaaGreatDoorFa05
namespace Go.Proofs.YtbafphecjijdmaaGreatDoor
open Go.RowKit
set_option linter.unusedVariables false
set_option linter.unusedSimpArgs false
set_option linter.unnecessarySimpa false
set_option maxRecDepth 100000
set_option maxHeartbeats 1600000 in
theorem apy {ts:List ByteArray}:EqR 33 (.row 1 (ts.flatMap tq)):=by
 intro B v u w hB h h'
 obtain⟨A,n,c,rfl,hnl,hm,hat⟩:=ny aap (by decide) h
 obtain⟨A',n',c',rfl,alb,_,hat'⟩:=ny aap (by decide) h'
 have hnn:n'=n:=by omega
 subst hnn
 unfold maxLen at hm
 have HN:=Lib.hid hnl
 clear h h' hnl alb
 go_enter Tryz.func33,Tryz.ntmps33
 go_wp2_with fail
 go_loopw [5] (fun i wr=>∃ k:Nat,k≤n'∧i=.int .i64 k∧Below w.heap.size w wr) (fun i _=>n' - (intOf i).toNat)
 case atStart=>exact⟨0,Nat.zero_le _,rfl,Below.refl _ _⟩
 case round=>
  obtain⟨k,hk,rfl,hbr⟩:=hrel
  by_cases hlt:k < n'
  ·obtain⟨g,off,rfl,hg,hcell⟩:=hat (by omega)
   obtain⟨g',off',rfl,hg',hcell'⟩:=hat' (by omega)
   obtain⟨t,hx,hmem⟩:=vw HN.out hlt
   have c0:wr.cell? ⟨g,off+k,none⟩=some (.string t):=gq hbr (by omega) (by have:=hcell k 0 _ _ hx rfl;simpa using this)
   have d0':wr.cell? ⟨g',off'+k,none⟩=some (.string t):=gq hbr (by omega) (by have:=hcell' k 0 _ _ hx rfl;simpa using this)
   have hlt':(k:Int) < (n':Int):=by omega
   have hgw:g < wr.heap.size:=by have:=hbr.size;omega
   have ajn:g' < wr.heap.size:=by have:=hbr.size;omega
   clear hx hcell hcell' hmem
   go_wp2_with fail
   go_quiet (fail)
   have hbn:=below_drewN hbr
   clear hbr c0 d0'
   go_wp2_with fail
   go_roundw
   case rel=>exact⟨k+1,by omega,by go_num,hbn _⟩
   case measure=>simp[intOf];omega
  ·have hkn:k=n':=by omega
   subst hkn
   go_wp2_with fail
   go_ret
   exact⟨rfl,hbr⟩
set_option maxHeartbeats 1600000 in
theorem a0h {ts:List Ty} (ih:∀ t ∈ ts,EqC 52 (Ty.pd t)):EqR 88 (.row 4 (ts.flatMap Ty.pd)):=by
 intro B v u w hB h h'
 obtain⟨A,n,c,rfl,hnl,hm,hat⟩:=ny Ty.jw (by decide) h
 obtain⟨A',n',c',rfl,alb,_,hat'⟩:=ny Ty.jw (by decide) h'
 have hnn:n'=n:=by omega
 subst hnn
 unfold maxLen at hm
 have HN:=Lib.hid hnl
 have HI:=Lib.hid ih
 clear ih
 clear h h' hnl alb
 go_enter Tryz.func88,Tryz.ntmps88
 go_wp2_with fail
 go_loopw [5] (fun i wr=>∃ k:Nat,k≤n'∧i=.int .i64 k∧Below w.heap.size w wr) (fun i _=>n' - (intOf i).toNat)
 case atStart=>exact⟨0,Nat.zero_le _,rfl,Below.refl _ _⟩
 case round=>
  obtain⟨k,hk,rfl,hbr⟩:=hrel
  by_cases hlt:k < n'
  ·obtain⟨g,off,rfl,hg,hcell⟩:=hat (by omega)
   obtain⟨g',off',rfl,hg',hcell'⟩:=hat' (by omega)
   obtain⟨t,hx,hmem⟩:=vw HN.out hlt
   obtain⟨kind,name,labels,kids⟩:=t
   have c0:wr.cell? ⟨g,off+k * 4,none⟩=some (.int .i64 kind):=gq hbr (by omega) (hcell k 0 _ _ hx (by rw[Ty.ay];rfl))
   have c1:wr.cell? ⟨g,off+k * 4+1,none⟩=some (.string name):=gq hbr (by omega) (hcell k 1 _ _ hx (by rw[Ty.ay];rfl))
   obtain⟨iq,c2,hr2⟩:∃ u,wr.cell? ⟨g,off+k * 4+2,none⟩=some u∧Rep wr B (.row 1 (labels.flatMap tq)) u:=jy hbr (by omega) hB (hcell k 2 _ _ hx (by rw[Ty.ay];rfl))
   have HR2:=Lib.hid hr2
   clear hr2
   obtain⟨qp,c3,hr3⟩:∃ u,wr.cell? ⟨g,off+k * 4+3,none⟩=some u∧Rep wr B (.row 4 (kids.flatMap Ty.pd)) u:=jy hbr (by omega) hB (hcell k 3 _ _ hx (by rw[Ty.ay];rfl))
   have HR3:=Lib.hid hr3
   clear hr3
   have d0':wr.cell? ⟨g',off'+k * 4,none⟩=some (.int .i64 kind):=gq hbr (by omega) (hcell' k 0 _ _ hx (by rw[Ty.ay];rfl))
   have d1':wr.cell? ⟨g',off'+k * 4+1,none⟩=some (.string name):=gq hbr (by omega) (hcell' k 1 _ _ hx (by rw[Ty.ay];rfl))
   obtain⟨alq,d2',hr2'⟩:∃ u,wr.cell? ⟨g',off'+k * 4+2,none⟩=some u∧Rep wr B (.row 1 (labels.flatMap tq)) u:=jy hbr (by omega) hB (hcell' k 2 _ _ hx (by rw[Ty.ay];rfl))
   have HQ2':=Lib.hid hr2'
   clear hr2'
   obtain⟨anp,d3',hr3'⟩:∃ u,wr.cell? ⟨g',off'+k * 4+3,none⟩=some u∧Rep wr B (.row 4 (kids.flatMap Ty.pd)) u:=jy hbr (by omega) hB (hcell' k 3 _ _ hx (by rw[Ty.ay];rfl))
   have HQ3':=Lib.hid hr3'
   clear hr3'
   have hlt':(k:Int) < (n':Int):=by omega
   have hgw:g < wr.heap.size:=by have:=hbr.size;omega
   have ajn:g' < wr.heap.size:=by have:=hbr.size;omega
   have HM:=Lib.hid hmem
   have HBW:=Lib.hid (Nat.le_trans hB hbr.size)
   clear hx hcell hcell' hmem
   go_wp2_with fail
   have HC:=Lib.hid (HI.out _ HM.out B [.int .i64 kind,.string name,iq,qp] [.int .i64 kind,.string name,alq,anp] wr.drew HBW.out (Ty.close_ HR2.out.drew HR3.out.drew) (Ty.close_ HQ2'.out.drew HQ3'.out.drew))
   go_region_held3 (fun w'=>w'.cell? ⟨g,off+k * 4,none⟩=some (.int .i64 kind)∧w'.cell? ⟨g,off+k * 4+1,none⟩=some (.string name)∧w'.cell? ⟨g,off+k * 4+2,none⟩=some (iq)∧w'.cell? ⟨g,off+k * 4+3,none⟩=some (qp)∧w'.cell? ⟨g',off'+k * 4,none⟩=some (.int .i64 kind)∧w'.cell? ⟨g',off'+k * 4+1,none⟩=some (.string name)∧w'.cell? ⟨g',off'+k * 4+2,none⟩=some (alq)∧w'.cell? ⟨g',off'+k * 4+3,none⟩=some (anp))
    (first|go_keep|exact⟨(hbq.cell (p:=⟨g,off+k * 4,none⟩) hgw).trans c0,(hbq.cell (p:=⟨g,off+k * 4+1,none⟩) hgw).trans c1,(hbq.cell (p:=⟨g,off+k * 4+2,none⟩) hgw).trans c2,(hbq.cell (p:=⟨g,off+k * 4+3,none⟩) hgw).trans c3,(hbq.cell (p:=⟨g',off'+k * 4,none⟩) ajn).trans d0',(hbq.cell (p:=⟨g',off'+k * 4+1,none⟩) ajn).trans d1',(hbq.cell (p:=⟨g',off'+k * 4+2,none⟩) ajn).trans d2',(hbq.cell (p:=⟨g',off'+k * 4+3,none⟩) ajn).trans d3'⟩)
    (first|(go_at_call 52;refine HC.out.mono ?_;rintro e wq ⟨rfl,hbq⟩))
   have hbn:Below w.heap.size w wq:=hbr.drew.trans (hbq.mono hbr.size)
   clear hbq hbr c0 c1 c2 c3 d0' d1' d2' d3'
   go_wp2_with fail
   go_roundw
   case rel=>exact⟨k+1,by omega,by go_num,hbn⟩
   case measure=>simp[intOf];omega
  ·have hkn:k=n':=by omega
   subst hkn
   go_wp2_with fail
   go_ret
   exact⟨rfl,hbr⟩
set_option maxHeartbeats 1600000 in
theorem a2u {kind:Int} {name:ByteArray} {labels:List ByteArray} {kids:List Ty} (ani:EqR 33 (.row 1 (labels.flatMap tq))) (aps:EqR 88 (.row 4 (kids.flatMap Ty.pd))):EqC 52 (Ty.pd ⟨kind,name,labels,kids⟩):=by
 intro B cs us w hB h h'
 obtain⟨iq,qp,rfl,bf,eu⟩:=Ty.open_ h
 obtain⟨alq,anp,rfl,a0i,s_kids⟩:=Ty.open_ h'
 have oz:=Lib.hid bf
 have a8l:=Lib.hid a0i
 clear bf a0i
 have qm:=Lib.hid eu
 have S_kids:=Lib.hid s_kids
 clear eu s_kids
 go_enter Tryz.func52,Tryz.ntmps52
 go_wp2_with fail
 obtain⟨w0,hw0⟩:∃ w0,w0=(w.alloc (.cells #[.int .i64 kind,.string name,iq,qp] 60)).alloc (.cells #[.int .i64 kind,.string name,alq,anp] 60):=⟨_,rfl⟩
 rw[← hw0]
 have bA:Blk w0 w.heap.size 60 #[.int .i64 kind,.string name,iq,qp]:=by rw[hw0];exact(Blk.new w _ _).alloc _
 have bB:Blk w0 (w.heap.size+1) 60 #[.int .i64 kind,.string name,alq,anp]:=by rw[hw0];have:=Blk.new (w.alloc (.cells #[.int .i64 kind,.string name,iq,qp] 60)) 60 #[.int .i64 kind,.string name,alq,anp];simpa using this
 have hB0:Below w.heap.size w w0:=by rw[hw0];exact((Below.refl _ _).alloc (Nat.le_refl _) _).alloc (by simp) _
 clear hw0
 refine(ani B iq alq _ (by have:=hB0.size;omega) (oz.out.below (hB0.mono hB)) (a8l.out.below (hB0.mono hB))).mono ?_
 rintro e w1 ⟨rfl,hb1⟩
 have hB1:=hB0.trans (hb1.mono hB0.size)
 replace bA:=bA.step hb1
 replace bB:=bB.step hb1
 have aay:w1.cell? ⟨w.heap.size,3,none⟩=some (qp):=bA.cell 3
 have b1_3:w1.cell? ⟨w.heap.size+1,3,none⟩=some (anp):=bB.cell 3
 go_wp2_with fail
 refine(aps B qp anp _ (by have:=hB1.size;omega) (qm.out.below (hB1.mono hB)) (S_kids.out.below (hB1.mono hB))).mono ?_
 rintro e w2 ⟨rfl,hb2⟩
 have hB2:=hB1.trans (hb2.mono hB1.size)
 replace bA:=bA.step hb2
 replace bB:=bB.step hb2
 go_wp2_with fail
 go_ret
 exact⟨rfl,hB2⟩
mutual
theorem aqk:∀ t:Ty,EqC 52 (Ty.pd t)
 | .mk kind name labels kids=>a2u apy (a0h (awi kids))
theorem awi:∀ ts:List Ty,∀ t ∈ ts,EqC 52 (Ty.pd t)
 | [],x,hx=>absurd hx (by simp)
 | t ::r,x,hx=>(List.mem_cons.1 hx).elim (fun e=>e ▸ aqk t) (fun h=>awi r x h)
end
set_option maxHeartbeats 1600000 in
theorem a0j {name:ByteArray} {iy:Int} {ji:ByteArray} {og:List ByteArray} {uj:List Ty} (aki:EqC 52 (Ty.pd ⟨iy,ji,og,uj⟩)):EqC 87 (Param.pd ⟨name,⟨iy,ji,og,uj⟩⟩):=by
 intro B cs us w hB h h'
 obtain⟨aaq,abu,rfl,aa5,ab4⟩:=Param.open_ h
 obtain⟨ahv,ajo,rfl,asi,awj⟩:=Param.open_ h'
 have acn:=Lib.hid aa5
 have a0k:=Lib.hid asi
 clear aa5 asi
 have ads:=Lib.hid ab4
 have a5d:=Lib.hid awj
 clear ab4 awj
 go_enter Tryz.func87,Tryz.ntmps87
 go_wp2_with fail
 obtain⟨w0,hw0⟩:∃ w0,w0=(w.alloc (.cells #[.string name,.int .i64 iy,.string ji,aaq,abu] 115)).alloc (.cells #[.string name,.int .i64 iy,.string ji,ahv,ajo] 115):=⟨_,rfl⟩
 rw[← hw0]
 have bA:Blk w0 w.heap.size 115 #[.string name,.int .i64 iy,.string ji,aaq,abu]:=by rw[hw0];exact(Blk.new w _ _).alloc _
 have bB:Blk w0 (w.heap.size+1) 115 #[.string name,.int .i64 iy,.string ji,ahv,ajo]:=by rw[hw0];have:=Blk.new (w.alloc (.cells #[.string name,.int .i64 iy,.string ji,aaq,abu] 115)) 115 #[.string name,.int .i64 iy,.string ji,ahv,ajo];simpa using this
 have hB0:Below w.heap.size w w0:=by rw[hw0];exact((Below.refl _ _).alloc (Nat.le_refl _) _).alloc (by simp) _
 clear hw0
 refine(aki B [.int .i64 iy,.string ji,aaq,abu] [.int .i64 iy,.string ji,ahv,ajo] _ (by have:=hB0.size;omega) (Ty.close_ (acn.out.below (hB0.mono hB)) (ads.out.below (hB0.mono hB))) (Ty.close_ (a0k.out.below (hB0.mono hB)) (a5d.out.below (hB0.mono hB)))).mono ?_
 rintro e w1 ⟨rfl,hb1⟩
 have hB1:=hB0.trans (hb1.mono hB0.size)
 replace bA:=bA.step hb1
 replace bB:=bB.step hb1
 go_wp2_with fail
 go_ret
 exact⟨rfl,hB1⟩
theorem a2v (t:Param):EqC 87 (Param.pd t):=by obtain⟨name,⟨iy,ji,og,uj⟩⟩:=t;exact a0j (aqk _)
set_option maxHeartbeats 1600000 in
theorem aza {ts:List Param} (ih:∀ t ∈ ts,EqC 87 (Param.pd t)):EqR 51 (.row 5 (ts.flatMap Param.pd)):=by
 intro B v u w hB h h'
 obtain⟨A,n,c,rfl,hnl,hm,hat⟩:=ny Param.jw (by decide) h
 obtain⟨A',n',c',rfl,alb,_,hat'⟩:=ny Param.jw (by decide) h'
 have hnn:n'=n:=by omega
 subst hnn
 unfold maxLen at hm
 have HN:=Lib.hid hnl
 have HI:=Lib.hid ih
 clear ih
 clear h h' hnl alb
 go_enter Tryz.func51,Tryz.ntmps51
 go_wp2_with fail
 go_loopw [5] (fun i wr=>∃ k:Nat,k≤n'∧i=.int .i64 k∧Below w.heap.size w wr) (fun i _=>n' - (intOf i).toNat)
 case atStart=>exact⟨0,Nat.zero_le _,rfl,Below.refl _ _⟩
 case round=>
  obtain⟨k,hk,rfl,hbr⟩:=hrel
  by_cases hlt:k < n'
  ·obtain⟨g,off,rfl,hg,hcell⟩:=hat (by omega)
   obtain⟨g',off',rfl,hg',hcell'⟩:=hat' (by omega)
   obtain⟨t,hx,hmem⟩:=vw HN.out hlt
   obtain⟨name,⟨iy,ji,og,uj⟩⟩:=t
   have c0:wr.cell? ⟨g,off+k * 5,none⟩=some (.string name):=gq hbr (by omega) (hcell k 0 _ _ hx (by rw[Param.ay];rfl))
   have c1:wr.cell? ⟨g,off+k * 5+1,none⟩=some (.int .i64 iy):=gq hbr (by omega) (hcell k 1 _ _ hx (by rw[Param.ay];rfl))
   have c2:wr.cell? ⟨g,off+k * 5+2,none⟩=some (.string ji):=gq hbr (by omega) (hcell k 2 _ _ hx (by rw[Param.ay];rfl))
   obtain⟨aaq,c3,hr3⟩:∃ u,wr.cell? ⟨g,off+k * 5+3,none⟩=some u∧Rep wr B (.row 1 (og.flatMap tq)) u:=jy hbr (by omega) hB (hcell k 3 _ _ hx (by rw[Param.ay];rfl))
   have HR3:=Lib.hid hr3
   clear hr3
   obtain⟨abu,c4,hr4⟩:∃ u,wr.cell? ⟨g,off+k * 5+4,none⟩=some u∧Rep wr B (.row 4 (uj.flatMap Ty.pd)) u:=jy hbr (by omega) hB (hcell k 4 _ _ hx (by rw[Param.ay];rfl))
   have HR4:=Lib.hid hr4
   clear hr4
   have d0':wr.cell? ⟨g',off'+k * 5,none⟩=some (.string name):=gq hbr (by omega) (hcell' k 0 _ _ hx (by rw[Param.ay];rfl))
   have d1':wr.cell? ⟨g',off'+k * 5+1,none⟩=some (.int .i64 iy):=gq hbr (by omega) (hcell' k 1 _ _ hx (by rw[Param.ay];rfl))
   have d2':wr.cell? ⟨g',off'+k * 5+2,none⟩=some (.string ji):=gq hbr (by omega) (hcell' k 2 _ _ hx (by rw[Param.ay];rfl))
   obtain⟨ahv,d3',hr3'⟩:∃ u,wr.cell? ⟨g',off'+k * 5+3,none⟩=some u∧Rep wr B (.row 1 (og.flatMap tq)) u:=jy hbr (by omega) hB (hcell' k 3 _ _ hx (by rw[Param.ay];rfl))
   have HQ3':=Lib.hid hr3'
   clear hr3'
   obtain⟨ajo,d4',hr4'⟩:∃ u,wr.cell? ⟨g',off'+k * 5+4,none⟩=some u∧Rep wr B (.row 4 (uj.flatMap Ty.pd)) u:=jy hbr (by omega) hB (hcell' k 4 _ _ hx (by rw[Param.ay];rfl))
   have HQ4':=Lib.hid hr4'
   clear hr4'
   have hlt':(k:Int) < (n':Int):=by omega
   have hgw:g < wr.heap.size:=by have:=hbr.size;omega
   have ajn:g' < wr.heap.size:=by have:=hbr.size;omega
   have HM:=Lib.hid hmem
   have HBW:=Lib.hid (Nat.le_trans hB hbr.size)
   clear hx hcell hcell' hmem
   go_wp2_with fail
   have HC:=Lib.hid (HI.out _ HM.out B [.string name,.int .i64 iy,.string ji,aaq,abu] [.string name,.int .i64 iy,.string ji,ahv,ajo] wr.drew HBW.out (Param.close_ HR3.out.drew HR4.out.drew) (Param.close_ HQ3'.out.drew HQ4'.out.drew))
   go_region_held3 (fun w'=>w'.cell? ⟨g,off+k * 5,none⟩=some (.string name)∧w'.cell? ⟨g,off+k * 5+1,none⟩=some (.int .i64 iy)∧w'.cell? ⟨g,off+k * 5+2,none⟩=some (.string ji)∧w'.cell? ⟨g,off+k * 5+3,none⟩=some (aaq)∧w'.cell? ⟨g,off+k * 5+4,none⟩=some (abu)∧w'.cell? ⟨g',off'+k * 5,none⟩=some (.string name)∧w'.cell? ⟨g',off'+k * 5+1,none⟩=some (.int .i64 iy)∧w'.cell? ⟨g',off'+k * 5+2,none⟩=some (.string ji)∧w'.cell? ⟨g',off'+k * 5+3,none⟩=some (ahv)∧w'.cell? ⟨g',off'+k * 5+4,none⟩=some (ajo))
    (first|go_keep|exact⟨(hbq.cell (p:=⟨g,off+k * 5,none⟩) hgw).trans c0,(hbq.cell (p:=⟨g,off+k * 5+1,none⟩) hgw).trans c1,(hbq.cell (p:=⟨g,off+k * 5+2,none⟩) hgw).trans c2,(hbq.cell (p:=⟨g,off+k * 5+3,none⟩) hgw).trans c3,(hbq.cell (p:=⟨g,off+k * 5+4,none⟩) hgw).trans c4,(hbq.cell (p:=⟨g',off'+k * 5,none⟩) ajn).trans d0',(hbq.cell (p:=⟨g',off'+k * 5+1,none⟩) ajn).trans d1',(hbq.cell (p:=⟨g',off'+k * 5+2,none⟩) ajn).trans d2',(hbq.cell (p:=⟨g',off'+k * 5+3,none⟩) ajn).trans d3',(hbq.cell (p:=⟨g',off'+k * 5+4,none⟩) ajn).trans d4'⟩)
    (first|(go_at_call 87;refine HC.out.mono ?_;rintro e wq ⟨rfl,hbq⟩))
   have hbn:Below w.heap.size w wq:=hbr.drew.trans (hbq.mono hbr.size)
   clear hbq hbr c0 c1 c2 c3 c4 d0' d1' d2' d3' d4'
   go_wp2_with fail
   go_roundw
   case rel=>exact⟨k+1,by omega,by go_num,hbn⟩
   case measure=>simp[intOf];omega
  ·have hkn:k=n':=by omega
   subst hkn
   go_wp2_with fail
   go_ret
   exact⟨rfl,hbr⟩
theorem a0l (ts:List Param):EqR 51 (.row 5 (ts.flatMap Param.pd)):=aza fun t _=>a2v t
set_option maxHeartbeats 1600000 in
theorem awk {params:List Param} {bg:Int} {cu:ByteArray} {jv:List ByteArray} {mg:List Ty} {async:Bool} (anj:EqR 51 (.row 5 (params.flatMap Param.pd))) (ank:EqC 52 (Ty.pd ⟨bg,cu,jv,mg⟩)):EqC 24 (jh.pd ⟨params,⟨bg,cu,jv,mg⟩,async⟩):=by
 intro B cs us w hB h h'
 obtain⟨adv,oq,uf,rfl,adn,zx,aau⟩:=jh.open_ h
 obtain⟨aql,aib,aj8,rfl,a0m,ao5,ar1⟩:=jh.open_ h'
 have afy:=Lib.hid adn
 have a8m:=Lib.hid a0m
 clear adn a0m
 have ab2:=Lib.hid zx
 have awl:=Lib.hid ao5
 clear zx ao5
 have ac2:=Lib.hid aau
 have azb:=Lib.hid ar1
 clear aau ar1
 go_enter Tryz.func24,Tryz.ntmps24
 go_wp2_with fail
 obtain⟨w0,hw0⟩:∃ w0,w0=(w.alloc (.cells #[adv,.int .i64 bg,.string cu,oq,uf,.bool async] 62)).alloc (.cells #[aql,.int .i64 bg,.string cu,aib,aj8,.bool async] 62):=⟨_,rfl⟩
 rw[← hw0]
 have bA:Blk w0 w.heap.size 62 #[adv,.int .i64 bg,.string cu,oq,uf,.bool async]:=by rw[hw0];exact(Blk.new w _ _).alloc _
 have bB:Blk w0 (w.heap.size+1) 62 #[aql,.int .i64 bg,.string cu,aib,aj8,.bool async]:=by rw[hw0];have:=Blk.new (w.alloc (.cells #[adv,.int .i64 bg,.string cu,oq,uf,.bool async] 62)) 62 #[aql,.int .i64 bg,.string cu,aib,aj8,.bool async];simpa using this
 have hB0:Below w.heap.size w w0:=by rw[hw0];exact((Below.refl _ _).alloc (Nat.le_refl _) _).alloc (by simp) _
 clear hw0
 refine(anj B adv aql _ (by have:=hB0.size;omega) (afy.out.below (hB0.mono hB)) (a8m.out.below (hB0.mono hB))).mono ?_
 rintro e w1 ⟨rfl,hb1⟩
 have hB1:=hB0.trans (hb1.mono hB0.size)
 replace bA:=bA.step hb1
 replace bB:=bB.step hb1
 have aa3:w1.cell? ⟨w.heap.size,1,none⟩=some (.int .i64 bg):=bA.cell 1
 have b1_1:w1.cell? ⟨w.heap.size+1,1,none⟩=some (.int .i64 bg):=bB.cell 1
 have aa4:w1.cell? ⟨w.heap.size,2,none⟩=some (.string cu):=bA.cell 2
 have b1_2:w1.cell? ⟨w.heap.size+1,2,none⟩=some (.string cu):=bB.cell 2
 have aay:w1.cell? ⟨w.heap.size,3,none⟩=some (oq):=bA.cell 3
 have b1_3:w1.cell? ⟨w.heap.size+1,3,none⟩=some (aib):=bB.cell 3
 have a1_4:w1.cell? ⟨w.heap.size,4,none⟩=some (uf):=bA.cell 4
 have b1_4:w1.cell? ⟨w.heap.size+1,4,none⟩=some (aj8):=bB.cell 4
 go_wp2_with fail
 refine(ank B [.int .i64 bg,.string cu,oq,uf] [.int .i64 bg,.string cu,aib,aj8] _ (by have:=hB1.size;omega) (Ty.close_ (ab2.out.below (hB1.mono hB)) (ac2.out.below (hB1.mono hB))) (Ty.close_ (awl.out.below (hB1.mono hB)) (azb.out.below (hB1.mono hB)))).mono ?_
 rintro e w2 ⟨rfl,hb2⟩
 have hB2:=hB1.trans (hb2.mono hB1.size)
 replace bA:=bA.step hb2
 replace bB:=bB.step hb2
 have a2_5:w2.cell? ⟨w.heap.size,5,none⟩=some (.bool async):=bA.cell 5
 have b2_5:w2.cell? ⟨w.heap.size+1,5,none⟩=some (.bool async):=bB.cell 5
 go_wp2_with fail
 go_ret
 exact⟨rfl,hB2⟩
theorem axt (t:jh):EqC 24 (jh.pd t):=by obtain⟨params,⟨bg,cu,jv,mg⟩,async⟩:=t;exact awk (a0l params) (aqk _)
set_option maxHeartbeats 1600000 in
theorem a2w {name:ByteArray} {ql:List Param} {aj:Int} {au:ByteArray} {iw:List ByteArray} {jl:List Ty} {jg:Bool} (aki:EqC 24 (jh.pd ⟨ql,⟨aj,au,iw,jl⟩,jg⟩)):EqC 71 (Fun.pd ⟨name,⟨ql,⟨aj,au,iw,jl⟩,jg⟩⟩):=by
 intro B cs us w hB h h'
 obtain⟨aar,su,vg,rfl,ab1,zh,aad⟩:=Fun.open_ h
 obtain⟨ahw,afc,afz,rfl,asj,amz,an9⟩:=Fun.open_ h'
 have ae4:=Lib.hid ab1
 have a0n:=Lib.hid asj
 clear ab1 asj
 have ac3:=Lib.hid zh
 have ar9:=Lib.hid amz
 clear zh amz
 have adq:=Lib.hid aad
 have aup:=Lib.hid an9
 clear aad an9
 go_enter Tryz.func71,Tryz.ntmps71
 go_wp2_with fail
 obtain⟨w0,hw0⟩:∃ w0,w0=(w.alloc (.cells #[.string name,aar,.int .i64 aj,.string au,su,vg,.bool jg] 99)).alloc (.cells #[.string name,ahw,.int .i64 aj,.string au,afc,afz,.bool jg] 99):=⟨_,rfl⟩
 rw[← hw0]
 have bA:Blk w0 w.heap.size 99 #[.string name,aar,.int .i64 aj,.string au,su,vg,.bool jg]:=by rw[hw0];exact(Blk.new w _ _).alloc _
 have bB:Blk w0 (w.heap.size+1) 99 #[.string name,ahw,.int .i64 aj,.string au,afc,afz,.bool jg]:=by rw[hw0];have:=Blk.new (w.alloc (.cells #[.string name,aar,.int .i64 aj,.string au,su,vg,.bool jg] 99)) 99 #[.string name,ahw,.int .i64 aj,.string au,afc,afz,.bool jg];simpa using this
 have hB0:Below w.heap.size w w0:=by rw[hw0];exact((Below.refl _ _).alloc (Nat.le_refl _) _).alloc (by simp) _
 clear hw0
 refine(aki B [aar,.int .i64 aj,.string au,su,vg,.bool jg] [ahw,.int .i64 aj,.string au,afc,afz,.bool jg] _ (by have:=hB0.size;omega) (jh.close_ (ae4.out.below (hB0.mono hB)) (ac3.out.below (hB0.mono hB)) (adq.out.below (hB0.mono hB))) (jh.close_ (a0n.out.below (hB0.mono hB)) (ar9.out.below (hB0.mono hB)) (aup.out.below (hB0.mono hB)))).mono ?_
 rintro e w1 ⟨rfl,hb1⟩
 have hB1:=hB0.trans (hb1.mono hB0.size)
 replace bA:=bA.step hb1
 replace bB:=bB.step hb1
 go_wp2_with fail
 go_ret
 exact⟨rfl,hB1⟩
theorem a5e (t:Fun):EqC 71 (Fun.pd t):=by obtain⟨name,⟨ql,⟨aj,au,iw,jl⟩,jg⟩⟩:=t;exact a2w (axt _)
set_option maxHeartbeats 1600000 in
theorem a0o {ts:List Fun} (ih:∀ t ∈ ts,EqC 71 (Fun.pd t)):EqR 34 (.row 7 (ts.flatMap Fun.pd)):=by
 intro B v u w hB h h'
 obtain⟨A,n,c,rfl,hnl,hm,hat⟩:=ny Fun.jw (by decide) h
 obtain⟨A',n',c',rfl,alb,_,hat'⟩:=ny Fun.jw (by decide) h'
 have hnn:n'=n:=by omega
 subst hnn
 unfold maxLen at hm
 have HN:=Lib.hid hnl
 have HI:=Lib.hid ih
 clear ih
 clear h h' hnl alb
 go_enter Tryz.func34,Tryz.ntmps34
 go_wp2_with fail
 go_loopw [5] (fun i wr=>∃ k:Nat,k≤n'∧i=.int .i64 k∧Below w.heap.size w wr) (fun i _=>n' - (intOf i).toNat)
 case atStart=>exact⟨0,Nat.zero_le _,rfl,Below.refl _ _⟩
 case round=>
  obtain⟨k,hk,rfl,hbr⟩:=hrel
  by_cases hlt:k < n'
  ·obtain⟨g,off,rfl,hg,hcell⟩:=hat (by omega)
   obtain⟨g',off',rfl,hg',hcell'⟩:=hat' (by omega)
   obtain⟨t,hx,hmem⟩:=vw HN.out hlt
   obtain⟨name,⟨ql,⟨aj,au,iw,jl⟩,jg⟩⟩:=t
   have c0:wr.cell? ⟨g,off+k * 7,none⟩=some (.string name):=gq hbr (by omega) (hcell k 0 _ _ hx (by rw[Fun.ay];rfl))
   obtain⟨aar,c1,hr1⟩:∃ u,wr.cell? ⟨g,off+k * 7+1,none⟩=some u∧Rep wr B (.row 5 (ql.flatMap Param.pd)) u:=jy hbr (by omega) hB (hcell k 1 _ _ hx (by rw[Fun.ay];rfl))
   have HR1:=Lib.hid hr1
   clear hr1
   have c2:wr.cell? ⟨g,off+k * 7+2,none⟩=some (.int .i64 aj):=gq hbr (by omega) (hcell k 2 _ _ hx (by rw[Fun.ay];rfl))
   have c3:wr.cell? ⟨g,off+k * 7+3,none⟩=some (.string au):=gq hbr (by omega) (hcell k 3 _ _ hx (by rw[Fun.ay];rfl))
   obtain⟨su,c4,hr4⟩:∃ u,wr.cell? ⟨g,off+k * 7+4,none⟩=some u∧Rep wr B (.row 1 (iw.flatMap tq)) u:=jy hbr (by omega) hB (hcell k 4 _ _ hx (by rw[Fun.ay];rfl))
   have HR4:=Lib.hid hr4
   clear hr4
   obtain⟨vg,c5,hr5⟩:∃ u,wr.cell? ⟨g,off+k * 7+5,none⟩=some u∧Rep wr B (.row 4 (jl.flatMap Ty.pd)) u:=jy hbr (by omega) hB (hcell k 5 _ _ hx (by rw[Fun.ay];rfl))
   have HR5:=Lib.hid hr5
   clear hr5
   have c6:wr.cell? ⟨g,off+k * 7+6,none⟩=some (.bool jg):=gq hbr (by omega) (hcell k 6 _ _ hx (by rw[Fun.ay];rfl))
   have d0':wr.cell? ⟨g',off'+k * 7,none⟩=some (.string name):=gq hbr (by omega) (hcell' k 0 _ _ hx (by rw[Fun.ay];rfl))
   obtain⟨ahw,d1',hr1'⟩:∃ u,wr.cell? ⟨g',off'+k * 7+1,none⟩=some u∧Rep wr B (.row 5 (ql.flatMap Param.pd)) u:=jy hbr (by omega) hB (hcell' k 1 _ _ hx (by rw[Fun.ay];rfl))
   have HQ1':=Lib.hid hr1'
   clear hr1'
   have d2':wr.cell? ⟨g',off'+k * 7+2,none⟩=some (.int .i64 aj):=gq hbr (by omega) (hcell' k 2 _ _ hx (by rw[Fun.ay];rfl))
   have d3':wr.cell? ⟨g',off'+k * 7+3,none⟩=some (.string au):=gq hbr (by omega) (hcell' k 3 _ _ hx (by rw[Fun.ay];rfl))
   obtain⟨afc,d4',hr4'⟩:∃ u,wr.cell? ⟨g',off'+k * 7+4,none⟩=some u∧Rep wr B (.row 1 (iw.flatMap tq)) u:=jy hbr (by omega) hB (hcell' k 4 _ _ hx (by rw[Fun.ay];rfl))
   have HQ4':=Lib.hid hr4'
   clear hr4'
   obtain⟨afz,d5',hr5'⟩:∃ u,wr.cell? ⟨g',off'+k * 7+5,none⟩=some u∧Rep wr B (.row 4 (jl.flatMap Ty.pd)) u:=jy hbr (by omega) hB (hcell' k 5 _ _ hx (by rw[Fun.ay];rfl))
   have HQ5':=Lib.hid hr5'
   clear hr5'
   have d6':wr.cell? ⟨g',off'+k * 7+6,none⟩=some (.bool jg):=gq hbr (by omega) (hcell' k 6 _ _ hx (by rw[Fun.ay];rfl))
   have hlt':(k:Int) < (n':Int):=by omega
   have hgw:g < wr.heap.size:=by have:=hbr.size;omega
   have ajn:g' < wr.heap.size:=by have:=hbr.size;omega
   have HM:=Lib.hid hmem
   have HBW:=Lib.hid (Nat.le_trans hB hbr.size)
   clear hx hcell hcell' hmem
   go_wp2_with fail
   have HC:=Lib.hid (HI.out _ HM.out B [.string name,aar,.int .i64 aj,.string au,su,vg,.bool jg] [.string name,ahw,.int .i64 aj,.string au,afc,afz,.bool jg] wr.drew HBW.out (Fun.close_ HR1.out.drew HR4.out.drew HR5.out.drew) (Fun.close_ HQ1'.out.drew HQ4'.out.drew HQ5'.out.drew))
   go_region_held3 (fun w'=>w'.cell? ⟨g,off+k * 7,none⟩=some (.string name)∧w'.cell? ⟨g,off+k * 7+1,none⟩=some (aar)∧w'.cell? ⟨g,off+k * 7+2,none⟩=some (.int .i64 aj)∧w'.cell? ⟨g,off+k * 7+3,none⟩=some (.string au)∧w'.cell? ⟨g,off+k * 7+4,none⟩=some (su)∧w'.cell? ⟨g,off+k * 7+5,none⟩=some (vg)∧w'.cell? ⟨g,off+k * 7+6,none⟩=some (.bool jg)∧w'.cell? ⟨g',off'+k * 7,none⟩=some (.string name)∧w'.cell? ⟨g',off'+k * 7+1,none⟩=some (ahw)∧w'.cell? ⟨g',off'+k * 7+2,none⟩=some (.int .i64 aj)∧w'.cell? ⟨g',off'+k * 7+3,none⟩=some (.string au)∧w'.cell? ⟨g',off'+k * 7+4,none⟩=some (afc)∧w'.cell? ⟨g',off'+k * 7+5,none⟩=some (afz)∧w'.cell? ⟨g',off'+k * 7+6,none⟩=some (.bool jg))
    (first|go_keep|exact⟨(hbq.cell (p:=⟨g,off+k * 7,none⟩) hgw).trans c0,(hbq.cell (p:=⟨g,off+k * 7+1,none⟩) hgw).trans c1,(hbq.cell (p:=⟨g,off+k * 7+2,none⟩) hgw).trans c2,(hbq.cell (p:=⟨g,off+k * 7+3,none⟩) hgw).trans c3,(hbq.cell (p:=⟨g,off+k * 7+4,none⟩) hgw).trans c4,(hbq.cell (p:=⟨g,off+k * 7+5,none⟩) hgw).trans c5,(hbq.cell (p:=⟨g,off+k * 7+6,none⟩) hgw).trans c6,(hbq.cell (p:=⟨g',off'+k * 7,none⟩) ajn).trans d0',(hbq.cell (p:=⟨g',off'+k * 7+1,none⟩) ajn).trans d1',(hbq.cell (p:=⟨g',off'+k * 7+2,none⟩) ajn).trans d2',(hbq.cell (p:=⟨g',off'+k * 7+3,none⟩) ajn).trans d3',(hbq.cell (p:=⟨g',off'+k * 7+4,none⟩) ajn).trans d4',(hbq.cell (p:=⟨g',off'+k * 7+5,none⟩) ajn).trans d5',(hbq.cell (p:=⟨g',off'+k * 7+6,none⟩) ajn).trans d6'⟩)
    (first|(go_at_call 71;refine HC.out.mono ?_;rintro e wq ⟨rfl,hbq⟩))
   have hbn:Below w.heap.size w wq:=hbr.drew.trans (hbq.mono hbr.size)
   clear hbq hbr c0 c1 c2 c3 c4 c5 c6 d0' d1' d2' d3' d4' d5' d6'
   go_wp2_with fail
   go_roundw
   case rel=>exact⟨k+1,by omega,by go_num,hbn⟩
   case measure=>simp[intOf];omega
  ·have hkn:k=n':=by omega
   subst hkn
   go_wp2_with fail
   go_ret
   exact⟨rfl,hbr⟩
theorem a2x (ts:List Fun):EqR 34 (.row 7 (ts.flatMap Fun.pd)):=a0o fun t _=>a5e t
set_option maxHeartbeats 1600000 in
theorem a2y {package:ByteArray} {name:ByteArray} {version:ByteArray} {resources:List ByteArray} {funcs:List Fun} (akj:EqR 33 (.row 1 (resources.flatMap tq))) (aok:EqR 34 (.row 7 (funcs.flatMap Fun.pd))):EqC 11 (qg.pd ⟨package,name,version,resources,funcs⟩):=by
 intro B cs us w hB h h'
 obtain⟨qh,aat,rfl,aa2,adw⟩:=qg.open_ h
 obtain⟨anc,apz,rfl,au3,a3z⟩:=qg.open_ h'
 have adh:=Lib.hid aa2
 have a2z:=Lib.hid au3
 clear aa2 au3
 have afu:=Lib.hid adw
 have S_funcs:=Lib.hid a3z
 clear adw a3z
 go_enter Tryz.func11,Tryz.ntmps11
 go_wp2_with fail
 obtain⟨w0,hw0⟩:∃ w0,w0=(w.alloc (.cells #[.string package,.string name,.string version,qh,aat] 30)).alloc (.cells #[.string package,.string name,.string version,anc,apz] 30):=⟨_,rfl⟩
 rw[← hw0]
 have bA:Blk w0 w.heap.size 30 #[.string package,.string name,.string version,qh,aat]:=by rw[hw0];exact(Blk.new w _ _).alloc _
 have bB:Blk w0 (w.heap.size+1) 30 #[.string package,.string name,.string version,anc,apz]:=by rw[hw0];have:=Blk.new (w.alloc (.cells #[.string package,.string name,.string version,qh,aat] 30)) 30 #[.string package,.string name,.string version,anc,apz];simpa using this
 have hB0:Below w.heap.size w w0:=by rw[hw0];exact((Below.refl _ _).alloc (Nat.le_refl _) _).alloc (by simp) _
 clear hw0
 refine(akj B qh anc _ (by have:=hB0.size;omega) (adh.out.below (hB0.mono hB)) (a2z.out.below (hB0.mono hB))).mono ?_
 rintro e w1 ⟨rfl,hb1⟩
 have hB1:=hB0.trans (hb1.mono hB0.size)
 replace bA:=bA.step hb1
 replace bB:=bB.step hb1
 have a1_4:w1.cell? ⟨w.heap.size,4,none⟩=some (aat):=bA.cell 4
 have b1_4:w1.cell? ⟨w.heap.size+1,4,none⟩=some (apz):=bB.cell 4
 go_wp2_with fail
 refine(aok B aat apz _ (by have:=hB1.size;omega) (afu.out.below (hB1.mono hB)) (S_funcs.out.below (hB1.mono hB))).mono ?_
 rintro e w2 ⟨rfl,hb2⟩
 have hB2:=hB1.trans (hb2.mono hB1.size)
 replace bA:=bA.step hb2
 replace bB:=bB.step hb2
 go_wp2_with fail
 go_ret
 exact⟨rfl,hB2⟩
theorem awm (t:qg):EqC 11 (qg.pd t):=by obtain⟨package,name,version,resources,funcs⟩:=t;exact a2y apy (a2x funcs)
end Go.Proofs.YtbafphecjijdmaaGreatDoor
