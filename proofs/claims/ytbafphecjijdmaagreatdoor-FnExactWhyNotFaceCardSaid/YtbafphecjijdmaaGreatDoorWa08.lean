/-
  The laws' own helpers 'eq..' over the program's types (by program: tygen2.py, tyfam.py).
-/
import Derived.Test.YtbafphecjijdmaaGreatDoorWa04
import Derived.Test.YtbafphecjijdmaaGreatDoorWa05
namespace Go.Proofs.YtbafphecjijdmaaGreatDoor
open Go.RowKit
set_option linter.unusedVariables false
set_option linter.unusedSimpArgs false
set_option linter.unnecessarySimpa false
set_option maxRecDepth 100000
set_option maxHeartbeats 1600000 in
theorem ap8 {ts:List ByteArray}:EqR 33 (.row 1 (ts.flatMap tu)):=by
 intro B v u w hB h h'
 obtain⟨A,n,c,rfl,hnl,hm,hat⟩:=ny aat (by decide) h
 obtain⟨A',n',c',rfl,ald,_,hat'⟩:=ny aat (by decide) h'
 have hnn:n'=n:=by omega
 subst hnn
 unfold maxLen at hm
 have HN:=Lib.hid hnl
 clear h h' hnl ald
 go_enter Tryz.func33,Tryz.ntmps33
 go_wp2_with fail
 go_loopw [5] (fun i wr=>∃ k:Nat,k≤n'∧i=.int .i64 k∧Below w.heap.size w wr) (fun i _=>n' - (intOf i).toNat)
 case atStart=>exact⟨0,Nat.zero_le _,rfl,Below.refl _ _⟩
 case round=>
  obtain⟨k,hk,rfl,hbr⟩:=hrel
  by_cases hlt:k < n'
  ·obtain⟨g,off,rfl,hg,hcell⟩:=hat (by omega)
   obtain⟨g',off',rfl,hg',hcell'⟩:=hat' (by omega)
   obtain⟨t,hx,hmem⟩:=xg HN.out hlt
   have c0:wr.cell? ⟨g,off+k,none⟩=some (.string t):=gq hbr (by omega) (by have:=hcell k 0 _ _ hx rfl;simpa using this)
   have d0':wr.cell? ⟨g',off'+k,none⟩=some (.string t):=gq hbr (by omega) (by have:=hcell' k 0 _ _ hx rfl;simpa using this)
   have hlt':(k:Int) < (n':Int):=by omega
   have hgw:g < wr.heap.size:=by have:=hbr.size;omega
   have ajq:g' < wr.heap.size:=by have:=hbr.size;omega
   clear hx hcell hcell' hmem
   go_wp2_with fail
   go_quiet (fail)
   have hbn:=below_drewN hbr
   clear hbr c0 d0'
   go_wp2_with fail
   go_roundw
   case rel=>exact⟨k+1,by omega,by go_num,hbn _⟩
   case measure=>simp[intOf];omega
  ·have hkn:k=n':=by omega
   subst hkn
   go_wp2_with fail
   go_ret
   exact⟨rfl,hbr⟩
set_option maxHeartbeats 1600000 in
theorem a1a {ts:List Ty} (ih:∀ t ∈ ts,EqC 52 (Ty.pd t)):EqR 88 (.row 4 (ts.flatMap Ty.pd)):=by
 intro B v u w hB h h'
 obtain⟨A,n,c,rfl,hnl,hm,hat⟩:=ny Ty.jw (by decide) h
 obtain⟨A',n',c',rfl,ald,_,hat'⟩:=ny Ty.jw (by decide) h'
 have hnn:n'=n:=by omega
 subst hnn
 unfold maxLen at hm
 have HN:=Lib.hid hnl
 have HI:=Lib.hid ih
 clear ih
 clear h h' hnl ald
 go_enter Tryz.func88,Tryz.ntmps88
 go_wp2_with fail
 go_loopw [5] (fun i wr=>∃ k:Nat,k≤n'∧i=.int .i64 k∧Below w.heap.size w wr) (fun i _=>n' - (intOf i).toNat)
 case atStart=>exact⟨0,Nat.zero_le _,rfl,Below.refl _ _⟩
 case round=>
  obtain⟨k,hk,rfl,hbr⟩:=hrel
  by_cases hlt:k < n'
  ·obtain⟨g,off,rfl,hg,hcell⟩:=hat (by omega)
   obtain⟨g',off',rfl,hg',hcell'⟩:=hat' (by omega)
   obtain⟨t,hx,hmem⟩:=xg HN.out hlt
   obtain⟨kind,name,labels,kids⟩:=t
   have c0:wr.cell? ⟨g,off+k * 4,none⟩=some (.int .i64 kind):=gq hbr (by omega) (hcell k 0 _ _ hx (by rw[Ty.ay];rfl))
   have c1:wr.cell? ⟨g,off+k * 4+1,none⟩=some (.string name):=gq hbr (by omega) (hcell k 1 _ _ hx (by rw[Ty.ay];rfl))
   obtain⟨iq,c2,hr2⟩:∃ u,wr.cell? ⟨g,off+k * 4+2,none⟩=some u∧Rep wr B (.row 1 (labels.flatMap tu)) u:=ku hbr (by omega) hB (hcell k 2 _ _ hx (by rw[Ty.ay];rfl))
   have HR2:=Lib.hid hr2
   clear hr2
   obtain⟨qp,c3,hr3⟩:∃ u,wr.cell? ⟨g,off+k * 4+3,none⟩=some u∧Rep wr B (.row 4 (kids.flatMap Ty.pd)) u:=ku hbr (by omega) hB (hcell k 3 _ _ hx (by rw[Ty.ay];rfl))
   have HR3:=Lib.hid hr3
   clear hr3
   have d0':wr.cell? ⟨g',off'+k * 4,none⟩=some (.int .i64 kind):=gq hbr (by omega) (hcell' k 0 _ _ hx (by rw[Ty.ay];rfl))
   have d1':wr.cell? ⟨g',off'+k * 4+1,none⟩=some (.string name):=gq hbr (by omega) (hcell' k 1 _ _ hx (by rw[Ty.ay];rfl))
   obtain⟨als,d2',hr2'⟩:∃ u,wr.cell? ⟨g',off'+k * 4+2,none⟩=some u∧Rep wr B (.row 1 (labels.flatMap tu)) u:=ku hbr (by omega) hB (hcell' k 2 _ _ hx (by rw[Ty.ay];rfl))
   have bn4:=Lib.hid hr2'
   clear hr2'
   obtain⟨anx,d3',a1b⟩:∃ u,wr.cell? ⟨g',off'+k * 4+3,none⟩=some u∧Rep wr B (.row 4 (kids.flatMap Ty.pd)) u:=ku hbr (by omega) hB (hcell' k 3 _ _ hx (by rw[Ty.ay];rfl))
   have bcq:=Lib.hid a1b
   clear a1b
   have hlt':(k:Int) < (n':Int):=by omega
   have hgw:g < wr.heap.size:=by have:=hbr.size;omega
   have ajq:g' < wr.heap.size:=by have:=hbr.size;omega
   have HM:=Lib.hid hmem
   have HBW:=Lib.hid (Nat.le_trans hB hbr.size)
   clear hx hcell hcell' hmem
   go_wp2_with fail
   have HC:=Lib.hid (HI.out _ HM.out B [.int .i64 kind,.string name,iq,qp] [.int .i64 kind,.string name,als,anx] wr.drew HBW.out (Ty.close_ HR2.out.drew HR3.out.drew) (Ty.close_ bn4.out.drew bcq.out.drew))
   go_region_held3 (fun w'=>w'.cell? ⟨g,off+k * 4,none⟩=some (.int .i64 kind)∧w'.cell? ⟨g,off+k * 4+1,none⟩=some (.string name)∧w'.cell? ⟨g,off+k * 4+2,none⟩=some (iq)∧w'.cell? ⟨g,off+k * 4+3,none⟩=some (qp)∧w'.cell? ⟨g',off'+k * 4,none⟩=some (.int .i64 kind)∧w'.cell? ⟨g',off'+k * 4+1,none⟩=some (.string name)∧w'.cell? ⟨g',off'+k * 4+2,none⟩=some (als)∧w'.cell? ⟨g',off'+k * 4+3,none⟩=some (anx))
    (first|go_keep|exact⟨(hbq.cell (p:=⟨g,off+k * 4,none⟩) hgw).trans c0,(hbq.cell (p:=⟨g,off+k * 4+1,none⟩) hgw).trans c1,(hbq.cell (p:=⟨g,off+k * 4+2,none⟩) hgw).trans c2,(hbq.cell (p:=⟨g,off+k * 4+3,none⟩) hgw).trans c3,(hbq.cell (p:=⟨g',off'+k * 4,none⟩) ajq).trans d0',(hbq.cell (p:=⟨g',off'+k * 4+1,none⟩) ajq).trans d1',(hbq.cell (p:=⟨g',off'+k * 4+2,none⟩) ajq).trans d2',(hbq.cell (p:=⟨g',off'+k * 4+3,none⟩) ajq).trans d3'⟩)
    (first|(go_at_call 52;refine HC.out.mono ?_;rintro e wq ⟨rfl,hbq⟩))
   have hbn:Below w.heap.size w wq:=hbr.drew.trans (hbq.mono hbr.size)
   clear hbq hbr c0 c1 c2 c3 d0' d1' d2' d3'
   go_wp2_with fail
   go_roundw
   case rel=>exact⟨k+1,by omega,by go_num,hbn⟩
   case measure=>simp[intOf];omega
  ·have hkn:k=n':=by omega
   subst hkn
   go_wp2_with fail
   go_ret
   exact⟨rfl,hbr⟩
set_option maxHeartbeats 1600000 in
theorem a4k {kind:Int} {name:ByteArray} {labels:List ByteArray} {kids:List Ty} (anq:EqR 33 (.row 1 (labels.flatMap tu))) (ap2:EqR 88 (.row 4 (kids.flatMap Ty.pd))):EqC 52 (Ty.pd ⟨kind,name,labels,kids⟩):=by
 intro B cs us w hB h h'
 obtain⟨iq,qp,rfl,bf,eu⟩:=Ty.open_ h
 obtain⟨als,anx,rfl,a1c,a9y⟩:=Ty.open_ h'
 have pq:=Lib.hid bf
 have bcr:=Lib.hid a1c
 clear bf a1c
 have qm:=Lib.hid eu
 have bkq:=Lib.hid a9y
 clear eu a9y
 go_enter Tryz.func52,Tryz.ntmps52
 go_wp2_with fail
 obtain⟨w0,hw0⟩:∃ w0,w0=(w.alloc (.cells #[.int .i64 kind,.string name,iq,qp] 60)).alloc (.cells #[.int .i64 kind,.string name,als,anx] 60):=⟨_,rfl⟩
 rw[← hw0]
 have bA:Blk w0 w.heap.size 60 #[.int .i64 kind,.string name,iq,qp]:=by rw[hw0];exact(Blk.new w _ _).alloc _
 have bB:Blk w0 (w.heap.size+1) 60 #[.int .i64 kind,.string name,als,anx]:=by rw[hw0];have:=Blk.new (w.alloc (.cells #[.int .i64 kind,.string name,iq,qp] 60)) 60 #[.int .i64 kind,.string name,als,anx];simpa using this
 have hB0:Below w.heap.size w w0:=by rw[hw0];exact((Below.refl _ _).alloc (Nat.le_refl _) _).alloc (by simp) _
 clear hw0
 refine(anq B iq als _ (by have:=hB0.size;omega) (pq.out.below (hB0.mono hB)) (bcr.out.below (hB0.mono hB))).mono ?_
 rintro e w1 ⟨rfl,hb1⟩
 have hB1:=hB0.trans (hb1.mono hB0.size)
 replace bA:=bA.step hb1
 replace bB:=bB.step hb1
 have aa1:w1.cell? ⟨w.heap.size,3,none⟩=some (qp):=bA.cell 3
 have bn5:w1.cell? ⟨w.heap.size+1,3,none⟩=some (anx):=bB.cell 3
 go_wp2_with fail
 refine(ap2 B qp anx _ (by have:=hB1.size;omega) (qm.out.below (hB1.mono hB)) (bkq.out.below (hB1.mono hB))).mono ?_
 rintro e w2 ⟨rfl,hb2⟩
 have hB2:=hB1.trans (hb2.mono hB1.size)
 replace bA:=bA.step hb2
 replace bB:=bB.step hb2
 go_wp2_with fail
 go_ret
 exact⟨rfl,hB2⟩
mutual
theorem aqv:∀ t:Ty,EqC 52 (Ty.pd t)
 | .mk kind name labels kids=>a4k ap8 (a1a (awv kids))
theorem awv:∀ ts:List Ty,∀ t ∈ ts,EqC 52 (Ty.pd t)
 | [],x,hx=>absurd hx (by simp)
 | t ::r,x,hx=>(List.mem_cons.1 hx).elim (fun e=>e ▸ aqv t) (fun h=>awv r x h)
end
set_option maxHeartbeats 1600000 in
theorem a1d {name:ByteArray} {iy:Int} {ji:ByteArray} {og:List ByteArray} {um:List Ty} (akk:EqC 52 (Ty.pd ⟨iy,ji,og,um⟩)):EqC 87 (Param.pd ⟨name,⟨iy,ji,og,um⟩⟩):=by
 intro B cs us w hB h h'
 obtain⟨aau,abx,rfl,abd,ace⟩:=Param.open_ h
 obtain⟨ahw,ajr,rfl,asx,aww⟩:=Param.open_ h'
 have acs:=Lib.hid abd
 have a1e:=Lib.hid asx
 clear abd asx
 have adz:=Lib.hid ace
 have a7n:=Lib.hid aww
 clear ace aww
 go_enter Tryz.func87,Tryz.ntmps87
 go_wp2_with fail
 obtain⟨w0,hw0⟩:∃ w0,w0=(w.alloc (.cells #[.string name,.int .i64 iy,.string ji,aau,abx] 115)).alloc (.cells #[.string name,.int .i64 iy,.string ji,ahw,ajr] 115):=⟨_,rfl⟩
 rw[← hw0]
 have bA:Blk w0 w.heap.size 115 #[.string name,.int .i64 iy,.string ji,aau,abx]:=by rw[hw0];exact(Blk.new w _ _).alloc _
 have bB:Blk w0 (w.heap.size+1) 115 #[.string name,.int .i64 iy,.string ji,ahw,ajr]:=by rw[hw0];have:=Blk.new (w.alloc (.cells #[.string name,.int .i64 iy,.string ji,aau,abx] 115)) 115 #[.string name,.int .i64 iy,.string ji,ahw,ajr];simpa using this
 have hB0:Below w.heap.size w w0:=by rw[hw0];exact((Below.refl _ _).alloc (Nat.le_refl _) _).alloc (by simp) _
 clear hw0
 refine(akk B [.int .i64 iy,.string ji,aau,abx] [.int .i64 iy,.string ji,ahw,ajr] _ (by have:=hB0.size;omega) (Ty.close_ (acs.out.below (hB0.mono hB)) (adz.out.below (hB0.mono hB))) (Ty.close_ (a1e.out.below (hB0.mono hB)) (a7n.out.below (hB0.mono hB)))).mono ?_
 rintro e w1 ⟨rfl,hb1⟩
 have hB1:=hB0.trans (hb1.mono hB0.size)
 replace bA:=bA.step hb1
 replace bB:=bB.step hb1
 go_wp2_with fail
 go_ret
 exact⟨rfl,hB1⟩
theorem a4l (t:Param):EqC 87 (Param.pd t):=by obtain⟨name,⟨iy,ji,og,um⟩⟩:=t;exact a1d (aqv _)
set_option maxHeartbeats 1600000 in
theorem azz {ts:List Param} (ih:∀ t ∈ ts,EqC 87 (Param.pd t)):EqR 51 (.row 5 (ts.flatMap Param.pd)):=by
 intro B v u w hB h h'
 obtain⟨A,n,c,rfl,hnl,hm,hat⟩:=ny Param.jw (by decide) h
 obtain⟨A',n',c',rfl,ald,_,hat'⟩:=ny Param.jw (by decide) h'
 have hnn:n'=n:=by omega
 subst hnn
 unfold maxLen at hm
 have HN:=Lib.hid hnl
 have HI:=Lib.hid ih
 clear ih
 clear h h' hnl ald
 go_enter Tryz.func51,Tryz.ntmps51
 go_wp2_with fail
 go_loopw [5] (fun i wr=>∃ k:Nat,k≤n'∧i=.int .i64 k∧Below w.heap.size w wr) (fun i _=>n' - (intOf i).toNat)
 case atStart=>exact⟨0,Nat.zero_le _,rfl,Below.refl _ _⟩
 case round=>
  obtain⟨k,hk,rfl,hbr⟩:=hrel
  by_cases hlt:k < n'
  ·obtain⟨g,off,rfl,hg,hcell⟩:=hat (by omega)
   obtain⟨g',off',rfl,hg',hcell'⟩:=hat' (by omega)
   obtain⟨t,hx,hmem⟩:=xg HN.out hlt
   obtain⟨name,⟨iy,ji,og,um⟩⟩:=t
   have c0:wr.cell? ⟨g,off+k * 5,none⟩=some (.string name):=gq hbr (by omega) (hcell k 0 _ _ hx (by rw[Param.ay];rfl))
   have c1:wr.cell? ⟨g,off+k * 5+1,none⟩=some (.int .i64 iy):=gq hbr (by omega) (hcell k 1 _ _ hx (by rw[Param.ay];rfl))
   have c2:wr.cell? ⟨g,off+k * 5+2,none⟩=some (.string ji):=gq hbr (by omega) (hcell k 2 _ _ hx (by rw[Param.ay];rfl))
   obtain⟨aau,c3,hr3⟩:∃ u,wr.cell? ⟨g,off+k * 5+3,none⟩=some u∧Rep wr B (.row 1 (og.flatMap tu)) u:=ku hbr (by omega) hB (hcell k 3 _ _ hx (by rw[Param.ay];rfl))
   have HR3:=Lib.hid hr3
   clear hr3
   obtain⟨abx,c4,hr4⟩:∃ u,wr.cell? ⟨g,off+k * 5+4,none⟩=some u∧Rep wr B (.row 4 (um.flatMap Ty.pd)) u:=ku hbr (by omega) hB (hcell k 4 _ _ hx (by rw[Param.ay];rfl))
   have HR4:=Lib.hid hr4
   clear hr4
   have d0':wr.cell? ⟨g',off'+k * 5,none⟩=some (.string name):=gq hbr (by omega) (hcell' k 0 _ _ hx (by rw[Param.ay];rfl))
   have d1':wr.cell? ⟨g',off'+k * 5+1,none⟩=some (.int .i64 iy):=gq hbr (by omega) (hcell' k 1 _ _ hx (by rw[Param.ay];rfl))
   have d2':wr.cell? ⟨g',off'+k * 5+2,none⟩=some (.string ji):=gq hbr (by omega) (hcell' k 2 _ _ hx (by rw[Param.ay];rfl))
   obtain⟨ahw,d3',a1b⟩:∃ u,wr.cell? ⟨g',off'+k * 5+3,none⟩=some u∧Rep wr B (.row 1 (og.flatMap tu)) u:=ku hbr (by omega) hB (hcell' k 3 _ _ hx (by rw[Param.ay];rfl))
   have bcq:=Lib.hid a1b
   clear a1b
   obtain⟨ajr,d4',a1f⟩:∃ u,wr.cell? ⟨g',off'+k * 5+4,none⟩=some u∧Rep wr B (.row 4 (um.flatMap Ty.pd)) u:=ku hbr (by omega) hB (hcell' k 4 _ _ hx (by rw[Param.ay];rfl))
   have bcs:=Lib.hid a1f
   clear a1f
   have hlt':(k:Int) < (n':Int):=by omega
   have hgw:g < wr.heap.size:=by have:=hbr.size;omega
   have ajq:g' < wr.heap.size:=by have:=hbr.size;omega
   have HM:=Lib.hid hmem
   have HBW:=Lib.hid (Nat.le_trans hB hbr.size)
   clear hx hcell hcell' hmem
   go_wp2_with fail
   have HC:=Lib.hid (HI.out _ HM.out B [.string name,.int .i64 iy,.string ji,aau,abx] [.string name,.int .i64 iy,.string ji,ahw,ajr] wr.drew HBW.out (Param.close_ HR3.out.drew HR4.out.drew) (Param.close_ bcq.out.drew bcs.out.drew))
   go_region_held3 (fun w'=>w'.cell? ⟨g,off+k * 5,none⟩=some (.string name)∧w'.cell? ⟨g,off+k * 5+1,none⟩=some (.int .i64 iy)∧w'.cell? ⟨g,off+k * 5+2,none⟩=some (.string ji)∧w'.cell? ⟨g,off+k * 5+3,none⟩=some (aau)∧w'.cell? ⟨g,off+k * 5+4,none⟩=some (abx)∧w'.cell? ⟨g',off'+k * 5,none⟩=some (.string name)∧w'.cell? ⟨g',off'+k * 5+1,none⟩=some (.int .i64 iy)∧w'.cell? ⟨g',off'+k * 5+2,none⟩=some (.string ji)∧w'.cell? ⟨g',off'+k * 5+3,none⟩=some (ahw)∧w'.cell? ⟨g',off'+k * 5+4,none⟩=some (ajr))
    (first|go_keep|exact⟨(hbq.cell (p:=⟨g,off+k * 5,none⟩) hgw).trans c0,(hbq.cell (p:=⟨g,off+k * 5+1,none⟩) hgw).trans c1,(hbq.cell (p:=⟨g,off+k * 5+2,none⟩) hgw).trans c2,(hbq.cell (p:=⟨g,off+k * 5+3,none⟩) hgw).trans c3,(hbq.cell (p:=⟨g,off+k * 5+4,none⟩) hgw).trans c4,(hbq.cell (p:=⟨g',off'+k * 5,none⟩) ajq).trans d0',(hbq.cell (p:=⟨g',off'+k * 5+1,none⟩) ajq).trans d1',(hbq.cell (p:=⟨g',off'+k * 5+2,none⟩) ajq).trans d2',(hbq.cell (p:=⟨g',off'+k * 5+3,none⟩) ajq).trans d3',(hbq.cell (p:=⟨g',off'+k * 5+4,none⟩) ajq).trans d4'⟩)
    (first|(go_at_call 87;refine HC.out.mono ?_;rintro e wq ⟨rfl,hbq⟩))
   have hbn:Below w.heap.size w wq:=hbr.drew.trans (hbq.mono hbr.size)
   clear hbq hbr c0 c1 c2 c3 c4 d0' d1' d2' d3' d4'
   go_wp2_with fail
   go_roundw
   case rel=>exact⟨k+1,by omega,by go_num,hbn⟩
   case measure=>simp[intOf];omega
  ·have hkn:k=n':=by omega
   subst hkn
   go_wp2_with fail
   go_ret
   exact⟨rfl,hbr⟩
theorem a1g (ts:List Param):EqR 51 (.row 5 (ts.flatMap Param.pd)):=azz fun t _=>a4l t
set_option maxHeartbeats 1600000 in
theorem awx {params:List Param} {bg:Int} {cu:ByteArray} {jv:List ByteArray} {mg:List Ty} {async:Bool} (anr:EqR 51 (.row 5 (params.flatMap Param.pd))) (ant:EqC 52 (Ty.pd ⟨bg,cu,jv,mg⟩)):EqC 24 (jh.pd ⟨params,⟨bg,cu,jv,mg⟩,async⟩):=by
 intro B cs us w hB h h'
 obtain⟨ad3,oq,ug,rfl,adu,aaf,aaw⟩:=jh.open_ h
 obtain⟨aqw,aie,aj9,rfl,a1h,ape,asc⟩:=jh.open_ h'
 have af5:=Lib.hid adu
 have bct:=Lib.hid a1h
 clear adu a1h
 have ab9:=Lib.hid aaf
 have awy:=Lib.hid ape
 clear aaf ape
 have ac6:=Lib.hid aaw
 have az0:=Lib.hid asc
 clear aaw asc
 go_enter Tryz.func24,Tryz.ntmps24
 go_wp2_with fail
 obtain⟨w0,hw0⟩:∃ w0,w0=(w.alloc (.cells #[ad3,.int .i64 bg,.string cu,oq,ug,.bool async] 62)).alloc (.cells #[aqw,.int .i64 bg,.string cu,aie,aj9,.bool async] 62):=⟨_,rfl⟩
 rw[← hw0]
 have bA:Blk w0 w.heap.size 62 #[ad3,.int .i64 bg,.string cu,oq,ug,.bool async]:=by rw[hw0];exact(Blk.new w _ _).alloc _
 have bB:Blk w0 (w.heap.size+1) 62 #[aqw,.int .i64 bg,.string cu,aie,aj9,.bool async]:=by rw[hw0];have:=Blk.new (w.alloc (.cells #[ad3,.int .i64 bg,.string cu,oq,ug,.bool async] 62)) 62 #[aqw,.int .i64 bg,.string cu,aie,aj9,.bool async];simpa using this
 have hB0:Below w.heap.size w w0:=by rw[hw0];exact((Below.refl _ _).alloc (Nat.le_refl _) _).alloc (by simp) _
 clear hw0
 refine(anr B ad3 aqw _ (by have:=hB0.size;omega) (af5.out.below (hB0.mono hB)) (bct.out.below (hB0.mono hB))).mono ?_
 rintro e w1 ⟨rfl,hb1⟩
 have hB1:=hB0.trans (hb1.mono hB0.size)
 replace bA:=bA.step hb1
 replace bB:=bB.step hb1
 have aa9:w1.cell? ⟨w.heap.size,1,none⟩=some (.int .i64 bg):=bA.cell 1
 have bvk:w1.cell? ⟨w.heap.size+1,1,none⟩=some (.int .i64 bg):=bB.cell 1
 have abb:w1.cell? ⟨w.heap.size,2,none⟩=some (.string cu):=bA.cell 2
 have bvl:w1.cell? ⟨w.heap.size+1,2,none⟩=some (.string cu):=bB.cell 2
 have aa1:w1.cell? ⟨w.heap.size,3,none⟩=some (oq):=bA.cell 3
 have bn5:w1.cell? ⟨w.heap.size+1,3,none⟩=some (aie):=bB.cell 3
 have bcp:w1.cell? ⟨w.heap.size,4,none⟩=some (ug):=bA.cell 4
 have bn6:w1.cell? ⟨w.heap.size+1,4,none⟩=some (aj9):=bB.cell 4
 go_wp2_with fail
 refine(ant B [.int .i64 bg,.string cu,oq,ug] [.int .i64 bg,.string cu,aie,aj9] _ (by have:=hB1.size;omega) (Ty.close_ (ab9.out.below (hB1.mono hB)) (ac6.out.below (hB1.mono hB))) (Ty.close_ (awy.out.below (hB1.mono hB)) (az0.out.below (hB1.mono hB)))).mono ?_
 rintro e w2 ⟨rfl,hb2⟩
 have hB2:=hB1.trans (hb2.mono hB1.size)
 replace bA:=bA.step hb2
 replace bB:=bB.step hb2
 have bvm:w2.cell? ⟨w.heap.size,5,none⟩=some (.bool async):=bA.cell 5
 have bvn:w2.cell? ⟨w.heap.size+1,5,none⟩=some (.bool async):=bB.cell 5
 go_wp2_with fail
 go_ret
 exact⟨rfl,hB2⟩
theorem ax6 (t:jh):EqC 24 (jh.pd t):=by obtain⟨params,⟨bg,cu,jv,mg⟩,async⟩:=t;exact awx (a1g params) (aqv _)
set_option maxHeartbeats 1600000 in
theorem a4m {name:ByteArray} {ql:List Param} {aj:Int} {au:ByteArray} {iw:List ByteArray} {jl:List Ty} {jg:Bool} (akk:EqC 24 (jh.pd ⟨ql,⟨aj,au,iw,jl⟩,jg⟩)):EqC 71 (Fun.pd ⟨name,⟨ql,⟨aj,au,iw,jl⟩,jg⟩⟩):=by
 intro B cs us w hB h h'
 obtain⟨aav,tq,vk,rfl,ab8,zk,aai⟩:=Fun.open_ h
 obtain⟨ahx,afg,af6,rfl,asy,am6,aoi⟩:=Fun.open_ h'
 have ae8:=Lib.hid ab8
 have a1i:=Lib.hid asy
 clear ab8 asy
 have ac7:=Lib.hid zk
 have asl:=Lib.hid am6
 clear zk am6
 have adx:=Lib.hid aai
 have auz:=Lib.hid aoi
 clear aai aoi
 go_enter Tryz.func71,Tryz.ntmps71
 go_wp2_with fail
 obtain⟨w0,hw0⟩:∃ w0,w0=(w.alloc (.cells #[.string name,aav,.int .i64 aj,.string au,tq,vk,.bool jg] 99)).alloc (.cells #[.string name,ahx,.int .i64 aj,.string au,afg,af6,.bool jg] 99):=⟨_,rfl⟩
 rw[← hw0]
 have bA:Blk w0 w.heap.size 99 #[.string name,aav,.int .i64 aj,.string au,tq,vk,.bool jg]:=by rw[hw0];exact(Blk.new w _ _).alloc _
 have bB:Blk w0 (w.heap.size+1) 99 #[.string name,ahx,.int .i64 aj,.string au,afg,af6,.bool jg]:=by rw[hw0];have:=Blk.new (w.alloc (.cells #[.string name,aav,.int .i64 aj,.string au,tq,vk,.bool jg] 99)) 99 #[.string name,ahx,.int .i64 aj,.string au,afg,af6,.bool jg];simpa using this
 have hB0:Below w.heap.size w w0:=by rw[hw0];exact((Below.refl _ _).alloc (Nat.le_refl _) _).alloc (by simp) _
 clear hw0
 refine(akk B [aav,.int .i64 aj,.string au,tq,vk,.bool jg] [ahx,.int .i64 aj,.string au,afg,af6,.bool jg] _ (by have:=hB0.size;omega) (jh.close_ (ae8.out.below (hB0.mono hB)) (ac7.out.below (hB0.mono hB)) (adx.out.below (hB0.mono hB))) (jh.close_ (a1i.out.below (hB0.mono hB)) (asl.out.below (hB0.mono hB)) (auz.out.below (hB0.mono hB)))).mono ?_
 rintro e w1 ⟨rfl,hb1⟩
 have hB1:=hB0.trans (hb1.mono hB0.size)
 replace bA:=bA.step hb1
 replace bB:=bB.step hb1
 go_wp2_with fail
 go_ret
 exact⟨rfl,hB1⟩
theorem a7o (t:Fun):EqC 71 (Fun.pd t):=by obtain⟨name,⟨ql,⟨aj,au,iw,jl⟩,jg⟩⟩:=t;exact a4m (ax6 _)
set_option maxHeartbeats 1600000 in
theorem a1j {ts:List Fun} (ih:∀ t ∈ ts,EqC 71 (Fun.pd t)):EqR 34 (.row 7 (ts.flatMap Fun.pd)):=by
 intro B v u w hB h h'
 obtain⟨A,n,c,rfl,hnl,hm,hat⟩:=ny Fun.jw (by decide) h
 obtain⟨A',n',c',rfl,ald,_,hat'⟩:=ny Fun.jw (by decide) h'
 have hnn:n'=n:=by omega
 subst hnn
 unfold maxLen at hm
 have HN:=Lib.hid hnl
 have HI:=Lib.hid ih
 clear ih
 clear h h' hnl ald
 go_enter Tryz.func34,Tryz.ntmps34
 go_wp2_with fail
 go_loopw [5] (fun i wr=>∃ k:Nat,k≤n'∧i=.int .i64 k∧Below w.heap.size w wr) (fun i _=>n' - (intOf i).toNat)
 case atStart=>exact⟨0,Nat.zero_le _,rfl,Below.refl _ _⟩
 case round=>
  obtain⟨k,hk,rfl,hbr⟩:=hrel
  by_cases hlt:k < n'
  ·obtain⟨g,off,rfl,hg,hcell⟩:=hat (by omega)
   obtain⟨g',off',rfl,hg',hcell'⟩:=hat' (by omega)
   obtain⟨t,hx,hmem⟩:=xg HN.out hlt
   obtain⟨name,⟨ql,⟨aj,au,iw,jl⟩,jg⟩⟩:=t
   have c0:wr.cell? ⟨g,off+k * 7,none⟩=some (.string name):=gq hbr (by omega) (hcell k 0 _ _ hx (by rw[Fun.ay];rfl))
   obtain⟨aav,c1,hr1⟩:∃ u,wr.cell? ⟨g,off+k * 7+1,none⟩=some u∧Rep wr B (.row 5 (ql.flatMap Param.pd)) u:=ku hbr (by omega) hB (hcell k 1 _ _ hx (by rw[Fun.ay];rfl))
   have HR1:=Lib.hid hr1
   clear hr1
   have c2:wr.cell? ⟨g,off+k * 7+2,none⟩=some (.int .i64 aj):=gq hbr (by omega) (hcell k 2 _ _ hx (by rw[Fun.ay];rfl))
   have c3:wr.cell? ⟨g,off+k * 7+3,none⟩=some (.string au):=gq hbr (by omega) (hcell k 3 _ _ hx (by rw[Fun.ay];rfl))
   obtain⟨tq,c4,hr4⟩:∃ u,wr.cell? ⟨g,off+k * 7+4,none⟩=some u∧Rep wr B (.row 1 (iw.flatMap tu)) u:=ku hbr (by omega) hB (hcell k 4 _ _ hx (by rw[Fun.ay];rfl))
   have HR4:=Lib.hid hr4
   clear hr4
   obtain⟨vk,c5,hr5⟩:∃ u,wr.cell? ⟨g,off+k * 7+5,none⟩=some u∧Rep wr B (.row 4 (jl.flatMap Ty.pd)) u:=ku hbr (by omega) hB (hcell k 5 _ _ hx (by rw[Fun.ay];rfl))
   have HR5:=Lib.hid hr5
   clear hr5
   have c6:wr.cell? ⟨g,off+k * 7+6,none⟩=some (.bool jg):=gq hbr (by omega) (hcell k 6 _ _ hx (by rw[Fun.ay];rfl))
   have d0':wr.cell? ⟨g',off'+k * 7,none⟩=some (.string name):=gq hbr (by omega) (hcell' k 0 _ _ hx (by rw[Fun.ay];rfl))
   obtain⟨ahx,d1',hr1'⟩:∃ u,wr.cell? ⟨g',off'+k * 7+1,none⟩=some u∧Rep wr B (.row 5 (ql.flatMap Param.pd)) u:=ku hbr (by omega) hB (hcell' k 1 _ _ hx (by rw[Fun.ay];rfl))
   have bn7:=Lib.hid hr1'
   clear hr1'
   have d2':wr.cell? ⟨g',off'+k * 7+2,none⟩=some (.int .i64 aj):=gq hbr (by omega) (hcell' k 2 _ _ hx (by rw[Fun.ay];rfl))
   have d3':wr.cell? ⟨g',off'+k * 7+3,none⟩=some (.string au):=gq hbr (by omega) (hcell' k 3 _ _ hx (by rw[Fun.ay];rfl))
   obtain⟨afg,d4',a1f⟩:∃ u,wr.cell? ⟨g',off'+k * 7+4,none⟩=some u∧Rep wr B (.row 1 (iw.flatMap tu)) u:=ku hbr (by omega) hB (hcell' k 4 _ _ hx (by rw[Fun.ay];rfl))
   have bcs:=Lib.hid a1f
   clear a1f
   obtain⟨af6,d5',bkr⟩:∃ u,wr.cell? ⟨g',off'+k * 7+5,none⟩=some u∧Rep wr B (.row 4 (jl.flatMap Ty.pd)) u:=ku hbr (by omega) hB (hcell' k 5 _ _ hx (by rw[Fun.ay];rfl))
   have bn8:=Lib.hid bkr
   clear bkr
   have d6':wr.cell? ⟨g',off'+k * 7+6,none⟩=some (.bool jg):=gq hbr (by omega) (hcell' k 6 _ _ hx (by rw[Fun.ay];rfl))
   have hlt':(k:Int) < (n':Int):=by omega
   have hgw:g < wr.heap.size:=by have:=hbr.size;omega
   have ajq:g' < wr.heap.size:=by have:=hbr.size;omega
   have HM:=Lib.hid hmem
   have HBW:=Lib.hid (Nat.le_trans hB hbr.size)
   clear hx hcell hcell' hmem
   go_wp2_with fail
   have HC:=Lib.hid (HI.out _ HM.out B [.string name,aav,.int .i64 aj,.string au,tq,vk,.bool jg] [.string name,ahx,.int .i64 aj,.string au,afg,af6,.bool jg] wr.drew HBW.out (Fun.close_ HR1.out.drew HR4.out.drew HR5.out.drew) (Fun.close_ bn7.out.drew bcs.out.drew bn8.out.drew))
   go_region_held3 (fun w'=>w'.cell? ⟨g,off+k * 7,none⟩=some (.string name)∧w'.cell? ⟨g,off+k * 7+1,none⟩=some (aav)∧w'.cell? ⟨g,off+k * 7+2,none⟩=some (.int .i64 aj)∧w'.cell? ⟨g,off+k * 7+3,none⟩=some (.string au)∧w'.cell? ⟨g,off+k * 7+4,none⟩=some (tq)∧w'.cell? ⟨g,off+k * 7+5,none⟩=some (vk)∧w'.cell? ⟨g,off+k * 7+6,none⟩=some (.bool jg)∧w'.cell? ⟨g',off'+k * 7,none⟩=some (.string name)∧w'.cell? ⟨g',off'+k * 7+1,none⟩=some (ahx)∧w'.cell? ⟨g',off'+k * 7+2,none⟩=some (.int .i64 aj)∧w'.cell? ⟨g',off'+k * 7+3,none⟩=some (.string au)∧w'.cell? ⟨g',off'+k * 7+4,none⟩=some (afg)∧w'.cell? ⟨g',off'+k * 7+5,none⟩=some (af6)∧w'.cell? ⟨g',off'+k * 7+6,none⟩=some (.bool jg))
    (first|go_keep|exact⟨(hbq.cell (p:=⟨g,off+k * 7,none⟩) hgw).trans c0,(hbq.cell (p:=⟨g,off+k * 7+1,none⟩) hgw).trans c1,(hbq.cell (p:=⟨g,off+k * 7+2,none⟩) hgw).trans c2,(hbq.cell (p:=⟨g,off+k * 7+3,none⟩) hgw).trans c3,(hbq.cell (p:=⟨g,off+k * 7+4,none⟩) hgw).trans c4,(hbq.cell (p:=⟨g,off+k * 7+5,none⟩) hgw).trans c5,(hbq.cell (p:=⟨g,off+k * 7+6,none⟩) hgw).trans c6,(hbq.cell (p:=⟨g',off'+k * 7,none⟩) ajq).trans d0',(hbq.cell (p:=⟨g',off'+k * 7+1,none⟩) ajq).trans d1',(hbq.cell (p:=⟨g',off'+k * 7+2,none⟩) ajq).trans d2',(hbq.cell (p:=⟨g',off'+k * 7+3,none⟩) ajq).trans d3',(hbq.cell (p:=⟨g',off'+k * 7+4,none⟩) ajq).trans d4',(hbq.cell (p:=⟨g',off'+k * 7+5,none⟩) ajq).trans d5',(hbq.cell (p:=⟨g',off'+k * 7+6,none⟩) ajq).trans d6'⟩)
    (first|(go_at_call 71;refine HC.out.mono ?_;rintro e wq ⟨rfl,hbq⟩))
   have hbn:Below w.heap.size w wq:=hbr.drew.trans (hbq.mono hbr.size)
   clear hbq hbr c0 c1 c2 c3 c4 c5 c6 d0' d1' d2' d3' d4' d5' d6'
   go_wp2_with fail
   go_roundw
   case rel=>exact⟨k+1,by omega,by go_num,hbn⟩
   case measure=>simp[intOf];omega
  ·have hkn:k=n':=by omega
   subst hkn
   go_wp2_with fail
   go_ret
   exact⟨rfl,hbr⟩
theorem a4n (ts:List Fun):EqR 34 (.row 7 (ts.flatMap Fun.pd)):=a1j fun t _=>a7o t
set_option maxHeartbeats 1600000 in
theorem a4o {package:ByteArray} {name:ByteArray} {version:ByteArray} {resources:List ByteArray} {funcs:List Fun} (akl:EqR 33 (.row 1 (resources.flatMap tu))) (aot:EqR 34 (.row 7 (funcs.flatMap Fun.pd))):EqC 11 (qg.pd ⟨package,name,version,resources,funcs⟩):=by
 intro B cs us w hB h h'
 obtain⟨oz,aaq,rfl,aa8,ad4⟩:=qg.open_ h
 obtain⟨ank,ap9,rfl,avc,a5p⟩:=qg.open_ h'
 have adq:=Lib.hid aa8
 have a4p:=Lib.hid avc
 clear aa8 avc
 have af0:=Lib.hid ad4
 have bgt:=Lib.hid a5p
 clear ad4 a5p
 go_enter Tryz.func11,Tryz.ntmps11
 go_wp2_with fail
 obtain⟨w0,hw0⟩:∃ w0,w0=(w.alloc (.cells #[.string package,.string name,.string version,oz,aaq] 30)).alloc (.cells #[.string package,.string name,.string version,ank,ap9] 30):=⟨_,rfl⟩
 rw[← hw0]
 have bA:Blk w0 w.heap.size 30 #[.string package,.string name,.string version,oz,aaq]:=by rw[hw0];exact(Blk.new w _ _).alloc _
 have bB:Blk w0 (w.heap.size+1) 30 #[.string package,.string name,.string version,ank,ap9]:=by rw[hw0];have:=Blk.new (w.alloc (.cells #[.string package,.string name,.string version,oz,aaq] 30)) 30 #[.string package,.string name,.string version,ank,ap9];simpa using this
 have hB0:Below w.heap.size w w0:=by rw[hw0];exact((Below.refl _ _).alloc (Nat.le_refl _) _).alloc (by simp) _
 clear hw0
 refine(akl B oz ank _ (by have:=hB0.size;omega) (adq.out.below (hB0.mono hB)) (a4p.out.below (hB0.mono hB))).mono ?_
 rintro e w1 ⟨rfl,hb1⟩
 have hB1:=hB0.trans (hb1.mono hB0.size)
 replace bA:=bA.step hb1
 replace bB:=bB.step hb1
 have bcp:w1.cell? ⟨w.heap.size,4,none⟩=some (aaq):=bA.cell 4
 have bn6:w1.cell? ⟨w.heap.size+1,4,none⟩=some (ap9):=bB.cell 4
 go_wp2_with fail
 refine(aot B aaq ap9 _ (by have:=hB1.size;omega) (af0.out.below (hB1.mono hB)) (bgt.out.below (hB1.mono hB))).mono ?_
 rintro e w2 ⟨rfl,hb2⟩
 have hB2:=hB1.trans (hb2.mono hB1.size)
 replace bA:=bA.step hb2
 replace bB:=bB.step hb2
 go_wp2_with fail
 go_ret
 exact⟨rfl,hB2⟩
theorem awz (t:qg):EqC 11 (qg.pd t):=by obtain⟨package,name,version,resources,funcs⟩:=t;exact a4o ap8 (a4n funcs)
set_option maxHeartbeats 1600000 in
theorem az1 {kind:Int} {at_:ByteArray}:EqC 14 (Reason.pd ⟨kind,at_⟩):=by
 intro B cs us w hB h h'
 obtain rfl:=Reason.open_ h
 obtain rfl:=Reason.open_ h'
 go_enter Tryz.func14,Tryz.ntmps14
 go_wp2_with fail
 go_ret
 exact⟨rfl,((Below.refl _ _).alloc (Nat.le_refl _) _).alloc (by simp) _⟩
theorem a1k (t:Reason):EqC 14 (Reason.pd t):=by obtain⟨kind,at_⟩:=t;exact az1
end Go.Proofs.YtbafphecjijdmaaGreatDoor
