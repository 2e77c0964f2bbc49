/-
  The laws' own helpers 'eq..' over the program's types (by program: tygen2.py, tyfam.py).
-/
import Derived.Test.YtbafphecjijdmaaGreatDoorUb04
import Derived.Test.YtbafphecjijdmaaGreatDoorUb05
namespace Go.Proofs.YtbafphecjijdmaaGreatDoor
open Go.RowKit
set_option linter.all false
set_option maxRecDepth 100000
set_option maxHeartbeats 1600000 in
theorem ar2 {ts:List ByteArray}:EqR 33 (.row 1 (ts.flatMap qj)):=by
 intro B v u w hB h h'
 obtain⟨A,n,c,rfl,hnl,hm,hat⟩:=ni aaz (by decide) h
 obtain⟨A',n',c',rfl,alb,_,hat'⟩:=ni aaz (by decide) h'
 have hnn:n'=n:=by omega
 subst hnn
 unfold maxLen at hm
 have HN:=zqd hnl
 clear h h' hnl alb
 go_enter Tryz.func33,Tryz.ntmps33
 go_wp2_with fail
 go_loopw [5] (fun i wr=>∃ k:Nat,k≤n'∧i=.int .i64 k∧Below w.heap.size w wr) (fun i _=>n' - (intOf i).toNat)
 case atStart=>exact⟨0,Nat.zero_le _,rfl,zqf _ _⟩
 case round=>
  obtain⟨k,hk,rfl,hbr⟩:=hrel
  by_cases hlt:k < n'
  ·obtain⟨g,off,rfl,hg,hcell⟩:=hat (by omega)
   obtain⟨g',off',rfl,hg',hcell'⟩:=hat' (by omega)
   obtain⟨t,hx,hmem⟩:=um HN.out hlt
   have c0:wr.cell? ⟨g,off+k,none⟩=some (.string t):=bg hbr (by omega) (by have:=hcell k 0 _ _ hx rfl;simpa using this)
   have d0':wr.cell? ⟨g',off'+k,none⟩=some (.string t):=bg hbr (by omega) (by have:=hcell' k 0 _ _ hx rfl;simpa using this)
   have hlt':(k:Int) < (n':Int):=by omega
   have hgw:g < wr.heap.size:=by have:=hbr.size;omega
   have ain:g' < wr.heap.size:=by have:=hbr.size;omega
   clear hx hcell hcell' hmem
   go_wp2_with fail
   go_quiet (fail)
   have hbn:=below_drewN hbr
   clear hbr c0 d0'
   go_wp2_with fail
   go_roundw
   case rel=>exact⟨k+1,by omega,by go_num,hbn _⟩
   case measure=>simp[intOf];omega
  ·have hkn:k=n':=by omega
   subst hkn
   go_wp2_with fail
   go_ret
   exact⟨rfl,hbr⟩
set_option maxHeartbeats 1600000 in
theorem a6k {ts:List Ty} (ih:∀ t ∈ ts,EqC 52 (Ty.pd t)):EqR 88 (.row 4 (ts.flatMap Ty.pd)):=by
 intro B v u w hB h h'
 obtain⟨A,n,c,rfl,hnl,hm,hat⟩:=ni Ty.jd (by decide) h
 obtain⟨A',n',c',rfl,alb,_,hat'⟩:=ni Ty.jd (by decide) h'
 have hnn:n'=n:=by omega
 subst hnn
 unfold maxLen at hm
 have HN:=zqd hnl
 have HI:=zqd ih
 clear ih
 clear h h' hnl alb
 go_enter Tryz.func88,Tryz.ntmps88
 go_wp2_with fail
 go_loopw [5] (fun i wr=>∃ k:Nat,k≤n'∧i=.int .i64 k∧Below w.heap.size w wr) (fun i _=>n' - (intOf i).toNat)
 case atStart=>exact⟨0,Nat.zero_le _,rfl,zqf _ _⟩
 case round=>
  obtain⟨k,hk,rfl,hbr⟩:=hrel
  by_cases hlt:k < n'
  ·obtain⟨g,off,rfl,hg,hcell⟩:=hat (by omega)
   obtain⟨g',off',rfl,hg',hcell'⟩:=hat' (by omega)
   obtain⟨t,hx,hmem⟩:=um HN.out hlt
   obtain⟨kind,name,labels,kids⟩:=t
   have c0:wr.cell? ⟨g,off+k * 4,none⟩=some (.int .i64 kind):=bg hbr (by omega) (hcell k 0 _ _ hx (by rw[Ty.aj];rfl))
   have c1:wr.cell? ⟨g,off+k * 4+1,none⟩=some (.string name):=bg hbr (by omega) (hcell k 1 _ _ hx (by rw[Ty.aj];rfl))
   obtain⟨iw,c2,hr2⟩:∃ u,wr.cell? ⟨g,off+k * 4+2,none⟩=some u∧Rep wr B (.row 1 (labels.flatMap qj)) u:=jc hbr (by omega) hB (hcell k 2 _ _ hx (by rw[Ty.aj];rfl))
   have HR2:=zqd hr2
   clear hr2
   obtain⟨qw,c3,hr3⟩:∃ u,wr.cell? ⟨g,off+k * 4+3,none⟩=some u∧Rep wr B (.row 4 (kids.flatMap Ty.pd)) u:=jc hbr (by omega) hB (hcell k 3 _ _ hx (by rw[Ty.aj];rfl))
   have HR3:=zqd hr3
   clear hr3
   have d0':wr.cell? ⟨g',off'+k * 4,none⟩=some (.int .i64 kind):=bg hbr (by omega) (hcell' k 0 _ _ hx (by rw[Ty.aj];rfl))
   have d1':wr.cell? ⟨g',off'+k * 4+1,none⟩=some (.string name):=bg hbr (by omega) (hcell' k 1 _ _ hx (by rw[Ty.aj];rfl))
   obtain⟨ams,d2',hr2'⟩:∃ u,wr.cell? ⟨g',off'+k * 4+2,none⟩=some u∧Rep wr B (.row 1 (labels.flatMap qj)) u:=jc hbr (by omega) hB (hcell' k 2 _ _ hx (by rw[Ty.aj];rfl))
   have bup:=zqd hr2'
   clear hr2'
   obtain⟨ao8,d3',au6⟩:∃ u,wr.cell? ⟨g',off'+k * 4+3,none⟩=some u∧Rep wr B (.row 4 (kids.flatMap Ty.pd)) u:=jc hbr (by omega) hB (hcell' k 3 _ _ hx (by rw[Ty.aj];rfl))
   have a6l:=zqd au6
   clear au6
   have hlt':(k:Int) < (n':Int):=by omega
   have hgw:g < wr.heap.size:=by have:=hbr.size;omega
   have ain:g' < wr.heap.size:=by have:=hbr.size;omega
   have HM:=zqd hmem
   have HBW:=zqd (Nat.le_trans hB hbr.size)
   clear hx hcell hcell' hmem
   go_wp2_with fail
   have HC:=zqd (HI.out _ HM.out B [.int .i64 kind,.string name,iw,qw] [.int .i64 kind,.string name,ams,ao8] wr.drew HBW.out (Ty.close_ HR2.out.drew HR3.out.drew) (Ty.close_ bup.out.drew a6l.out.drew))
   go_region_held3 (fun w'=>w'.cell? ⟨g,off+k * 4,none⟩=some (.int .i64 kind)∧w'.cell? ⟨g,off+k * 4+1,none⟩=some (.string name)∧w'.cell? ⟨g,off+k * 4+2,none⟩=some (iw)∧w'.cell? ⟨g,off+k * 4+3,none⟩=some (qw)∧w'.cell? ⟨g',off'+k * 4,none⟩=some (.int .i64 kind)∧w'.cell? ⟨g',off'+k * 4+1,none⟩=some (.string name)∧w'.cell? ⟨g',off'+k * 4+2,none⟩=some (ams)∧w'.cell? ⟨g',off'+k * 4+3,none⟩=some (ao8))
    (first|go_keep|exact⟨(hbq.cell (p:=⟨g,off+k * 4,none⟩) hgw).trans c0,(hbq.cell (p:=⟨g,off+k * 4+1,none⟩) hgw).trans c1,(hbq.cell (p:=⟨g,off+k * 4+2,none⟩) hgw).trans c2,(hbq.cell (p:=⟨g,off+k * 4+3,none⟩) hgw).trans c3,(hbq.cell (p:=⟨g',off'+k * 4,none⟩) ain).trans d0',(hbq.cell (p:=⟨g',off'+k * 4+1,none⟩) ain).trans d1',(hbq.cell (p:=⟨g',off'+k * 4+2,none⟩) ain).trans d2',(hbq.cell (p:=⟨g',off'+k * 4+3,none⟩) ain).trans d3'⟩)
    (first|(go_at_call 52;refine HC.out.mono ?_;rintro e wq ⟨rfl,hbq⟩))
   have hbn:Below w.heap.size w wq:=hbr.drew.trans (hbq.mono hbr.size)
   clear hbq hbr c0 c1 c2 c3 d0' d1' d2' d3'
   go_wp2_with fail
   go_roundw
   case rel=>exact⟨k+1,by omega,by go_num,hbn⟩
   case measure=>simp[intOf];omega
  ·have hkn:k=n':=by omega
   subst hkn
   go_wp2_with fail
   go_ret
   exact⟨rfl,hbr⟩
set_option maxHeartbeats 1600000 in
theorem baj {kind:Int} {name:ByteArray} {labels:List ByteArray} {kids:List Ty} (ao0:EqR 33 (.row 1 (labels.flatMap qj))) (arv:EqR 88 (.row 4 (kids.flatMap Ty.pd))):EqC 52 (Ty.pd ⟨kind,name,labels,kids⟩):=by
 intro B cs us w hB h h'
 obtain⟨iw,qw,rfl,bf,gu⟩:=Ty.open_ h
 obtain⟨ams,ao8,rfl,a6m,bf2⟩:=Ty.open_ h'
 have pz:=zqd bf
 have biq:=zqd a6m
 clear bf a6m
 have qo:=zqd gu
 have bqz:=zqd bf2
 clear gu bf2
 go_enter Tryz.func52,Tryz.ntmps52
 go_wp2_with fail
 obtain⟨w0,hw0⟩:∃ w0,w0=(w.alloc (.cells #[.int .i64 kind,.string name,iw,qw] 60)).alloc (.cells #[.int .i64 kind,.string name,ams,ao8] 60):=⟨_,rfl⟩
 rw[← hw0]
 have bA:Blk w0 w.heap.size 60 #[.int .i64 kind,.string name,iw,qw]:=by rw[hw0];exact(Blk.new w _ _).alloc _
 have bB:Blk w0 (w.heap.size+1) 60 #[.int .i64 kind,.string name,ams,ao8]:=by rw[hw0];have:=Blk.new (w.alloc (.cells #[.int .i64 kind,.string name,iw,qw] 60)) 60 #[.int .i64 kind,.string name,ams,ao8];simpa using this
 have hB0:Below w.heap.size w w0:=by rw[hw0];exact((zqf _ _).alloc (zql _) _).alloc (by simp) _
 clear hw0
 refine(ao0 B iw ams _ (by have:=hB0.size;omega) (pz.out.below (hB0.mono hB)) (biq.out.below (hB0.mono hB))).mono ?_
 rintro e w1 ⟨rfl,hb1⟩
 have hB1:=hB0.trans (hb1.mono hB0.size)
 replace bA:=bA.step hb1
 replace bB:=bB.step hb1
 have abg:w1.cell? ⟨w.heap.size,3,none⟩=some (qw):=bA.cell 3
 have buq:w1.cell? ⟨w.heap.size+1,3,none⟩=some (ao8):=bB.cell 3
 go_wp2_with fail
 refine(arv B qw ao8 _ (by have:=hB1.size;omega) (qo.out.below (hB1.mono hB)) (bqz.out.below (hB1.mono hB))).mono ?_
 rintro e w2 ⟨rfl,hb2⟩
 have hB2:=hB1.trans (hb2.mono hB1.size)
 replace bA:=bA.step hb2
 replace bB:=bB.step hb2
 go_wp2_with fail
 go_ret
 exact⟨rfl,hB2⟩
mutual
theorem asy:∀ t:Ty,EqC 52 (Ty.pd t)
 | .mk kind name labels kids=>baj ar2 (a6k (az5 kids))
theorem az5:∀ ts:List Ty,∀ t ∈ ts,EqC 52 (Ty.pd t)
 | [],x,hx=>absurd hx (by simp)
 | t ::r,x,hx=>(List.mem_cons.1 hx).elim (fun e=>e ▸ asy t) (fun h=>az5 r x h)
end
set_option maxHeartbeats 1600000 in
theorem a6n {name:ByteArray} {je:Int} {jm:ByteArray} {ou:List ByteArray} {uj:List Ty} (alf:EqC 52 (Ty.pd ⟨je,jm,ou,uj⟩)):EqC 87 (Param.pd ⟨name,⟨je,jm,ou,uj⟩⟩):=by
 intro B cs us w hB h h'
 obtain⟨aa0,ab7,rfl,abo,acw⟩:=Param.open_ h
 obtain⟨ai2,aku,rfl,au7,az6⟩:=Param.open_ h'
 have ac7:=zqd abo
 have a6o:=zqd au7
 clear abo au7
 have aef:=zqd acw
 have bdo:=zqd az6
 clear acw az6
 go_enter Tryz.func87,Tryz.ntmps87
 go_wp2_with fail
 obtain⟨w0,hw0⟩:∃ w0,w0=(w.alloc (.cells #[.string name,.int .i64 je,.string jm,aa0,ab7] 115)).alloc (.cells #[.string name,.int .i64 je,.string jm,ai2,aku] 115):=⟨_,rfl⟩
 rw[← hw0]
 have bA:Blk w0 w.heap.size 115 #[.string name,.int .i64 je,.string jm,aa0,ab7]:=by rw[hw0];exact(Blk.new w _ _).alloc _
 have bB:Blk w0 (w.heap.size+1) 115 #[.string name,.int .i64 je,.string jm,ai2,aku]:=by rw[hw0];have:=Blk.new (w.alloc (.cells #[.string name,.int .i64 je,.string jm,aa0,ab7] 115)) 115 #[.string name,.int .i64 je,.string jm,ai2,aku];simpa using this
 have hB0:Below w.heap.size w w0:=by rw[hw0];exact((zqf _ _).alloc (zql _) _).alloc (by simp) _
 clear hw0
 refine(alf B [.int .i64 je,.string jm,aa0,ab7] [.int .i64 je,.string jm,ai2,aku] _ (by have:=hB0.size;omega) (Ty.close_ (ac7.out.below (hB0.mono hB)) (aef.out.below (hB0.mono hB))) (Ty.close_ (a6o.out.below (hB0.mono hB)) (bdo.out.below (hB0.mono hB)))).mono ?_
 rintro e w1 ⟨rfl,hb1⟩
 have hB1:=hB0.trans (hb1.mono hB0.size)
 replace bA:=bA.step hb1
 replace bB:=bB.step hb1
 go_wp2_with fail
 go_ret
 exact⟨rfl,hB1⟩
theorem bak (t:Param):EqC 87 (Param.pd t):=by obtain⟨name,⟨je,jm,ou,uj⟩⟩:=t;exact a6n (asy _)
set_option maxHeartbeats 1600000 in
theorem a4i {ts:List Param} (ih:∀ t ∈ ts,EqC 87 (Param.pd t)):EqR 51 (.row 5 (ts.flatMap Param.pd)):=by
 intro B v u w hB h h'
 obtain⟨A,n,c,rfl,hnl,hm,hat⟩:=ni Param.jd (by decide) h
 obtain⟨A',n',c',rfl,alb,_,hat'⟩:=ni Param.jd (by decide) h'
 have hnn:n'=n:=by omega
 subst hnn
 unfold maxLen at hm
 have HN:=zqd hnl
 have HI:=zqd ih
 clear ih
 clear h h' hnl alb
 go_enter Tryz.func51,Tryz.ntmps51
 go_wp2_with fail
 go_loopw [5] (fun i wr=>∃ k:Nat,k≤n'∧i=.int .i64 k∧Below w.heap.size w wr) (fun i _=>n' - (intOf i).toNat)
 case atStart=>exact⟨0,Nat.zero_le _,rfl,zqf _ _⟩
 case round=>
  obtain⟨k,hk,rfl,hbr⟩:=hrel
  by_cases hlt:k < n'
  ·obtain⟨g,off,rfl,hg,hcell⟩:=hat (by omega)
   obtain⟨g',off',rfl,hg',hcell'⟩:=hat' (by omega)
   obtain⟨t,hx,hmem⟩:=um HN.out hlt
   obtain⟨name,⟨je,jm,ou,uj⟩⟩:=t
   have c0:wr.cell? ⟨g,off+k * 5,none⟩=some (.string name):=bg hbr (by omega) (hcell k 0 _ _ hx (by rw[Param.aj];rfl))
   have c1:wr.cell? ⟨g,off+k * 5+1,none⟩=some (.int .i64 je):=bg hbr (by omega) (hcell k 1 _ _ hx (by rw[Param.aj];rfl))
   have c2:wr.cell? ⟨g,off+k * 5+2,none⟩=some (.string jm):=bg hbr (by omega) (hcell k 2 _ _ hx (by rw[Param.aj];rfl))
   obtain⟨aa0,c3,hr3⟩:∃ u,wr.cell? ⟨g,off+k * 5+3,none⟩=some u∧Rep wr B (.row 1 (ou.flatMap qj)) u:=jc hbr (by omega) hB (hcell k 3 _ _ hx (by rw[Param.aj];rfl))
   have HR3:=zqd hr3
   clear hr3
   obtain⟨ab7,c4,hr4⟩:∃ u,wr.cell? ⟨g,off+k * 5+4,none⟩=some u∧Rep wr B (.row 4 (uj.flatMap Ty.pd)) u:=jc hbr (by omega) hB (hcell k 4 _ _ hx (by rw[Param.aj];rfl))
   have HR4:=zqd hr4
   clear hr4
   have d0':wr.cell? ⟨g',off'+k * 5,none⟩=some (.string name):=bg hbr (by omega) (hcell' k 0 _ _ hx (by rw[Param.aj];rfl))
   have d1':wr.cell? ⟨g',off'+k * 5+1,none⟩=some (.int .i64 je):=bg hbr (by omega) (hcell' k 1 _ _ hx (by rw[Param.aj];rfl))
   have d2':wr.cell? ⟨g',off'+k * 5+2,none⟩=some (.string jm):=bg hbr (by omega) (hcell' k 2 _ _ hx (by rw[Param.aj];rfl))
   obtain⟨ai2,d3',au6⟩:∃ u,wr.cell? ⟨g',off'+k * 5+3,none⟩=some u∧Rep wr B (.row 1 (ou.flatMap qj)) u:=jc hbr (by omega) hB (hcell' k 3 _ _ hx (by rw[Param.aj];rfl))
   have a6l:=zqd au6
   clear au6
   obtain⟨aku,d4',au8⟩:∃ u,wr.cell? ⟨g',off'+k * 5+4,none⟩=some u∧Rep wr B (.row 4 (uj.flatMap Ty.pd)) u:=jc hbr (by omega) hB (hcell' k 4 _ _ hx (by rw[Param.aj];rfl))
   have a6p:=zqd au8
   clear au8
   have hlt':(k:Int) < (n':Int):=by omega
   have hgw:g < wr.heap.size:=by have:=hbr.size;omega
   have ain:g' < wr.heap.size:=by have:=hbr.size;omega
   have HM:=zqd hmem
   have HBW:=zqd (Nat.le_trans hB hbr.size)
   clear hx hcell hcell' hmem
   go_wp2_with fail
   have HC:=zqd (HI.out _ HM.out B [.string name,.int .i64 je,.string jm,aa0,ab7] [.string name,.int .i64 je,.string jm,ai2,aku] wr.drew HBW.out (Param.close_ HR3.out.drew HR4.out.drew) (Param.close_ a6l.out.drew a6p.out.drew))
   go_region_held3 (fun w'=>w'.cell? ⟨g,off+k * 5,none⟩=some (.string name)∧w'.cell? ⟨g,off+k * 5+1,none⟩=some (.int .i64 je)∧w'.cell? ⟨g,off+k * 5+2,none⟩=some (.string jm)∧w'.cell? ⟨g,off+k * 5+3,none⟩=some (aa0)∧w'.cell? ⟨g,off+k * 5+4,none⟩=some (ab7)∧w'.cell? ⟨g',off'+k * 5,none⟩=some (.string name)∧w'.cell? ⟨g',off'+k * 5+1,none⟩=some (.int .i64 je)∧w'.cell? ⟨g',off'+k * 5+2,none⟩=some (.string jm)∧w'.cell? ⟨g',off'+k * 5+3,none⟩=some (ai2)∧w'.cell? ⟨g',off'+k * 5+4,none⟩=some (aku))
    (first|go_keep|exact⟨(hbq.cell (p:=⟨g,off+k * 5,none⟩) hgw).trans c0,(hbq.cell (p:=⟨g,off+k * 5+1,none⟩) hgw).trans c1,(hbq.cell (p:=⟨g,off+k * 5+2,none⟩) hgw).trans c2,(hbq.cell (p:=⟨g,off+k * 5+3,none⟩) hgw).trans c3,(hbq.cell (p:=⟨g,off+k * 5+4,none⟩) hgw).trans c4,(hbq.cell (p:=⟨g',off'+k * 5,none⟩) ain).trans d0',(hbq.cell (p:=⟨g',off'+k * 5+1,none⟩) ain).trans d1',(hbq.cell (p:=⟨g',off'+k * 5+2,none⟩) ain).trans d2',(hbq.cell (p:=⟨g',off'+k * 5+3,none⟩) ain).trans d3',(hbq.cell (p:=⟨g',off'+k * 5+4,none⟩) ain).trans d4'⟩)
    (first|(go_at_call 87;refine HC.out.mono ?_;rintro e wq ⟨rfl,hbq⟩))
   have hbn:Below w.heap.size w wq:=hbr.drew.trans (hbq.mono hbr.size)
   clear hbq hbr c0 c1 c2 c3 c4 d0' d1' d2' d3' d4'
   go_wp2_with fail
   go_roundw
   case rel=>exact⟨k+1,by omega,by go_num,hbn⟩
   case measure=>simp[intOf];omega
  ·have hkn:k=n':=by omega
   subst hkn
   go_wp2_with fail
   go_ret
   exact⟨rfl,hbr⟩
theorem a6q (ts:List Param):EqR 51 (.row 5 (ts.flatMap Param.pd)):=a4i fun t _=>bak t
set_option maxHeartbeats 1600000 in
theorem az7 {params:List Param} {dh:Int} {dn:ByteArray} {ku:List ByteArray} {ny:List Ty} {async:Bool} (ao1:EqR 51 (.row 5 (params.flatMap Param.pd))) (ao2:EqC 52 (Ty.pd ⟨dh,dn,ku,ny⟩)):EqC 24 (jh.pd ⟨params,⟨dh,dn,ku,ny⟩,async⟩):=by
 intro B cs us w hB h h'
 obtain⟨aeh,pq,uf,rfl,aea,aao,aa2⟩:=jh.open_ h
 obtain⟨asz,ajh,ak5,rfl,a6r,aq4,auo⟩:=jh.open_ h'
 have ags:=zqd aea
 have bir:=zqd a6r
 clear aea a6r
 have acs:=zqd aao
 have az8:=zqd aq4
 clear aao aq4
 have ado:=zqd aa2
 have a4j:=zqd auo
 clear aa2 auo
 go_enter Tryz.func24,Tryz.ntmps24
 go_wp2_with fail
 obtain⟨w0,hw0⟩:∃ w0,w0=(w.alloc (.cells #[aeh,.int .i64 dh,.string dn,pq,uf,.bool async] 62)).alloc (.cells #[asz,.int .i64 dh,.string dn,ajh,ak5,.bool async] 62):=⟨_,rfl⟩
 rw[← hw0]
 have bA:Blk w0 w.heap.size 62 #[aeh,.int .i64 dh,.string dn,pq,uf,.bool async]:=by rw[hw0];exact(Blk.new w _ _).alloc _
 have bB:Blk w0 (w.heap.size+1) 62 #[asz,.int .i64 dh,.string dn,ajh,ak5,.bool async]:=by rw[hw0];have:=Blk.new (w.alloc (.cells #[aeh,.int .i64 dh,.string dn,pq,uf,.bool async] 62)) 62 #[asz,.int .i64 dh,.string dn,ajh,ak5,.bool async];simpa using this
 have hB0:Below w.heap.size w w0:=by rw[hw0];exact((zqf _ _).alloc (zql _) _).alloc (by simp) _
 clear hw0
 refine(ao1 B aeh asz _ (by have:=hB0.size;omega) (ags.out.below (hB0.mono hB)) (bir.out.below (hB0.mono hB))).mono ?_
 rintro e w1 ⟨rfl,hb1⟩
 have hB1:=hB0.trans (hb1.mono hB0.size)
 replace bA:=bA.step hb1
 replace bB:=bB.step hb1
 have abm:w1.cell? ⟨w.heap.size,1,none⟩=some (.int .i64 dh):=bA.cell 1
 have b2z:w1.cell? ⟨w.heap.size+1,1,none⟩=some (.int .i64 dh):=bB.cell 1
 have abn:w1.cell? ⟨w.heap.size,2,none⟩=some (.string dn):=bA.cell 2
 have b21:w1.cell? ⟨w.heap.size+1,2,none⟩=some (.string dn):=bB.cell 2
 have abg:w1.cell? ⟨w.heap.size,3,none⟩=some (pq):=bA.cell 3
 have buq:w1.cell? ⟨w.heap.size+1,3,none⟩=some (ajh):=bB.cell 3
 have a5w:w1.cell? ⟨w.heap.size,4,none⟩=some (uf):=bA.cell 4
 have bq0:w1.cell? ⟨w.heap.size+1,4,none⟩=some (ak5):=bB.cell 4
 go_wp2_with fail
 refine(ao2 B [.int .i64 dh,.string dn,pq,uf] [.int .i64 dh,.string dn,ajh,ak5] _ (by have:=hB1.size;omega) (Ty.close_ (acs.out.below (hB1.mono hB)) (ado.out.below (hB1.mono hB))) (Ty.close_ (az8.out.below (hB1.mono hB)) (a4j.out.below (hB1.mono hB)))).mono ?_
 rintro e w2 ⟨rfl,hb2⟩
 have hB2:=hB1.trans (hb2.mono hB1.size)
 replace bA:=bA.step hb2
 replace bB:=bB.step hb2
 have b23:w2.cell? ⟨w.heap.size,5,none⟩=some (.bool async):=bA.cell 5
 have b24:w2.cell? ⟨w.heap.size+1,5,none⟩=some (.bool async):=bB.cell 5
 go_wp2_with fail
 go_ret
 exact⟨rfl,hB2⟩
theorem a1s (t:jh):EqC 24 (jh.pd t):=by obtain⟨params,⟨dh,dn,ku,ny⟩,async⟩:=t;exact az7 (a6q params) (asy _)
set_option maxHeartbeats 1600000 in
theorem bam {name:ByteArray} {qm:List Param} {au:Int} {ay:ByteArray} {iy:List ByteArray} {jq:List Ty} {jl:Bool} (alf:EqC 24 (jh.pd ⟨qm,⟨au,ay,iy,jq⟩,jl⟩)):EqC 71 (Fun.pd ⟨name,⟨qm,⟨au,ay,iy,jq⟩,jl⟩⟩):=by
 intro B cs us w hB h h'
 obtain⟨aa1,su,xu,rfl,acr,zy,aar⟩:=Fun.open_ h
 obtain⟨ai3,afz,agt,rfl,au9,aoa,apw⟩:=Fun.open_ h'
 have afo:=zqd acr
 have a6s:=zqd au9
 clear acr au9
 have adp:=zqd zy
 have auv:=zqd aoa
 clear zy aoa
 have aed:=zqd aar
 have axi:=zqd apw
 clear aar apw
 go_enter Tryz.func71,Tryz.ntmps71
 go_wp2_with fail
 obtain⟨w0,hw0⟩:∃ w0,w0=(w.alloc (.cells #[.string name,aa1,.int .i64 au,.string ay,su,xu,.bool jl] 99)).alloc (.cells #[.string name,ai3,.int .i64 au,.string ay,afz,agt,.bool jl] 99):=⟨_,rfl⟩
 rw[← hw0]
 have bA:Blk w0 w.heap.size 99 #[.string name,aa1,.int .i64 au,.string ay,su,xu,.bool jl]:=by rw[hw0];exact(Blk.new w _ _).alloc _
 have bB:Blk w0 (w.heap.size+1) 99 #[.string name,ai3,.int .i64 au,.string ay,afz,agt,.bool jl]:=by rw[hw0];have:=Blk.new (w.alloc (.cells #[.string name,aa1,.int .i64 au,.string ay,su,xu,.bool jl] 99)) 99 #[.string name,ai3,.int .i64 au,.string ay,afz,agt,.bool jl];simpa using this
 have hB0:Below w.heap.size w w0:=by rw[hw0];exact((zqf _ _).alloc (zql _) _).alloc (by simp) _
 clear hw0
 refine(alf B [aa1,.int .i64 au,.string ay,su,xu,.bool jl] [ai3,.int .i64 au,.string ay,afz,agt,.bool jl] _ (by have:=hB0.size;omega) (jh.close_ (afo.out.below (hB0.mono hB)) (adp.out.below (hB0.mono hB)) (aed.out.below (hB0.mono hB))) (jh.close_ (a6s.out.below (hB0.mono hB)) (auv.out.below (hB0.mono hB)) (axi.out.below (hB0.mono hB)))).mono ?_
 rintro e w1 ⟨rfl,hb1⟩
 have hB1:=hB0.trans (hb1.mono hB0.size)
 replace bA:=bA.step hb1
 replace bB:=bB.step hb1
 go_wp2_with fail
 go_ret
 exact⟨rfl,hB1⟩
theorem bdp (t:Fun):EqC 71 (Fun.pd t):=by obtain⟨name,⟨qm,⟨au,ay,iy,jq⟩,jl⟩⟩:=t;exact bam (a1s _)
set_option maxHeartbeats 1600000 in
theorem a6t {ts:List Fun} (ih:∀ t ∈ ts,EqC 71 (Fun.pd t)):EqR 34 (.row 7 (ts.flatMap Fun.pd)):=by
 intro B v u w hB h h'
 obtain⟨A,n,c,rfl,hnl,hm,hat⟩:=ni Fun.jd (by decide) h
 obtain⟨A',n',c',rfl,alb,_,hat'⟩:=ni Fun.jd (by decide) h'
 have hnn:n'=n:=by omega
 subst hnn
 unfold maxLen at hm
 have HN:=zqd hnl
 have HI:=zqd ih
 clear ih
 clear h h' hnl alb
 go_enter Tryz.func34,Tryz.ntmps34
 go_wp2_with fail
 go_loopw [5] (fun i wr=>∃ k:Nat,k≤n'∧i=.int .i64 k∧Below w.heap.size w wr) (fun i _=>n' - (intOf i).toNat)
 case atStart=>exact⟨0,Nat.zero_le _,rfl,zqf _ _⟩
 case round=>
  obtain⟨k,hk,rfl,hbr⟩:=hrel
  by_cases hlt:k < n'
  ·obtain⟨g,off,rfl,hg,hcell⟩:=hat (by omega)
   obtain⟨g',off',rfl,hg',hcell'⟩:=hat' (by omega)
   obtain⟨t,hx,hmem⟩:=um HN.out hlt
   obtain⟨name,⟨qm,⟨au,ay,iy,jq⟩,jl⟩⟩:=t
   have c0:wr.cell? ⟨g,off+k * 7,none⟩=some (.string name):=bg hbr (by omega) (hcell k 0 _ _ hx (by rw[Fun.aj];rfl))
   obtain⟨aa1,c1,hr1⟩:∃ u,wr.cell? ⟨g,off+k * 7+1,none⟩=some u∧Rep wr B (.row 5 (qm.flatMap Param.pd)) u:=jc hbr (by omega) hB (hcell k 1 _ _ hx (by rw[Fun.aj];rfl))
   have HR1:=zqd hr1
   clear hr1
   have c2:wr.cell? ⟨g,off+k * 7+2,none⟩=some (.int .i64 au):=bg hbr (by omega) (hcell k 2 _ _ hx (by rw[Fun.aj];rfl))
   have c3:wr.cell? ⟨g,off+k * 7+3,none⟩=some (.string ay):=bg hbr (by omega) (hcell k 3 _ _ hx (by rw[Fun.aj];rfl))
   obtain⟨su,c4,hr4⟩:∃ u,wr.cell? ⟨g,off+k * 7+4,none⟩=some u∧Rep wr B (.row 1 (iy.flatMap qj)) u:=jc hbr (by omega) hB (hcell k 4 _ _ hx (by rw[Fun.aj];rfl))
   have HR4:=zqd hr4
   clear hr4
   obtain⟨xu,c5,hr5⟩:∃ u,wr.cell? ⟨g,off+k * 7+5,none⟩=some u∧Rep wr B (.row 4 (jq.flatMap Ty.pd)) u:=jc hbr (by omega) hB (hcell k 5 _ _ hx (by rw[Fun.aj];rfl))
   have HR5:=zqd hr5
   clear hr5
   have c6:wr.cell? ⟨g,off+k * 7+6,none⟩=some (.bool jl):=bg hbr (by omega) (hcell k 6 _ _ hx (by rw[Fun.aj];rfl))
   have d0':wr.cell? ⟨g',off'+k * 7,none⟩=some (.string name):=bg hbr (by omega) (hcell' k 0 _ _ hx (by rw[Fun.aj];rfl))
   obtain⟨ai3,d1',hr1'⟩:∃ u,wr.cell? ⟨g',off'+k * 7+1,none⟩=some u∧Rep wr B (.row 5 (qm.flatMap Param.pd)) u:=jc hbr (by omega) hB (hcell' k 1 _ _ hx (by rw[Fun.aj];rfl))
   have bur:=zqd hr1'
   clear hr1'
   have d2':wr.cell? ⟨g',off'+k * 7+2,none⟩=some (.int .i64 au):=bg hbr (by omega) (hcell' k 2 _ _ hx (by rw[Fun.aj];rfl))
   have d3':wr.cell? ⟨g',off'+k * 7+3,none⟩=some (.string ay):=bg hbr (by omega) (hcell' k 3 _ _ hx (by rw[Fun.aj];rfl))
   obtain⟨afz,d4',au8⟩:∃ u,wr.cell? ⟨g',off'+k * 7+4,none⟩=some u∧Rep wr B (.row 1 (iy.flatMap qj)) u:=jc hbr (by omega) hB (hcell' k 4 _ _ hx (by rw[Fun.aj];rfl))
   have a6p:=zqd au8
   clear au8
   obtain⟨agt,d5',bq1⟩:∃ u,wr.cell? ⟨g',off'+k * 7+5,none⟩=some u∧Rep wr B (.row 4 (jq.flatMap Ty.pd)) u:=jc hbr (by omega) hB (hcell' k 5 _ _ hx (by rw[Fun.aj];rfl))
   have bus:=zqd bq1
   clear bq1
   have d6':wr.cell? ⟨g',off'+k * 7+6,none⟩=some (.bool jl):=bg hbr (by omega) (hcell' k 6 _ _ hx (by rw[Fun.aj];rfl))
   have hlt':(k:Int) < (n':Int):=by omega
   have hgw:g < wr.heap.size:=by have:=hbr.size;omega
   have ain:g' < wr.heap.size:=by have:=hbr.size;omega
   have HM:=zqd hmem
   have HBW:=zqd (Nat.le_trans hB hbr.size)
   clear hx hcell hcell' hmem
   go_wp2_with fail
   have HC:=zqd (HI.out _ HM.out B [.string name,aa1,.int .i64 au,.string ay,su,xu,.bool jl] [.string name,ai3,.int .i64 au,.string ay,afz,agt,.bool jl] wr.drew HBW.out (Fun.close_ HR1.out.drew HR4.out.drew HR5.out.drew) (Fun.close_ bur.out.drew a6p.out.drew bus.out.drew))
   go_region_held3 (fun w'=>w'.cell? ⟨g,off+k * 7,none⟩=some (.string name)∧w'.cell? ⟨g,off+k * 7+1,none⟩=some (aa1)∧w'.cell? ⟨g,off+k * 7+2,none⟩=some (.int .i64 au)∧w'.cell? ⟨g,off+k * 7+3,none⟩=some (.string ay)∧w'.cell? ⟨g,off+k * 7+4,none⟩=some (su)∧w'.cell? ⟨g,off+k * 7+5,none⟩=some (xu)∧w'.cell? ⟨g,off+k * 7+6,none⟩=some (.bool jl)∧w'.cell? ⟨g',off'+k * 7,none⟩=some (.string name)∧w'.cell? ⟨g',off'+k * 7+1,none⟩=some (ai3)∧w'.cell? ⟨g',off'+k * 7+2,none⟩=some (.int .i64 au)∧w'.cell? ⟨g',off'+k * 7+3,none⟩=some (.string ay)∧w'.cell? ⟨g',off'+k * 7+4,none⟩=some (afz)∧w'.cell? ⟨g',off'+k * 7+5,none⟩=some (agt)∧w'.cell? ⟨g',off'+k * 7+6,none⟩=some (.bool jl))
    (first|go_keep|exact⟨(hbq.cell (p:=⟨g,off+k * 7,none⟩) hgw).trans c0,(hbq.cell (p:=⟨g,off+k * 7+1,none⟩) hgw).trans c1,(hbq.cell (p:=⟨g,off+k * 7+2,none⟩) hgw).trans c2,(hbq.cell (p:=⟨g,off+k * 7+3,none⟩) hgw).trans c3,(hbq.cell (p:=⟨g,off+k * 7+4,none⟩) hgw).trans c4,(hbq.cell (p:=⟨g,off+k * 7+5,none⟩) hgw).trans c5,(hbq.cell (p:=⟨g,off+k * 7+6,none⟩) hgw).trans c6,(hbq.cell (p:=⟨g',off'+k * 7,none⟩) ain).trans d0',(hbq.cell (p:=⟨g',off'+k * 7+1,none⟩) ain).trans d1',(hbq.cell (p:=⟨g',off'+k * 7+2,none⟩) ain).trans d2',(hbq.cell (p:=⟨g',off'+k * 7+3,none⟩) ain).trans d3',(hbq.cell (p:=⟨g',off'+k * 7+4,none⟩) ain).trans d4',(hbq.cell (p:=⟨g',off'+k * 7+5,none⟩) ain).trans d5',(hbq.cell (p:=⟨g',off'+k * 7+6,none⟩) ain).trans d6'⟩)
    (first|(go_at_call 71;refine HC.out.mono ?_;rintro e wq ⟨rfl,hbq⟩))
   have hbn:Below w.heap.size w wq:=hbr.drew.trans (hbq.mono hbr.size)
   clear hbq hbr c0 c1 c2 c3 c4 c5 c6 d0' d1' d2' d3' d4' d5' d6'
   go_wp2_with fail
   go_roundw
   case rel=>exact⟨k+1,by omega,by go_num,hbn⟩
   case measure=>simp[intOf];omega
  ·have hkn:k=n':=by omega
   subst hkn
   go_wp2_with fail
   go_ret
   exact⟨rfl,hbr⟩
theorem bao (ts:List Fun):EqR 34 (.row 7 (ts.flatMap Fun.pd)):=a6t fun t _=>bdp t
set_option maxHeartbeats 1600000 in
theorem bap {package:ByteArray} {name:ByteArray} {version:ByteArray} {resources:List ByteArray} {funcs:List Fun} (alg:EqR 33 (.row 1 (resources.flatMap qj))) (aqd:EqR 34 (.row 7 (funcs.flatMap Fun.pd))):EqC 11 (cu.pd ⟨package,name,version,resources,funcs⟩):=by
 intro B cs us w hB h h'
 obtain⟨aai,adq,rfl,abl,aei⟩:=cu.open_ h
 obtain⟨ajq,am8,rfl,axw,bbw⟩:=cu.open_ h'
 have ad4:=zqd abl
 have bat:=zqd axw
 clear abl axw
 have agn:=zqd aei
 have bmz:=zqd bbw
 clear aei bbw
 go_enter Tryz.func11,Tryz.ntmps11
 go_wp2_with fail
 obtain⟨w0,hw0⟩:∃ w0,w0=(w.alloc (.cells #[.string package,.string name,.string version,aai,adq] 30)).alloc (.cells #[.string package,.string name,.string version,ajq,am8] 30):=⟨_,rfl⟩
 rw[← hw0]
 have bA:Blk w0 w.heap.size 30 #[.string package,.string name,.string version,aai,adq]:=by rw[hw0];exact(Blk.new w _ _).alloc _
 have bB:Blk w0 (w.heap.size+1) 30 #[.string package,.string name,.string version,ajq,am8]:=by rw[hw0];have:=Blk.new (w.alloc (.cells #[.string package,.string name,.string version,aai,adq] 30)) 30 #[.string package,.string name,.string version,ajq,am8];simpa using this
 have hB0:Below w.heap.size w w0:=by rw[hw0];exact((zqf _ _).alloc (zql _) _).alloc (by simp) _
 clear hw0
 refine(alg B aai ajq _ (by have:=hB0.size;omega) (ad4.out.below (hB0.mono hB)) (bat.out.below (hB0.mono hB))).mono ?_
 rintro e w1 ⟨rfl,hb1⟩
 have hB1:=hB0.trans (hb1.mono hB0.size)
 replace bA:=bA.step hb1
 replace bB:=bB.step hb1
 have a5w:w1.cell? ⟨w.heap.size,4,none⟩=some (adq):=bA.cell 4
 have bq0:w1.cell? ⟨w.heap.size+1,4,none⟩=some (am8):=bB.cell 4
 go_wp2_with fail
 refine(aqd B adq am8 _ (by have:=hB1.size;omega) (agn.out.below (hB1.mono hB)) (bmz.out.below (hB1.mono hB))).mono ?_
 rintro e w2 ⟨rfl,hb2⟩
 have hB2:=hB1.trans (hb2.mono hB1.size)
 replace bA:=bA.step hb2
 replace bB:=bB.step hb2
 go_wp2_with fail
 go_ret
 exact⟨rfl,hB2⟩
theorem bdq (t:cu):EqC 11 (cu.pd t):=by obtain⟨package,name,version,resources,funcs⟩:=t;exact bap ar2 (bao funcs)
set_option maxHeartbeats 1600000 in
theorem a6u {ts:List cu} (ih:∀ t ∈ ts,EqC 11 (cu.pd t)):EqR 42 (.row 5 (ts.flatMap cu.pd)):=by
 intro B v u w hB h h'
 obtain⟨A,n,c,rfl,hnl,hm,hat⟩:=ni cu.jd (by decide) h
 obtain⟨A',n',c',rfl,alb,_,hat'⟩:=ni cu.jd (by decide) h'
 have hnn:n'=n:=by omega
 subst hnn
 unfold maxLen at hm
 have HN:=zqd hnl
 have HI:=zqd ih
 clear ih
 clear h h' hnl alb
 go_enter Tryz.func42,Tryz.ntmps42
 go_wp2_with fail
 go_loopw [5] (fun i wr=>∃ k:Nat,k≤n'∧i=.int .i64 k∧Below w.heap.size w wr) (fun i _=>n' - (intOf i).toNat)
 case atStart=>exact⟨0,Nat.zero_le _,rfl,zqf _ _⟩
 case round=>
  obtain⟨k,hk,rfl,hbr⟩:=hrel
  by_cases hlt:k < n'
  ·obtain⟨g,off,rfl,hg,hcell⟩:=hat (by omega)
   obtain⟨g',off',rfl,hg',hcell'⟩:=hat' (by omega)
   obtain⟨t,hx,hmem⟩:=um HN.out hlt
   obtain⟨package,name,version,resources,funcs⟩:=t
   have c0:wr.cell? ⟨g,off+k * 5,none⟩=some (.string package):=bg hbr (by omega) (hcell k 0 _ _ hx (by rw[cu.aj];rfl))
   have c1:wr.cell? ⟨g,off+k * 5+1,none⟩=some (.string name):=bg hbr (by omega) (hcell k 1 _ _ hx (by rw[cu.aj];rfl))
   have c2:wr.cell? ⟨g,off+k * 5+2,none⟩=some (.string version):=bg hbr (by omega) (hcell k 2 _ _ hx (by rw[cu.aj];rfl))
   obtain⟨aai,c3,hr3⟩:∃ u,wr.cell? ⟨g,off+k * 5+3,none⟩=some u∧Rep wr B (.row 1 (resources.flatMap qj)) u:=jc hbr (by omega) hB (hcell k 3 _ _ hx (by rw[cu.aj];rfl))
   have HR3:=zqd hr3
   clear hr3
   obtain⟨adq,c4,hr4⟩:∃ u,wr.cell? ⟨g,off+k * 5+4,none⟩=some u∧Rep wr B (.row 7 (funcs.flatMap Fun.pd)) u:=jc hbr (by omega) hB (hcell k 4 _ _ hx (by rw[cu.aj];rfl))
   have HR4:=zqd hr4
   clear hr4
   have d0':wr.cell? ⟨g',off'+k * 5,none⟩=some (.string package):=bg hbr (by omega) (hcell' k 0 _ _ hx (by rw[cu.aj];rfl))
   have d1':wr.cell? ⟨g',off'+k * 5+1,none⟩=some (.string name):=bg hbr (by omega) (hcell' k 1 _ _ hx (by rw[cu.aj];rfl))
   have d2':wr.cell? ⟨g',off'+k * 5+2,none⟩=some (.string version):=bg hbr (by omega) (hcell' k 2 _ _ hx (by rw[cu.aj];rfl))
   obtain⟨ajq,d3',au6⟩:∃ u,wr.cell? ⟨g',off'+k * 5+3,none⟩=some u∧Rep wr B (.row 1 (resources.flatMap qj)) u:=jc hbr (by omega) hB (hcell' k 3 _ _ hx (by rw[cu.aj];rfl))
   have a6l:=zqd au6
   clear au6
   obtain⟨am8,d4',au8⟩:∃ u,wr.cell? ⟨g',off'+k * 5+4,none⟩=some u∧Rep wr B (.row 7 (funcs.flatMap Fun.pd)) u:=jc hbr (by omega) hB (hcell' k 4 _ _ hx (by rw[cu.aj];rfl))
   have a6p:=zqd au8
   clear au8
   have hlt':(k:Int) < (n':Int):=by omega
   have hgw:g < wr.heap.size:=by have:=hbr.size;omega
   have ain:g' < wr.heap.size:=by have:=hbr.size;omega
   have HM:=zqd hmem
   have HBW:=zqd (Nat.le_trans hB hbr.size)
   clear hx hcell hcell' hmem
   go_wp2_with fail
   have HC:=zqd (HI.out _ HM.out B [.string package,.string name,.string version,aai,adq] [.string package,.string name,.string version,ajq,am8] wr.drew HBW.out (cu.close_ HR3.out.drew HR4.out.drew) (cu.close_ a6l.out.drew a6p.out.drew))
   go_region_held3 (fun w'=>w'.cell? ⟨g,off+k * 5,none⟩=some (.string package)∧w'.cell? ⟨g,off+k * 5+1,none⟩=some (.string name)∧w'.cell? ⟨g,off+k * 5+2,none⟩=some (.string version)∧w'.cell? ⟨g,off+k * 5+3,none⟩=some (aai)∧w'.cell? ⟨g,off+k * 5+4,none⟩=some (adq)∧w'.cell? ⟨g',off'+k * 5,none⟩=some (.string package)∧w'.cell? ⟨g',off'+k * 5+1,none⟩=some (.string name)∧w'.cell? ⟨g',off'+k * 5+2,none⟩=some (.string version)∧w'.cell? ⟨g',off'+k * 5+3,none⟩=some (ajq)∧w'.cell? ⟨g',off'+k * 5+4,none⟩=some (am8))
    (first|go_keep|exact⟨(hbq.cell (p:=⟨g,off+k * 5,none⟩) hgw).trans c0,(hbq.cell (p:=⟨g,off+k * 5+1,none⟩) hgw).trans c1,(hbq.cell (p:=⟨g,off+k * 5+2,none⟩) hgw).trans c2,(hbq.cell (p:=⟨g,off+k * 5+3,none⟩) hgw).trans c3,(hbq.cell (p:=⟨g,off+k * 5+4,none⟩) hgw).trans c4,(hbq.cell (p:=⟨g',off'+k * 5,none⟩) ain).trans d0',(hbq.cell (p:=⟨g',off'+k * 5+1,none⟩) ain).trans d1',(hbq.cell (p:=⟨g',off'+k * 5+2,none⟩) ain).trans d2',(hbq.cell (p:=⟨g',off'+k * 5+3,none⟩) ain).trans d3',(hbq.cell (p:=⟨g',off'+k * 5+4,none⟩) ain).trans d4'⟩)
    (first|(go_at_call 11;refine HC.out.mono ?_;rintro e wq ⟨rfl,hbq⟩))
   have hbn:Below w.heap.size w wq:=hbr.drew.trans (hbq.mono hbr.size)
   clear hbq hbr c0 c1 c2 c3 c4 d0' d1' d2' d3' d4'
   go_wp2_with fail
   go_roundw
   case rel=>exact⟨k+1,by omega,by go_num,hbn⟩
   case measure=>simp[intOf];omega
  ·have hkn:k=n':=by omega
   subst hkn
   go_wp2_with fail
   go_ret
   exact⟨rfl,hbr⟩
theorem axx (ts:List cu):EqR 42 (.row 5 (ts.flatMap cu.pd)):=a6u fun t _=>bdq t
set_option maxHeartbeats 1600000 in
theorem a6v {package:ByteArray} {name:ByteArray} {version:ByteArray} {imports:List cu} {exports:List cu} (anr:EqR 42 (.row 5 (imports.flatMap cu.pd))) (ant:EqR 42 (.row 5 (exports.flatMap cu.pd))):EqC 19 (Wld.pd ⟨package,name,version,imports,exports⟩):=by
 intro B cs us w hB h h'
 obtain⟨aag,zl,rfl,aho,ahp⟩:=Wld.open_ h
 obtain⟨aq5,ao9,rfl,a3g,a3h⟩:=Wld.open_ h'
 have ao6:=zqd aho
 have bf3:=zqd a3g
 clear aho a3g
 have ao7:=zqd ahp
 have bf4:=zqd a3h
 clear ahp a3h
 go_enter Tryz.func19,Tryz.ntmps19
 go_wp2_with fail
 obtain⟨w0,hw0⟩:∃ w0,w0=(w.alloc (.cells #[.string package,.string name,.string version,aag,zl] 45)).alloc (.cells #[.string package,.string name,.string version,aq5,ao9] 45):=⟨_,rfl⟩
 rw[← hw0]
 have bA:Blk w0 w.heap.size 45 #[.string package,.string name,.string version,aag,zl]:=by rw[hw0];exact(Blk.new w _ _).alloc _
 have bB:Blk w0 (w.heap.size+1) 45 #[.string package,.string name,.string version,aq5,ao9]:=by rw[hw0];have:=Blk.new (w.alloc (.cells #[.string package,.string name,.string version,aag,zl] 45)) 45 #[.string package,.string name,.string version,aq5,ao9];simpa using this
 have hB0:Below w.heap.size w w0:=by rw[hw0];exact((zqf _ _).alloc (zql _) _).alloc (by simp) _
 clear hw0
 refine(anr B aag aq5 _ (by have:=hB0.size;omega) (ao6.out.below (hB0.mono hB)) (bf3.out.below (hB0.mono hB))).mono ?_
 rintro e w1 ⟨rfl,hb1⟩
 have hB1:=hB0.trans (hb1.mono hB0.size)
 replace bA:=bA.step hb1
 replace bB:=bB.step hb1
 have a5w:w1.cell? ⟨w.heap.size,4,none⟩=some (zl):=bA.cell 4
 have bq0:w1.cell? ⟨w.heap.size+1,4,none⟩=some (ao9):=bB.cell 4
 go_wp2_with fail
 refine(ant B zl ao9 _ (by have:=hB1.size;omega) (ao7.out.below (hB1.mono hB)) (bf4.out.below (hB1.mono hB))).mono ?_
 rintro e w2 ⟨rfl,hb2⟩
 have hB2:=hB1.trans (hb2.mono hB1.size)
 replace bA:=bA.step hb2
 replace bB:=bB.step hb2
 go_wp2_with fail
 go_ret
 exact⟨rfl,hB2⟩
theorem axy (t:Wld):EqC 19 (Wld.pd t):=by obtain⟨package,name,version,imports,exports⟩:=t;exact a6v (axx imports) (axx exports)
set_option maxHeartbeats 1600000 in
theorem a4k {kind:Int} {at_:ByteArray}:EqC 14 (Reason.pd ⟨kind,at_⟩):=by
 intro B cs us w hB h h'
 obtain rfl:=Reason.open_ h
 obtain rfl:=Reason.open_ h'
 go_enter Tryz.func14,Tryz.ntmps14
 go_wp2_with fail
 go_ret
 exact⟨rfl,((zqf _ _).alloc (zql _) _).alloc (by simp) _⟩
theorem a6w (t:Reason):EqC 14 (Reason.pd t):=by obtain⟨kind,at_⟩:=t;exact a4k
end Go.Proofs.YtbafphecjijdmaaGreatDoor
