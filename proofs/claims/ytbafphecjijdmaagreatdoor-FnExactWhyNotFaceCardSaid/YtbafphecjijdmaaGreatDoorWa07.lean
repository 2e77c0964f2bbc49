/-
  The laws' own helpers 'to..' over the program's types (by program: tygen2.py, tyfam.py).
-/
import Derived.Test.YtbafphecjijdmaaGreatDoorWa04
import Derived.Test.YtbafphecjijdmaaGreatDoorWa05
namespace Go.Proofs.YtbafphecjijdmaaGreatDoor
open Go.RowKit
set_option linter.unusedVariables false
set_option linter.unusedSimpArgs false
set_option linter.unnecessarySimpa false
set_option maxRecDepth 100000
theorem ax4:(Tryz.prog.info? 9).map (fun i=>(i.zero,i.size,i.bytes))=some (some (.string {data:=#[]}),1,16):=by kernel_rfl
set_option maxHeartbeats 1600000 in
theorem ap7 {ts:List ByteArray}:ToR 29 (.row 1 (ts.flatMap tu)):=by
 intro B v w hB hsz h
 rw[aic aat (by decide)] at hsz
 obtain⟨A,n,c,rfl,hnl,hm,hat⟩:=ny aat (by decide) h
 obtain⟨i0,hi,hz0,hz1,hz2⟩:=info_parts ax4
 have hmk:=fun W=>alm (P:=Tryz.prog) 22 9 i0 _ Tryz.underlying22 hi hz0 .i64 .i64 n n (Nat.le_refl _) (by rw[hz2];omega) (by omega) W
 rw[hz1,Nat.mul_one] at hmk
 have hnn:n≤1048576:=by omega
 have HN:=Lib.hid hnl
 clear h hnl hz0 hz1 hz2 hi hm hsz
 go_enter Tryz.func29,Tryz.ntmps29
 go_wp2
 clear hmk
 obtain⟨W1,hW1⟩:∃ W1,W1=w.alloc (.cells (madeCells #[.string {data:=#[]}] (n)) 9):=⟨_,rfl⟩
 rw[← hW1]
 have hF:Fills w W1 w.heap.size n 1 ((ts.take 0).flatMap tu) 0:=by
  rw[hW1]
  exact Fills.start (cs:=(madeCells #[.string {data:=#[]}] (n)).toList) (aes.new w _ _) (by simp[size_madeCells]) ((Below.refl _ _).alloc (Nat.le_refl _) _) (by simp)
 clear hW1
 go_loopw [4] (fun i wr=>∃ k:Nat,k≤n∧i=.int .i64 k∧Fills w wr w.heap.size n 1 ((ts.take k).flatMap tu) k) (fun i _=>n - (intOf i).toNat)
 case atStart=>exact⟨0,Nat.zero_le _,rfl,hF⟩
 case round=>
  obtain⟨k,hk,rfl,hf⟩:=hrel
  clear hF
  by_cases hlt:k < n
  ·obtain⟨g,off,rfl,hg,hcell⟩:=hat (by omega)
   obtain⟨t,hx,hmem⟩:=xg HN.out hlt
   obtain⟨hbr,hg0⟩:=hf.under
   have c0:wr.cell? ⟨g,off+k,none⟩=some (.string t):=gq hbr (by omega) (by have:=hcell k 0 _ _ hx rfl;simpa using this)
   have HX:=Lib.hid hx
   clear hx hcell
   obtain⟨⟨u0,d0⟩,f0⟩:=hf.cell (Below.refl _ _) hlt 0 (by decide)
   rw[Nat.add_zero,Nat.mul_one] at d0 f0
   have hnx:=hf.next (Below.refl _ _) (es:=tu t) (uj.cons (Hold.a0t wr (.string t)) (uj.nil wr)) (In.nil _ _) (rfl) hlt
   rw[Nat.mul_one] at hnx
   have HF:=Lib.hid hnx
   clear hnx hf
   go_wp2_with fail
   go_roundw
   case rel=>exact⟨k+1,by omega,by go_num,by rw[List.take_add_one,HX.out,List.flatMap_append,ais];exact HF.out⟩
   case measure=>simp[intOf];omega
  ·have hkn:k=n:=by omega
   subst hkn
   have hfin:Lv wr w.heap.size wr.heap.size (.row 1 (ts.flatMap tu)) (.slice (some ⟨w.heap.size,0,none⟩) k k):=by
    rw[List.take_of_length_le (by have:=HN.out;omega)] at hf
    exact hf.done (by rw[afz aat];rw[HN.out]) (Nat.le_refl _) (by simp only[maxLen];omega)
   have hbr:=hf.under.1
   clear hf
   go_wp2_with fail
   go_ret
   exact⟨_,rfl,hfin,hbr⟩
theorem asw:(Tryz.prog.info? 60).map (fun i=>(i.zero,i.size,i.bytes))=some (some (.agg #[.int .i64 0,.string {data:=#[]},.slice none 0 0,.slice none 0 0]),4,72):=by kernel_rfl
set_option maxHeartbeats 1600000 in
theorem a05 {ts:List Ty} (ih:∀ t ∈ ts,ToC 48 (Ty.pd t)):ToR 82 (.row 4 (ts.flatMap Ty.pd)):=by
 intro B v w hB hsz h
 rw[aic Ty.jw (by decide)] at hsz
 obtain⟨A,n,c,rfl,hnl,hm,hat⟩:=ny Ty.jw (by decide) h
 obtain⟨i0,hi,hz0,hz1,hz2⟩:=info_parts asw
 have hmk:=fun W=>alm (P:=Tryz.prog) 58 60 i0 _ Tryz.underlying58 hi hz0 .i64 .i64 n n (Nat.le_refl _) (by rw[hz2];omega) (by omega) W
 rw[hz1] at hmk
 have hnn:n≤1048576:=by omega
 have HN:=Lib.hid hnl
 have HS:=Lib.hid hsz
 have HI:=Lib.hid ih
 clear ih
 clear h hnl hz0 hz1 hz2 hi hm hsz
 go_enter Tryz.func82,Tryz.ntmps82
 go_wp2
 clear hmk
 obtain⟨W1,hW1⟩:∃ W1,W1=w.alloc (.cells (madeCells #[.int .i64 0,.string {data:=#[]},.slice none 0 0,.slice none 0 0] (n * 4)) 60):=⟨_,rfl⟩
 rw[← hW1]
 have hF:Fills w W1 w.heap.size n 4 ((ts.take 0).flatMap Ty.pd) 0:=by
  rw[hW1]
  exact Fills.start (cs:=(madeCells #[.int .i64 0,.string {data:=#[]},.slice none 0 0,.slice none 0 0] (n * 4)).toList) (aes.new w _ _) (by simp[size_madeCells]) ((Below.refl _ _).alloc (Nat.le_refl _) _) (by simp)
 clear hW1
 go_loopw [4] (fun i wr=>∃ k:Nat,k≤n∧i=.int .i64 k∧Fills w wr w.heap.size n 4 ((ts.take k).flatMap Ty.pd) k) (fun i _=>n - (intOf i).toNat)
 case atStart=>exact⟨0,Nat.zero_le _,rfl,hF⟩
 case round=>
  obtain⟨k,hk,rfl,hf⟩:=hrel
  clear hF
  by_cases hlt:k < n
  ·obtain⟨g,off,rfl,hg,hcell⟩:=hat (by omega)
   obtain⟨t,hx,hmem⟩:=xg HN.out hlt
   obtain⟨hbr,hg0⟩:=hf.under
   have hle:=ahr (f:=Ty.pd) hx
   obtain⟨kind,name,labels,kids⟩:=t
   have c0:wr.cell? ⟨g,off+k * 4,none⟩=some (.int .i64 kind):=gq hbr (by omega) (hcell k 0 _ _ hx (by rw[Ty.ay];rfl))
   have c1:wr.cell? ⟨g,off+k * 4+1,none⟩=some (.string name):=gq hbr (by omega) (hcell k 1 _ _ hx (by rw[Ty.ay];rfl))
   obtain⟨iq,c2,hr2⟩:∃ u,wr.cell? ⟨g,off+k * 4+2,none⟩=some u∧Rep wr B (.row 1 (labels.flatMap tu)) u:=ku hbr (by omega) hB (hcell k 2 _ _ hx (by rw[Ty.ay];rfl))
   have HR2:=Lib.hid hr2
   clear hr2
   obtain⟨qp,c3,hr3⟩:∃ u,wr.cell? ⟨g,off+k * 4+3,none⟩=some u∧Rep wr B (.row 4 (kids.flatMap Ty.pd)) u:=ku hbr (by omega) hB (hcell k 3 _ _ hx (by rw[Ty.ay];rfl))
   have HR3:=Lib.hid hr3
   clear hr3
   have HX:=Lib.hid hx
   have HL:=Lib.hid hle
   have HM:=Lib.hid hmem
   clear hx hcell hle hmem
   go_wp2_with fail
   refine(HI.out _ HM.out B [.int .i64 kind,.string name,iq,qp] _ (by omega) (by have:=HS.out;have:=HL.out;omega) (Ty.close_ HR2.out HR3.out)).mono ?_
   rintro e wq ⟨us,rfl,hl,hbq⟩
   obtain⟨jk,gy,je,qc,gu,lu,rfl⟩:=Ty.afp hl
   have hlen:=hl.len
   obtain⟨F2,hh,hi2,_⟩:=hl
   obtain⟨⟨u0,d0⟩,f0⟩:=hf.cell hbq hlt 0 (by decide)
   rw[Nat.add_zero] at d0 f0
   obtain⟨⟨u1,d1⟩,f1⟩:=hf.cell hbq hlt 1 (by decide)
   obtain⟨⟨u2,d2⟩,f2⟩:=hf.cell hbq hlt 2 (by decide)
   obtain⟨⟨u3,d3⟩,f3⟩:=hf.cell hbq hlt 3 (by decide)
   have hnx:=hf.next hbq (es:=Ty.pd ⟨kind,name,labels,kids⟩) hh hi2 (hlen.trans (Ty.jw _)) hlt
   have HF:=Lib.hid hnx
   clear hnx hf hh hi2 hlen
   go_wp2_with fail
   go_roundw
   case rel=>exact⟨k+1,by omega,by go_num,by rw[List.take_add_one,HX.out,List.flatMap_append,ais];exact HF.out⟩
   case measure=>simp[intOf];omega
  ·have hkn:k=n:=by omega
   subst hkn
   have hfin:Lv wr w.heap.size wr.heap.size (.row 4 (ts.flatMap Ty.pd)) (.slice (some ⟨w.heap.size,0,none⟩) k k):=by
    rw[List.take_of_length_le (by have:=HN.out;omega)] at hf
    exact hf.done (by rw[afz Ty.jw];rw[HN.out]) (Nat.le_refl _) (by simp only[maxLen];omega)
   have hbr:=hf.under.1
   clear hf
   go_wp2_with fail
   go_ret
   exact⟨_,rfl,hfin,hbr⟩
set_option maxHeartbeats 1600000 in
theorem a4f {kind:Int} {name:ByteArray} {labels:List ByteArray} {kids:List Ty} (anq:ToR 29 (.row 1 (labels.flatMap tu))) (ap2:ToR 82 (.row 4 (kids.flatMap Ty.pd))):ToC 48 (Ty.pd ⟨kind,name,labels,kids⟩):=by
 intro B cs w hB hsz h
 obtain⟨iq,qp,rfl,bf,eu⟩:=Ty.open_ h
 have pq:=Lib.hid bf
 clear bf
 have qm:=Lib.hid eu
 clear eu
 simp only[Ty.ay,PD.szL] at hsz
 have HS:=Lib.hid hsz
 clear hsz
 go_enter Tryz.func48,Tryz.ntmps48
 go_wp2_with fail
 obtain⟨w0,hw0⟩:∃ w0,w0=((w.alloc (.cells #[.int .i64 kind,.string name,iq,qp] 52)).alloc (.cells #[.int .i64 0,.string {data:=#[]},.slice none 0 0,.slice none 0 0] 60)).alloc (.cells #[.int .i64 kind,.string name,.slice none 0 0,.slice none 0 0] 60):=⟨_,rfl⟩
 rw[← hw0]
 have bP:Blk w0 w.heap.size 52 #[.int .i64 kind,.string name,iq,qp]:=by rw[hw0];exact((Blk.new w _ _).alloc _).alloc _
 have bR:Blk w0 (w.heap.size+1) 60 #[.int .i64 0,.string {data:=#[]},.slice none 0 0,.slice none 0 0]:=by rw[hw0];have:=(Blk.new (w.alloc (.cells #[.int .i64 kind,.string name,iq,qp] 52)) 60 #[.int .i64 0,.string {data:=#[]},.slice none 0 0,.slice none 0 0]).alloc (.cells #[.int .i64 kind,.string name,.slice none 0 0,.slice none 0 0] 60);simpa using this
 have bO:Blk w0 (w.heap.size+1+1) 60 #[.int .i64 kind,.string name,.slice none 0 0,.slice none 0 0]:=by rw[hw0];have:=Blk.new ((w.alloc (.cells #[.int .i64 kind,.string name,iq,qp] 52)).alloc (.cells #[.int .i64 0,.string {data:=#[]},.slice none 0 0,.slice none 0 0] 60)) 60 #[.int .i64 kind,.string name,.slice none 0 0,.slice none 0 0];simpa using this
 have hB0:Below w.heap.size w w0:=by rw[hw0];exact(((Below.refl _ _).alloc (Nat.le_refl _) _).alloc (by simp) _).alloc (by simp;omega) _
 have hs0:w.heap.size+3≤w0.heap.size:=by rw[hw0];simp
 clear hw0
 refine(anq B iq _ (by have:=hB0.size;omega) (by have:=HS.out;omega) (pq.out.below (hB0.mono hB))).mono ?_
 rintro e w1 ⟨bn0,rfl,alq,hb1⟩
 obtain⟨jk,gy,je,rfl⟩:=alq.form
 have hB1:=hB0.trans (hb1.mono hB0.size)
 have hs1:=hb1.size
 replace bP:=bP.step hb1
 replace bR:=bR.step hb1
 replace bO:=bO.step hb1
 have a7f:=bO.frozen 2
 have a7g:w1.cell? ⟨w.heap.size+1+1,2,none⟩=some (.slice none 0 0):=bO.cell 2
 have a7h:w1.cell? ⟨w.heap.size,3,none⟩=some (qp):=bP.cell 3
 go_wp2_with fail
 clear a7f a7g a7h
 obtain⟨w2,hw2⟩:∃ W,W=(w1.setCell ⟨w.heap.size+1+1,2,none⟩ (.slice jk gy je)):=⟨_,rfl⟩
 rw[← hw2]
 replace bP:Blk w2 w.heap.size 52 #[.int .i64 kind,.string name,iq,qp]:=by rw[hw2];exact(bP.far (by simp;try omega) _)
 replace bR:Blk w2 (w.heap.size+1) 60 #[.int .i64 0,.string {data:=#[]},.slice none 0 0,.slice none 0 0]:=by rw[hw2];exact(bR.far (by simp;try omega) _)
 replace bO:Blk w2 (w.heap.size+1+1) 60 #[.int .i64 kind,.string name,.slice jk gy je,.slice none 0 0]:=by rw[hw2];have:=(bO.abf 2 (.slice jk gy je));simpa using this
 have hB2:Below w.heap.size w w2:=by rw[hw2];exact(hB1.setCell (by simp;try omega) _)
 have hs2:w1.heap.size≤w2.heap.size:=by rw[hw2];simp[World.setCell]
 replace alq:=(alq.setCell (p:=⟨w.heap.size+1+1,2,none⟩) (.inl (by simp;omega)) (.slice jk gy je))
 rw[← hw2] at alq
 clear hw2
 refine(ap2 B qp _ (by have:=hB2.size;omega) (by have:=HS.out;omega) (qm.out.below (hB2.mono hB))).mono ?_
 rintro e w3 ⟨btu,rfl,a9x,hb3⟩
 obtain⟨qc,gu,lu,rfl⟩:=a9x.form
 have hB3:=hB2.trans (hb3.mono hB2.size)
 have hs3:=hb3.size
 replace bP:=bP.step hb3
 replace bR:=bR.step hb3
 replace bO:=bO.step hb3
 replace alq:=alq.step hb3
 have bmi:=bO.frozen 3
 have bgb:w3.cell? ⟨w.heap.size+1+1,3,none⟩=some (.slice none 0 0):=bO.cell 3
 have fR0:=bR.frozen 0
 have cR0:w3.cell? ⟨w.heap.size+1,0,none⟩=some (.int .i64 0):=bR.cell 0
 have fR1:=bR.frozen 1
 have cR1:w3.cell? ⟨w.heap.size+1,1,none⟩=some (.string {data:=#[]}):=bR.cell 1
 have fR2:=bR.frozen 2
 have cR2:w3.cell? ⟨w.heap.size+1,2,none⟩=some (.slice none 0 0):=bR.cell 2
 have fR3:=bR.frozen 3
 have cR3:w3.cell? ⟨w.heap.size+1,3,none⟩=some (.slice none 0 0):=bR.cell 3
 have bgc:w3.cell? ⟨w.heap.size+1+1,0,none⟩=some (.int .i64 kind):=bO.cell 0
 have bgd:w3.cell? ⟨w.heap.size+1+1,1,none⟩=some (.string name):=bO.cell 1
 have bge:w3.cell? ⟨w.heap.size+1+1,2,none⟩=some (.slice jk gy je):=bO.cell 2
 go_wp2_with fail
 clear bP bR bO
 refine bodyPost_ret (v:=.agg #[.int .i64 kind,.string name,.slice jk gy je,.slice qc gu lu]) (by simp[results,Tryz.results48,go_sem,cR0,cR1,cR2,cR3]) rfl ⟨[.int .i64 kind,.string name,.slice jk gy je,.slice qc gu lu],rfl,?_,?_⟩
 ·have base:LvC w3 w0.heap.size w3.heap.size [.lit (.int .i64 kind),.lit (.string name),.row 1 (labels.flatMap tu),.row 4 (kids.flatMap Ty.pd)] [.int .i64 kind,.string name,.slice jk gy je,.slice qc gu lu]:=by
   have:=LvC.lit (LvC.lit (LvC.cons alq (LvC.cons a9x (LvC.nil0 _) (by first|omega|(simp;omega)) (by first|omega|(simp;omega)) (by first|omega|(simp;omega))) (by first|omega|(simp;omega)) (by first|omega|(simp;omega)) (by first|omega|(simp;omega))) (.string name)) (.int .i64 kind)
   exact this
  rw[Ty.ay]
  refine LvC.low (lo2:=w0.heap.size) ?_ (by omega)
  refine LvC.more (hi:=w3.heap.size) ?_ (Nat.le_refl _) (by simp[World.setCell]) (Nat.le_refl _)
  iterate 5 (refine LvC.setCell ?_ (.inl (by simp;omega)) _)
  exact base
 ·iterate 5 (refine Below.setCell ?_ (by simp;try omega) _)
  exact hB3
mutual
theorem aqt:∀ t:Ty,ToC 48 (Ty.pd t)
 | .mk kind name labels kids=>a4f ap7 (a05 (awt kids))
theorem awt:∀ ts:List Ty,∀ t ∈ ts,ToC 48 (Ty.pd t)
 | [],x,hx=>absurd hx (by simp)
 | t ::r,x,hx=>(List.mem_cons.1 hx).elim (fun e=>e ▸ aqt t) (fun h=>awt r x h)
end
set_option maxHeartbeats 1600000 in
theorem a06 {name:ByteArray} {iy:Int} {ji:ByteArray} {og:List ByteArray} {um:List Ty} (akk:ToC 48 (Ty.pd ⟨iy,ji,og,um⟩)):ToC 81 (Param.pd ⟨name,⟨iy,ji,og,um⟩⟩):=by
 intro B cs w hB hsz h
 obtain⟨aau,abx,rfl,abd,ace⟩:=Param.open_ h
 have acs:=Lib.hid abd
 clear abd
 have adz:=Lib.hid ace
 clear ace
 simp only[Param.ay,PD.szL] at hsz
 have HS:=Lib.hid hsz
 clear hsz
 go_enter Tryz.func81,Tryz.ntmps81
 go_wp2_with fail
 obtain⟨w0,hw0⟩:∃ w0,w0=((w.alloc (.cells #[.string name,.int .i64 iy,.string ji,aau,abx] 112)).alloc (.cells #[.string {data:=#[]},.int .i64 0,.string {data:=#[]},.slice none 0 0,.slice none 0 0] 115)).alloc (.cells #[.string name,.int .i64 0,.string {data:=#[]},.slice none 0 0,.slice none 0 0] 115):=⟨_,rfl⟩
 rw[← hw0]
 have bP:Blk w0 w.heap.size 112 #[.string name,.int .i64 iy,.string ji,aau,abx]:=by rw[hw0];exact((Blk.new w _ _).alloc _).alloc _
 have bR:Blk w0 (w.heap.size+1) 115 #[.string {data:=#[]},.int .i64 0,.string {data:=#[]},.slice none 0 0,.slice none 0 0]:=by rw[hw0];have:=(Blk.new (w.alloc (.cells #[.string name,.int .i64 iy,.string ji,aau,abx] 112)) 115 #[.string {data:=#[]},.int .i64 0,.string {data:=#[]},.slice none 0 0,.slice none 0 0]).alloc (.cells #[.string name,.int .i64 0,.string {data:=#[]},.slice none 0 0,.slice none 0 0] 115);simpa using this
 have bO:Blk w0 (w.heap.size+1+1) 115 #[.string name,.int .i64 0,.string {data:=#[]},.slice none 0 0,.slice none 0 0]:=by rw[hw0];have:=Blk.new ((w.alloc (.cells #[.string name,.int .i64 iy,.string ji,aau,abx] 112)).alloc (.cells #[.string {data:=#[]},.int .i64 0,.string {data:=#[]},.slice none 0 0,.slice none 0 0] 115)) 115 #[.string name,.int .i64 0,.string {data:=#[]},.slice none 0 0,.slice none 0 0];simpa using this
 have hB0:Below w.heap.size w w0:=by rw[hw0];exact(((Below.refl _ _).alloc (Nat.le_refl _) _).alloc (by simp) _).alloc (by simp;omega) _
 have hs0:w.heap.size+3≤w0.heap.size:=by rw[hw0];simp
 clear hw0
 refine(akk B [.int .i64 iy,.string ji,aau,abx] _ (by have:=hB0.size;omega) (by have:=HS.out;simp only[Ty.ay,PD.szL];omega) (Ty.close_ (acs.out.below (hB0.mono hB)) (adz.out.below (hB0.mono hB)))).mono ?_
 rintro e w1 ⟨bmj,rfl,aqu,hb1⟩
 have bkp:=Lib.hid aqu
 obtain⟨abh,abj,abk,aci,acj,acn,rfl⟩:=Ty.afp aqu
 have hB1:=hB0.trans (hb1.mono hB0.size)
 have hs1:=hb1.size
 replace bP:=bP.step hb1
 replace bR:=bR.step hb1
 replace bO:=bO.step hb1
 have bmk:=bO.frozen 1
 have bml:w1.cell? ⟨w.heap.size+1+1,1,none⟩=some (.int .i64 0):=bO.cell 1
 have a7f:=bO.frozen 2
 have a7g:w1.cell? ⟨w.heap.size+1+1,2,none⟩=some (.string {data:=#[]}):=bO.cell 2
 have a7i:=bO.frozen 3
 have a7j:w1.cell? ⟨w.heap.size+1+1,3,none⟩=some (.slice none 0 0):=bO.cell 3
 have bmm:=bO.frozen 4
 have bmn:w1.cell? ⟨w.heap.size+1+1,4,none⟩=some (.slice none 0 0):=bO.cell 4
 have fR0:=bR.frozen 0
 have cR0:w1.cell? ⟨w.heap.size+1,0,none⟩=some (.string {data:=#[]}):=bR.cell 0
 have fR1:=bR.frozen 1
 have cR1:w1.cell? ⟨w.heap.size+1,1,none⟩=some (.int .i64 0):=bR.cell 1
 have fR2:=bR.frozen 2
 have cR2:w1.cell? ⟨w.heap.size+1,2,none⟩=some (.string {data:=#[]}):=bR.cell 2
 have fR3:=bR.frozen 3
 have cR3:w1.cell? ⟨w.heap.size+1,3,none⟩=some (.slice none 0 0):=bR.cell 3
 have fR4:=bR.frozen 4
 have cR4:w1.cell? ⟨w.heap.size+1,4,none⟩=some (.slice none 0 0):=bR.cell 4
 have a7k:w1.cell? ⟨w.heap.size+1+1,0,none⟩=some (.string name):=bO.cell 0
 go_wp2_with fail
 clear bP bR bO
 refine bodyPost_ret (v:=.agg #[.string name,.int .i64 iy,.string ji,.slice abh abj abk,.slice aci acj acn]) (by simp[results,Tryz.results81,go_sem,cR0,cR1,cR2,cR3,cR4]) rfl ⟨[.string name,.int .i64 iy,.string ji,.slice abh abj abk,.slice aci acj acn],rfl,?_,?_⟩
 ·have base:LvC w1 w0.heap.size w1.heap.size [.lit (.string name),.lit (.int .i64 iy),.lit (.string ji),.row 1 (og.flatMap tu),.row 4 (um.flatMap Ty.pd)] [.string name,.int .i64 iy,.string ji,.slice abh abj abk,.slice aci acj acn]:=by
   have:=LvC.lit (LvC.append aqu (LvC.nil0 _) (by first|omega|(simp;omega)) (by first|omega|(simp;omega)) (by first|omega|(simp;omega))) (.string name)
   simpa only[Ty.ay,List.cons_append,List.nil_append,List.append_assoc] using this
  rw[Param.ay]
  refine LvC.low (lo2:=w0.heap.size) ?_ (by omega)
  refine LvC.more (hi:=w1.heap.size) ?_ (Nat.le_refl _) (by simp[World.setCell]) (Nat.le_refl _)
  iterate 9 (refine LvC.setCell ?_ (.inl (by simp;omega)) _)
  exact base
 ·iterate 9 (refine Below.setCell ?_ (by simp;try omega) _)
  exact hB1
theorem a4g (t:Param):ToC 81 (Param.pd t):=by obtain⟨name,⟨iy,ji,og,um⟩⟩:=t;exact a06 (aqt _)
theorem asb:(Tryz.prog.info? 115).map (fun i=>(i.zero,i.size,i.bytes))=some (some (.agg #[.string {data:=#[]},.int .i64 0,.string {data:=#[]},.slice none 0 0,.slice none 0 0]),5,88):=by kernel_rfl
set_option maxHeartbeats 1600000 in
theorem azy {ts:List Param} (ih:∀ t ∈ ts,ToC 81 (Param.pd t)):ToR 47 (.row 5 (ts.flatMap Param.pd)):=by
 intro B v w hB hsz h
 rw[aic Param.jw (by decide)] at hsz
 obtain⟨A,n,c,rfl,hnl,hm,hat⟩:=ny Param.jw (by decide) h
 obtain⟨i0,hi,hz0,hz1,hz2⟩:=info_parts asb
 have hmk:=fun W=>alm (P:=Tryz.prog) 57 115 i0 _ Tryz.underlying57 hi hz0 .i64 .i64 n n (Nat.le_refl _) (by rw[hz2];omega) (by omega) W
 rw[hz1] at hmk
 have hnn:n≤1048576:=by omega
 have HN:=Lib.hid hnl
 have HS:=Lib.hid hsz
 have HI:=Lib.hid ih
 clear ih
 clear h hnl hz0 hz1 hz2 hi hm hsz
 go_enter Tryz.func47,Tryz.ntmps47
 go_wp2
 clear hmk
 obtain⟨W1,hW1⟩:∃ W1,W1=w.alloc (.cells (madeCells #[.string {data:=#[]},.int .i64 0,.string {data:=#[]},.slice none 0 0,.slice none 0 0] (n * 5)) 115):=⟨_,rfl⟩
 rw[← hW1]
 have hF:Fills w W1 w.heap.size n 5 ((ts.take 0).flatMap Param.pd) 0:=by
  rw[hW1]
  exact Fills.start (cs:=(madeCells #[.string {data:=#[]},.int .i64 0,.string {data:=#[]},.slice none 0 0,.slice none 0 0] (n * 5)).toList) (aes.new w _ _) (by simp[size_madeCells]) ((Below.refl _ _).alloc (Nat.le_refl _) _) (by simp)
 clear hW1
 go_loopw [4] (fun i wr=>∃ k:Nat,k≤n∧i=.int .i64 k∧Fills w wr w.heap.size n 5 ((ts.take k).flatMap Param.pd) k) (fun i _=>n - (intOf i).toNat)
 case atStart=>exact⟨0,Nat.zero_le _,rfl,hF⟩
 case round=>
  obtain⟨k,hk,rfl,hf⟩:=hrel
  clear hF
  by_cases hlt:k < n
  ·obtain⟨g,off,rfl,hg,hcell⟩:=hat (by omega)
   obtain⟨t,hx,hmem⟩:=xg HN.out hlt
   obtain⟨hbr,hg0⟩:=hf.under
   have hle:=ahr (f:=Param.pd) hx
   obtain⟨name,⟨iy,ji,og,um⟩⟩:=t
   have c0:wr.cell? ⟨g,off+k * 5,none⟩=some (.string name):=gq hbr (by omega) (hcell k 0 _ _ hx (by rw[Param.ay];rfl))
   have c1:wr.cell? ⟨g,off+k * 5+1,none⟩=some (.int .i64 iy):=gq hbr (by omega) (hcell k 1 _ _ hx (by rw[Param.ay];rfl))
   have c2:wr.cell? ⟨g,off+k * 5+2,none⟩=some (.string ji):=gq hbr (by omega) (hcell k 2 _ _ hx (by rw[Param.ay];rfl))
   obtain⟨aau,c3,hr3⟩:∃ u,wr.cell? ⟨g,off+k * 5+3,none⟩=some u∧Rep wr B (.row 1 (og.flatMap tu)) u:=ku hbr (by omega) hB (hcell k 3 _ _ hx (by rw[Param.ay];rfl))
   have HR3:=Lib.hid hr3
   clear hr3
   obtain⟨abx,c4,hr4⟩:∃ u,wr.cell? ⟨g,off+k * 5+4,none⟩=some u∧Rep wr B (.row 4 (um.flatMap Ty.pd)) u:=ku hbr (by omega) hB (hcell k 4 _ _ hx (by rw[Param.ay];rfl))
   have HR4:=Lib.hid hr4
   clear hr4
   have HX:=Lib.hid hx
   have HL:=Lib.hid hle
   have HM:=Lib.hid hmem
   clear hx hcell hle hmem
   go_wp2_with fail
   refine(HI.out _ HM.out B [.string name,.int .i64 iy,.string ji,aau,abx] _ (by omega) (by have:=HS.out;have:=HL.out;omega) (Param.close_ HR3.out HR4.out)).mono ?_
   rintro e wq ⟨us,rfl,hl,hbq⟩
   obtain⟨abh,abj,abk,aci,acj,acn,rfl⟩:=Param.afp hl
   have hlen:=hl.len
   obtain⟨F2,hh,hi2,_⟩:=hl
   obtain⟨⟨u0,d0⟩,f0⟩:=hf.cell hbq hlt 0 (by decide)
   rw[Nat.add_zero] at d0 f0
   obtain⟨⟨u1,d1⟩,f1⟩:=hf.cell hbq hlt 1 (by decide)
   obtain⟨⟨u2,d2⟩,f2⟩:=hf.cell hbq hlt 2 (by decide)
   obtain⟨⟨u3,d3⟩,f3⟩:=hf.cell hbq hlt 3 (by decide)
   obtain⟨⟨u4,d4⟩,f4⟩:=hf.cell hbq hlt 4 (by decide)
   have hnx:=hf.next hbq (es:=Param.pd ⟨name,⟨iy,ji,og,um⟩⟩) hh hi2 (hlen.trans (Param.jw _)) hlt
   have HF:=Lib.hid hnx
   clear hnx hf hh hi2 hlen
   go_wp2_with fail
   go_roundw
   case rel=>exact⟨k+1,by omega,by go_num,by rw[List.take_add_one,HX.out,List.flatMap_append,ais];exact HF.out⟩
   case measure=>simp[intOf];omega
  ·have hkn:k=n:=by omega
   subst hkn
   have hfin:Lv wr w.heap.size wr.heap.size (.row 5 (ts.flatMap Param.pd)) (.slice (some ⟨w.heap.size,0,none⟩) k k):=by
    rw[List.take_of_length_le (by have:=HN.out;omega)] at hf
    exact hf.done (by rw[afz Param.jw];rw[HN.out]) (Nat.le_refl _) (by simp only[maxLen];omega)
   have hbr:=hf.under.1
   clear hf
   go_wp2_with fail
   go_ret
   exact⟨_,rfl,hfin,hbr⟩
theorem a07 (ts:List Param):ToR 47 (.row 5 (ts.flatMap Param.pd)):=azy fun t _=>a4g t
set_option maxHeartbeats 1600000 in
theorem awu {params:List Param} {bg:Int} {cu:ByteArray} {jv:List ByteArray} {mg:List Ty} {async:Bool} (anr:ToR 47 (.row 5 (params.flatMap Param.pd))) (ant:ToC 48 (Ty.pd ⟨bg,cu,jv,mg⟩)):ToC 22 (jh.pd ⟨params,⟨bg,cu,jv,mg⟩,async⟩):=by
 intro B cs w hB hsz h
 obtain⟨ad3,oq,ug,rfl,adu,aaf,aaw⟩:=jh.open_ h
 have af5:=Lib.hid adu
 clear adu
 have ab9:=Lib.hid aaf
 clear aaf
 have ac6:=Lib.hid aaw
 clear aaw
 simp only[jh.ay,PD.szL] at hsz
 have HS:=Lib.hid hsz
 clear hsz
 go_enter Tryz.func22,Tryz.ntmps22
 go_wp2_with fail
 obtain⟨w0,hw0⟩:∃ w0,w0=((w.alloc (.cells #[ad3,.int .i64 bg,.string cu,oq,ug,.bool async] 54)).alloc (.cells #[.slice none 0 0,.int .i64 0,.string {data:=#[]},.slice none 0 0,.slice none 0 0,.bool false] 62)).alloc (.cells #[.slice none 0 0,.int .i64 0,.string {data:=#[]},.slice none 0 0,.slice none 0 0,.bool false] 62):=⟨_,rfl⟩
 rw[← hw0]
 have bP:Blk w0 w.heap.size 54 #[ad3,.int .i64 bg,.string cu,oq,ug,.bool async]:=by rw[hw0];exact((Blk.new w _ _).alloc _).alloc _
 have bR:Blk w0 (w.heap.size+1) 62 #[.slice none 0 0,.int .i64 0,.string {data:=#[]},.slice none 0 0,.slice none 0 0,.bool false]:=by rw[hw0];have:=(Blk.new (w.alloc (.cells #[ad3,.int .i64 bg,.string cu,oq,ug,.bool async] 54)) 62 #[.slice none 0 0,.int .i64 0,.string {data:=#[]},.slice none 0 0,.slice none 0 0,.bool false]).alloc (.cells #[.slice none 0 0,.int .i64 0,.string {data:=#[]},.slice none 0 0,.slice none 0 0,.bool false] 62);simpa using this
 have bO:Blk w0 (w.heap.size+1+1) 62 #[.slice none 0 0,.int .i64 0,.string {data:=#[]},.slice none 0 0,.slice none 0 0,.bool false]:=by rw[hw0];have:=Blk.new ((w.alloc (.cells #[ad3,.int .i64 bg,.string cu,oq,ug,.bool async] 54)).alloc (.cells #[.slice none 0 0,.int .i64 0,.string {data:=#[]},.slice none 0 0,.slice none 0 0,.bool false] 62)) 62 #[.slice none 0 0,.int .i64 0,.string {data:=#[]},.slice none 0 0,.slice none 0 0,.bool false];simpa using this
 have hB0:Below w.heap.size w w0:=by rw[hw0];exact(((Below.refl _ _).alloc (Nat.le_refl _) _).alloc (by simp) _).alloc (by simp;omega) _
 have hs0:w.heap.size+3≤w0.heap.size:=by rw[hw0];simp
 clear hw0
 refine(anr B ad3 _ (by have:=hB0.size;omega) (by have:=HS.out;omega) (af5.out.below (hB0.mono hB))).mono ?_
 rintro e w1 ⟨bn1,rfl,alr,hb1⟩
 obtain⟨ai8,ai9,aja,rfl⟩:=alr.form
 have hB1:=hB0.trans (hb1.mono hB0.size)
 have hs1:=hb1.size
 replace bP:=bP.step hb1
 replace bR:=bR.step hb1
 replace bO:=bO.step hb1
 have bmo:=bO.frozen 0
 have a7k:w1.cell? ⟨w.heap.size+1+1,0,none⟩=some (.slice none 0 0):=bO.cell 0
 have bmp:w1.cell? ⟨w.heap.size,1,none⟩=some (.int .i64 bg):=bP.cell 1
 have bmq:w1.cell? ⟨w.heap.size,2,none⟩=some (.string cu):=bP.cell 2
 have a7h:w1.cell? ⟨w.heap.size,3,none⟩=some (oq):=bP.cell 3
 have a7l:w1.cell? ⟨w.heap.size,4,none⟩=some (ug):=bP.cell 4
 go_wp2_with fail
 clear bmo a7k bmp bmq a7h a7l
 obtain⟨w2,hw2⟩:∃ W,W=(w1.setCell ⟨w.heap.size+1+1,0,none⟩ (.slice ai8 ai9 aja)):=⟨_,rfl⟩
 rw[← hw2]
 replace bP:Blk w2 w.heap.size 54 #[ad3,.int .i64 bg,.string cu,oq,ug,.bool async]:=by rw[hw2];exact(bP.far (by simp;try omega) _)
 replace bR:Blk w2 (w.heap.size+1) 62 #[.slice none 0 0,.int .i64 0,.string {data:=#[]},.slice none 0 0,.slice none 0 0,.bool false]:=by rw[hw2];exact(bR.far (by simp;try omega) _)
 replace bO:Blk w2 (w.heap.size+1+1) 62 #[.slice ai8 ai9 aja,.int .i64 0,.string {data:=#[]},.slice none 0 0,.slice none 0 0,.bool false]:=by rw[hw2];have:=(bO.abf 0 (.slice ai8 ai9 aja));simpa using this
 have hB2:Below w.heap.size w w2:=by rw[hw2];exact(hB1.setCell (by simp;try omega) _)
 have hs2:w1.heap.size≤w2.heap.size:=by rw[hw2];simp[World.setCell]
 replace alr:=(alr.setCell (p:=⟨w.heap.size+1+1,0,none⟩) (.inl (by simp;omega)) (.slice ai8 ai9 aja))
 rw[← hw2] at alr
 clear hw2
 refine(ant B [.int .i64 bg,.string cu,oq,ug] _ (by have:=hB2.size;omega) (by have:=HS.out;simp only[Ty.ay,PD.szL];omega) (Ty.close_ (ab9.out.below (hB2.mono hB)) (ac6.out.below (hB2.mono hB)))).mono ?_
 rintro e w3 ⟨bn2,rfl,avp,hb3⟩
 have bnr:=Lib.hid avp
 obtain⟨aea,aeb,aec,aex,aey,aez,rfl⟩:=Ty.afp avp
 have hB3:=hB2.trans (hb3.mono hB2.size)
 have hs3:=hb3.size
 replace bP:=bP.step hb3
 replace bR:=bR.step hb3
 replace bO:=bO.step hb3
 replace alr:=alr.step hb3
 have bup:=bO.frozen 1
 have bgd:w3.cell? ⟨w.heap.size+1+1,1,none⟩=some (.int .i64 0):=bO.cell 1
 have buq:=bO.frozen 2
 have bge:w3.cell? ⟨w.heap.size+1+1,2,none⟩=some (.string {data:=#[]}):=bO.cell 2
 have bmi:=bO.frozen 3
 have bgb:w3.cell? ⟨w.heap.size+1+1,3,none⟩=some (.slice none 0 0):=bO.cell 3
 have bmr:=bO.frozen 4
 have bms:w3.cell? ⟨w.heap.size+1+1,4,none⟩=some (.slice none 0 0):=bO.cell 4
 have bur:=bO.frozen 5
 have bus:w3.cell? ⟨w.heap.size+1+1,5,none⟩=some (.bool false):=bO.cell 5
 have buu:w3.cell? ⟨w.heap.size,5,none⟩=some (.bool async):=bP.cell 5
 have fR0:=bR.frozen 0
 have cR0:w3.cell? ⟨w.heap.size+1,0,none⟩=some (.slice none 0 0):=bR.cell 0
 have fR1:=bR.frozen 1
 have cR1:w3.cell? ⟨w.heap.size+1,1,none⟩=some (.int .i64 0):=bR.cell 1
 have fR2:=bR.frozen 2
 have cR2:w3.cell? ⟨w.heap.size+1,2,none⟩=some (.string {data:=#[]}):=bR.cell 2
 have fR3:=bR.frozen 3
 have cR3:w3.cell? ⟨w.heap.size+1,3,none⟩=some (.slice none 0 0):=bR.cell 3
 have fR4:=bR.frozen 4
 have cR4:w3.cell? ⟨w.heap.size+1,4,none⟩=some (.slice none 0 0):=bR.cell 4
 have fR5:=bR.frozen 5
 have cR5:w3.cell? ⟨w.heap.size+1,5,none⟩=some (.bool false):=bR.cell 5
 have bgc:w3.cell? ⟨w.heap.size+1+1,0,none⟩=some (.slice ai8 ai9 aja):=bO.cell 0
 go_wp2_with fail
 clear bP bR bO
 refine bodyPost_ret (v:=.agg #[.slice ai8 ai9 aja,.int .i64 bg,.string cu,.slice aea aeb aec,.slice aex aey aez,.bool async]) (by simp[results,Tryz.results22,go_sem,cR0,cR1,cR2,cR3,cR4,cR5]) rfl ⟨[.slice ai8 ai9 aja,.int .i64 bg,.string cu,.slice aea aeb aec,.slice aex aey aez,.bool async],rfl,?_,?_⟩
 ·have base:LvC w3 w0.heap.size w3.heap.size [.row 5 (params.flatMap Param.pd),.lit (.int .i64 bg),.lit (.string cu),.row 1 (jv.flatMap tu),.row 4 (mg.flatMap Ty.pd),.lit (.bool async)] [.slice ai8 ai9 aja,.int .i64 bg,.string cu,.slice aea aeb aec,.slice aex aey aez,.bool async]:=by
   have:=LvC.cons alr (LvC.append avp (LvC.lit (LvC.nil0 _) (.bool async)) (by first|omega|(simp;omega)) (by first|omega|(simp;omega)) (by first|omega|(simp;omega))) (by first|omega|(simp;omega)) (by first|omega|(simp;omega)) (by first|omega|(simp;omega))
   simpa only[Ty.ay,List.cons_append,List.nil_append,List.append_assoc] using this
  rw[jh.ay]
  refine LvC.low (lo2:=w0.heap.size) ?_ (by omega)
  refine LvC.more (hi:=w3.heap.size) ?_ (Nat.le_refl _) (by simp[World.setCell]) (Nat.le_refl _)
  iterate 11 (refine LvC.setCell ?_ (.inl (by simp;omega)) _)
  exact base
 ·iterate 11 (refine Below.setCell ?_ (by simp;try omega) _)
  exact hB3
theorem ax5 (t:jh):ToC 22 (jh.pd t):=by obtain⟨params,⟨bg,cu,jv,mg⟩,async⟩:=t;exact awu (a07 params) (aqt _)
set_option maxHeartbeats 1600000 in
theorem a4h {name:ByteArray} {ql:List Param} {aj:Int} {au:ByteArray} {iw:List ByteArray} {jl:List Ty} {jg:Bool} (akk:ToC 22 (jh.pd ⟨ql,⟨aj,au,iw,jl⟩,jg⟩)):ToC 59 (Fun.pd ⟨name,⟨ql,⟨aj,au,iw,jl⟩,jg⟩⟩):=by
 intro B cs w hB hsz h
 obtain⟨aav,tq,vk,rfl,ab8,zk,aai⟩:=Fun.open_ h
 have ae8:=Lib.hid ab8
 clear ab8
 have ac7:=Lib.hid zk
 clear zk
 have adx:=Lib.hid aai
 clear aai
 simp only[Fun.ay,PD.szL] at hsz
 have HS:=Lib.hid hsz
 clear hsz
 go_enter Tryz.func59,Tryz.ntmps59
 go_wp2_with fail
 obtain⟨w0,hw0⟩:∃ w0,w0=((w.alloc (.cells #[.string name,aav,.int .i64 aj,.string au,tq,vk,.bool jg] 92)).alloc (.cells #[.string {data:=#[]},.slice none 0 0,.int .i64 0,.string {data:=#[]},.slice none 0 0,.slice none 0 0,.bool false] 99)).alloc (.cells #[.string name,.slice none 0 0,.int .i64 0,.string {data:=#[]},.slice none 0 0,.slice none 0 0,.bool false] 99):=⟨_,rfl⟩
 rw[← hw0]
 have bP:Blk w0 w.heap.size 92 #[.string name,aav,.int .i64 aj,.string au,tq,vk,.bool jg]:=by rw[hw0];exact((Blk.new w _ _).alloc _).alloc _
 have bR:Blk w0 (w.heap.size+1) 99 #[.string {data:=#[]},.slice none 0 0,.int .i64 0,.string {data:=#[]},.slice none 0 0,.slice none 0 0,.bool false]:=by rw[hw0];have:=(Blk.new (w.alloc (.cells #[.string name,aav,.int .i64 aj,.string au,tq,vk,.bool jg] 92)) 99 #[.string {data:=#[]},.slice none 0 0,.int .i64 0,.string {data:=#[]},.slice none 0 0,.slice none 0 0,.bool false]).alloc (.cells #[.string name,.slice none 0 0,.int .i64 0,.string {data:=#[]},.slice none 0 0,.slice none 0 0,.bool false] 99);simpa using this
 have bO:Blk w0 (w.heap.size+1+1) 99 #[.string name,.slice none 0 0,.int .i64 0,.string {data:=#[]},.slice none 0 0,.slice none 0 0,.bool false]:=by rw[hw0];have:=Blk.new ((w.alloc (.cells #[.string name,aav,.int .i64 aj,.string au,tq,vk,.bool jg] 92)).alloc (.cells #[.string {data:=#[]},.slice none 0 0,.int .i64 0,.string {data:=#[]},.slice none 0 0,.slice none 0 0,.bool false] 99)) 99 #[.string name,.slice none 0 0,.int .i64 0,.string {data:=#[]},.slice none 0 0,.slice none 0 0,.bool false];simpa using this
 have hB0:Below w.heap.size w w0:=by rw[hw0];exact(((Below.refl _ _).alloc (Nat.le_refl _) _).alloc (by simp) _).alloc (by simp;omega) _
 have hs0:w.heap.size+3≤w0.heap.size:=by rw[hw0];simp
 clear hw0
 refine(akk B [aav,.int .i64 aj,.string au,tq,vk,.bool jg] _ (by have:=hB0.size;omega) (by have:=HS.out;simp only[jh.ay,PD.szL];omega) (jh.close_ (ae8.out.below (hB0.mono hB)) (ac7.out.below (hB0.mono hB)) (adx.out.below (hB0.mono hB)))).mono ?_
 rintro e w1 ⟨bmj,rfl,aqu,hb1⟩
 have bkp:=Lib.hid aqu
 obtain⟨abt,abu,abv,yh,yj,yt,zn,zo,zq,rfl⟩:=jh.afp aqu
 have hB1:=hB0.trans (hb1.mono hB0.size)
 have hs1:=hb1.size
 replace bP:=bP.step hb1
 replace bR:=bR.step hb1
 replace bO:=bO.step hb1
 have bmk:=bO.frozen 1
 have bml:w1.cell? ⟨w.heap.size+1+1,1,none⟩=some (.slice none 0 0):=bO.cell 1
 have a7f:=bO.frozen 2
 have a7g:w1.cell? ⟨w.heap.size+1+1,2,none⟩=some (.int .i64 0):=bO.cell 2
 have a7i:=bO.frozen 3
 have a7j:w1.cell? ⟨w.heap.size+1+1,3,none⟩=some (.string {data:=#[]}):=bO.cell 3
 have bmm:=bO.frozen 4
 have bmn:w1.cell? ⟨w.heap.size+1+1,4,none⟩=some (.slice none 0 0):=bO.cell 4
 have buv:=bO.frozen 5
 have buw:w1.cell? ⟨w.heap.size+1+1,5,none⟩=some (.slice none 0 0):=bO.cell 5
 have bux:=bO.frozen 6
 have buy:w1.cell? ⟨w.heap.size+1+1,6,none⟩=some (.bool false):=bO.cell 6
 have fR0:=bR.frozen 0
 have cR0:w1.cell? ⟨w.heap.size+1,0,none⟩=some (.string {data:=#[]}):=bR.cell 0
 have fR1:=bR.frozen 1
 have cR1:w1.cell? ⟨w.heap.size+1,1,none⟩=some (.slice none 0 0):=bR.cell 1
 have fR2:=bR.frozen 2
 have cR2:w1.cell? ⟨w.heap.size+1,2,none⟩=some (.int .i64 0):=bR.cell 2
 have fR3:=bR.frozen 3
 have cR3:w1.cell? ⟨w.heap.size+1,3,none⟩=some (.string {data:=#[]}):=bR.cell 3
 have fR4:=bR.frozen 4
 have cR4:w1.cell? ⟨w.heap.size+1,4,none⟩=some (.slice none 0 0):=bR.cell 4
 have fR5:=bR.frozen 5
 have cR5:w1.cell? ⟨w.heap.size+1,5,none⟩=some (.slice none 0 0):=bR.cell 5
 have fR6:=bR.frozen 6
 have cR6:w1.cell? ⟨w.heap.size+1,6,none⟩=some (.bool false):=bR.cell 6
 have a7k:w1.cell? ⟨w.heap.size+1+1,0,none⟩=some (.string name):=bO.cell 0
 go_wp2_with fail
 clear bP bR bO
 refine bodyPost_ret (v:=.agg #[.string name,.slice abt abu abv,.int .i64 aj,.string au,.slice yh yj yt,.slice zn zo zq,.bool jg]) (by simp[results,Tryz.results59,go_sem,cR0,cR1,cR2,cR3,cR4,cR5,cR6]) rfl ⟨[.string name,.slice abt abu abv,.int .i64 aj,.string au,.slice yh yj yt,.slice zn zo zq,.bool jg],rfl,?_,?_⟩
 ·have base:LvC w1 w0.heap.size w1.heap.size [.lit (.string name),.row 5 (ql.flatMap Param.pd),.lit (.int .i64 aj),.lit (.string au),.row 1 (iw.flatMap tu),.row 4 (jl.flatMap Ty.pd),.lit (.bool jg)] [.string name,.slice abt abu abv,.int .i64 aj,.string au,.slice yh yj yt,.slice zn zo zq,.bool jg]:=by
   have:=LvC.lit (LvC.append aqu (LvC.nil0 _) (by first|omega|(simp;omega)) (by first|omega|(simp;omega)) (by first|omega|(simp;omega))) (.string name)
   simpa only[jh.ay,List.cons_append,List.nil_append,List.append_assoc] using this
  rw[Fun.ay]
  refine LvC.low (lo2:=w0.heap.size) ?_ (by omega)
  refine LvC.more (hi:=w1.heap.size) ?_ (Nat.le_refl _) (by simp[World.setCell]) (Nat.le_refl _)
  iterate 13 (refine LvC.setCell ?_ (.inl (by simp;omega)) _)
  exact base
 ·iterate 13 (refine Below.setCell ?_ (by simp;try omega) _)
  exact hB1
theorem a7m (t:Fun):ToC 59 (Fun.pd t):=by obtain⟨name,⟨ql,⟨aj,au,iw,jl⟩,jg⟩⟩:=t;exact a4h (ax5 _)
theorem a08:(Tryz.prog.info? 99).map (fun i=>(i.zero,i.size,i.bytes))=some (some (.agg #[.string {data:=#[]},.slice none 0 0,.int .i64 0,.string {data:=#[]},.slice none 0 0,.slice none 0 0,.bool false]),7,120):=by kernel_rfl
set_option maxHeartbeats 1600000 in
theorem a09 {ts:List Fun} (ih:∀ t ∈ ts,ToC 59 (Fun.pd t)):ToR 30 (.row 7 (ts.flatMap Fun.pd)):=by
 intro B v w hB hsz h
 rw[aic Fun.jw (by decide)] at hsz
 obtain⟨A,n,c,rfl,hnl,hm,hat⟩:=ny Fun.jw (by decide) h
 obtain⟨i0,hi,hz0,hz1,hz2⟩:=info_parts a08
 have hmk:=fun W=>alm (P:=Tryz.prog) 28 99 i0 _ Tryz.underlying28 hi hz0 .i64 .i64 n n (Nat.le_refl _) (by rw[hz2];omega) (by omega) W
 rw[hz1] at hmk
 have hnn:n≤1048576:=by omega
 have HN:=Lib.hid hnl
 have HS:=Lib.hid hsz
 have HI:=Lib.hid ih
 clear ih
 clear h hnl hz0 hz1 hz2 hi hm hsz
 go_enter Tryz.func30,Tryz.ntmps30
 go_wp2
 clear hmk
 obtain⟨W1,hW1⟩:∃ W1,W1=w.alloc (.cells (madeCells #[.string {data:=#[]},.slice none 0 0,.int .i64 0,.string {data:=#[]},.slice none 0 0,.slice none 0 0,.bool false] (n * 7)) 99):=⟨_,rfl⟩
 rw[← hW1]
 have hF:Fills w W1 w.heap.size n 7 ((ts.take 0).flatMap Fun.pd) 0:=by
  rw[hW1]
  exact Fills.start (cs:=(madeCells #[.string {data:=#[]},.slice none 0 0,.int .i64 0,.string {data:=#[]},.slice none 0 0,.slice none 0 0,.bool false] (n * 7)).toList) (aes.new w _ _) (by simp[size_madeCells]) ((Below.refl _ _).alloc (Nat.le_refl _) _) (by simp)
 clear hW1
 go_loopw [4] (fun i wr=>∃ k:Nat,k≤n∧i=.int .i64 k∧Fills w wr w.heap.size n 7 ((ts.take k).flatMap Fun.pd) k) (fun i _=>n - (intOf i).toNat)
 case atStart=>exact⟨0,Nat.zero_le _,rfl,hF⟩
 case round=>
  obtain⟨k,hk,rfl,hf⟩:=hrel
  clear hF
  by_cases hlt:k < n
  ·obtain⟨g,off,rfl,hg,hcell⟩:=hat (by omega)
   obtain⟨t,hx,hmem⟩:=xg HN.out hlt
   obtain⟨hbr,hg0⟩:=hf.under
   have hle:=ahr (f:=Fun.pd) hx
   obtain⟨name,⟨ql,⟨aj,au,iw,jl⟩,jg⟩⟩:=t
   have c0:wr.cell? ⟨g,off+k * 7,none⟩=some (.string name):=gq hbr (by omega) (hcell k 0 _ _ hx (by rw[Fun.ay];rfl))
   obtain⟨aav,c1,hr1⟩:∃ u,wr.cell? ⟨g,off+k * 7+1,none⟩=some u∧Rep wr B (.row 5 (ql.flatMap Param.pd)) u:=ku hbr (by omega) hB (hcell k 1 _ _ hx (by rw[Fun.ay];rfl))
   have HR1:=Lib.hid hr1
   clear hr1
   have c2:wr.cell? ⟨g,off+k * 7+2,none⟩=some (.int .i64 aj):=gq hbr (by omega) (hcell k 2 _ _ hx (by rw[Fun.ay];rfl))
   have c3:wr.cell? ⟨g,off+k * 7+3,none⟩=some (.string au):=gq hbr (by omega) (hcell k 3 _ _ hx (by rw[Fun.ay];rfl))
   obtain⟨tq,c4,hr4⟩:∃ u,wr.cell? ⟨g,off+k * 7+4,none⟩=some u∧Rep wr B (.row 1 (iw.flatMap tu)) u:=ku hbr (by omega) hB (hcell k 4 _ _ hx (by rw[Fun.ay];rfl))
   have HR4:=Lib.hid hr4
   clear hr4
   obtain⟨vk,c5,hr5⟩:∃ u,wr.cell? ⟨g,off+k * 7+5,none⟩=some u∧Rep wr B (.row 4 (jl.flatMap Ty.pd)) u:=ku hbr (by omega) hB (hcell k 5 _ _ hx (by rw[Fun.ay];rfl))
   have HR5:=Lib.hid hr5
   clear hr5
   have c6:wr.cell? ⟨g,off+k * 7+6,none⟩=some (.bool jg):=gq hbr (by omega) (hcell k 6 _ _ hx (by rw[Fun.ay];rfl))
   have HX:=Lib.hid hx
   have HL:=Lib.hid hle
   have HM:=Lib.hid hmem
   clear hx hcell hle hmem
   go_wp2_with fail
   refine(HI.out _ HM.out B [.string name,aav,.int .i64 aj,.string au,tq,vk,.bool jg] _ (by omega) (by have:=HS.out;have:=HL.out;omega) (Fun.close_ HR1.out HR4.out HR5.out)).mono ?_
   rintro e wq ⟨us,rfl,hl,hbq⟩
   obtain⟨abt,abu,abv,yh,yj,yt,zn,zo,zq,rfl⟩:=Fun.afp hl
   have hlen:=hl.len
   obtain⟨F2,hh,hi2,_⟩:=hl
   obtain⟨⟨u0,d0⟩,f0⟩:=hf.cell hbq hlt 0 (by decide)
   rw[Nat.add_zero] at d0 f0
   obtain⟨⟨u1,d1⟩,f1⟩:=hf.cell hbq hlt 1 (by decide)
   obtain⟨⟨u2,d2⟩,f2⟩:=hf.cell hbq hlt 2 (by decide)
   obtain⟨⟨u3,d3⟩,f3⟩:=hf.cell hbq hlt 3 (by decide)
   obtain⟨⟨u4,d4⟩,f4⟩:=hf.cell hbq hlt 4 (by decide)
   obtain⟨⟨u5,d5⟩,f5⟩:=hf.cell hbq hlt 5 (by decide)
   obtain⟨⟨u6,d6⟩,f6⟩:=hf.cell hbq hlt 6 (by decide)
   have hnx:=hf.next hbq (es:=Fun.pd ⟨name,⟨ql,⟨aj,au,iw,jl⟩,jg⟩⟩) hh hi2 (hlen.trans (Fun.jw _)) hlt
   have HF:=Lib.hid hnx
   clear hnx hf hh hi2 hlen
   go_wp2_with fail
   go_roundw
   case rel=>exact⟨k+1,by omega,by go_num,by rw[List.take_add_one,HX.out,List.flatMap_append,ais];exact HF.out⟩
   case measure=>simp[intOf];omega
  ·have hkn:k=n:=by omega
   subst hkn
   have hfin:Lv wr w.heap.size wr.heap.size (.row 7 (ts.flatMap Fun.pd)) (.slice (some ⟨w.heap.size,0,none⟩) k k):=by
    rw[List.take_of_length_le (by have:=HN.out;omega)] at hf
    exact hf.done (by rw[afz Fun.jw];rw[HN.out]) (Nat.le_refl _) (by simp only[maxLen];omega)
   have hbr:=hf.under.1
   clear hf
   go_wp2_with fail
   go_ret
   exact⟨_,rfl,hfin,hbr⟩
theorem a4i (ts:List Fun):ToR 30 (.row 7 (ts.flatMap Fun.pd)):=a09 fun t _=>a7m t
set_option maxHeartbeats 1600000 in
theorem a4j {package:ByteArray} {name:ByteArray} {version:ByteArray} {resources:List ByteArray} {funcs:List Fun} (akl:ToR 29 (.row 1 (resources.flatMap tu))) (aot:ToR 30 (.row 7 (funcs.flatMap Fun.pd))):ToC 9 (qg.pd ⟨package,name,version,resources,funcs⟩):=by
 intro B cs w hB hsz h
 obtain⟨oz,aaq,rfl,aa8,ad4⟩:=qg.open_ h
 have adq:=Lib.hid aa8
 clear aa8
 have af0:=Lib.hid ad4
 clear ad4
 simp only[qg.ay,PD.szL] at hsz
 have HS:=Lib.hid hsz
 clear hsz
 go_enter Tryz.func9,Tryz.ntmps9
 go_wp2_with fail
 obtain⟨w0,hw0⟩:∃ w0,w0=((w.alloc (.cells #[.string package,.string name,.string version,oz,aaq] 25)).alloc (.cells #[.string {data:=#[]},.string {data:=#[]},.string {data:=#[]},.slice none 0 0,.slice none 0 0] 30)).alloc (.cells #[.string package,.string name,.string version,.slice none 0 0,.slice none 0 0] 30):=⟨_,rfl⟩
 rw[← hw0]
 have bP:Blk w0 w.heap.size 25 #[.string package,.string name,.string version,oz,aaq]:=by rw[hw0];exact((Blk.new w _ _).alloc _).alloc _
 have bR:Blk w0 (w.heap.size+1) 30 #[.string {data:=#[]},.string {data:=#[]},.string {data:=#[]},.slice none 0 0,.slice none 0 0]:=by rw[hw0];have:=(Blk.new (w.alloc (.cells #[.string package,.string name,.string version,oz,aaq] 25)) 30 #[.string {data:=#[]},.string {data:=#[]},.string {data:=#[]},.slice none 0 0,.slice none 0 0]).alloc (.cells #[.string package,.string name,.string version,.slice none 0 0,.slice none 0 0] 30);simpa using this
 have bO:Blk w0 (w.heap.size+1+1) 30 #[.string package,.string name,.string version,.slice none 0 0,.slice none 0 0]:=by rw[hw0];have:=Blk.new ((w.alloc (.cells #[.string package,.string name,.string version,oz,aaq] 25)).alloc (.cells #[.string {data:=#[]},.string {data:=#[]},.string {data:=#[]},.slice none 0 0,.slice none 0 0] 30)) 30 #[.string package,.string name,.string version,.slice none 0 0,.slice none 0 0];simpa using this
 have hB0:Below w.heap.size w w0:=by rw[hw0];exact(((Below.refl _ _).alloc (Nat.le_refl _) _).alloc (by simp) _).alloc (by simp;omega) _
 have hs0:w.heap.size+3≤w0.heap.size:=by rw[hw0];simp
 clear hw0
 refine(akl B oz _ (by have:=hB0.size;omega) (by have:=HS.out;omega) (adq.out.below (hB0.mono hB))).mono ?_
 rintro e w1 ⟨bmh,rfl,ait,hb1⟩
 obtain⟨agt,agu,agv,rfl⟩:=ait.form
 have hB1:=hB0.trans (hb1.mono hB0.size)
 have hs1:=hb1.size
 replace bP:=bP.step hb1
 replace bR:=bR.step hb1
 replace bO:=bO.step hb1
 have a7i:=bO.frozen 3
 have a7j:w1.cell? ⟨w.heap.size+1+1,3,none⟩=some (.slice none 0 0):=bO.cell 3
 have a7l:w1.cell? ⟨w.heap.size,4,none⟩=some (aaq):=bP.cell 4
 go_wp2_with fail
 clear a7i a7j a7l
 obtain⟨w2,hw2⟩:∃ W,W=(w1.setCell ⟨w.heap.size+1+1,3,none⟩ (.slice agt agu agv)):=⟨_,rfl⟩
 rw[← hw2]
 replace bP:Blk w2 w.heap.size 25 #[.string package,.string name,.string version,oz,aaq]:=by rw[hw2];exact(bP.far (by simp;try omega) _)
 replace bR:Blk w2 (w.heap.size+1) 30 #[.string {data:=#[]},.string {data:=#[]},.string {data:=#[]},.slice none 0 0,.slice none 0 0]:=by rw[hw2];exact(bR.far (by simp;try omega) _)
 replace bO:Blk w2 (w.heap.size+1+1) 30 #[.string package,.string name,.string version,.slice agt agu agv,.slice none 0 0]:=by rw[hw2];have:=(bO.abf 3 (.slice agt agu agv));simpa using this
 have hB2:Below w.heap.size w w2:=by rw[hw2];exact(hB1.setCell (by simp;try omega) _)
 have hs2:w1.heap.size≤w2.heap.size:=by rw[hw2];simp[World.setCell]
 replace ait:=(ait.setCell (p:=⟨w.heap.size+1+1,3,none⟩) (.inl (by simp;omega)) (.slice agt agu agv))
 rw[← hw2] at ait
 clear hw2
 refine(aot B aaq _ (by have:=hB2.size;omega) (by have:=HS.out;omega) (af0.out.below (hB2.mono hB))).mono ?_
 rintro e w3 ⟨bql,rfl,a5o,hb3⟩
 obtain⟨apy,apz,ap0,rfl⟩:=a5o.form
 have hB3:=hB2.trans (hb3.mono hB2.size)
 have hs3:=hb3.size
 replace bP:=bP.step hb3
 replace bR:=bR.step hb3
 replace bO:=bO.step hb3
 replace ait:=ait.step hb3
 have bmr:=bO.frozen 4
 have bms:w3.cell? ⟨w.heap.size+1+1,4,none⟩=some (.slice none 0 0):=bO.cell 4
 have fR0:=bR.frozen 0
 have cR0:w3.cell? ⟨w.heap.size+1,0,none⟩=some (.string {data:=#[]}):=bR.cell 0
 have fR1:=bR.frozen 1
 have cR1:w3.cell? ⟨w.heap.size+1,1,none⟩=some (.string {data:=#[]}):=bR.cell 1
 have fR2:=bR.frozen 2
 have cR2:w3.cell? ⟨w.heap.size+1,2,none⟩=some (.string {data:=#[]}):=bR.cell 2
 have fR3:=bR.frozen 3
 have cR3:w3.cell? ⟨w.heap.size+1,3,none⟩=some (.slice none 0 0):=bR.cell 3
 have fR4:=bR.frozen 4
 have cR4:w3.cell? ⟨w.heap.size+1,4,none⟩=some (.slice none 0 0):=bR.cell 4
 have bgc:w3.cell? ⟨w.heap.size+1+1,0,none⟩=some (.string package):=bO.cell 0
 have bgd:w3.cell? ⟨w.heap.size+1+1,1,none⟩=some (.string name):=bO.cell 1
 have bge:w3.cell? ⟨w.heap.size+1+1,2,none⟩=some (.string version):=bO.cell 2
 have bgb:w3.cell? ⟨w.heap.size+1+1,3,none⟩=some (.slice agt agu agv):=bO.cell 3
 go_wp2_with fail
 clear bP bR bO
 refine bodyPost_ret (v:=.agg #[.string package,.string name,.string version,.slice agt agu agv,.slice apy apz ap0]) (by simp[results,Tryz.results9,go_sem,cR0,cR1,cR2,cR3,cR4]) rfl ⟨[.string package,.string name,.string version,.slice agt agu agv,.slice apy apz ap0],rfl,?_,?_⟩
 ·have base:LvC w3 w0.heap.size w3.heap.size [.lit (.string package),.lit (.string name),.lit (.string version),.row 1 (resources.flatMap tu),.row 7 (funcs.flatMap Fun.pd)] [.string package,.string name,.string version,.slice agt agu agv,.slice apy apz ap0]:=by
   have:=LvC.lit (LvC.lit (LvC.lit (LvC.cons ait (LvC.cons a5o (LvC.nil0 _) (by first|omega|(simp;omega)) (by first|omega|(simp;omega)) (by first|omega|(simp;omega))) (by first|omega|(simp;omega)) (by first|omega|(simp;omega)) (by first|omega|(simp;omega))) (.string version)) (.string name)) (.string package)
   exact this
  rw[qg.ay]
  refine LvC.low (lo2:=w0.heap.size) ?_ (by omega)
  refine LvC.more (hi:=w3.heap.size) ?_ (Nat.le_refl _) (by simp[World.setCell]) (Nat.le_refl _)
  iterate 6 (refine LvC.setCell ?_ (.inl (by simp;omega)) _)
  exact base
 ·iterate 6 (refine Below.setCell ?_ (by simp;try omega) _)
  exact hB3
theorem ak3 (t:qg):ToC 9 (qg.pd t):=by obtain⟨package,name,version,resources,funcs⟩:=t;exact a4j ap7 (a4i funcs)
end Go.Proofs.YtbafphecjijdmaaGreatDoor
