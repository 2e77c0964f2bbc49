/-
  The laws' own helpers 'to..' over the program's types (by program: tygen2.py, tyfam.py).
-/
import Derived.Test.YtbafphecjijdmaaGreatDoorFa04
import Derived.Test.YtbafphecjijdmaaGreatDoorFa05
namespace Go.Proofs.YtbafphecjijdmaaGreatDoor
open Go.RowKit
set_option linter.unusedVariables false
set_option linter.unusedSimpArgs false
set_option linter.unnecessarySimpa false
set_option maxRecDepth 100000
theorem axq:(Tryz.prog.info? 9).map (fun i=>(i.zero,i.size,i.bytes))=some (some (.string {data:=#[]}),1,16):=by kernel_rfl
set_option maxHeartbeats 1600000 in
theorem apx {ts:List ByteArray}:ToR 29 (.row 1 (ts.flatMap tq)):=by
 intro B v w hB hsz h
 rw[aia aap (by decide)] at hsz
 obtain⟨A,n,c,rfl,hnl,hm,hat⟩:=ny aap (by decide) h
 obtain⟨i0,hi,hz0,hz1,hz2⟩:=info_parts axq
 have hmk:=fun W=>ali (P:=Tryz.prog) 22 9 i0 _ Tryz.underlying22 hi hz0 .i64 .i64 n n (Nat.le_refl _) (by rw[hz2];omega) (by omega) W
 rw[hz1,Nat.mul_one] at hmk
 have hnn:n≤1048576:=by omega
 have HN:=Lib.hid hnl
 clear h hnl hz0 hz1 hz2 hi hm hsz
 go_enter Tryz.func29,Tryz.ntmps29
 go_wp2
 clear hmk
 obtain⟨W1,hW1⟩:∃ W1,W1=w.alloc (.cells (madeCells #[.string {data:=#[]}] (n)) 9):=⟨_,rfl⟩
 rw[← hW1]
 have hF:Fills w W1 w.heap.size n 1 ((ts.take 0).flatMap tq) 0:=by
  rw[hW1]
  exact Fills.start (cs:=(madeCells #[.string {data:=#[]}] (n)).toList) (aem.new w _ _) (by simp[size_madeCells]) ((Below.refl _ _).alloc (Nat.le_refl _) _) (by simp)
 clear hW1
 go_loopw [4] (fun i wr=>∃ k:Nat,k≤n∧i=.int .i64 k∧Fills w wr w.heap.size n 1 ((ts.take k).flatMap tq) k) (fun i _=>n - (intOf i).toNat)
 case atStart=>exact⟨0,Nat.zero_le _,rfl,hF⟩
 case round=>
  obtain⟨k,hk,rfl,hf⟩:=hrel
  clear hF
  by_cases hlt:k < n
  ·obtain⟨g,off,rfl,hg,hcell⟩:=hat (by omega)
   obtain⟨t,hx,hmem⟩:=vw HN.out hlt
   obtain⟨hbr,hg0⟩:=hf.under
   have c0:wr.cell? ⟨g,off+k,none⟩=some (.string t):=gq hbr (by omega) (by have:=hcell k 0 _ _ hx rfl;simpa using this)
   have HX:=Lib.hid hx
   clear hx hcell
   obtain⟨⟨u0,d0⟩,f0⟩:=hf.cell (Below.refl _ _) hlt 0 (by decide)
   rw[Nat.add_zero,Nat.mul_one] at d0 f0
   have hnx:=hf.next (Below.refl _ _) (es:=tq t) (uh.cons (Hold.lit_ wr (.string t)) (uh.nil wr)) (In.nil _ _) (rfl) hlt
   rw[Nat.mul_one] at hnx
   have HF:=Lib.hid hnx
   clear hnx hf
   go_wp2_with fail
   go_roundw
   case rel=>exact⟨k+1,by omega,by go_num,by rw[List.take_add_one,HX.out,List.flatMap_append,ain];exact HF.out⟩
   case measure=>simp[intOf];omega
  ·have hkn:k=n:=by omega
   subst hkn
   have hfin:Lv wr w.heap.size wr.heap.size (.row 1 (ts.flatMap tq)) (.slice (some ⟨w.heap.size,0,none⟩) k k):=by
    rw[List.take_of_length_le (by have:=HN.out;omega)] at hf
    exact hf.done (by rw[aft aap];rw[HN.out]) (Nat.le_refl _) (by simp only[maxLen];omega)
   have hbr:=hf.under.1
   clear hf
   go_wp2_with fail
   go_ret
   exact⟨_,rfl,hfin,hbr⟩
theorem ash:(Tryz.prog.info? 60).map (fun i=>(i.zero,i.size,i.bytes))=some (some (.agg #[.int .i64 0,.string {data:=#[]},.slice none 0 0,.slice none 0 0]),4,72):=by kernel_rfl
set_option maxHeartbeats 1600000 in
theorem a0c {ts:List Ty} (ih:∀ t ∈ ts,ToC 48 (Ty.pd t)):ToR 82 (.row 4 (ts.flatMap Ty.pd)):=by
 intro B v w hB hsz h
 rw[aia Ty.jw (by decide)] at hsz
 obtain⟨A,n,c,rfl,hnl,hm,hat⟩:=ny Ty.jw (by decide) h
 obtain⟨i0,hi,hz0,hz1,hz2⟩:=info_parts ash
 have hmk:=fun W=>ali (P:=Tryz.prog) 58 60 i0 _ Tryz.underlying58 hi hz0 .i64 .i64 n n (Nat.le_refl _) (by rw[hz2];omega) (by omega) W
 rw[hz1] at hmk
 have hnn:n≤1048576:=by omega
 have HN:=Lib.hid hnl
 have HS:=Lib.hid hsz
 have HI:=Lib.hid ih
 clear ih
 clear h hnl hz0 hz1 hz2 hi hm hsz
 go_enter Tryz.func82,Tryz.ntmps82
 go_wp2
 clear hmk
 obtain⟨W1,hW1⟩:∃ W1,W1=w.alloc (.cells (madeCells #[.int .i64 0,.string {data:=#[]},.slice none 0 0,.slice none 0 0] (n * 4)) 60):=⟨_,rfl⟩
 rw[← hW1]
 have hF:Fills w W1 w.heap.size n 4 ((ts.take 0).flatMap Ty.pd) 0:=by
  rw[hW1]
  exact Fills.start (cs:=(madeCells #[.int .i64 0,.string {data:=#[]},.slice none 0 0,.slice none 0 0] (n * 4)).toList) (aem.new w _ _) (by simp[size_madeCells]) ((Below.refl _ _).alloc (Nat.le_refl _) _) (by simp)
 clear hW1
 go_loopw [4] (fun i wr=>∃ k:Nat,k≤n∧i=.int .i64 k∧Fills w wr w.heap.size n 4 ((ts.take k).flatMap Ty.pd) k) (fun i _=>n - (intOf i).toNat)
 case atStart=>exact⟨0,Nat.zero_le _,rfl,hF⟩
 case round=>
  obtain⟨k,hk,rfl,hf⟩:=hrel
  clear hF
  by_cases hlt:k < n
  ·obtain⟨g,off,rfl,hg,hcell⟩:=hat (by omega)
   obtain⟨t,hx,hmem⟩:=vw HN.out hlt
   obtain⟨hbr,hg0⟩:=hf.under
   have hle:=ahp (f:=Ty.pd) hx
   obtain⟨kind,name,labels,kids⟩:=t
   have c0:wr.cell? ⟨g,off+k * 4,none⟩=some (.int .i64 kind):=gq hbr (by omega) (hcell k 0 _ _ hx (by rw[Ty.ay];rfl))
   have c1:wr.cell? ⟨g,off+k * 4+1,none⟩=some (.string name):=gq hbr (by omega) (hcell k 1 _ _ hx (by rw[Ty.ay];rfl))
   obtain⟨iq,c2,hr2⟩:∃ u,wr.cell? ⟨g,off+k * 4+2,none⟩=some u∧Rep wr B (.row 1 (labels.flatMap tq)) u:=jy hbr (by omega) hB (hcell k 2 _ _ hx (by rw[Ty.ay];rfl))
   have HR2:=Lib.hid hr2
   clear hr2
   obtain⟨qp,c3,hr3⟩:∃ u,wr.cell? ⟨g,off+k * 4+3,none⟩=some u∧Rep wr B (.row 4 (kids.flatMap Ty.pd)) u:=jy hbr (by omega) hB (hcell k 3 _ _ hx (by rw[Ty.ay];rfl))
   have HR3:=Lib.hid hr3
   clear hr3
   have HX:=Lib.hid hx
   have HL:=Lib.hid hle
   have HM:=Lib.hid hmem
   clear hx hcell hle hmem
   go_wp2_with fail
   refine(HI.out _ HM.out B [.int .i64 kind,.string name,iq,qp] _ (by omega) (by have:=HS.out;have:=HL.out;omega) (Ty.close_ HR2.out HR3.out)).mono ?_
   rintro e wq ⟨us,rfl,hl,hbq⟩
   obtain⟨jk,gy,je,pz,gu,lu,rfl⟩:=Ty.af7 hl
   have hlen:=hl.len
   obtain⟨F2,hh,hi2,_⟩:=hl
   obtain⟨⟨u0,d0⟩,f0⟩:=hf.cell hbq hlt 0 (by decide)
   rw[Nat.add_zero] at d0 f0
   obtain⟨⟨u1,d1⟩,f1⟩:=hf.cell hbq hlt 1 (by decide)
   obtain⟨⟨u2,d2⟩,f2⟩:=hf.cell hbq hlt 2 (by decide)
   obtain⟨⟨u3,d3⟩,f3⟩:=hf.cell hbq hlt 3 (by decide)
   have hnx:=hf.next hbq (es:=Ty.pd ⟨kind,name,labels,kids⟩) hh hi2 (hlen.trans (Ty.jw _)) hlt
   have HF:=Lib.hid hnx
   clear hnx hf hh hi2 hlen
   go_wp2_with fail
   go_roundw
   case rel=>exact⟨k+1,by omega,by go_num,by rw[List.take_add_one,HX.out,List.flatMap_append,ain];exact HF.out⟩
   case measure=>simp[intOf];omega
  ·have hkn:k=n:=by omega
   subst hkn
   have hfin:Lv wr w.heap.size wr.heap.size (.row 4 (ts.flatMap Ty.pd)) (.slice (some ⟨w.heap.size,0,none⟩) k k):=by
    rw[List.take_of_length_le (by have:=HN.out;omega)] at hf
    exact hf.done (by rw[aft Ty.jw];rw[HN.out]) (Nat.le_refl _) (by simp only[maxLen];omega)
   have hbr:=hf.under.1
   clear hf
   go_wp2_with fail
   go_ret
   exact⟨_,rfl,hfin,hbr⟩
set_option maxHeartbeats 1600000 in
theorem a2p {kind:Int} {name:ByteArray} {labels:List ByteArray} {kids:List Ty} (ani:ToR 29 (.row 1 (labels.flatMap tq))) (aps:ToR 82 (.row 4 (kids.flatMap Ty.pd))):ToC 48 (Ty.pd ⟨kind,name,labels,kids⟩):=by
 intro B cs w hB hsz h
 obtain⟨iq,qp,rfl,bf,eu⟩:=Ty.open_ h
 have oz:=Lib.hid bf
 clear bf
 have qm:=Lib.hid eu
 clear eu
 simp only[Ty.ay,PD.szL] at hsz
 have HS:=Lib.hid hsz
 clear hsz
 go_enter Tryz.func48,Tryz.ntmps48
 go_wp2_with fail
 obtain⟨w0,hw0⟩:∃ w0,w0=((w.alloc (.cells #[.int .i64 kind,.string name,iq,qp] 52)).alloc (.cells #[.int .i64 0,.string {data:=#[]},.slice none 0 0,.slice none 0 0] 60)).alloc (.cells #[.int .i64 kind,.string name,.slice none 0 0,.slice none 0 0] 60):=⟨_,rfl⟩
 rw[← hw0]
 have bP:Blk w0 w.heap.size 52 #[.int .i64 kind,.string name,iq,qp]:=by rw[hw0];exact((Blk.new w _ _).alloc _).alloc _
 have bR:Blk w0 (w.heap.size+1) 60 #[.int .i64 0,.string {data:=#[]},.slice none 0 0,.slice none 0 0]:=by rw[hw0];have:=(Blk.new (w.alloc (.cells #[.int .i64 kind,.string name,iq,qp] 52)) 60 #[.int .i64 0,.string {data:=#[]},.slice none 0 0,.slice none 0 0]).alloc (.cells #[.int .i64 kind,.string name,.slice none 0 0,.slice none 0 0] 60);simpa using this
 have bO:Blk w0 (w.heap.size+1+1) 60 #[.int .i64 kind,.string name,.slice none 0 0,.slice none 0 0]:=by rw[hw0];have:=Blk.new ((w.alloc (.cells #[.int .i64 kind,.string name,iq,qp] 52)).alloc (.cells #[.int .i64 0,.string {data:=#[]},.slice none 0 0,.slice none 0 0] 60)) 60 #[.int .i64 kind,.string name,.slice none 0 0,.slice none 0 0];simpa using this
 have hB0:Below w.heap.size w w0:=by rw[hw0];exact(((Below.refl _ _).alloc (Nat.le_refl _) _).alloc (by simp) _).alloc (by simp;omega) _
 have hs0:w.heap.size+3≤w0.heap.size:=by rw[hw0];simp
 clear hw0
 refine(ani B iq _ (by have:=hB0.size;omega) (by have:=HS.out;omega) (oz.out.below (hB0.mono hB))).mono ?_
 rintro e w1 ⟨u_labels,rfl,alo,hb1⟩
 obtain⟨jk,gy,je,rfl⟩:=alo.form
 have hB1:=hB0.trans (hb1.mono hB0.size)
 have hs1:=hb1.size
 replace bP:=bP.step hb1
 replace bR:=bR.step hb1
 replace bO:=bO.step hb1
 have fO1_2:=bO.frozen 2
 have cO1_2:w1.cell? ⟨w.heap.size+1+1,2,none⟩=some (.slice none 0 0):=bO.cell 2
 have cP1_3:w1.cell? ⟨w.heap.size,3,none⟩=some (qp):=bP.cell 3
 go_wp2_with fail
 clear fO1_2 cO1_2 cP1_3
 obtain⟨w2,hw2⟩:∃ W,W=(w1.setCell ⟨w.heap.size+1+1,2,none⟩ (.slice jk gy je)):=⟨_,rfl⟩
 rw[← hw2]
 replace bP:Blk w2 w.heap.size 52 #[.int .i64 kind,.string name,iq,qp]:=by rw[hw2];exact(bP.far (by simp;try omega) _)
 replace bR:Blk w2 (w.heap.size+1) 60 #[.int .i64 0,.string {data:=#[]},.slice none 0 0,.slice none 0 0]:=by rw[hw2];exact(bR.far (by simp;try omega) _)
 replace bO:Blk w2 (w.heap.size+1+1) 60 #[.int .i64 kind,.string name,.slice jk gy je,.slice none 0 0]:=by rw[hw2];have:=(bO.abo 2 (.slice jk gy je));simpa using this
 have hB2:Below w.heap.size w w2:=by rw[hw2];exact(hB1.setCell (by simp;try omega) _)
 have hs2:w1.heap.size≤w2.heap.size:=by rw[hw2];simp[World.setCell]
 replace alo:=(alo.setCell (p:=⟨w.heap.size+1+1,2,none⟩) (.inl (by simp;omega)) (.slice jk gy je))
 rw[← hw2] at alo
 clear hw2
 refine(aps B qp _ (by have:=hB2.size;omega) (by have:=HS.out;omega) (qm.out.below (hB2.mono hB))).mono ?_
 rintro e w3 ⟨u_kids,rfl,l_kids,hb3⟩
 obtain⟨pz,gu,lu,rfl⟩:=l_kids.form
 have hB3:=hB2.trans (hb3.mono hB2.size)
 have hs3:=hb3.size
 replace bP:=bP.step hb3
 replace bR:=bR.step hb3
 replace bO:=bO.step hb3
 replace alo:=alo.step hb3
 have fO3_3:=bO.frozen 3
 have cO3_3:w3.cell? ⟨w.heap.size+1+1,3,none⟩=some (.slice none 0 0):=bO.cell 3
 have fR0:=bR.frozen 0
 have cR0:w3.cell? ⟨w.heap.size+1,0,none⟩=some (.int .i64 0):=bR.cell 0
 have fR1:=bR.frozen 1
 have cR1:w3.cell? ⟨w.heap.size+1,1,none⟩=some (.string {data:=#[]}):=bR.cell 1
 have fR2:=bR.frozen 2
 have cR2:w3.cell? ⟨w.heap.size+1,2,none⟩=some (.slice none 0 0):=bR.cell 2
 have fR3:=bR.frozen 3
 have cR3:w3.cell? ⟨w.heap.size+1,3,none⟩=some (.slice none 0 0):=bR.cell 3
 have cO3_0:w3.cell? ⟨w.heap.size+1+1,0,none⟩=some (.int .i64 kind):=bO.cell 0
 have cO3_1:w3.cell? ⟨w.heap.size+1+1,1,none⟩=some (.string name):=bO.cell 1
 have cO3_2:w3.cell? ⟨w.heap.size+1+1,2,none⟩=some (.slice jk gy je):=bO.cell 2
 go_wp2_with fail
 clear bP bR bO
 refine bodyPost_ret (v:=.agg #[.int .i64 kind,.string name,.slice jk gy je,.slice pz gu lu]) (by simp[results,Tryz.results48,go_sem,cR0,cR1,cR2,cR3]) rfl ⟨[.int .i64 kind,.string name,.slice jk gy je,.slice pz gu lu],rfl,?_,?_⟩
 ·have base:LvC w3 w0.heap.size w3.heap.size [.lit (.int .i64 kind),.lit (.string name),.row 1 (labels.flatMap tq),.row 4 (kids.flatMap Ty.pd)] [.int .i64 kind,.string name,.slice jk gy je,.slice pz gu lu]:=by
   have:=LvC.lit (LvC.lit (LvC.cons alo (LvC.cons l_kids (LvC.nil0 _) (by first|omega|(simp;omega)) (by first|omega|(simp;omega)) (by first|omega|(simp;omega))) (by first|omega|(simp;omega)) (by first|omega|(simp;omega)) (by first|omega|(simp;omega))) (.string name)) (.int .i64 kind)
   exact this
  rw[Ty.ay]
  refine LvC.low (lo2:=w0.heap.size) ?_ (by omega)
  refine LvC.more (hi:=w3.heap.size) ?_ (Nat.le_refl _) (by simp[World.setCell]) (Nat.le_refl _)
  iterate 5 (refine LvC.setCell ?_ (.inl (by simp;omega)) _)
  exact base
 ·iterate 5 (refine Below.setCell ?_ (by simp;try omega) _)
  exact hB3
mutual
theorem aqi:∀ t:Ty,ToC 48 (Ty.pd t)
 | .mk kind name labels kids=>a2p apx (a0c (awg kids))
theorem awg:∀ ts:List Ty,∀ t ∈ ts,ToC 48 (Ty.pd t)
 | [],x,hx=>absurd hx (by simp)
 | t ::r,x,hx=>(List.mem_cons.1 hx).elim (fun e=>e ▸ aqi t) (fun h=>awg r x h)
end
set_option maxHeartbeats 1600000 in
theorem a0d {name:ByteArray} {iy:Int} {ji:ByteArray} {og:List ByteArray} {uj:List Ty} (aki:ToC 48 (Ty.pd ⟨iy,ji,og,uj⟩)):ToC 81 (Param.pd ⟨name,⟨iy,ji,og,uj⟩⟩):=by
 intro B cs w hB hsz h
 obtain⟨aaq,abu,rfl,aa5,ab4⟩:=Param.open_ h
 have acn:=Lib.hid aa5
 clear aa5
 have ads:=Lib.hid ab4
 clear ab4
 simp only[Param.ay,PD.szL] at hsz
 have HS:=Lib.hid hsz
 clear hsz
 go_enter Tryz.func81,Tryz.ntmps81
 go_wp2_with fail
 obtain⟨w0,hw0⟩:∃ w0,w0=((w.alloc (.cells #[.string name,.int .i64 iy,.string ji,aaq,abu] 112)).alloc (.cells #[.string {data:=#[]},.int .i64 0,.string {data:=#[]},.slice none 0 0,.slice none 0 0] 115)).alloc (.cells #[.string name,.int .i64 0,.string {data:=#[]},.slice none 0 0,.slice none 0 0] 115):=⟨_,rfl⟩
 rw[← hw0]
 have bP:Blk w0 w.heap.size 112 #[.string name,.int .i64 iy,.string ji,aaq,abu]:=by rw[hw0];exact((Blk.new w _ _).alloc _).alloc _
 have bR:Blk w0 (w.heap.size+1) 115 #[.string {data:=#[]},.int .i64 0,.string {data:=#[]},.slice none 0 0,.slice none 0 0]:=by rw[hw0];have:=(Blk.new (w.alloc (.cells #[.string name,.int .i64 iy,.string ji,aaq,abu] 112)) 115 #[.string {data:=#[]},.int .i64 0,.string {data:=#[]},.slice none 0 0,.slice none 0 0]).alloc (.cells #[.string name,.int .i64 0,.string {data:=#[]},.slice none 0 0,.slice none 0 0] 115);simpa using this
 have bO:Blk w0 (w.heap.size+1+1) 115 #[.string name,.int .i64 0,.string {data:=#[]},.slice none 0 0,.slice none 0 0]:=by rw[hw0];have:=Blk.new ((w.alloc (.cells #[.string name,.int .i64 iy,.string ji,aaq,abu] 112)).alloc (.cells #[.string {data:=#[]},.int .i64 0,.string {data:=#[]},.slice none 0 0,.slice none 0 0] 115)) 115 #[.string name,.int .i64 0,.string {data:=#[]},.slice none 0 0,.slice none 0 0];simpa using this
 have hB0:Below w.heap.size w w0:=by rw[hw0];exact(((Below.refl _ _).alloc (Nat.le_refl _) _).alloc (by simp) _).alloc (by simp;omega) _
 have hs0:w.heap.size+3≤w0.heap.size:=by rw[hw0];simp
 clear hw0
 refine(aki B [.int .i64 iy,.string ji,aaq,abu] _ (by have:=hB0.size;omega) (by have:=HS.out;simp only[Ty.ay,PD.szL];omega) (Ty.close_ (acn.out.below (hB0.mono hB)) (ads.out.below (hB0.mono hB)))).mono ?_
 rintro e w1 ⟨u_typ,rfl,aqj,hb1⟩
 have ll_typ:=Lib.hid aqj
 obtain⟨aa8,aa9,abb,ab9,acd,ace,rfl⟩:=Ty.af7 aqj
 have hB1:=hB0.trans (hb1.mono hB0.size)
 have hs1:=hb1.size
 replace bP:=bP.step hb1
 replace bR:=bR.step hb1
 replace bO:=bO.step hb1
 have fO1_1:=bO.frozen 1
 have cO1_1:w1.cell? ⟨w.heap.size+1+1,1,none⟩=some (.int .i64 0):=bO.cell 1
 have fO1_2:=bO.frozen 2
 have cO1_2:w1.cell? ⟨w.heap.size+1+1,2,none⟩=some (.string {data:=#[]}):=bO.cell 2
 have fO1_3:=bO.frozen 3
 have cO1_3:w1.cell? ⟨w.heap.size+1+1,3,none⟩=some (.slice none 0 0):=bO.cell 3
 have fO1_4:=bO.frozen 4
 have cO1_4:w1.cell? ⟨w.heap.size+1+1,4,none⟩=some (.slice none 0 0):=bO.cell 4
 have fR0:=bR.frozen 0
 have cR0:w1.cell? ⟨w.heap.size+1,0,none⟩=some (.string {data:=#[]}):=bR.cell 0
 have fR1:=bR.frozen 1
 have cR1:w1.cell? ⟨w.heap.size+1,1,none⟩=some (.int .i64 0):=bR.cell 1
 have fR2:=bR.frozen 2
 have cR2:w1.cell? ⟨w.heap.size+1,2,none⟩=some (.string {data:=#[]}):=bR.cell 2
 have fR3:=bR.frozen 3
 have cR3:w1.cell? ⟨w.heap.size+1,3,none⟩=some (.slice none 0 0):=bR.cell 3
 have fR4:=bR.frozen 4
 have cR4:w1.cell? ⟨w.heap.size+1,4,none⟩=some (.slice none 0 0):=bR.cell 4
 have cO1_0:w1.cell? ⟨w.heap.size+1+1,0,none⟩=some (.string name):=bO.cell 0
 go_wp2_with fail
 clear bP bR bO
 refine bodyPost_ret (v:=.agg #[.string name,.int .i64 iy,.string ji,.slice aa8 aa9 abb,.slice ab9 acd ace]) (by simp[results,Tryz.results81,go_sem,cR0,cR1,cR2,cR3,cR4]) rfl ⟨[.string name,.int .i64 iy,.string ji,.slice aa8 aa9 abb,.slice ab9 acd ace],rfl,?_,?_⟩
 ·have base:LvC w1 w0.heap.size w1.heap.size [.lit (.string name),.lit (.int .i64 iy),.lit (.string ji),.row 1 (og.flatMap tq),.row 4 (uj.flatMap Ty.pd)] [.string name,.int .i64 iy,.string ji,.slice aa8 aa9 abb,.slice ab9 acd ace]:=by
   have:=LvC.lit (LvC.append aqj (LvC.nil0 _) (by first|omega|(simp;omega)) (by first|omega|(simp;omega)) (by first|omega|(simp;omega))) (.string name)
   simpa only[Ty.ay,List.cons_append,List.nil_append,List.append_assoc] using this
  rw[Param.ay]
  refine LvC.low (lo2:=w0.heap.size) ?_ (by omega)
  refine LvC.more (hi:=w1.heap.size) ?_ (Nat.le_refl _) (by simp[World.setCell]) (Nat.le_refl _)
  iterate 9 (refine LvC.setCell ?_ (.inl (by simp;omega)) _)
  exact base
 ·iterate 9 (refine Below.setCell ?_ (by simp;try omega) _)
  exact hB1
theorem a2q (t:Param):ToC 81 (Param.pd t):=by obtain⟨name,⟨iy,ji,og,uj⟩⟩:=t;exact a0d (aqi _)
theorem ar0:(Tryz.prog.info? 115).map (fun i=>(i.zero,i.size,i.bytes))=some (some (.agg #[.string {data:=#[]},.int .i64 0,.string {data:=#[]},.slice none 0 0,.slice none 0 0]),5,88):=by kernel_rfl
set_option maxHeartbeats 1600000 in
theorem ay9 {ts:List Param} (ih:∀ t ∈ ts,ToC 81 (Param.pd t)):ToR 47 (.row 5 (ts.flatMap Param.pd)):=by
 intro B v w hB hsz h
 rw[aia Param.jw (by decide)] at hsz
 obtain⟨A,n,c,rfl,hnl,hm,hat⟩:=ny Param.jw (by decide) h
 obtain⟨i0,hi,hz0,hz1,hz2⟩:=info_parts ar0
 have hmk:=fun W=>ali (P:=Tryz.prog) 57 115 i0 _ Tryz.underlying57 hi hz0 .i64 .i64 n n (Nat.le_refl _) (by rw[hz2];omega) (by omega) W
 rw[hz1] at hmk
 have hnn:n≤1048576:=by omega
 have HN:=Lib.hid hnl
 have HS:=Lib.hid hsz
 have HI:=Lib.hid ih
 clear ih
 clear h hnl hz0 hz1 hz2 hi hm hsz
 go_enter Tryz.func47,Tryz.ntmps47
 go_wp2
 clear hmk
 obtain⟨W1,hW1⟩:∃ W1,W1=w.alloc (.cells (madeCells #[.string {data:=#[]},.int .i64 0,.string {data:=#[]},.slice none 0 0,.slice none 0 0] (n * 5)) 115):=⟨_,rfl⟩
 rw[← hW1]
 have hF:Fills w W1 w.heap.size n 5 ((ts.take 0).flatMap Param.pd) 0:=by
  rw[hW1]
  exact Fills.start (cs:=(madeCells #[.string {data:=#[]},.int .i64 0,.string {data:=#[]},.slice none 0 0,.slice none 0 0] (n * 5)).toList) (aem.new w _ _) (by simp[size_madeCells]) ((Below.refl _ _).alloc (Nat.le_refl _) _) (by simp)
 clear hW1
 go_loopw [4] (fun i wr=>∃ k:Nat,k≤n∧i=.int .i64 k∧Fills w wr w.heap.size n 5 ((ts.take k).flatMap Param.pd) k) (fun i _=>n - (intOf i).toNat)
 case atStart=>exact⟨0,Nat.zero_le _,rfl,hF⟩
 case round=>
  obtain⟨k,hk,rfl,hf⟩:=hrel
  clear hF
  by_cases hlt:k < n
  ·obtain⟨g,off,rfl,hg,hcell⟩:=hat (by omega)
   obtain⟨t,hx,hmem⟩:=vw HN.out hlt
   obtain⟨hbr,hg0⟩:=hf.under
   have hle:=ahp (f:=Param.pd) hx
   obtain⟨name,⟨iy,ji,og,uj⟩⟩:=t
   have c0:wr.cell? ⟨g,off+k * 5,none⟩=some (.string name):=gq hbr (by omega) (hcell k 0 _ _ hx (by rw[Param.ay];rfl))
   have c1:wr.cell? ⟨g,off+k * 5+1,none⟩=some (.int .i64 iy):=gq hbr (by omega) (hcell k 1 _ _ hx (by rw[Param.ay];rfl))
   have c2:wr.cell? ⟨g,off+k * 5+2,none⟩=some (.string ji):=gq hbr (by omega) (hcell k 2 _ _ hx (by rw[Param.ay];rfl))
   obtain⟨aaq,c3,hr3⟩:∃ u,wr.cell? ⟨g,off+k * 5+3,none⟩=some u∧Rep wr B (.row 1 (og.flatMap tq)) u:=jy hbr (by omega) hB (hcell k 3 _ _ hx (by rw[Param.ay];rfl))
   have HR3:=Lib.hid hr3
   clear hr3
   obtain⟨abu,c4,hr4⟩:∃ u,wr.cell? ⟨g,off+k * 5+4,none⟩=some u∧Rep wr B (.row 4 (uj.flatMap Ty.pd)) u:=jy hbr (by omega) hB (hcell k 4 _ _ hx (by rw[Param.ay];rfl))
   have HR4:=Lib.hid hr4
   clear hr4
   have HX:=Lib.hid hx
   have HL:=Lib.hid hle
   have HM:=Lib.hid hmem
   clear hx hcell hle hmem
   go_wp2_with fail
   refine(HI.out _ HM.out B [.string name,.int .i64 iy,.string ji,aaq,abu] _ (by omega) (by have:=HS.out;have:=HL.out;omega) (Param.close_ HR3.out HR4.out)).mono ?_
   rintro e wq ⟨us,rfl,hl,hbq⟩
   obtain⟨aa8,aa9,abb,ab9,acd,ace,rfl⟩:=Param.af7 hl
   have hlen:=hl.len
   obtain⟨F2,hh,hi2,_⟩:=hl
   obtain⟨⟨u0,d0⟩,f0⟩:=hf.cell hbq hlt 0 (by decide)
   rw[Nat.add_zero] at d0 f0
   obtain⟨⟨u1,d1⟩,f1⟩:=hf.cell hbq hlt 1 (by decide)
   obtain⟨⟨u2,d2⟩,f2⟩:=hf.cell hbq hlt 2 (by decide)
   obtain⟨⟨u3,d3⟩,f3⟩:=hf.cell hbq hlt 3 (by decide)
   obtain⟨⟨u4,d4⟩,f4⟩:=hf.cell hbq hlt 4 (by decide)
   have hnx:=hf.next hbq (es:=Param.pd ⟨name,⟨iy,ji,og,uj⟩⟩) hh hi2 (hlen.trans (Param.jw _)) hlt
   have HF:=Lib.hid hnx
   clear hnx hf hh hi2 hlen
   go_wp2_with fail
   go_roundw
   case rel=>exact⟨k+1,by omega,by go_num,by rw[List.take_add_one,HX.out,List.flatMap_append,ain];exact HF.out⟩
   case measure=>simp[intOf];omega
  ·have hkn:k=n:=by omega
   subst hkn
   have hfin:Lv wr w.heap.size wr.heap.size (.row 5 (ts.flatMap Param.pd)) (.slice (some ⟨w.heap.size,0,none⟩) k k):=by
    rw[List.take_of_length_le (by have:=HN.out;omega)] at hf
    exact hf.done (by rw[aft Param.jw];rw[HN.out]) (Nat.le_refl _) (by simp only[maxLen];omega)
   have hbr:=hf.under.1
   clear hf
   go_wp2_with fail
   go_ret
   exact⟨_,rfl,hfin,hbr⟩
theorem a0e (ts:List Param):ToR 47 (.row 5 (ts.flatMap Param.pd)):=ay9 fun t _=>a2q t
set_option maxHeartbeats 1600000 in
theorem awh {params:List Param} {bg:Int} {cu:ByteArray} {jv:List ByteArray} {mg:List Ty} {async:Bool} (anj:ToR 47 (.row 5 (params.flatMap Param.pd))) (ank:ToC 48 (Ty.pd ⟨bg,cu,jv,mg⟩)):ToC 22 (jh.pd ⟨params,⟨bg,cu,jv,mg⟩,async⟩):=by
 intro B cs w hB hsz h
 obtain⟨adv,oq,uf,rfl,adn,zx,aau⟩:=jh.open_ h
 have afy:=Lib.hid adn
 clear adn
 have ab2:=Lib.hid zx
 clear zx
 have ac2:=Lib.hid aau
 clear aau
 simp only[jh.ay,PD.szL] at hsz
 have HS:=Lib.hid hsz
 clear hsz
 go_enter Tryz.func22,Tryz.ntmps22
 go_wp2_with fail
 obtain⟨w0,hw0⟩:∃ w0,w0=((w.alloc (.cells #[adv,.int .i64 bg,.string cu,oq,uf,.bool async] 54)).alloc (.cells #[.slice none 0 0,.int .i64 0,.string {data:=#[]},.slice none 0 0,.slice none 0 0,.bool false] 62)).alloc (.cells #[.slice none 0 0,.int .i64 0,.string {data:=#[]},.slice none 0 0,.slice none 0 0,.bool false] 62):=⟨_,rfl⟩
 rw[← hw0]
 have bP:Blk w0 w.heap.size 54 #[adv,.int .i64 bg,.string cu,oq,uf,.bool async]:=by rw[hw0];exact((Blk.new w _ _).alloc _).alloc _
 have bR:Blk w0 (w.heap.size+1) 62 #[.slice none 0 0,.int .i64 0,.string {data:=#[]},.slice none 0 0,.slice none 0 0,.bool false]:=by rw[hw0];have:=(Blk.new (w.alloc (.cells #[adv,.int .i64 bg,.string cu,oq,uf,.bool async] 54)) 62 #[.slice none 0 0,.int .i64 0,.string {data:=#[]},.slice none 0 0,.slice none 0 0,.bool false]).alloc (.cells #[.slice none 0 0,.int .i64 0,.string {data:=#[]},.slice none 0 0,.slice none 0 0,.bool false] 62);simpa using this
 have bO:Blk w0 (w.heap.size+1+1) 62 #[.slice none 0 0,.int .i64 0,.string {data:=#[]},.slice none 0 0,.slice none 0 0,.bool false]:=by rw[hw0];have:=Blk.new ((w.alloc (.cells #[adv,.int .i64 bg,.string cu,oq,uf,.bool async] 54)).alloc (.cells #[.slice none 0 0,.int .i64 0,.string {data:=#[]},.slice none 0 0,.slice none 0 0,.bool false] 62)) 62 #[.slice none 0 0,.int .i64 0,.string {data:=#[]},.slice none 0 0,.slice none 0 0,.bool false];simpa using this
 have hB0:Below w.heap.size w w0:=by rw[hw0];exact(((Below.refl _ _).alloc (Nat.le_refl _) _).alloc (by simp) _).alloc (by simp;omega) _
 have hs0:w.heap.size+3≤w0.heap.size:=by rw[hw0];simp
 clear hw0
 refine(anj B adv _ (by have:=hB0.size;omega) (by have:=HS.out;omega) (afy.out.below (hB0.mono hB))).mono ?_
 rintro e w1 ⟨u_params,rfl,alp,hb1⟩
 obtain⟨ai6,ai7,ai8,rfl⟩:=alp.form
 have hB1:=hB0.trans (hb1.mono hB0.size)
 have hs1:=hb1.size
 replace bP:=bP.step hb1
 replace bR:=bR.step hb1
 replace bO:=bO.step hb1
 have fO1_0:=bO.frozen 0
 have cO1_0:w1.cell? ⟨w.heap.size+1+1,0,none⟩=some (.slice none 0 0):=bO.cell 0
 have cP1_1:w1.cell? ⟨w.heap.size,1,none⟩=some (.int .i64 bg):=bP.cell 1
 have cP1_2:w1.cell? ⟨w.heap.size,2,none⟩=some (.string cu):=bP.cell 2
 have cP1_3:w1.cell? ⟨w.heap.size,3,none⟩=some (oq):=bP.cell 3
 have cP1_4:w1.cell? ⟨w.heap.size,4,none⟩=some (uf):=bP.cell 4
 go_wp2_with fail
 clear fO1_0 cO1_0 cP1_1 cP1_2 cP1_3 cP1_4
 obtain⟨w2,hw2⟩:∃ W,W=(w1.setCell ⟨w.heap.size+1+1,0,none⟩ (.slice ai6 ai7 ai8)):=⟨_,rfl⟩
 rw[← hw2]
 replace bP:Blk w2 w.heap.size 54 #[adv,.int .i64 bg,.string cu,oq,uf,.bool async]:=by rw[hw2];exact(bP.far (by simp;try omega) _)
 replace bR:Blk w2 (w.heap.size+1) 62 #[.slice none 0 0,.int .i64 0,.string {data:=#[]},.slice none 0 0,.slice none 0 0,.bool false]:=by rw[hw2];exact(bR.far (by simp;try omega) _)
 replace bO:Blk w2 (w.heap.size+1+1) 62 #[.slice ai6 ai7 ai8,.int .i64 0,.string {data:=#[]},.slice none 0 0,.slice none 0 0,.bool false]:=by rw[hw2];have:=(bO.abo 0 (.slice ai6 ai7 ai8));simpa using this
 have hB2:Below w.heap.size w w2:=by rw[hw2];exact(hB1.setCell (by simp;try omega) _)
 have hs2:w1.heap.size≤w2.heap.size:=by rw[hw2];simp[World.setCell]
 replace alp:=(alp.setCell (p:=⟨w.heap.size+1+1,0,none⟩) (.inl (by simp;omega)) (.slice ai6 ai7 ai8))
 rw[← hw2] at alp
 clear hw2
 refine(ank B [.int .i64 bg,.string cu,oq,uf] _ (by have:=hB2.size;omega) (by have:=HS.out;simp only[Ty.ay,PD.szL];omega) (Ty.close_ (ab2.out.below (hB2.mono hB)) (ac2.out.below (hB2.mono hB)))).mono ?_
 rintro e w3 ⟨u_result,rfl,avg,hb3⟩
 have ll_result:=Lib.hid avg
 obtain⟨ad6,ad7,ad8,aeo,aep,aer,rfl⟩:=Ty.af7 avg
 have hB3:=hB2.trans (hb3.mono hB2.size)
 have hs3:=hb3.size
 replace bP:=bP.step hb3
 replace bR:=bR.step hb3
 replace bO:=bO.step hb3
 replace alp:=alp.step hb3
 have fO3_1:=bO.frozen 1
 have cO3_1:w3.cell? ⟨w.heap.size+1+1,1,none⟩=some (.int .i64 0):=bO.cell 1
 have fO3_2:=bO.frozen 2
 have cO3_2:w3.cell? ⟨w.heap.size+1+1,2,none⟩=some (.string {data:=#[]}):=bO.cell 2
 have fO3_3:=bO.frozen 3
 have cO3_3:w3.cell? ⟨w.heap.size+1+1,3,none⟩=some (.slice none 0 0):=bO.cell 3
 have fO3_4:=bO.frozen 4
 have cO3_4:w3.cell? ⟨w.heap.size+1+1,4,none⟩=some (.slice none 0 0):=bO.cell 4
 have fO3_5:=bO.frozen 5
 have cO3_5:w3.cell? ⟨w.heap.size+1+1,5,none⟩=some (.bool false):=bO.cell 5
 have cP3_5:w3.cell? ⟨w.heap.size,5,none⟩=some (.bool async):=bP.cell 5
 have fR0:=bR.frozen 0
 have cR0:w3.cell? ⟨w.heap.size+1,0,none⟩=some (.slice none 0 0):=bR.cell 0
 have fR1:=bR.frozen 1
 have cR1:w3.cell? ⟨w.heap.size+1,1,none⟩=some (.int .i64 0):=bR.cell 1
 have fR2:=bR.frozen 2
 have cR2:w3.cell? ⟨w.heap.size+1,2,none⟩=some (.string {data:=#[]}):=bR.cell 2
 have fR3:=bR.frozen 3
 have cR3:w3.cell? ⟨w.heap.size+1,3,none⟩=some (.slice none 0 0):=bR.cell 3
 have fR4:=bR.frozen 4
 have cR4:w3.cell? ⟨w.heap.size+1,4,none⟩=some (.slice none 0 0):=bR.cell 4
 have fR5:=bR.frozen 5
 have cR5:w3.cell? ⟨w.heap.size+1,5,none⟩=some (.bool false):=bR.cell 5
 have cO3_0:w3.cell? ⟨w.heap.size+1+1,0,none⟩=some (.slice ai6 ai7 ai8):=bO.cell 0
 go_wp2_with fail
 clear bP bR bO
 refine bodyPost_ret (v:=.agg #[.slice ai6 ai7 ai8,.int .i64 bg,.string cu,.slice ad6 ad7 ad8,.slice aeo aep aer,.bool async]) (by simp[results,Tryz.results22,go_sem,cR0,cR1,cR2,cR3,cR4,cR5]) rfl ⟨[.slice ai6 ai7 ai8,.int .i64 bg,.string cu,.slice ad6 ad7 ad8,.slice aeo aep aer,.bool async],rfl,?_,?_⟩
 ·have base:LvC w3 w0.heap.size w3.heap.size [.row 5 (params.flatMap Param.pd),.lit (.int .i64 bg),.lit (.string cu),.row 1 (jv.flatMap tq),.row 4 (mg.flatMap Ty.pd),.lit (.bool async)] [.slice ai6 ai7 ai8,.int .i64 bg,.string cu,.slice ad6 ad7 ad8,.slice aeo aep aer,.bool async]:=by
   have:=LvC.cons alp (LvC.append avg (LvC.lit (LvC.nil0 _) (.bool async)) (by first|omega|(simp;omega)) (by first|omega|(simp;omega)) (by first|omega|(simp;omega))) (by first|omega|(simp;omega)) (by first|omega|(simp;omega)) (by first|omega|(simp;omega))
   simpa only[Ty.ay,List.cons_append,List.nil_append,List.append_assoc] using this
  rw[jh.ay]
  refine LvC.low (lo2:=w0.heap.size) ?_ (by omega)
  refine LvC.more (hi:=w3.heap.size) ?_ (Nat.le_refl _) (by simp[World.setCell]) (Nat.le_refl _)
  iterate 11 (refine LvC.setCell ?_ (.inl (by simp;omega)) _)
  exact base
 ·iterate 11 (refine Below.setCell ?_ (by simp;try omega) _)
  exact hB3
theorem axr (t:jh):ToC 22 (jh.pd t):=by obtain⟨params,⟨bg,cu,jv,mg⟩,async⟩:=t;exact awh (a0e params) (aqi _)
set_option maxHeartbeats 1600000 in
theorem a2r {name:ByteArray} {ql:List Param} {aj:Int} {au:ByteArray} {iw:List ByteArray} {jl:List Ty} {jg:Bool} (aki:ToC 22 (jh.pd ⟨ql,⟨aj,au,iw,jl⟩,jg⟩)):ToC 59 (Fun.pd ⟨name,⟨ql,⟨aj,au,iw,jl⟩,jg⟩⟩):=by
 intro B cs w hB hsz h
 obtain⟨aar,su,vg,rfl,ab1,zh,aad⟩:=Fun.open_ h
 have ae4:=Lib.hid ab1
 clear ab1
 have ac3:=Lib.hid zh
 clear zh
 have adq:=Lib.hid aad
 clear aad
 simp only[Fun.ay,PD.szL] at hsz
 have HS:=Lib.hid hsz
 clear hsz
 go_enter Tryz.func59,Tryz.ntmps59
 go_wp2_with fail
 obtain⟨w0,hw0⟩:∃ w0,w0=((w.alloc (.cells #[.string name,aar,.int .i64 aj,.string au,su,vg,.bool jg] 92)).alloc (.cells #[.string {data:=#[]},.slice none 0 0,.int .i64 0,.string {data:=#[]},.slice none 0 0,.slice none 0 0,.bool false] 99)).alloc (.cells #[.string name,.slice none 0 0,.int .i64 0,.string {data:=#[]},.slice none 0 0,.slice none 0 0,.bool false] 99):=⟨_,rfl⟩
 rw[← hw0]
 have bP:Blk w0 w.heap.size 92 #[.string name,aar,.int .i64 aj,.string au,su,vg,.bool jg]:=by rw[hw0];exact((Blk.new w _ _).alloc _).alloc _
 have bR:Blk w0 (w.heap.size+1) 99 #[.string {data:=#[]},.slice none 0 0,.int .i64 0,.string {data:=#[]},.slice none 0 0,.slice none 0 0,.bool false]:=by rw[hw0];have:=(Blk.new (w.alloc (.cells #[.string name,aar,.int .i64 aj,.string au,su,vg,.bool jg] 92)) 99 #[.string {data:=#[]},.slice none 0 0,.int .i64 0,.string {data:=#[]},.slice none 0 0,.slice none 0 0,.bool false]).alloc (.cells #[.string name,.slice none 0 0,.int .i64 0,.string {data:=#[]},.slice none 0 0,.slice none 0 0,.bool false] 99);simpa using this
 have bO:Blk w0 (w.heap.size+1+1) 99 #[.string name,.slice none 0 0,.int .i64 0,.string {data:=#[]},.slice none 0 0,.slice none 0 0,.bool false]:=by rw[hw0];have:=Blk.new ((w.alloc (.cells #[.string name,aar,.int .i64 aj,.string au,su,vg,.bool jg] 92)).alloc (.cells #[.string {data:=#[]},.slice none 0 0,.int .i64 0,.string {data:=#[]},.slice none 0 0,.slice none 0 0,.bool false] 99)) 99 #[.string name,.slice none 0 0,.int .i64 0,.string {data:=#[]},.slice none 0 0,.slice none 0 0,.bool false];simpa using this
 have hB0:Below w.heap.size w w0:=by rw[hw0];exact(((Below.refl _ _).alloc (Nat.le_refl _) _).alloc (by simp) _).alloc (by simp;omega) _
 have hs0:w.heap.size+3≤w0.heap.size:=by rw[hw0];simp
 clear hw0
 refine(aki B [aar,.int .i64 aj,.string au,su,vg,.bool jg] _ (by have:=hB0.size;omega) (by have:=HS.out;simp only[jh.ay,PD.szL];omega) (jh.close_ (ae4.out.below (hB0.mono hB)) (ac3.out.below (hB0.mono hB)) (adq.out.below (hB0.mono hB)))).mono ?_
 rintro e w1 ⟨u_typ,rfl,aqj,hb1⟩
 have ll_typ:=Lib.hid aqj
 obtain⟨abp,abq,abr,xq,xu,xw,zk,zl,zn,rfl⟩:=jh.af7 aqj
 have hB1:=hB0.trans (hb1.mono hB0.size)
 have hs1:=hb1.size
 replace bP:=bP.step hb1
 replace bR:=bR.step hb1
 replace bO:=bO.step hb1
 have fO1_1:=bO.frozen 1
 have cO1_1:w1.cell? ⟨w.heap.size+1+1,1,none⟩=some (.slice none 0 0):=bO.cell 1
 have fO1_2:=bO.frozen 2
 have cO1_2:w1.cell? ⟨w.heap.size+1+1,2,none⟩=some (.int .i64 0):=bO.cell 2
 have fO1_3:=bO.frozen 3
 have cO1_3:w1.cell? ⟨w.heap.size+1+1,3,none⟩=some (.string {data:=#[]}):=bO.cell 3
 have fO1_4:=bO.frozen 4
 have cO1_4:w1.cell? ⟨w.heap.size+1+1,4,none⟩=some (.slice none 0 0):=bO.cell 4
 have fO1_5:=bO.frozen 5
 have cO1_5:w1.cell? ⟨w.heap.size+1+1,5,none⟩=some (.slice none 0 0):=bO.cell 5
 have fO1_6:=bO.frozen 6
 have cO1_6:w1.cell? ⟨w.heap.size+1+1,6,none⟩=some (.bool false):=bO.cell 6
 have fR0:=bR.frozen 0
 have cR0:w1.cell? ⟨w.heap.size+1,0,none⟩=some (.string {data:=#[]}):=bR.cell 0
 have fR1:=bR.frozen 1
 have cR1:w1.cell? ⟨w.heap.size+1,1,none⟩=some (.slice none 0 0):=bR.cell 1
 have fR2:=bR.frozen 2
 have cR2:w1.cell? ⟨w.heap.size+1,2,none⟩=some (.int .i64 0):=bR.cell 2
 have fR3:=bR.frozen 3
 have cR3:w1.cell? ⟨w.heap.size+1,3,none⟩=some (.string {data:=#[]}):=bR.cell 3
 have fR4:=bR.frozen 4
 have cR4:w1.cell? ⟨w.heap.size+1,4,none⟩=some (.slice none 0 0):=bR.cell 4
 have fR5:=bR.frozen 5
 have cR5:w1.cell? ⟨w.heap.size+1,5,none⟩=some (.slice none 0 0):=bR.cell 5
 have fR6:=bR.frozen 6
 have cR6:w1.cell? ⟨w.heap.size+1,6,none⟩=some (.bool false):=bR.cell 6
 have cO1_0:w1.cell? ⟨w.heap.size+1+1,0,none⟩=some (.string name):=bO.cell 0
 go_wp2_with fail
 clear bP bR bO
 refine bodyPost_ret (v:=.agg #[.string name,.slice abp abq abr,.int .i64 aj,.string au,.slice xq xu xw,.slice zk zl zn,.bool jg]) (by simp[results,Tryz.results59,go_sem,cR0,cR1,cR2,cR3,cR4,cR5,cR6]) rfl ⟨[.string name,.slice abp abq abr,.int .i64 aj,.string au,.slice xq xu xw,.slice zk zl zn,.bool jg],rfl,?_,?_⟩
 ·have base:LvC w1 w0.heap.size w1.heap.size [.lit (.string name),.row 5 (ql.flatMap Param.pd),.lit (.int .i64 aj),.lit (.string au),.row 1 (iw.flatMap tq),.row 4 (jl.flatMap Ty.pd),.lit (.bool jg)] [.string name,.slice abp abq abr,.int .i64 aj,.string au,.slice xq xu xw,.slice zk zl zn,.bool jg]:=by
   have:=LvC.lit (LvC.append aqj (LvC.nil0 _) (by first|omega|(simp;omega)) (by first|omega|(simp;omega)) (by first|omega|(simp;omega))) (.string name)
   simpa only[jh.ay,List.cons_append,List.nil_append,List.append_assoc] using this
  rw[Fun.ay]
  refine LvC.low (lo2:=w0.heap.size) ?_ (by omega)
  refine LvC.more (hi:=w1.heap.size) ?_ (Nat.le_refl _) (by simp[World.setCell]) (Nat.le_refl _)
  iterate 13 (refine LvC.setCell ?_ (.inl (by simp;omega)) _)
  exact base
 ·iterate 13 (refine Below.setCell ?_ (by simp;try omega) _)
  exact hB1
theorem a5c (t:Fun):ToC 59 (Fun.pd t):=by obtain⟨name,⟨ql,⟨aj,au,iw,jl⟩,jg⟩⟩:=t;exact a2r (axr _)
theorem a0f:(Tryz.prog.info? 99).map (fun i=>(i.zero,i.size,i.bytes))=some (some (.agg #[.string {data:=#[]},.slice none 0 0,.int .i64 0,.string {data:=#[]},.slice none 0 0,.slice none 0 0,.bool false]),7,120):=by kernel_rfl
set_option maxHeartbeats 1600000 in
theorem a0g {ts:List Fun} (ih:∀ t ∈ ts,ToC 59 (Fun.pd t)):ToR 30 (.row 7 (ts.flatMap Fun.pd)):=by
 intro B v w hB hsz h
 rw[aia Fun.jw (by decide)] at hsz
 obtain⟨A,n,c,rfl,hnl,hm,hat⟩:=ny Fun.jw (by decide) h
 obtain⟨i0,hi,hz0,hz1,hz2⟩:=info_parts a0f
 have hmk:=fun W=>ali (P:=Tryz.prog) 28 99 i0 _ Tryz.underlying28 hi hz0 .i64 .i64 n n (Nat.le_refl _) (by rw[hz2];omega) (by omega) W
 rw[hz1] at hmk
 have hnn:n≤1048576:=by omega
 have HN:=Lib.hid hnl
 have HS:=Lib.hid hsz
 have HI:=Lib.hid ih
 clear ih
 clear h hnl hz0 hz1 hz2 hi hm hsz
 go_enter Tryz.func30,Tryz.ntmps30
 go_wp2
 clear hmk
 obtain⟨W1,hW1⟩:∃ W1,W1=w.alloc (.cells (madeCells #[.string {data:=#[]},.slice none 0 0,.int .i64 0,.string {data:=#[]},.slice none 0 0,.slice none 0 0,.bool false] (n * 7)) 99):=⟨_,rfl⟩
 rw[← hW1]
 have hF:Fills w W1 w.heap.size n 7 ((ts.take 0).flatMap Fun.pd) 0:=by
  rw[hW1]
  exact Fills.start (cs:=(madeCells #[.string {data:=#[]},.slice none 0 0,.int .i64 0,.string {data:=#[]},.slice none 0 0,.slice none 0 0,.bool false] (n * 7)).toList) (aem.new w _ _) (by simp[size_madeCells]) ((Below.refl _ _).alloc (Nat.le_refl _) _) (by simp)
 clear hW1
 go_loopw [4] (fun i wr=>∃ k:Nat,k≤n∧i=.int .i64 k∧Fills w wr w.heap.size n 7 ((ts.take k).flatMap Fun.pd) k) (fun i _=>n - (intOf i).toNat)
 case atStart=>exact⟨0,Nat.zero_le _,rfl,hF⟩
 case round=>
  obtain⟨k,hk,rfl,hf⟩:=hrel
  clear hF
  by_cases hlt:k < n
  ·obtain⟨g,off,rfl,hg,hcell⟩:=hat (by omega)
   obtain⟨t,hx,hmem⟩:=vw HN.out hlt
   obtain⟨hbr,hg0⟩:=hf.under
   have hle:=ahp (f:=Fun.pd) hx
   obtain⟨name,⟨ql,⟨aj,au,iw,jl⟩,jg⟩⟩:=t
   have c0:wr.cell? ⟨g,off+k * 7,none⟩=some (.string name):=gq hbr (by omega) (hcell k 0 _ _ hx (by rw[Fun.ay];rfl))
   obtain⟨aar,c1,hr1⟩:∃ u,wr.cell? ⟨g,off+k * 7+1,none⟩=some u∧Rep wr B (.row 5 (ql.flatMap Param.pd)) u:=jy hbr (by omega) hB (hcell k 1 _ _ hx (by rw[Fun.ay];rfl))
   have HR1:=Lib.hid hr1
   clear hr1
   have c2:wr.cell? ⟨g,off+k * 7+2,none⟩=some (.int .i64 aj):=gq hbr (by omega) (hcell k 2 _ _ hx (by rw[Fun.ay];rfl))
   have c3:wr.cell? ⟨g,off+k * 7+3,none⟩=some (.string au):=gq hbr (by omega) (hcell k 3 _ _ hx (by rw[Fun.ay];rfl))
   obtain⟨su,c4,hr4⟩:∃ u,wr.cell? ⟨g,off+k * 7+4,none⟩=some u∧Rep wr B (.row 1 (iw.flatMap tq)) u:=jy hbr (by omega) hB (hcell k 4 _ _ hx (by rw[Fun.ay];rfl))
   have HR4:=Lib.hid hr4
   clear hr4
   obtain⟨vg,c5,hr5⟩:∃ u,wr.cell? ⟨g,off+k * 7+5,none⟩=some u∧Rep wr B (.row 4 (jl.flatMap Ty.pd)) u:=jy hbr (by omega) hB (hcell k 5 _ _ hx (by rw[Fun.ay];rfl))
   have HR5:=Lib.hid hr5
   clear hr5
   have c6:wr.cell? ⟨g,off+k * 7+6,none⟩=some (.bool jg):=gq hbr (by omega) (hcell k 6 _ _ hx (by rw[Fun.ay];rfl))
   have HX:=Lib.hid hx
   have HL:=Lib.hid hle
   have HM:=Lib.hid hmem
   clear hx hcell hle hmem
   go_wp2_with fail
   refine(HI.out _ HM.out B [.string name,aar,.int .i64 aj,.string au,su,vg,.bool jg] _ (by omega) (by have:=HS.out;have:=HL.out;omega) (Fun.close_ HR1.out HR4.out HR5.out)).mono ?_
   rintro e wq ⟨us,rfl,hl,hbq⟩
   obtain⟨abp,abq,abr,xq,xu,xw,zk,zl,zn,rfl⟩:=Fun.af7 hl
   have hlen:=hl.len
   obtain⟨F2,hh,hi2,_⟩:=hl
   obtain⟨⟨u0,d0⟩,f0⟩:=hf.cell hbq hlt 0 (by decide)
   rw[Nat.add_zero] at d0 f0
   obtain⟨⟨u1,d1⟩,f1⟩:=hf.cell hbq hlt 1 (by decide)
   obtain⟨⟨u2,d2⟩,f2⟩:=hf.cell hbq hlt 2 (by decide)
   obtain⟨⟨u3,d3⟩,f3⟩:=hf.cell hbq hlt 3 (by decide)
   obtain⟨⟨u4,d4⟩,f4⟩:=hf.cell hbq hlt 4 (by decide)
   obtain⟨⟨u5,d5⟩,f5⟩:=hf.cell hbq hlt 5 (by decide)
   obtain⟨⟨u6,d6⟩,f6⟩:=hf.cell hbq hlt 6 (by decide)
   have hnx:=hf.next hbq (es:=Fun.pd ⟨name,⟨ql,⟨aj,au,iw,jl⟩,jg⟩⟩) hh hi2 (hlen.trans (Fun.jw _)) hlt
   have HF:=Lib.hid hnx
   clear hnx hf hh hi2 hlen
   go_wp2_with fail
   go_roundw
   case rel=>exact⟨k+1,by omega,by go_num,by rw[List.take_add_one,HX.out,List.flatMap_append,ain];exact HF.out⟩
   case measure=>simp[intOf];omega
  ·have hkn:k=n:=by omega
   subst hkn
   have hfin:Lv wr w.heap.size wr.heap.size (.row 7 (ts.flatMap Fun.pd)) (.slice (some ⟨w.heap.size,0,none⟩) k k):=by
    rw[List.take_of_length_le (by have:=HN.out;omega)] at hf
    exact hf.done (by rw[aft Fun.jw];rw[HN.out]) (Nat.le_refl _) (by simp only[maxLen];omega)
   have hbr:=hf.under.1
   clear hf
   go_wp2_with fail
   go_ret
   exact⟨_,rfl,hfin,hbr⟩
theorem a2s (ts:List Fun):ToR 30 (.row 7 (ts.flatMap Fun.pd)):=a0g fun t _=>a5c t
set_option maxHeartbeats 1600000 in
theorem a2t {package:ByteArray} {name:ByteArray} {version:ByteArray} {resources:List ByteArray} {funcs:List Fun} (akj:ToR 29 (.row 1 (resources.flatMap tq))) (aok:ToR 30 (.row 7 (funcs.flatMap Fun.pd))):ToC 9 (qg.pd ⟨package,name,version,resources,funcs⟩):=by
 intro B cs w hB hsz h
 obtain⟨qh,aat,rfl,aa2,adw⟩:=qg.open_ h
 have adh:=Lib.hid aa2
 clear aa2
 have afu:=Lib.hid adw
 clear adw
 simp only[qg.ay,PD.szL] at hsz
 have HS:=Lib.hid hsz
 clear hsz
 go_enter Tryz.func9,Tryz.ntmps9
 go_wp2_with fail
 obtain⟨w0,hw0⟩:∃ w0,w0=((w.alloc (.cells #[.string package,.string name,.string version,qh,aat] 25)).alloc (.cells #[.string {data:=#[]},.string {data:=#[]},.string {data:=#[]},.slice none 0 0,.slice none 0 0] 30)).alloc (.cells #[.string package,.string name,.string version,.slice none 0 0,.slice none 0 0] 30):=⟨_,rfl⟩
 rw[← hw0]
 have bP:Blk w0 w.heap.size 25 #[.string package,.string name,.string version,qh,aat]:=by rw[hw0];exact((Blk.new w _ _).alloc _).alloc _
 have bR:Blk w0 (w.heap.size+1) 30 #[.string {data:=#[]},.string {data:=#[]},.string {data:=#[]},.slice none 0 0,.slice none 0 0]:=by rw[hw0];have:=(Blk.new (w.alloc (.cells #[.string package,.string name,.string version,qh,aat] 25)) 30 #[.string {data:=#[]},.string {data:=#[]},.string {data:=#[]},.slice none 0 0,.slice none 0 0]).alloc (.cells #[.string package,.string name,.string version,.slice none 0 0,.slice none 0 0] 30);simpa using this
 have bO:Blk w0 (w.heap.size+1+1) 30 #[.string package,.string name,.string version,.slice none 0 0,.slice none 0 0]:=by rw[hw0];have:=Blk.new ((w.alloc (.cells #[.string package,.string name,.string version,qh,aat] 25)).alloc (.cells #[.string {data:=#[]},.string {data:=#[]},.string {data:=#[]},.slice none 0 0,.slice none 0 0] 30)) 30 #[.string package,.string name,.string version,.slice none 0 0,.slice none 0 0];simpa using this
 have hB0:Below w.heap.size w w0:=by rw[hw0];exact(((Below.refl _ _).alloc (Nat.le_refl _) _).alloc (by simp) _).alloc (by simp;omega) _
 have hs0:w.heap.size+3≤w0.heap.size:=by rw[hw0];simp
 clear hw0
 refine(akj B qh _ (by have:=hB0.size;omega) (by have:=HS.out;omega) (adh.out.below (hB0.mono hB))).mono ?_
 rintro e w1 ⟨u_resources,rfl,aio,hb1⟩
 obtain⟨agn,agp,agq,rfl⟩:=aio.form
 have hB1:=hB0.trans (hb1.mono hB0.size)
 have hs1:=hb1.size
 replace bP:=bP.step hb1
 replace bR:=bR.step hb1
 replace bO:=bO.step hb1
 have fO1_3:=bO.frozen 3
 have cO1_3:w1.cell? ⟨w.heap.size+1+1,3,none⟩=some (.slice none 0 0):=bO.cell 3
 have cP1_4:w1.cell? ⟨w.heap.size,4,none⟩=some (aat):=bP.cell 4
 go_wp2_with fail
 clear fO1_3 cO1_3 cP1_4
 obtain⟨w2,hw2⟩:∃ W,W=(w1.setCell ⟨w.heap.size+1+1,3,none⟩ (.slice agn agp agq)):=⟨_,rfl⟩
 rw[← hw2]
 replace bP:Blk w2 w.heap.size 25 #[.string package,.string name,.string version,qh,aat]:=by rw[hw2];exact(bP.far (by simp;try omega) _)
 replace bR:Blk w2 (w.heap.size+1) 30 #[.string {data:=#[]},.string {data:=#[]},.string {data:=#[]},.slice none 0 0,.slice none 0 0]:=by rw[hw2];exact(bR.far (by simp;try omega) _)
 replace bO:Blk w2 (w.heap.size+1+1) 30 #[.string package,.string name,.string version,.slice agn agp agq,.slice none 0 0]:=by rw[hw2];have:=(bO.abo 3 (.slice agn agp agq));simpa using this
 have hB2:Below w.heap.size w w2:=by rw[hw2];exact(hB1.setCell (by simp;try omega) _)
 have hs2:w1.heap.size≤w2.heap.size:=by rw[hw2];simp[World.setCell]
 replace aio:=(aio.setCell (p:=⟨w.heap.size+1+1,3,none⟩) (.inl (by simp;omega)) (.slice agn agp agq))
 rw[← hw2] at aio
 clear hw2
 refine(aok B aat _ (by have:=hB2.size;omega) (by have:=HS.out;omega) (afu.out.below (hB2.mono hB))).mono ?_
 rintro e w3 ⟨u_funcs,rfl,a3y,hb3⟩
 obtain⟨apn,apo,apq,rfl⟩:=a3y.form
 have hB3:=hB2.trans (hb3.mono hB2.size)
 have hs3:=hb3.size
 replace bP:=bP.step hb3
 replace bR:=bR.step hb3
 replace bO:=bO.step hb3
 replace aio:=aio.step hb3
 have fO3_4:=bO.frozen 4
 have cO3_4:w3.cell? ⟨w.heap.size+1+1,4,none⟩=some (.slice none 0 0):=bO.cell 4
 have fR0:=bR.frozen 0
 have cR0:w3.cell? ⟨w.heap.size+1,0,none⟩=some (.string {data:=#[]}):=bR.cell 0
 have fR1:=bR.frozen 1
 have cR1:w3.cell? ⟨w.heap.size+1,1,none⟩=some (.string {data:=#[]}):=bR.cell 1
 have fR2:=bR.frozen 2
 have cR2:w3.cell? ⟨w.heap.size+1,2,none⟩=some (.string {data:=#[]}):=bR.cell 2
 have fR3:=bR.frozen 3
 have cR3:w3.cell? ⟨w.heap.size+1,3,none⟩=some (.slice none 0 0):=bR.cell 3
 have fR4:=bR.frozen 4
 have cR4:w3.cell? ⟨w.heap.size+1,4,none⟩=some (.slice none 0 0):=bR.cell 4
 have cO3_0:w3.cell? ⟨w.heap.size+1+1,0,none⟩=some (.string package):=bO.cell 0
 have cO3_1:w3.cell? ⟨w.heap.size+1+1,1,none⟩=some (.string name):=bO.cell 1
 have cO3_2:w3.cell? ⟨w.heap.size+1+1,2,none⟩=some (.string version):=bO.cell 2
 have cO3_3:w3.cell? ⟨w.heap.size+1+1,3,none⟩=some (.slice agn agp agq):=bO.cell 3
 go_wp2_with fail
 clear bP bR bO
 refine bodyPost_ret (v:=.agg #[.string package,.string name,.string version,.slice agn agp agq,.slice apn apo apq]) (by simp[results,Tryz.results9,go_sem,cR0,cR1,cR2,cR3,cR4]) rfl ⟨[.string package,.string name,.string version,.slice agn agp agq,.slice apn apo apq],rfl,?_,?_⟩
 ·have base:LvC w3 w0.heap.size w3.heap.size [.lit (.string package),.lit (.string name),.lit (.string version),.row 1 (resources.flatMap tq),.row 7 (funcs.flatMap Fun.pd)] [.string package,.string name,.string version,.slice agn agp agq,.slice apn apo apq]:=by
   have:=LvC.lit (LvC.lit (LvC.lit (LvC.cons aio (LvC.cons a3y (LvC.nil0 _) (by first|omega|(simp;omega)) (by first|omega|(simp;omega)) (by first|omega|(simp;omega))) (by first|omega|(simp;omega)) (by first|omega|(simp;omega)) (by first|omega|(simp;omega))) (.string version)) (.string name)) (.string package)
   exact this
  rw[qg.ay]
  refine LvC.low (lo2:=w0.heap.size) ?_ (by omega)
  refine LvC.more (hi:=w3.heap.size) ?_ (Nat.le_refl _) (by simp[World.setCell]) (Nat.le_refl _)
  iterate 6 (refine LvC.setCell ?_ (.inl (by simp;omega)) _)
  exact base
 ·iterate 6 (refine Below.setCell ?_ (by simp;try omega) _)
  exact hB3
theorem ak1 (t:qg):ToC 9 (qg.pd t):=by obtain⟨package,name,version,resources,funcs⟩:=t;exact a2t apx (a2s funcs)
end Go.Proofs.YtbafphecjijdmaaGreatDoor
