/-
  The laws' own helpers 'to..' over the program's types (by program: tygen2.py, tyfam.py).
-/
import Derived.Test.YtbafphecjijdmaaGreatDoorUb04
import Derived.Test.YtbafphecjijdmaaGreatDoorUb05
namespace Go.Proofs.YtbafphecjijdmaaGreatDoor
open Go.RowKit
set_option linter.all false
set_option maxRecDepth 100000
theorem a1q:(Tryz.prog.info? 9).map (fun i=>(i.zero,i.size,i.bytes))=some (some (.string {data:=#[]}),1,16):=by kernel_rfl
set_option maxHeartbeats 1600000 in
theorem ar1 {ts:List ByteArray}:ToR 29 (.row 1 (ts.flatMap qj)):=by
 intro B v w hB hsz h
 rw[ahw aaz (by decide)] at hsz
 obtain⟨A,n,c,rfl,hnl,hm,hat⟩:=ni aaz (by decide) h
 obtain⟨i0,hi,hz0,hz1,hz2⟩:=info_parts a1q
 have hmk:=fun W=>ak4 (P:=Tryz.prog) 22 9 i0 _ Tryz.underlying22 hi hz0 .i64 .i64 n n (zql _) (by rw[hz2];omega) (by omega) W
 rw[hz1,Nat.mul_one] at hmk
 have hnn:n≤1048576:=by omega
 have HN:=zqd hnl
 clear h hnl hz0 hz1 hz2 hi hm hsz
 go_enter Tryz.func29,Tryz.ntmps29
 go_wp2
 clear hmk
 obtain⟨W1,hW1⟩:∃ W1,W1=w.alloc (.cells (madeCells #[.string {data:=#[]}] (n)) 9):=⟨_,rfl⟩
 rw[← hW1]
 have hF:Fills w W1 w.heap.size n 1 ((ts.take 0).flatMap qj) 0:=by
  rw[hW1]
  exact Fills.start (cs:=(madeCells #[.string {data:=#[]}] (n)).toList) (ae7.new w _ _) (by simp[size_madeCells]) ((zqf _ _).alloc (zql _) _) (by simp)
 clear hW1
 go_loopw [4] (fun i wr=>∃ k:Nat,k≤n∧i=.int .i64 k∧Fills w wr w.heap.size n 1 ((ts.take k).flatMap qj) k) (fun i _=>n - (intOf i).toNat)
 case atStart=>exact⟨0,Nat.zero_le _,rfl,hF⟩
 case round=>
  obtain⟨k,hk,rfl,hf⟩:=hrel
  clear hF
  by_cases hlt:k < n
  ·obtain⟨g,off,rfl,hg,hcell⟩:=hat (by omega)
   obtain⟨t,hx,hmem⟩:=um HN.out hlt
   obtain⟨hbr,hg0⟩:=hf.under
   have c0:wr.cell? ⟨g,off+k,none⟩=some (.string t):=bg hbr (by omega) (by have:=hcell k 0 _ _ hx rfl;simpa using this)
   have HX:=zqd hx
   clear hx hcell
   obtain⟨⟨u0,d0⟩,f0⟩:=hf.cell (zqf _ _) hlt 0 (by decide)
   rw[Nat.add_zero,Nat.mul_one] at d0 f0
   have hnx:=hf.next (zqf _ _) (es:=qj t) (uh.cons (Hold.a5l wr (.string t)) (uh.nil wr)) (In.nil _ _) (rfl) hlt
   rw[Nat.mul_one] at hnx
   have HF:=zqd hnx
   clear hnx hf
   go_wp2_with fail
   go_roundw
   case rel=>exact⟨k+1,by omega,by go_num,by rw[List.take_add_one,HX.out,List.flatMap_append,aiy];exact HF.out⟩
   case measure=>simp[intOf];omega
  ·have hkn:k=n:=by omega
   subst hkn
   have hfin:Lv wr w.heap.size wr.heap.size (.row 1 (ts.flatMap qj)) (.slice (some ⟨w.heap.size,0,none⟩) k k):=by
    rw[List.take_of_length_le (by have:=HN.out;omega)] at hf
    exact hf.done (by rw[afw aaz];rw[HN.out]) (zql _) (by simp only[maxLen];omega)
   have hbr:=hf.under.1
   clear hf
   go_wp2_with fail
   go_ret
   exact⟨_,rfl,hfin,hbr⟩
theorem au5:(Tryz.prog.info? 60).map (fun i=>(i.zero,i.size,i.bytes))=some (some (.agg #[.int .i64 0,.string {data:=#[]},.slice none 0 0,.slice none 0 0]),4,72):=by kernel_rfl
set_option maxHeartbeats 1600000 in
theorem a6c {ts:List Ty} (ih:∀ t ∈ ts,ToC 48 (Ty.pd t)):ToR 82 (.row 4 (ts.flatMap Ty.pd)):=by
 intro B v w hB hsz h
 rw[ahw Ty.jd (by decide)] at hsz
 obtain⟨A,n,c,rfl,hnl,hm,hat⟩:=ni Ty.jd (by decide) h
 obtain⟨i0,hi,hz0,hz1,hz2⟩:=info_parts au5
 have hmk:=fun W=>ak4 (P:=Tryz.prog) 58 60 i0 _ Tryz.underlying58 hi hz0 .i64 .i64 n n (zql _) (by rw[hz2];omega) (by omega) W
 rw[hz1] at hmk
 have hnn:n≤1048576:=by omega
 have HN:=zqd hnl
 have HS:=zqd hsz
 have HI:=zqd ih
 clear ih
 clear h hnl hz0 hz1 hz2 hi hm hsz
 go_enter Tryz.func82,Tryz.ntmps82
 go_wp2
 clear hmk
 obtain⟨W1,hW1⟩:∃ W1,W1=w.alloc (.cells (madeCells #[.int .i64 0,.string {data:=#[]},.slice none 0 0,.slice none 0 0] (n * 4)) 60):=⟨_,rfl⟩
 rw[← hW1]
 have hF:Fills w W1 w.heap.size n 4 ((ts.take 0).flatMap Ty.pd) 0:=by
  rw[hW1]
  exact Fills.start (cs:=(madeCells #[.int .i64 0,.string {data:=#[]},.slice none 0 0,.slice none 0 0] (n * 4)).toList) (ae7.new w _ _) (by simp[size_madeCells]) ((zqf _ _).alloc (zql _) _) (by simp)
 clear hW1
 go_loopw [4] (fun i wr=>∃ k:Nat,k≤n∧i=.int .i64 k∧Fills w wr w.heap.size n 4 ((ts.take k).flatMap Ty.pd) k) (fun i _=>n - (intOf i).toNat)
 case atStart=>exact⟨0,Nat.zero_le _,rfl,hF⟩
 case round=>
  obtain⟨k,hk,rfl,hf⟩:=hrel
  clear hF
  by_cases hlt:k < n
  ·obtain⟨g,off,rfl,hg,hcell⟩:=hat (by omega)
   obtain⟨t,hx,hmem⟩:=um HN.out hlt
   obtain⟨hbr,hg0⟩:=hf.under
   have hle:=ahf (f:=Ty.pd) hx
   obtain⟨kind,name,labels,kids⟩:=t
   have c0:wr.cell? ⟨g,off+k * 4,none⟩=some (.int .i64 kind):=bg hbr (by omega) (hcell k 0 _ _ hx (by rw[Ty.aj];rfl))
   have c1:wr.cell? ⟨g,off+k * 4+1,none⟩=some (.string name):=bg hbr (by omega) (hcell k 1 _ _ hx (by rw[Ty.aj];rfl))
   obtain⟨iw,c2,hr2⟩:∃ u,wr.cell? ⟨g,off+k * 4+2,none⟩=some u∧Rep wr B (.row 1 (labels.flatMap qj)) u:=jc hbr (by omega) hB (hcell k 2 _ _ hx (by rw[Ty.aj];rfl))
   have HR2:=zqd hr2
   clear hr2
   obtain⟨qw,c3,hr3⟩:∃ u,wr.cell? ⟨g,off+k * 4+3,none⟩=some u∧Rep wr B (.row 4 (kids.flatMap Ty.pd)) u:=jc hbr (by omega) hB (hcell k 3 _ _ hx (by rw[Ty.aj];rfl))
   have HR3:=zqd hr3
   clear hr3
   have HX:=zqd hx
   have HL:=zqd hle
   have HM:=zqd hmem
   clear hx hcell hle hmem
   go_wp2_with fail
   refine(HI.out _ HM.out B [.int .i64 kind,.string name,iw,qw] _ (by omega) (by have:=HS.out;have:=HL.out;omega) (Ty.close_ HR2.out HR3.out)).mono ?_
   rintro e wq ⟨us,rfl,hl,hbq⟩
   obtain⟨jo,ig,ji,qg,gy,l9,rfl⟩:=Ty.afv hl
   have hlen:=hl.len
   obtain⟨F2,hh,hi2,_⟩:=hl
   obtain⟨⟨u0,d0⟩,f0⟩:=hf.cell hbq hlt 0 (by decide)
   rw[Nat.add_zero] at d0 f0
   obtain⟨⟨u1,d1⟩,f1⟩:=hf.cell hbq hlt 1 (by decide)
   obtain⟨⟨u2,d2⟩,f2⟩:=hf.cell hbq hlt 2 (by decide)
   obtain⟨⟨u3,d3⟩,f3⟩:=hf.cell hbq hlt 3 (by decide)
   have hnx:=hf.next hbq (es:=Ty.pd ⟨kind,name,labels,kids⟩) hh hi2 (hlen.trans (Ty.jd _)) hlt
   have HF:=zqd hnx
   clear hnx hf hh hi2 hlen
   go_wp2_with fail
   go_roundw
   case rel=>exact⟨k+1,by omega,by go_num,by rw[List.take_add_one,HX.out,List.flatMap_append,aiy];exact HF.out⟩
   case measure=>simp[intOf];omega
  ·have hkn:k=n:=by omega
   subst hkn
   have hfin:Lv wr w.heap.size wr.heap.size (.row 4 (ts.flatMap Ty.pd)) (.slice (some ⟨w.heap.size,0,none⟩) k k):=by
    rw[List.take_of_length_le (by have:=HN.out;omega)] at hf
    exact hf.done (by rw[afw Ty.jd];rw[HN.out]) (zql _) (by simp only[maxLen];omega)
   have hbr:=hf.under.1
   clear hf
   go_wp2_with fail
   go_ret
   exact⟨_,rfl,hfin,hbr⟩
set_option maxHeartbeats 1600000 in
theorem bae {kind:Int} {name:ByteArray} {labels:List ByteArray} {kids:List Ty} (ao0:ToR 29 (.row 1 (labels.flatMap qj))) (arv:ToR 82 (.row 4 (kids.flatMap Ty.pd))):ToC 48 (Ty.pd ⟨kind,name,labels,kids⟩):=by
 intro B cs w hB hsz h
 obtain⟨iw,qw,rfl,bf,gu⟩:=Ty.open_ h
 have pz:=zqd bf
 clear bf
 have qo:=zqd gu
 clear gu
 simp only[Ty.aj,PD.szL] at hsz
 have HS:=zqd hsz
 clear hsz
 go_enter Tryz.func48,Tryz.ntmps48
 go_wp2_with fail
 obtain⟨w0,hw0⟩:∃ w0,w0=((w.alloc (.cells #[.int .i64 kind,.string name,iw,qw] 52)).alloc (.cells #[.int .i64 0,.string {data:=#[]},.slice none 0 0,.slice none 0 0] 60)).alloc (.cells #[.int .i64 kind,.string name,.slice none 0 0,.slice none 0 0] 60):=⟨_,rfl⟩
 rw[← hw0]
 have bP:Blk w0 w.heap.size 52 #[.int .i64 kind,.string name,iw,qw]:=by rw[hw0];exact((Blk.new w _ _).alloc _).alloc _
 have bR:Blk w0 (w.heap.size+1) 60 #[.int .i64 0,.string {data:=#[]},.slice none 0 0,.slice none 0 0]:=by rw[hw0];have:=(Blk.new (w.alloc (.cells #[.int .i64 kind,.string name,iw,qw] 52)) 60 #[.int .i64 0,.string {data:=#[]},.slice none 0 0,.slice none 0 0]).alloc (.cells #[.int .i64 kind,.string name,.slice none 0 0,.slice none 0 0] 60);simpa using this
 have bO:Blk w0 (w.heap.size+1+1) 60 #[.int .i64 kind,.string name,.slice none 0 0,.slice none 0 0]:=by rw[hw0];have:=Blk.new ((w.alloc (.cells #[.int .i64 kind,.string name,iw,qw] 52)).alloc (.cells #[.int .i64 0,.string {data:=#[]},.slice none 0 0,.slice none 0 0] 60)) 60 #[.int .i64 kind,.string name,.slice none 0 0,.slice none 0 0];simpa using this
 have hB0:Below w.heap.size w w0:=by rw[hw0];exact(((zqf _ _).alloc (zql _) _).alloc (by simp) _).alloc (by simp;omega) _
 have hs0:w.heap.size+3≤w0.heap.size:=by rw[hw0];simp
 clear hw0
 refine(ao0 B iw _ (by have:=hB0.size;omega) (by have:=HS.out;omega) (pz.out.below (hB0.mono hB))).mono ?_
 rintro e w1 ⟨bul,rfl,amq,hb1⟩
 obtain⟨jo,ig,ji,rfl⟩:=amq.form
 have hB1:=hB0.trans (hb1.mono hB0.size)
 have hs1:=hb1.size
 replace bP:=bP.step hb1
 replace bR:=bR.step hb1
 replace bO:=bO.step hb1
 have bde:=bO.frozen 2
 have bdf:w1.cell? ⟨w.heap.size+1+1,2,none⟩=some (.slice none 0 0):=bO.cell 2
 have bdg:w1.cell? ⟨w.heap.size,3,none⟩=some (qw):=bP.cell 3
 go_wp2_with fail
 clear bde bdf bdg
 obtain⟨w2,hw2⟩:∃ W,W=(w1.setCell ⟨w.heap.size+1+1,2,none⟩ (.slice jo ig ji)):=⟨_,rfl⟩
 rw[← hw2]
 replace bP:Blk w2 w.heap.size 52 #[.int .i64 kind,.string name,iw,qw]:=by rw[hw2];exact(bP.far (by simp;try omega) _)
 replace bR:Blk w2 (w.heap.size+1) 60 #[.int .i64 0,.string {data:=#[]},.slice none 0 0,.slice none 0 0]:=by rw[hw2];exact(bR.far (by simp;try omega) _)
 replace bO:Blk w2 (w.heap.size+1+1) 60 #[.int .i64 kind,.string name,.slice jo ig ji,.slice none 0 0]:=by rw[hw2];have:=(bO.aam 2 (.slice jo ig ji));simpa using this
 have hB2:Below w.heap.size w w2:=by rw[hw2];exact(hB1.setCell (by simp;try omega) _)
 have hs2:w1.heap.size≤w2.heap.size:=by rw[hw2];simp[World.setCell]
 replace amq:=(amq.setCell (p:=⟨w.heap.size+1+1,2,none⟩) (.inl (by simp;omega)) (.slice jo ig ji))
 rw[← hw2] at amq
 clear hw2
 refine(arv B qw _ (by have:=hB2.size;omega) (by have:=HS.out;omega) (qo.out.below (hB2.mono hB))).mono ?_
 rintro e w3 ⟨b0w,rfl,bf1,hb3⟩
 obtain⟨qg,gy,l9,rfl⟩:=bf1.form
 have hB3:=hB2.trans (hb3.mono hB2.size)
 have hs3:=hb3.size
 replace bP:=bP.step hb3
 replace bR:=bR.step hb3
 replace bO:=bO.step hb3
 replace amq:=amq.step hb3
 have bsx:=bO.frozen 3
 have bdh:w3.cell? ⟨w.heap.size+1+1,3,none⟩=some (.slice none 0 0):=bO.cell 3
 have fR0:=bR.frozen 0
 have cR0:w3.cell? ⟨w.heap.size+1,0,none⟩=some (.int .i64 0):=bR.cell 0
 have fR1:=bR.frozen 1
 have cR1:w3.cell? ⟨w.heap.size+1,1,none⟩=some (.string {data:=#[]}):=bR.cell 1
 have fR2:=bR.frozen 2
 have cR2:w3.cell? ⟨w.heap.size+1,2,none⟩=some (.slice none 0 0):=bR.cell 2
 have fR3:=bR.frozen 3
 have cR3:w3.cell? ⟨w.heap.size+1,3,none⟩=some (.slice none 0 0):=bR.cell 3
 obtain⟨bdi,bdj,bdk⟩:=zc3 bO
 go_wp2_with fail
 clear bP bR bO
 refine bodyPost_ret (v:=.agg #[.int .i64 kind,.string name,.slice jo ig ji,.slice qg gy l9]) (by simp[results,Tryz.results48,go_sem,cR0,cR1,cR2,cR3]) rfl ⟨[.int .i64 kind,.string name,.slice jo ig ji,.slice qg gy l9],rfl,?_,?_⟩
 ·have base:LvC w3 w0.heap.size w3.heap.size [.lit (.int .i64 kind),.lit (.string name),.row 1 (labels.flatMap qj),.row 4 (kids.flatMap Ty.pd)] [.int .i64 kind,.string name,.slice jo ig ji,.slice qg gy l9]:=by
   have:=LvC.lit (LvC.lit (LvC.cons amq (LvC.cons bf1 (LvC.nil0 _) (by first|omega|(simp;omega)) (by first|omega|(simp;omega)) (by first|omega|(simp;omega))) (by first|omega|(simp;omega)) (by first|omega|(simp;omega)) (by first|omega|(simp;omega))) (.string name)) (.int .i64 kind)
   exact this
  rw[Ty.aj]
  refine LvC.low (lo2:=w0.heap.size) ?_ (by omega)
  refine LvC.more (hi:=w3.heap.size) ?_ (zql _) (by simp[World.setCell]) (zql _)
  iterate 5 (refine LvC.setCell ?_ (.inl (by simp;omega)) _)
  exact base
 ·iterate 5 (refine Below.setCell ?_ (by simp;try omega) _)
  exact hB3
mutual
theorem asw:∀ t:Ty,ToC 48 (Ty.pd t)
 | .mk kind name labels kids=>bae ar1 (a6c (az0 kids))
theorem az0:∀ ts:List Ty,∀ t ∈ ts,ToC 48 (Ty.pd t)
 | [],x,hx=>absurd hx (by simp)
 | t ::r,x,hx=>(List.mem_cons.1 hx).elim (fun e=>e ▸ asw t) (fun h=>az0 r x h)
end
set_option maxHeartbeats 1600000 in
theorem a6d {name:ByteArray} {je:Int} {jm:ByteArray} {ou:List ByteArray} {uj:List Ty} (alf:ToC 48 (Ty.pd ⟨je,jm,ou,uj⟩)):ToC 81 (Param.pd ⟨name,⟨je,jm,ou,uj⟩⟩):=by
 intro B cs w hB hsz h
 obtain⟨aa0,ab7,rfl,abo,acw⟩:=Param.open_ h
 have ac7:=zqd abo
 clear abo
 have aef:=zqd acw
 clear acw
 simp only[Param.aj,PD.szL] at hsz
 have HS:=zqd hsz
 clear hsz
 go_enter Tryz.func81,Tryz.ntmps81
 go_wp2_with fail
 obtain⟨w0,hw0⟩:∃ w0,w0=((w.alloc (.cells #[.string name,.int .i64 je,.string jm,aa0,ab7] 112)).alloc (.cells #[.string {data:=#[]},.int .i64 0,.string {data:=#[]},.slice none 0 0,.slice none 0 0] 115)).alloc (.cells #[.string name,.int .i64 0,.string {data:=#[]},.slice none 0 0,.slice none 0 0] 115):=⟨_,rfl⟩
 rw[← hw0]
 have bP:Blk w0 w.heap.size 112 #[.string name,.int .i64 je,.string jm,aa0,ab7]:=by rw[hw0];exact((Blk.new w _ _).alloc _).alloc _
 have bR:Blk w0 (w.heap.size+1) 115 #[.string {data:=#[]},.int .i64 0,.string {data:=#[]},.slice none 0 0,.slice none 0 0]:=by rw[hw0];have:=(Blk.new (w.alloc (.cells #[.string name,.int .i64 je,.string jm,aa0,ab7] 112)) 115 #[.string {data:=#[]},.int .i64 0,.string {data:=#[]},.slice none 0 0,.slice none 0 0]).alloc (.cells #[.string name,.int .i64 0,.string {data:=#[]},.slice none 0 0,.slice none 0 0] 115);simpa using this
 have bO:Blk w0 (w.heap.size+1+1) 115 #[.string name,.int .i64 0,.string {data:=#[]},.slice none 0 0,.slice none 0 0]:=by rw[hw0];have:=Blk.new ((w.alloc (.cells #[.string name,.int .i64 je,.string jm,aa0,ab7] 112)).alloc (.cells #[.string {data:=#[]},.int .i64 0,.string {data:=#[]},.slice none 0 0,.slice none 0 0] 115)) 115 #[.string name,.int .i64 0,.string {data:=#[]},.slice none 0 0,.slice none 0 0];simpa using this
 have hB0:Below w.heap.size w w0:=by rw[hw0];exact(((zqf _ _).alloc (zql _) _).alloc (by simp) _).alloc (by simp;omega) _
 have hs0:w.heap.size+3≤w0.heap.size:=by rw[hw0];simp
 clear hw0
 refine(alf B [.int .i64 je,.string jm,aa0,ab7] _ (by have:=hB0.size;omega) (by have:=HS.out;simp only[Ty.aj,PD.szL];omega) (Ty.close_ (ac7.out.below (hB0.mono hB)) (aef.out.below (hB0.mono hB)))).mono ?_
 rintro e w1 ⟨bsy,rfl,asx,hb1⟩
 have bqy:=zqd asx
 obtain⟨abr,abt,abu,ac0,ac1,ac2,rfl⟩:=Ty.afv asx
 have hB1:=hB0.trans (hb1.mono hB0.size)
 have hs1:=hb1.size
 replace bP:=bP.step hb1
 replace bR:=bR.step hb1
 replace bO:=bO.step hb1
 have bsz:=bO.frozen 1
 have bs0:w1.cell? ⟨w.heap.size+1+1,1,none⟩=some (.int .i64 0):=bO.cell 1
 have bde:=bO.frozen 2
 have bdf:w1.cell? ⟨w.heap.size+1+1,2,none⟩=some (.string {data:=#[]}):=bO.cell 2
 have az1:=bO.frozen 3
 have az2:w1.cell? ⟨w.heap.size+1+1,3,none⟩=some (.slice none 0 0):=bO.cell 3
 have bs1:=bO.frozen 4
 have bs2:w1.cell? ⟨w.heap.size+1+1,4,none⟩=some (.slice none 0 0):=bO.cell 4
 have fR0:=bR.frozen 0
 have cR0:w1.cell? ⟨w.heap.size+1,0,none⟩=some (.string {data:=#[]}):=bR.cell 0
 have fR1:=bR.frozen 1
 have cR1:w1.cell? ⟨w.heap.size+1,1,none⟩=some (.int .i64 0):=bR.cell 1
 have fR2:=bR.frozen 2
 have cR2:w1.cell? ⟨w.heap.size+1,2,none⟩=some (.string {data:=#[]}):=bR.cell 2
 have fR3:=bR.frozen 3
 have cR3:w1.cell? ⟨w.heap.size+1,3,none⟩=some (.slice none 0 0):=bR.cell 3
 have fR4:=bR.frozen 4
 have cR4:w1.cell? ⟨w.heap.size+1,4,none⟩=some (.slice none 0 0):=bR.cell 4
 have bdl:w1.cell? ⟨w.heap.size+1+1,0,none⟩=some (.string name):=bO.cell 0
 go_wp2_with fail
 clear bP bR bO
 refine bodyPost_ret (v:=.agg #[.string name,.int .i64 je,.string jm,.slice abr abt abu,.slice ac0 ac1 ac2]) (by simp[results,Tryz.results81,go_sem,cR0,cR1,cR2,cR3,cR4]) rfl ⟨[.string name,.int .i64 je,.string jm,.slice abr abt abu,.slice ac0 ac1 ac2],rfl,?_,?_⟩
 ·have base:LvC w1 w0.heap.size w1.heap.size [.lit (.string name),.lit (.int .i64 je),.lit (.string jm),.row 1 (ou.flatMap qj),.row 4 (uj.flatMap Ty.pd)] [.string name,.int .i64 je,.string jm,.slice abr abt abu,.slice ac0 ac1 ac2]:=by
   have:=LvC.lit (LvC.append asx (LvC.nil0 _) (by first|omega|(simp;omega)) (by first|omega|(simp;omega)) (by first|omega|(simp;omega))) (.string name)
   simpa only[Ty.aj,List.cons_append,List.nil_append,List.append_assoc] using this
  rw[Param.aj]
  refine LvC.low (lo2:=w0.heap.size) ?_ (by omega)
  refine LvC.more (hi:=w1.heap.size) ?_ (zql _) (by simp[World.setCell]) (zql _)
  iterate 9 (refine LvC.setCell ?_ (.inl (by simp;omega)) _)
  exact base
 ·iterate 9 (refine Below.setCell ?_ (by simp;try omega) _)
  exact hB1
theorem baf (t:Param):ToC 81 (Param.pd t):=by obtain⟨name,⟨je,jm,ou,uj⟩⟩:=t;exact a6d (asw _)
theorem aun:(Tryz.prog.info? 115).map (fun i=>(i.zero,i.size,i.bytes))=some (some (.agg #[.string {data:=#[]},.int .i64 0,.string {data:=#[]},.slice none 0 0,.slice none 0 0]),5,88):=by kernel_rfl
set_option maxHeartbeats 1600000 in
theorem a4h {ts:List Param} (ih:∀ t ∈ ts,ToC 81 (Param.pd t)):ToR 47 (.row 5 (ts.flatMap Param.pd)):=by
 intro B v w hB hsz h
 rw[ahw Param.jd (by decide)] at hsz
 obtain⟨A,n,c,rfl,hnl,hm,hat⟩:=ni Param.jd (by decide) h
 obtain⟨i0,hi,hz0,hz1,hz2⟩:=info_parts aun
 have hmk:=fun W=>ak4 (P:=Tryz.prog) 57 115 i0 _ Tryz.underlying57 hi hz0 .i64 .i64 n n (zql _) (by rw[hz2];omega) (by omega) W
 rw[hz1] at hmk
 have hnn:n≤1048576:=by omega
 have HN:=zqd hnl
 have HS:=zqd hsz
 have HI:=zqd ih
 clear ih
 clear h hnl hz0 hz1 hz2 hi hm hsz
 go_enter Tryz.func47,Tryz.ntmps47
 go_wp2
 clear hmk
 obtain⟨W1,hW1⟩:∃ W1,W1=w.alloc (.cells (madeCells #[.string {data:=#[]},.int .i64 0,.string {data:=#[]},.slice none 0 0,.slice none 0 0] (n * 5)) 115):=⟨_,rfl⟩
 rw[← hW1]
 have hF:Fills w W1 w.heap.size n 5 ((ts.take 0).flatMap Param.pd) 0:=by
  rw[hW1]
  exact Fills.start (cs:=(madeCells #[.string {data:=#[]},.int .i64 0,.string {data:=#[]},.slice none 0 0,.slice none 0 0] (n * 5)).toList) (ae7.new w _ _) (by simp[size_madeCells]) ((zqf _ _).alloc (zql _) _) (by simp)
 clear hW1
 go_loopw [4] (fun i wr=>∃ k:Nat,k≤n∧i=.int .i64 k∧Fills w wr w.heap.size n 5 ((ts.take k).flatMap Param.pd) k) (fun i _=>n - (intOf i).toNat)
 case atStart=>exact⟨0,Nat.zero_le _,rfl,hF⟩
 case round=>
  obtain⟨k,hk,rfl,hf⟩:=hrel
  clear hF
  by_cases hlt:k < n
  ·obtain⟨g,off,rfl,hg,hcell⟩:=hat (by omega)
   obtain⟨t,hx,hmem⟩:=um HN.out hlt
   obtain⟨hbr,hg0⟩:=hf.under
   have hle:=ahf (f:=Param.pd) hx
   obtain⟨name,⟨je,jm,ou,uj⟩⟩:=t
   have c0:wr.cell? ⟨g,off+k * 5,none⟩=some (.string name):=bg hbr (by omega) (hcell k 0 _ _ hx (by rw[Param.aj];rfl))
   have c1:wr.cell? ⟨g,off+k * 5+1,none⟩=some (.int .i64 je):=bg hbr (by omega) (hcell k 1 _ _ hx (by rw[Param.aj];rfl))
   have c2:wr.cell? ⟨g,off+k * 5+2,none⟩=some (.string jm):=bg hbr (by omega) (hcell k 2 _ _ hx (by rw[Param.aj];rfl))
   obtain⟨aa0,c3,hr3⟩:∃ u,wr.cell? ⟨g,off+k * 5+3,none⟩=some u∧Rep wr B (.row 1 (ou.flatMap qj)) u:=jc hbr (by omega) hB (hcell k 3 _ _ hx (by rw[Param.aj];rfl))
   have HR3:=zqd hr3
   clear hr3
   obtain⟨ab7,c4,hr4⟩:∃ u,wr.cell? ⟨g,off+k * 5+4,none⟩=some u∧Rep wr B (.row 4 (uj.flatMap Ty.pd)) u:=jc hbr (by omega) hB (hcell k 4 _ _ hx (by rw[Param.aj];rfl))
   have HR4:=zqd hr4
   clear hr4
   have HX:=zqd hx
   have HL:=zqd hle
   have HM:=zqd hmem
   clear hx hcell hle hmem
   go_wp2_with fail
   refine(HI.out _ HM.out B [.string name,.int .i64 je,.string jm,aa0,ab7] _ (by omega) (by have:=HS.out;have:=HL.out;omega) (Param.close_ HR3.out HR4.out)).mono ?_
   rintro e wq ⟨us,rfl,hl,hbq⟩
   obtain⟨abr,abt,abu,ac0,ac1,ac2,rfl⟩:=Param.afv hl
   have hlen:=hl.len
   obtain⟨F2,hh,hi2,_⟩:=hl
   obtain⟨⟨u0,d0⟩,f0⟩:=hf.cell hbq hlt 0 (by decide)
   rw[Nat.add_zero] at d0 f0
   obtain⟨⟨u1,d1⟩,f1⟩:=hf.cell hbq hlt 1 (by decide)
   obtain⟨⟨u2,d2⟩,f2⟩:=hf.cell hbq hlt 2 (by decide)
   obtain⟨⟨u3,d3⟩,f3⟩:=hf.cell hbq hlt 3 (by decide)
   obtain⟨⟨u4,d4⟩,f4⟩:=hf.cell hbq hlt 4 (by decide)
   have hnx:=hf.next hbq (es:=Param.pd ⟨name,⟨je,jm,ou,uj⟩⟩) hh hi2 (hlen.trans (Param.jd _)) hlt
   have HF:=zqd hnx
   clear hnx hf hh hi2 hlen
   go_wp2_with fail
   go_roundw
   case rel=>exact⟨k+1,by omega,by go_num,by rw[List.take_add_one,HX.out,List.flatMap_append,aiy];exact HF.out⟩
   case measure=>simp[intOf];omega
  ·have hkn:k=n:=by omega
   subst hkn
   have hfin:Lv wr w.heap.size wr.heap.size (.row 5 (ts.flatMap Param.pd)) (.slice (some ⟨w.heap.size,0,none⟩) k k):=by
    rw[List.take_of_length_le (by have:=HN.out;omega)] at hf
    exact hf.done (by rw[afw Param.jd];rw[HN.out]) (zql _) (by simp only[maxLen];omega)
   have hbr:=hf.under.1
   clear hf
   go_wp2_with fail
   go_ret
   exact⟨_,rfl,hfin,hbr⟩
theorem a6e (ts:List Param):ToR 47 (.row 5 (ts.flatMap Param.pd)):=a4h fun t _=>baf t
set_option maxHeartbeats 1600000 in
theorem az3 {params:List Param} {dh:Int} {dn:ByteArray} {ku:List ByteArray} {ny:List Ty} {async:Bool} (ao1:ToR 47 (.row 5 (params.flatMap Param.pd))) (ao2:ToC 48 (Ty.pd ⟨dh,dn,ku,ny⟩)):ToC 22 (jh.pd ⟨params,⟨dh,dn,ku,ny⟩,async⟩):=by
 intro B cs w hB hsz h
 obtain⟨aeh,pq,uf,rfl,aea,aao,aa2⟩:=jh.open_ h
 have ags:=zqd aea
 clear aea
 have acs:=zqd aao
 clear aao
 have ado:=zqd aa2
 clear aa2
 simp only[jh.aj,PD.szL] at hsz
 have HS:=zqd hsz
 clear hsz
 go_enter Tryz.func22,Tryz.ntmps22
 go_wp2_with fail
 obtain⟨w0,hw0⟩:∃ w0,w0=((w.alloc (.cells #[aeh,.int .i64 dh,.string dn,pq,uf,.bool async] 54)).alloc (.cells #[.slice none 0 0,.int .i64 0,.string {data:=#[]},.slice none 0 0,.slice none 0 0,.bool false] 62)).alloc (.cells #[.slice none 0 0,.int .i64 0,.string {data:=#[]},.slice none 0 0,.slice none 0 0,.bool false] 62):=⟨_,rfl⟩
 rw[← hw0]
 have bP:Blk w0 w.heap.size 54 #[aeh,.int .i64 dh,.string dn,pq,uf,.bool async]:=by rw[hw0];exact((Blk.new w _ _).alloc _).alloc _
 have bR:Blk w0 (w.heap.size+1) 62 #[.slice none 0 0,.int .i64 0,.string {data:=#[]},.slice none 0 0,.slice none 0 0,.bool false]:=by rw[hw0];have:=(Blk.new (w.alloc (.cells #[aeh,.int .i64 dh,.string dn,pq,uf,.bool async] 54)) 62 #[.slice none 0 0,.int .i64 0,.string {data:=#[]},.slice none 0 0,.slice none 0 0,.bool false]).alloc (.cells #[.slice none 0 0,.int .i64 0,.string {data:=#[]},.slice none 0 0,.slice none 0 0,.bool false] 62);simpa using this
 have bO:Blk w0 (w.heap.size+1+1) 62 #[.slice none 0 0,.int .i64 0,.string {data:=#[]},.slice none 0 0,.slice none 0 0,.bool false]:=by rw[hw0];have:=Blk.new ((w.alloc (.cells #[aeh,.int .i64 dh,.string dn,pq,uf,.bool async] 54)).alloc (.cells #[.slice none 0 0,.int .i64 0,.string {data:=#[]},.slice none 0 0,.slice none 0 0,.bool false] 62)) 62 #[.slice none 0 0,.int .i64 0,.string {data:=#[]},.slice none 0 0,.slice none 0 0,.bool false];simpa using this
 have hB0:Below w.heap.size w w0:=by rw[hw0];exact(((zqf _ _).alloc (zql _) _).alloc (by simp) _).alloc (by simp;omega) _
 have hs0:w.heap.size+3≤w0.heap.size:=by rw[hw0];simp
 clear hw0
 refine(ao1 B aeh _ (by have:=hB0.size;omega) (by have:=HS.out;omega) (ags.out.below (hB0.mono hB))).mono ?_
 rintro e w1 ⟨bum,rfl,amr,hb1⟩
 obtain⟨aj9,akb,akc,rfl⟩:=amr.form
 have hB1:=hB0.trans (hb1.mono hB0.size)
 have hs1:=hb1.size
 replace bP:=bP.step hb1
 replace bR:=bR.step hb1
 replace bO:=bO.step hb1
 have bs3:=bO.frozen 0
 have bdl:w1.cell? ⟨w.heap.size+1+1,0,none⟩=some (.slice none 0 0):=bO.cell 0
 have bs4:w1.cell? ⟨w.heap.size,1,none⟩=some (.int .i64 dh):=bP.cell 1
 have bs5:w1.cell? ⟨w.heap.size,2,none⟩=some (.string dn):=bP.cell 2
 have bdg:w1.cell? ⟨w.heap.size,3,none⟩=some (pq):=bP.cell 3
 have az4:w1.cell? ⟨w.heap.size,4,none⟩=some (uf):=bP.cell 4
 go_wp2_with fail
 clear bs3 bdl bs4 bs5 bdg az4
 obtain⟨w2,hw2⟩:∃ W,W=(w1.setCell ⟨w.heap.size+1+1,0,none⟩ (.slice aj9 akb akc)):=⟨_,rfl⟩
 rw[← hw2]
 replace bP:Blk w2 w.heap.size 54 #[aeh,.int .i64 dh,.string dn,pq,uf,.bool async]:=by rw[hw2];exact(bP.far (by simp;try omega) _)
 replace bR:Blk w2 (w.heap.size+1) 62 #[.slice none 0 0,.int .i64 0,.string {data:=#[]},.slice none 0 0,.slice none 0 0,.bool false]:=by rw[hw2];exact(bR.far (by simp;try omega) _)
 replace bO:Blk w2 (w.heap.size+1+1) 62 #[.slice aj9 akb akc,.int .i64 0,.string {data:=#[]},.slice none 0 0,.slice none 0 0,.bool false]:=by rw[hw2];have:=(bO.aam 0 (.slice aj9 akb akc));simpa using this
 have hB2:Below w.heap.size w w2:=by rw[hw2];exact(hB1.setCell (by simp;try omega) _)
 have hs2:w1.heap.size≤w2.heap.size:=by rw[hw2];simp[World.setCell]
 replace amr:=(amr.setCell (p:=⟨w.heap.size+1+1,0,none⟩) (.inl (by simp;omega)) (.slice aj9 akb akc))
 rw[← hw2] at amr
 clear hw2
 refine(ao2 B [.int .i64 dh,.string dn,pq,uf] _ (by have:=hB2.size;omega) (by have:=HS.out;simp only[Ty.aj,PD.szL];omega) (Ty.close_ (acs.out.below (hB2.mono hB)) (ado.out.below (hB2.mono hB)))).mono ?_
 rintro e w3 ⟨bun,rfl,ayd,hb3⟩
 have bt7:=zqd ayd
 obtain⟨aep,aer,aes,afd,afe,aff,rfl⟩:=Ty.afv ayd
 have hB3:=hB2.trans (hb3.mono hB2.size)
 have hs3:=hb3.size
 replace bP:=bP.step hb3
 replace bR:=bR.step hb3
 replace bO:=bO.step hb3
 replace amr:=amr.step hb3
 have b1v:=bO.frozen 1
 have bdj:w3.cell? ⟨w.heap.size+1+1,1,none⟩=some (.int .i64 0):=bO.cell 1
 have b1w:=bO.frozen 2
 have bdk:w3.cell? ⟨w.heap.size+1+1,2,none⟩=some (.string {data:=#[]}):=bO.cell 2
 have bsx:=bO.frozen 3
 have bdh:w3.cell? ⟨w.heap.size+1+1,3,none⟩=some (.slice none 0 0):=bO.cell 3
 have bmi:=bO.frozen 4
 have bmj:w3.cell? ⟨w.heap.size+1+1,4,none⟩=some (.slice none 0 0):=bO.cell 4
 have b1x:=bO.frozen 5
 have b1y:w3.cell? ⟨w.heap.size+1+1,5,none⟩=some (.bool false):=bO.cell 5
 have b1z:w3.cell? ⟨w.heap.size,5,none⟩=some (.bool async):=bP.cell 5
 have fR0:=bR.frozen 0
 have cR0:w3.cell? ⟨w.heap.size+1,0,none⟩=some (.slice none 0 0):=bR.cell 0
 have fR1:=bR.frozen 1
 have cR1:w3.cell? ⟨w.heap.size+1,1,none⟩=some (.int .i64 0):=bR.cell 1
 have fR2:=bR.frozen 2
 have cR2:w3.cell? ⟨w.heap.size+1,2,none⟩=some (.string {data:=#[]}):=bR.cell 2
 have fR3:=bR.frozen 3
 have cR3:w3.cell? ⟨w.heap.size+1,3,none⟩=some (.slice none 0 0):=bR.cell 3
 have fR4:=bR.frozen 4
 have cR4:w3.cell? ⟨w.heap.size+1,4,none⟩=some (.slice none 0 0):=bR.cell 4
 have fR5:=bR.frozen 5
 have cR5:w3.cell? ⟨w.heap.size+1,5,none⟩=some (.bool false):=bR.cell 5
 have bdi:w3.cell? ⟨w.heap.size+1+1,0,none⟩=some (.slice aj9 akb akc):=bO.cell 0
 go_wp2_with fail
 clear bP bR bO
 refine bodyPost_ret (v:=.agg #[.slice aj9 akb akc,.int .i64 dh,.string dn,.slice aep aer aes,.slice afd afe aff,.bool async]) (by simp[results,Tryz.results22,go_sem,cR0,cR1,cR2,cR3,cR4,cR5]) rfl ⟨[.slice aj9 akb akc,.int .i64 dh,.string dn,.slice aep aer aes,.slice afd afe aff,.bool async],rfl,?_,?_⟩
 ·have base:LvC w3 w0.heap.size w3.heap.size [.row 5 (params.flatMap Param.pd),.lit (.int .i64 dh),.lit (.string dn),.row 1 (ku.flatMap qj),.row 4 (ny.flatMap Ty.pd),.lit (.bool async)] [.slice aj9 akb akc,.int .i64 dh,.string dn,.slice aep aer aes,.slice afd afe aff,.bool async]:=by
   have:=LvC.cons amr (LvC.append ayd (LvC.lit (LvC.nil0 _) (.bool async)) (by first|omega|(simp;omega)) (by first|omega|(simp;omega)) (by first|omega|(simp;omega))) (by first|omega|(simp;omega)) (by first|omega|(simp;omega)) (by first|omega|(simp;omega))
   simpa only[Ty.aj,List.cons_append,List.nil_append,List.append_assoc] using this
  rw[jh.aj]
  refine LvC.low (lo2:=w0.heap.size) ?_ (by omega)
  refine LvC.more (hi:=w3.heap.size) ?_ (zql _) (by simp[World.setCell]) (zql _)
  iterate 11 (refine LvC.setCell ?_ (.inl (by simp;omega)) _)
  exact base
 ·iterate 11 (refine Below.setCell ?_ (by simp;try omega) _)
  exact hB3
theorem a1r (t:jh):ToC 22 (jh.pd t):=by obtain⟨params,⟨dh,dn,ku,ny⟩,async⟩:=t;exact az3 (a6e params) (asw _)
set_option maxHeartbeats 1600000 in
theorem bag {name:ByteArray} {qm:List Param} {au:Int} {ay:ByteArray} {iy:List ByteArray} {jq:List Ty} {jl:Bool} (alf:ToC 22 (jh.pd ⟨qm,⟨au,ay,iy,jq⟩,jl⟩)):ToC 59 (Fun.pd ⟨name,⟨qm,⟨au,ay,iy,jq⟩,jl⟩⟩):=by
 intro B cs w hB hsz h
 obtain⟨aa1,su,xu,rfl,acr,zy,aar⟩:=Fun.open_ h
 have afo:=zqd acr
 clear acr
 have adp:=zqd zy
 clear zy
 have aed:=zqd aar
 clear aar
 simp only[Fun.aj,PD.szL] at hsz
 have HS:=zqd hsz
 clear hsz
 go_enter Tryz.func59,Tryz.ntmps59
 go_wp2_with fail
 obtain⟨w0,hw0⟩:∃ w0,w0=((w.alloc (.cells #[.string name,aa1,.int .i64 au,.string ay,su,xu,.bool jl] 92)).alloc (.cells #[.string {data:=#[]},.slice none 0 0,.int .i64 0,.string {data:=#[]},.slice none 0 0,.slice none 0 0,.bool false] 99)).alloc (.cells #[.string name,.slice none 0 0,.int .i64 0,.string {data:=#[]},.slice none 0 0,.slice none 0 0,.bool false] 99):=⟨_,rfl⟩
 rw[← hw0]
 have bP:Blk w0 w.heap.size 92 #[.string name,aa1,.int .i64 au,.string ay,su,xu,.bool jl]:=by rw[hw0];exact((Blk.new w _ _).alloc _).alloc _
 have bR:Blk w0 (w.heap.size+1) 99 #[.string {data:=#[]},.slice none 0 0,.int .i64 0,.string {data:=#[]},.slice none 0 0,.slice none 0 0,.bool false]:=by rw[hw0];have:=(Blk.new (w.alloc (.cells #[.string name,aa1,.int .i64 au,.string ay,su,xu,.bool jl] 92)) 99 #[.string {data:=#[]},.slice none 0 0,.int .i64 0,.string {data:=#[]},.slice none 0 0,.slice none 0 0,.bool false]).alloc (.cells #[.string name,.slice none 0 0,.int .i64 0,.string {data:=#[]},.slice none 0 0,.slice none 0 0,.bool false] 99);simpa using this
 have bO:Blk w0 (w.heap.size+1+1) 99 #[.string name,.slice none 0 0,.int .i64 0,.string {data:=#[]},.slice none 0 0,.slice none 0 0,.bool false]:=by rw[hw0];have:=Blk.new ((w.alloc (.cells #[.string name,aa1,.int .i64 au,.string ay,su,xu,.bool jl] 92)).alloc (.cells #[.string {data:=#[]},.slice none 0 0,.int .i64 0,.string {data:=#[]},.slice none 0 0,.slice none 0 0,.bool false] 99)) 99 #[.string name,.slice none 0 0,.int .i64 0,.string {data:=#[]},.slice none 0 0,.slice none 0 0,.bool false];simpa using this
 have hB0:Below w.heap.size w w0:=by rw[hw0];exact(((zqf _ _).alloc (zql _) _).alloc (by simp) _).alloc (by simp;omega) _
 have hs0:w.heap.size+3≤w0.heap.size:=by rw[hw0];simp
 clear hw0
 refine(alf B [aa1,.int .i64 au,.string ay,su,xu,.bool jl] _ (by have:=hB0.size;omega) (by have:=HS.out;simp only[jh.aj,PD.szL];omega) (jh.close_ (afo.out.below (hB0.mono hB)) (adp.out.below (hB0.mono hB)) (aed.out.below (hB0.mono hB)))).mono ?_
 rintro e w1 ⟨bsy,rfl,asx,hb1⟩
 have bqy:=zqd asx
 obtain⟨ab3,ab4,ab5,yu,yw,yx,aad,aae,aaf,rfl⟩:=jh.afv asx
 have hB1:=hB0.trans (hb1.mono hB0.size)
 have hs1:=hb1.size
 replace bP:=bP.step hb1
 replace bR:=bR.step hb1
 replace bO:=bO.step hb1
 have bsz:=bO.frozen 1
 have bs0:w1.cell? ⟨w.heap.size+1+1,1,none⟩=some (.slice none 0 0):=bO.cell 1
 have bde:=bO.frozen 2
 have bdf:w1.cell? ⟨w.heap.size+1+1,2,none⟩=some (.int .i64 0):=bO.cell 2
 have az1:=bO.frozen 3
 have az2:w1.cell? ⟨w.heap.size+1+1,3,none⟩=some (.string {data:=#[]}):=bO.cell 3
 have bs1:=bO.frozen 4
 have bs2:w1.cell? ⟨w.heap.size+1+1,4,none⟩=some (.slice none 0 0):=bO.cell 4
 have b2a:=bO.frozen 5
 have b2b:w1.cell? ⟨w.heap.size+1+1,5,none⟩=some (.slice none 0 0):=bO.cell 5
 have b2c:=bO.frozen 6
 have b2d:w1.cell? ⟨w.heap.size+1+1,6,none⟩=some (.bool false):=bO.cell 6
 have fR0:=bR.frozen 0
 have cR0:w1.cell? ⟨w.heap.size+1,0,none⟩=some (.string {data:=#[]}):=bR.cell 0
 have fR1:=bR.frozen 1
 have cR1:w1.cell? ⟨w.heap.size+1,1,none⟩=some (.slice none 0 0):=bR.cell 1
 have fR2:=bR.frozen 2
 have cR2:w1.cell? ⟨w.heap.size+1,2,none⟩=some (.int .i64 0):=bR.cell 2
 have fR3:=bR.frozen 3
 have cR3:w1.cell? ⟨w.heap.size+1,3,none⟩=some (.string {data:=#[]}):=bR.cell 3
 have fR4:=bR.frozen 4
 have cR4:w1.cell? ⟨w.heap.size+1,4,none⟩=some (.slice none 0 0):=bR.cell 4
 have fR5:=bR.frozen 5
 have cR5:w1.cell? ⟨w.heap.size+1,5,none⟩=some (.slice none 0 0):=bR.cell 5
 have fR6:=bR.frozen 6
 have cR6:w1.cell? ⟨w.heap.size+1,6,none⟩=some (.bool false):=bR.cell 6
 have bdl:w1.cell? ⟨w.heap.size+1+1,0,none⟩=some (.string name):=bO.cell 0
 go_wp2_with fail
 clear bP bR bO
 refine bodyPost_ret (v:=.agg #[.string name,.slice ab3 ab4 ab5,.int .i64 au,.string ay,.slice yu yw yx,.slice aad aae aaf,.bool jl]) (by simp[results,Tryz.results59,go_sem,cR0,cR1,cR2,cR3,cR4,cR5,cR6]) rfl ⟨[.string name,.slice ab3 ab4 ab5,.int .i64 au,.string ay,.slice yu yw yx,.slice aad aae aaf,.bool jl],rfl,?_,?_⟩
 ·have base:LvC w1 w0.heap.size w1.heap.size [.lit (.string name),.row 5 (qm.flatMap Param.pd),.lit (.int .i64 au),.lit (.string ay),.row 1 (iy.flatMap qj),.row 4 (jq.flatMap Ty.pd),.lit (.bool jl)] [.string name,.slice ab3 ab4 ab5,.int .i64 au,.string ay,.slice yu yw yx,.slice aad aae aaf,.bool jl]:=by
   have:=LvC.lit (LvC.append asx (LvC.nil0 _) (by first|omega|(simp;omega)) (by first|omega|(simp;omega)) (by first|omega|(simp;omega))) (.string name)
   simpa only[jh.aj,List.cons_append,List.nil_append,List.append_assoc] using this
  rw[Fun.aj]
  refine LvC.low (lo2:=w0.heap.size) ?_ (by omega)
  refine LvC.more (hi:=w1.heap.size) ?_ (zql _) (by simp[World.setCell]) (zql _)
  iterate 13 (refine LvC.setCell ?_ (.inl (by simp;omega)) _)
  exact base
 ·iterate 13 (refine Below.setCell ?_ (by simp;try omega) _)
  exact hB1
theorem bdm (t:Fun):ToC 59 (Fun.pd t):=by obtain⟨name,⟨qm,⟨au,ay,iy,jq⟩,jl⟩⟩:=t;exact bag (a1r _)
theorem a6f:(Tryz.prog.info? 99).map (fun i=>(i.zero,i.size,i.bytes))=some (some (.agg #[.string {data:=#[]},.slice none 0 0,.int .i64 0,.string {data:=#[]},.slice none 0 0,.slice none 0 0,.bool false]),7,120):=by kernel_rfl
set_option maxHeartbeats 1600000 in
theorem a6g {ts:List Fun} (ih:∀ t ∈ ts,ToC 59 (Fun.pd t)):ToR 30 (.row 7 (ts.flatMap Fun.pd)):=by
 intro B v w hB hsz h
 rw[ahw Fun.jd (by decide)] at hsz
 obtain⟨A,n,c,rfl,hnl,hm,hat⟩:=ni Fun.jd (by decide) h
 obtain⟨i0,hi,hz0,hz1,hz2⟩:=info_parts a6f
 have hmk:=fun W=>ak4 (P:=Tryz.prog) 28 99 i0 _ Tryz.underlying28 hi hz0 .i64 .i64 n n (zql _) (by rw[hz2];omega) (by omega) W
 rw[hz1] at hmk
 have hnn:n≤1048576:=by omega
 have HN:=zqd hnl
 have HS:=zqd hsz
 have HI:=zqd ih
 clear ih
 clear h hnl hz0 hz1 hz2 hi hm hsz
 go_enter Tryz.func30,Tryz.ntmps30
 go_wp2
 clear hmk
 obtain⟨W1,hW1⟩:∃ W1,W1=w.alloc (.cells (madeCells #[.string {data:=#[]},.slice none 0 0,.int .i64 0,.string {data:=#[]},.slice none 0 0,.slice none 0 0,.bool false] (n * 7)) 99):=⟨_,rfl⟩
 rw[← hW1]
 have hF:Fills w W1 w.heap.size n 7 ((ts.take 0).flatMap Fun.pd) 0:=by
  rw[hW1]
  exact Fills.start (cs:=(madeCells #[.string {data:=#[]},.slice none 0 0,.int .i64 0,.string {data:=#[]},.slice none 0 0,.slice none 0 0,.bool false] (n * 7)).toList) (ae7.new w _ _) (by simp[size_madeCells]) ((zqf _ _).alloc (zql _) _) (by simp)
 clear hW1
 go_loopw [4] (fun i wr=>∃ k:Nat,k≤n∧i=.int .i64 k∧Fills w wr w.heap.size n 7 ((ts.take k).flatMap Fun.pd) k) (fun i _=>n - (intOf i).toNat)
 case atStart=>exact⟨0,Nat.zero_le _,rfl,hF⟩
 case round=>
  obtain⟨k,hk,rfl,hf⟩:=hrel
  clear hF
  by_cases hlt:k < n
  ·obtain⟨g,off,rfl,hg,hcell⟩:=hat (by omega)
   obtain⟨t,hx,hmem⟩:=um HN.out hlt
   obtain⟨hbr,hg0⟩:=hf.under
   have hle:=ahf (f:=Fun.pd) hx
   obtain⟨name,⟨qm,⟨au,ay,iy,jq⟩,jl⟩⟩:=t
   have c0:wr.cell? ⟨g,off+k * 7,none⟩=some (.string name):=bg hbr (by omega) (hcell k 0 _ _ hx (by rw[Fun.aj];rfl))
   obtain⟨aa1,c1,hr1⟩:∃ u,wr.cell? ⟨g,off+k * 7+1,none⟩=some u∧Rep wr B (.row 5 (qm.flatMap Param.pd)) u:=jc hbr (by omega) hB (hcell k 1 _ _ hx (by rw[Fun.aj];rfl))
   have HR1:=zqd hr1
   clear hr1
   have c2:wr.cell? ⟨g,off+k * 7+2,none⟩=some (.int .i64 au):=bg hbr (by omega) (hcell k 2 _ _ hx (by rw[Fun.aj];rfl))
   have c3:wr.cell? ⟨g,off+k * 7+3,none⟩=some (.string ay):=bg hbr (by omega) (hcell k 3 _ _ hx (by rw[Fun.aj];rfl))
   obtain⟨su,c4,hr4⟩:∃ u,wr.cell? ⟨g,off+k * 7+4,none⟩=some u∧Rep wr B (.row 1 (iy.flatMap qj)) u:=jc hbr (by omega) hB (hcell k 4 _ _ hx (by rw[Fun.aj];rfl))
   have HR4:=zqd hr4
   clear hr4
   obtain⟨xu,c5,hr5⟩:∃ u,wr.cell? ⟨g,off+k * 7+5,none⟩=some u∧Rep wr B (.row 4 (jq.flatMap Ty.pd)) u:=jc hbr (by omega) hB (hcell k 5 _ _ hx (by rw[Fun.aj];rfl))
   have HR5:=zqd hr5
   clear hr5
   have c6:wr.cell? ⟨g,off+k * 7+6,none⟩=some (.bool jl):=bg hbr (by omega) (hcell k 6 _ _ hx (by rw[Fun.aj];rfl))
   have HX:=zqd hx
   have HL:=zqd hle
   have HM:=zqd hmem
   clear hx hcell hle hmem
   go_wp2_with fail
   refine(HI.out _ HM.out B [.string name,aa1,.int .i64 au,.string ay,su,xu,.bool jl] _ (by omega) (by have:=HS.out;have:=HL.out;omega) (Fun.close_ HR1.out HR4.out HR5.out)).mono ?_
   rintro e wq ⟨us,rfl,hl,hbq⟩
   obtain⟨ab3,ab4,ab5,yu,yw,yx,aad,aae,aaf,rfl⟩:=Fun.afv hl
   have hlen:=hl.len
   obtain⟨F2,hh,hi2,_⟩:=hl
   obtain⟨⟨u0,d0⟩,f0⟩:=hf.cell hbq hlt 0 (by decide)
   rw[Nat.add_zero] at d0 f0
   obtain⟨⟨u1,d1⟩,f1⟩:=hf.cell hbq hlt 1 (by decide)
   obtain⟨⟨u2,d2⟩,f2⟩:=hf.cell hbq hlt 2 (by decide)
   obtain⟨⟨u3,d3⟩,f3⟩:=hf.cell hbq hlt 3 (by decide)
   obtain⟨⟨u4,d4⟩,f4⟩:=hf.cell hbq hlt 4 (by decide)
   obtain⟨⟨u5,d5⟩,f5⟩:=hf.cell hbq hlt 5 (by decide)
   obtain⟨⟨u6,d6⟩,f6⟩:=hf.cell hbq hlt 6 (by decide)
   have hnx:=hf.next hbq (es:=Fun.pd ⟨name,⟨qm,⟨au,ay,iy,jq⟩,jl⟩⟩) hh hi2 (hlen.trans (Fun.jd _)) hlt
   have HF:=zqd hnx
   clear hnx hf hh hi2 hlen
   go_wp2_with fail
   go_roundw
   case rel=>exact⟨k+1,by omega,by go_num,by rw[List.take_add_one,HX.out,List.flatMap_append,aiy];exact HF.out⟩
   case measure=>simp[intOf];omega
  ·have hkn:k=n:=by omega
   subst hkn
   have hfin:Lv wr w.heap.size wr.heap.size (.row 7 (ts.flatMap Fun.pd)) (.slice (some ⟨w.heap.size,0,none⟩) k k):=by
    rw[List.take_of_length_le (by have:=HN.out;omega)] at hf
    exact hf.done (by rw[afw Fun.jd];rw[HN.out]) (zql _) (by simp only[maxLen];omega)
   have hbr:=hf.under.1
   clear hf
   go_wp2_with fail
   go_ret
   exact⟨_,rfl,hfin,hbr⟩
theorem bah (ts:List Fun):ToR 30 (.row 7 (ts.flatMap Fun.pd)):=a6g fun t _=>bdm t
set_option maxHeartbeats 1600000 in
theorem bai {package:ByteArray} {name:ByteArray} {version:ByteArray} {resources:List ByteArray} {funcs:List Fun} (alg:ToR 29 (.row 1 (resources.flatMap qj))) (aqd:ToR 30 (.row 7 (funcs.flatMap Fun.pd))):ToC 9 (cu.pd ⟨package,name,version,resources,funcs⟩):=by
 intro B cs w hB hsz h
 obtain⟨aai,adq,rfl,abl,aei⟩:=cu.open_ h
 have ad4:=zqd abl
 clear abl
 have agn:=zqd aei
 clear aei
 simp only[cu.aj,PD.szL] at hsz
 have HS:=zqd hsz
 clear hsz
 go_enter Tryz.func9,Tryz.ntmps9
 go_wp2_with fail
 obtain⟨w0,hw0⟩:∃ w0,w0=((w.alloc (.cells #[.string package,.string name,.string version,aai,adq] 25)).alloc (.cells #[.string {data:=#[]},.string {data:=#[]},.string {data:=#[]},.slice none 0 0,.slice none 0 0] 30)).alloc (.cells #[.string package,.string name,.string version,.slice none 0 0,.slice none 0 0] 30):=⟨_,rfl⟩
 rw[← hw0]
 have bP:Blk w0 w.heap.size 25 #[.string package,.string name,.string version,aai,adq]:=by rw[hw0];exact((Blk.new w _ _).alloc _).alloc _
 have bR:Blk w0 (w.heap.size+1) 30 #[.string {data:=#[]},.string {data:=#[]},.string {data:=#[]},.slice none 0 0,.slice none 0 0]:=by rw[hw0];have:=(Blk.new (w.alloc (.cells #[.string package,.string name,.string version,aai,adq] 25)) 30 #[.string {data:=#[]},.string {data:=#[]},.string {data:=#[]},.slice none 0 0,.slice none 0 0]).alloc (.cells #[.string package,.string name,.string version,.slice none 0 0,.slice none 0 0] 30);simpa using this
 have bO:Blk w0 (w.heap.size+1+1) 30 #[.string package,.string name,.string version,.slice none 0 0,.slice none 0 0]:=by rw[hw0];have:=Blk.new ((w.alloc (.cells #[.string package,.string name,.string version,aai,adq] 25)).alloc (.cells #[.string {data:=#[]},.string {data:=#[]},.string {data:=#[]},.slice none 0 0,.slice none 0 0] 30)) 30 #[.string package,.string name,.string version,.slice none 0 0,.slice none 0 0];simpa using this
 have hB0:Below w.heap.size w w0:=by rw[hw0];exact(((zqf _ _).alloc (zql _) _).alloc (by simp) _).alloc (by simp;omega) _
 have hs0:w.heap.size+3≤w0.heap.size:=by rw[hw0];simp
 clear hw0
 refine(alg B aai _ (by have:=hB0.size;omega) (by have:=HS.out;omega) (ad4.out.below (hB0.mono hB))).mono ?_
 rintro e w1 ⟨bsv,rfl,ajp,hb1⟩
 obtain⟨ag1,ag2,ag3,rfl⟩:=ajp.form
 have hB1:=hB0.trans (hb1.mono hB0.size)
 have hs1:=hb1.size
 replace bP:=bP.step hb1
 replace bR:=bR.step hb1
 replace bO:=bO.step hb1
 have az1:=bO.frozen 3
 have az2:w1.cell? ⟨w.heap.size+1+1,3,none⟩=some (.slice none 0 0):=bO.cell 3
 have az4:w1.cell? ⟨w.heap.size,4,none⟩=some (adq):=bP.cell 4
 go_wp2_with fail
 clear az1 az2 az4
 obtain⟨w2,hw2⟩:∃ W,W=(w1.setCell ⟨w.heap.size+1+1,3,none⟩ (.slice ag1 ag2 ag3)):=⟨_,rfl⟩
 rw[← hw2]
 replace bP:Blk w2 w.heap.size 25 #[.string package,.string name,.string version,aai,adq]:=by rw[hw2];exact(bP.far (by simp;try omega) _)
 replace bR:Blk w2 (w.heap.size+1) 30 #[.string {data:=#[]},.string {data:=#[]},.string {data:=#[]},.slice none 0 0,.slice none 0 0]:=by rw[hw2];exact(bR.far (by simp;try omega) _)
 replace bO:Blk w2 (w.heap.size+1+1) 30 #[.string package,.string name,.string version,.slice ag1 ag2 ag3,.slice none 0 0]:=by rw[hw2];have:=(bO.aam 3 (.slice ag1 ag2 ag3));simpa using this
 have hB2:Below w.heap.size w w2:=by rw[hw2];exact(hB1.setCell (by simp;try omega) _)
 have hs2:w1.heap.size≤w2.heap.size:=by rw[hw2];simp[World.setCell]
 replace ajp:=(ajp.setCell (p:=⟨w.heap.size+1+1,3,none⟩) (.inl (by simp;omega)) (.slice ag1 ag2 ag3))
 rw[← hw2] at ajp
 clear hw2
 refine(aqd B adq _ (by have:=hB2.size;omega) (by have:=HS.out;omega) (agn.out.below (hB2.mono hB))).mono ?_
 rintro e w3 ⟨bxj,rfl,bbv,hb3⟩
 obtain⟨ap9,aqa,aqb,rfl⟩:=bbv.form
 have hB3:=hB2.trans (hb3.mono hB2.size)
 have hs3:=hb3.size
 replace bP:=bP.step hb3
 replace bR:=bR.step hb3
 replace bO:=bO.step hb3
 replace ajp:=ajp.step hb3
 have bmi:=bO.frozen 4
 have bmj:w3.cell? ⟨w.heap.size+1+1,4,none⟩=some (.slice none 0 0):=bO.cell 4
 have fR0:=bR.frozen 0
 have cR0:w3.cell? ⟨w.heap.size+1,0,none⟩=some (.string {data:=#[]}):=bR.cell 0
 have fR1:=bR.frozen 1
 have cR1:w3.cell? ⟨w.heap.size+1,1,none⟩=some (.string {data:=#[]}):=bR.cell 1
 have fR2:=bR.frozen 2
 have cR2:w3.cell? ⟨w.heap.size+1,2,none⟩=some (.string {data:=#[]}):=bR.cell 2
 have fR3:=bR.frozen 3
 have cR3:w3.cell? ⟨w.heap.size+1,3,none⟩=some (.slice none 0 0):=bR.cell 3
 have fR4:=bR.frozen 4
 have cR4:w3.cell? ⟨w.heap.size+1,4,none⟩=some (.slice none 0 0):=bR.cell 4
 obtain⟨bdi,bdj,bdk,bdh⟩:=zc4 bO
 go_wp2_with fail
 clear bP bR bO
 refine bodyPost_ret (v:=.agg #[.string package,.string name,.string version,.slice ag1 ag2 ag3,.slice ap9 aqa aqb]) (by simp[results,Tryz.results9,go_sem,cR0,cR1,cR2,cR3,cR4]) rfl ⟨[.string package,.string name,.string version,.slice ag1 ag2 ag3,.slice ap9 aqa aqb],rfl,?_,?_⟩
 ·have base:LvC w3 w0.heap.size w3.heap.size [.lit (.string package),.lit (.string name),.lit (.string version),.row 1 (resources.flatMap qj),.row 7 (funcs.flatMap Fun.pd)] [.string package,.string name,.string version,.slice ag1 ag2 ag3,.slice ap9 aqa aqb]:=by
   have:=LvC.lit (LvC.lit (LvC.lit (LvC.cons ajp (LvC.cons bbv (LvC.nil0 _) (by first|omega|(simp;omega)) (by first|omega|(simp;omega)) (by first|omega|(simp;omega))) (by first|omega|(simp;omega)) (by first|omega|(simp;omega)) (by first|omega|(simp;omega))) (.string version)) (.string name)) (.string package)
   exact this
  rw[cu.aj]
  refine LvC.low (lo2:=w0.heap.size) ?_ (by omega)
  refine LvC.more (hi:=w3.heap.size) ?_ (zql _) (by simp[World.setCell]) (zql _)
  iterate 6 (refine LvC.setCell ?_ (.inl (by simp;omega)) _)
  exact base
 ·iterate 6 (refine Below.setCell ?_ (by simp;try omega) _)
  exact hB3
theorem bdn (t:cu):ToC 9 (cu.pd t):=by obtain⟨package,name,version,resources,funcs⟩:=t;exact bai ar1 (bah funcs)
theorem a6h:(Tryz.prog.info? 30).map (fun i=>(i.zero,i.size,i.bytes))=some (some (.agg #[.string {data:=#[]},.string {data:=#[]},.string {data:=#[]},.slice none 0 0,.slice none 0 0]),5,96):=by kernel_rfl
set_option maxHeartbeats 1600000 in
theorem a6i {ts:List cu} (ih:∀ t ∈ ts,ToC 9 (cu.pd t)):ToR 39 (.row 5 (ts.flatMap cu.pd)):=by
 intro B v w hB hsz h
 rw[ahw cu.jd (by decide)] at hsz
 obtain⟨A,n,c,rfl,hnl,hm,hat⟩:=ni cu.jd (by decide) h
 obtain⟨i0,hi,hz0,hz1,hz2⟩:=info_parts a6h
 have hmk:=fun W=>ak4 (P:=Tryz.prog) 43 30 i0 _ Tryz.underlying43 hi hz0 .i64 .i64 n n (zql _) (by rw[hz2];omega) (by omega) W
 rw[hz1] at hmk
 have hnn:n≤1048576:=by omega
 have HN:=zqd hnl
 have HS:=zqd hsz
 have HI:=zqd ih
 clear ih
 clear h hnl hz0 hz1 hz2 hi hm hsz
 go_enter Tryz.func39,Tryz.ntmps39
 go_wp2
 clear hmk
 obtain⟨W1,hW1⟩:∃ W1,W1=w.alloc (.cells (madeCells #[.string {data:=#[]},.string {data:=#[]},.string {data:=#[]},.slice none 0 0,.slice none 0 0] (n * 5)) 30):=⟨_,rfl⟩
 rw[← hW1]
 have hF:Fills w W1 w.heap.size n 5 ((ts.take 0).flatMap cu.pd) 0:=by
  rw[hW1]
  exact Fills.start (cs:=(madeCells #[.string {data:=#[]},.string {data:=#[]},.string {data:=#[]},.slice none 0 0,.slice none 0 0] (n * 5)).toList) (ae7.new w _ _) (by simp[size_madeCells]) ((zqf _ _).alloc (zql _) _) (by simp)
 clear hW1
 go_loopw [4] (fun i wr=>∃ k:Nat,k≤n∧i=.int .i64 k∧Fills w wr w.heap.size n 5 ((ts.take k).flatMap cu.pd) k) (fun i _=>n - (intOf i).toNat)
 case atStart=>exact⟨0,Nat.zero_le _,rfl,hF⟩
 case round=>
  obtain⟨k,hk,rfl,hf⟩:=hrel
  clear hF
  by_cases hlt:k < n
  ·obtain⟨g,off,rfl,hg,hcell⟩:=hat (by omega)
   obtain⟨t,hx,hmem⟩:=um HN.out hlt
   obtain⟨hbr,hg0⟩:=hf.under
   have hle:=ahf (f:=cu.pd) hx
   obtain⟨package,name,version,resources,funcs⟩:=t
   have c0:wr.cell? ⟨g,off+k * 5,none⟩=some (.string package):=bg hbr (by omega) (hcell k 0 _ _ hx (by rw[cu.aj];rfl))
   have c1:wr.cell? ⟨g,off+k * 5+1,none⟩=some (.string name):=bg hbr (by omega) (hcell k 1 _ _ hx (by rw[cu.aj];rfl))
   have c2:wr.cell? ⟨g,off+k * 5+2,none⟩=some (.string version):=bg hbr (by omega) (hcell k 2 _ _ hx (by rw[cu.aj];rfl))
   obtain⟨aai,c3,hr3⟩:∃ u,wr.cell? ⟨g,off+k * 5+3,none⟩=some u∧Rep wr B (.row 1 (resources.flatMap qj)) u:=jc hbr (by omega) hB (hcell k 3 _ _ hx (by rw[cu.aj];rfl))
   have HR3:=zqd hr3
   clear hr3
   obtain⟨adq,c4,hr4⟩:∃ u,wr.cell? ⟨g,off+k * 5+4,none⟩=some u∧Rep wr B (.row 7 (funcs.flatMap Fun.pd)) u:=jc hbr (by omega) hB (hcell k 4 _ _ hx (by rw[cu.aj];rfl))
   have HR4:=zqd hr4
   clear hr4
   have HX:=zqd hx
   have HL:=zqd hle
   have HM:=zqd hmem
   clear hx hcell hle hmem
   go_wp2_with fail
   refine(HI.out _ HM.out B [.string package,.string name,.string version,aai,adq] _ (by omega) (by have:=HS.out;have:=HL.out;omega) (cu.close_ HR3.out HR4.out)).mono ?_
   rintro e wq ⟨us,rfl,hl,hbq⟩
   obtain⟨ag1,ag2,ag3,ap9,aqa,aqb,rfl⟩:=cu.afv hl
   have hlen:=hl.len
   obtain⟨F2,hh,hi2,_⟩:=hl
   obtain⟨⟨u0,d0⟩,f0⟩:=hf.cell hbq hlt 0 (by decide)
   rw[Nat.add_zero] at d0 f0
   obtain⟨⟨u1,d1⟩,f1⟩:=hf.cell hbq hlt 1 (by decide)
   obtain⟨⟨u2,d2⟩,f2⟩:=hf.cell hbq hlt 2 (by decide)
   obtain⟨⟨u3,d3⟩,f3⟩:=hf.cell hbq hlt 3 (by decide)
   obtain⟨⟨u4,d4⟩,f4⟩:=hf.cell hbq hlt 4 (by decide)
   have hnx:=hf.next hbq (es:=cu.pd ⟨package,name,version,resources,funcs⟩) hh hi2 (hlen.trans (cu.jd _)) hlt
   have HF:=zqd hnx
   clear hnx hf hh hi2 hlen
   go_wp2_with fail
   go_roundw
   case rel=>exact⟨k+1,by omega,by go_num,by rw[List.take_add_one,HX.out,List.flatMap_append,aiy];exact HF.out⟩
   case measure=>simp[intOf];omega
  ·have hkn:k=n:=by omega
   subst hkn
   have hfin:Lv wr w.heap.size wr.heap.size (.row 5 (ts.flatMap cu.pd)) (.slice (some ⟨w.heap.size,0,none⟩) k k):=by
    rw[List.take_of_length_le (by have:=HN.out;omega)] at hf
    exact hf.done (by rw[afw cu.jd];rw[HN.out]) (zql _) (by simp only[maxLen];omega)
   have hbr:=hf.under.1
   clear hf
   go_wp2_with fail
   go_ret
   exact⟨_,rfl,hfin,hbr⟩
theorem axv (ts:List cu):ToR 39 (.row 5 (ts.flatMap cu.pd)):=a6i fun t _=>bdn t
set_option maxHeartbeats 1600000 in
theorem a6j {package:ByteArray} {name:ByteArray} {version:ByteArray} {imports:List cu} {exports:List cu} (anr:ToR 39 (.row 5 (imports.flatMap cu.pd))) (ant:ToR 39 (.row 5 (exports.flatMap cu.pd))):ToC 17 (Wld.pd ⟨package,name,version,imports,exports⟩):=by
 intro B cs w hB hsz h
 obtain⟨aag,zl,rfl,aho,ahp⟩:=Wld.open_ h
 have ao6:=zqd aho
 clear aho
 have ao7:=zqd ahp
 clear ahp
 simp only[Wld.aj,PD.szL] at hsz
 have HS:=zqd hsz
 clear hsz
 go_enter Tryz.func17,Tryz.ntmps17
 go_wp2_with fail
 obtain⟨w0,hw0⟩:∃ w0,w0=((w.alloc (.cells #[.string package,.string name,.string version,aag,zl] 40)).alloc (.cells #[.string {data:=#[]},.string {data:=#[]},.string {data:=#[]},.slice none 0 0,.slice none 0 0] 45)).alloc (.cells #[.string package,.string name,.string version,.slice none 0 0,.slice none 0 0] 45):=⟨_,rfl⟩
 rw[← hw0]
 have bP:Blk w0 w.heap.size 40 #[.string package,.string name,.string version,aag,zl]:=by rw[hw0];exact((Blk.new w _ _).alloc _).alloc _
 have bR:Blk w0 (w.heap.size+1) 45 #[.string {data:=#[]},.string {data:=#[]},.string {data:=#[]},.slice none 0 0,.slice none 0 0]:=by rw[hw0];have:=(Blk.new (w.alloc (.cells #[.string package,.string name,.string version,aag,zl] 40)) 45 #[.string {data:=#[]},.string {data:=#[]},.string {data:=#[]},.slice none 0 0,.slice none 0 0]).alloc (.cells #[.string package,.string name,.string version,.slice none 0 0,.slice none 0 0] 45);simpa using this
 have bO:Blk w0 (w.heap.size+1+1) 45 #[.string package,.string name,.string version,.slice none 0 0,.slice none 0 0]:=by rw[hw0];have:=Blk.new ((w.alloc (.cells #[.string package,.string name,.string version,aag,zl] 40)).alloc (.cells #[.string {data:=#[]},.string {data:=#[]},.string {data:=#[]},.slice none 0 0,.slice none 0 0] 45)) 45 #[.string package,.string name,.string version,.slice none 0 0,.slice none 0 0];simpa using this
 have hB0:Below w.heap.size w w0:=by rw[hw0];exact(((zqf _ _).alloc (zql _) _).alloc (by simp) _).alloc (by simp;omega) _
 have hs0:w.heap.size+3≤w0.heap.size:=by rw[hw0];simp
 clear hw0
 refine(anr B aag _ (by have:=hB0.size;omega) (by have:=HS.out;omega) (ao6.out.below (hB0.mono hB))).mono ?_
 rintro e w1 ⟨bua,rfl,alh,hb1⟩
 obtain⟨aiz,ai0,ai1,rfl⟩:=alh.form
 have hB1:=hB0.trans (hb1.mono hB0.size)
 have hs1:=hb1.size
 replace bP:=bP.step hb1
 replace bR:=bR.step hb1
 replace bO:=bO.step hb1
 have az1:=bO.frozen 3
 have az2:w1.cell? ⟨w.heap.size+1+1,3,none⟩=some (.slice none 0 0):=bO.cell 3
 have az4:w1.cell? ⟨w.heap.size,4,none⟩=some (zl):=bP.cell 4
 go_wp2_with fail
 clear az1 az2 az4
 obtain⟨w2,hw2⟩:∃ W,W=(w1.setCell ⟨w.heap.size+1+1,3,none⟩ (.slice aiz ai0 ai1)):=⟨_,rfl⟩
 rw[← hw2]
 replace bP:Blk w2 w.heap.size 40 #[.string package,.string name,.string version,aag,zl]:=by rw[hw2];exact(bP.far (by simp;try omega) _)
 replace bR:Blk w2 (w.heap.size+1) 45 #[.string {data:=#[]},.string {data:=#[]},.string {data:=#[]},.slice none 0 0,.slice none 0 0]:=by rw[hw2];exact(bR.far (by simp;try omega) _)
 replace bO:Blk w2 (w.heap.size+1+1) 45 #[.string package,.string name,.string version,.slice aiz ai0 ai1,.slice none 0 0]:=by rw[hw2];have:=(bO.aam 3 (.slice aiz ai0 ai1));simpa using this
 have hB2:Below w.heap.size w w2:=by rw[hw2];exact(hB1.setCell (by simp;try omega) _)
 have hs2:w1.heap.size≤w2.heap.size:=by rw[hw2];simp[World.setCell]
 replace alh:=(alh.setCell (p:=⟨w.heap.size+1+1,3,none⟩) (.inl (by simp;omega)) (.slice aiz ai0 ai1))
 rw[← hw2] at alh
 clear hw2
 refine(ant B zl _ (by have:=hB2.size;omega) (by have:=HS.out;omega) (ao7.out.below (hB2.mono hB))).mono ?_
 rintro e w3 ⟨bub,rfl,a3f,hb3⟩
 obtain⟨aod,aoe,aof,rfl⟩:=a3f.form
 have hB3:=hB2.trans (hb3.mono hB2.size)
 have hs3:=hb3.size
 replace bP:=bP.step hb3
 replace bR:=bR.step hb3
 replace bO:=bO.step hb3
 replace alh:=alh.step hb3
 have bmi:=bO.frozen 4
 have bmj:w3.cell? ⟨w.heap.size+1+1,4,none⟩=some (.slice none 0 0):=bO.cell 4
 have fR0:=bR.frozen 0
 have cR0:w3.cell? ⟨w.heap.size+1,0,none⟩=some (.string {data:=#[]}):=bR.cell 0
 have fR1:=bR.frozen 1
 have cR1:w3.cell? ⟨w.heap.size+1,1,none⟩=some (.string {data:=#[]}):=bR.cell 1
 have fR2:=bR.frozen 2
 have cR2:w3.cell? ⟨w.heap.size+1,2,none⟩=some (.string {data:=#[]}):=bR.cell 2
 have fR3:=bR.frozen 3
 have cR3:w3.cell? ⟨w.heap.size+1,3,none⟩=some (.slice none 0 0):=bR.cell 3
 have fR4:=bR.frozen 4
 have cR4:w3.cell? ⟨w.heap.size+1,4,none⟩=some (.slice none 0 0):=bR.cell 4
 obtain⟨bdi,bdj,bdk,bdh⟩:=zc4 bO
 go_wp2_with fail
 clear bP bR bO
 refine bodyPost_ret (v:=.agg #[.string package,.string name,.string version,.slice aiz ai0 ai1,.slice aod aoe aof]) (by simp[results,Tryz.results17,go_sem,cR0,cR1,cR2,cR3,cR4]) rfl ⟨[.string package,.string name,.string version,.slice aiz ai0 ai1,.slice aod aoe aof],rfl,?_,?_⟩
 ·have base:LvC w3 w0.heap.size w3.heap.size [.lit (.string package),.lit (.string name),.lit (.string version),.row 5 (imports.flatMap cu.pd),.row 5 (exports.flatMap cu.pd)] [.string package,.string name,.string version,.slice aiz ai0 ai1,.slice aod aoe aof]:=by
   have:=LvC.lit (LvC.lit (LvC.lit (LvC.cons alh (LvC.cons a3f (LvC.nil0 _) (by first|omega|(simp;omega)) (by first|omega|(simp;omega)) (by first|omega|(simp;omega))) (by first|omega|(simp;omega)) (by first|omega|(simp;omega)) (by first|omega|(simp;omega))) (.string version)) (.string name)) (.string package)
   exact this
  rw[Wld.aj]
  refine LvC.low (lo2:=w0.heap.size) ?_ (by omega)
  refine LvC.more (hi:=w3.heap.size) ?_ (zql _) (by simp[World.setCell]) (zql _)
  iterate 6 (refine LvC.setCell ?_ (.inl (by simp;omega)) _)
  exact base
 ·iterate 6 (refine Below.setCell ?_ (by simp;try omega) _)
  exact hB3
theorem ak9 (t:Wld):ToC 17 (Wld.pd t):=by obtain⟨package,name,version,imports,exports⟩:=t;exact a6j (axv imports) (axv exports)
end Go.Proofs.YtbafphecjijdmaaGreatDoor
