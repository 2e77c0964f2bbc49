/-
  The laws' own helpers 'to..' over the program's types (by program: tygen2.py, tyfam.py).
-/
import Derived.Test.YtfpannkadjdnaaaGreatDoorTa04
namespace Go.Proofs.YtfpannkadjdnaaaGreatDoor
open Go.RowKit
set_option linter.all false
set_option maxRecDepth 100000
theorem avg:(Tryz.prog.info? 9).map (fun i=>(i.zero,i.size,i.bytes))=some (some (.string {data:=#[]}),1,16):=by kernel_rfl
set_option maxHeartbeats 1600000 in
theorem avh {ts:List ByteArray}:ToR 23 (.row 1 (ts.flatMap aam)):=by
 intro B v w hB hsz h;rw[am4 jo (by decide)] at hsz;obtain⟨A,n,c,rfl,hnl,hm,hat⟩:=bf jo (by decide) h;obtain⟨i0,hi,hz0,hz1,hz2⟩:=info_parts avg;have hmk:=fun W=>ajz (P:=Tryz.prog) 25 9 i0 _ Tryz.underlying25 hi hz0 .i64 .i64 n n (zql _) (by rw[hz2];omega) (by omega) W;rw[hz1,Nat.mul_one] at hmk;have hnn:n≤1048576:=by omega
 have HN:=zqd hnl;clear h hnl hz0 hz1 hz2 hi hm hsz;go_enter Tryz.func23,Tryz.ntmps23
 go_wp2
 clear hmk;obtain⟨W1,hW1⟩:∃ W1,W1=w.alloc (.cells (madeCells #[.string {data:=#[]}] (n)) 9):=⟨_,rfl⟩;rw[← hW1]
 have hF:Fills w W1 w.heap.size n 1 ((ts.take 0).flatMap aam) 0:=by
  rw[hW1];exact Fills.start (cs:=(madeCells #[.string {data:=#[]}] (n)).toList) (afn.new w _ _) (by simp[size_madeCells]) ((zqf _ _).alloc (zql _) _) (by simp)
 clear hW1;go_loopw [4] (fun i wr=>∃ k:Nat,k≤n∧i=.int .i64 k∧Fills w wr w.heap.size n 1 ((ts.take k).flatMap aam) k) (fun i _=>n - (intOf i).toNat)
 case atStart=>exact⟨0,Nat.zero_le _,rfl,hF⟩
 case round=>
  obtain⟨k,hk,rfl,hf⟩:=hrel;clear hF;by_cases hlt:k < n
  ·obtain⟨g,off,rfl,hg,hcell⟩:=hat (by omega)
   obtain⟨t,hx,hmem⟩:=uo HN.out hlt;obtain⟨hbr,hg0⟩:=hf.under;have c0:wr.cell? ⟨g,off+k,none⟩=some (.string t):=ng hbr (by omega) (by have:=hcell k 0 _ _ hx rfl;simpa using this);have HX:=zqd hx;clear hx hcell;obtain⟨⟨u0,d0⟩,f0⟩:=hf.cell (zqf _ _) hlt 0 (by decide);rw[Nat.add_zero,Nat.mul_one] at d0 f0;have hnx:=hf.next (zqf _ _) (es:=aam t) (ni.cons (Hold.bcr wr (.string t)) (ni.nil wr)) (In.nil _ _) (rfl) hlt
   rw[Nat.mul_one] at hnx;have HF:=zqd hnx;clear hnx hf;go_wp2_with fail
   go_roundw
   case rel=>exact⟨k+1,by omega,by go_num,by rw[List.take_add_one,HX.out,List.flatMap_append,aso];exact HF.out⟩
   case measure=>simp[intOf];omega
  ·have hkn:k=n:=by omega
   subst hkn
   have hfin:Lv wr w.heap.size wr.heap.size (.row 1 (ts.flatMap aam)) (.slice (some ⟨w.heap.size,0,none⟩) k k):=by
    rw[List.take_of_length_le (by have:=HN.out;omega)] at hf;exact hf.done (by rw[abx jo];rw[HN.out]) (zql _) (by simp only[maxLen];omega)
   have hbr:=hf.under.1;clear hf;go_wp2_with fail
   go_ret
   exact⟨_,rfl,hfin,hbr⟩
theorem ayo:(Tryz.prog.info? 39).map (fun i=>(i.zero,i.size,i.bytes))=some (some (.agg #[.int .i64 0,.string {data:=#[]},.slice none 0 0,.slice none 0 0]),4,72):=by kernel_rfl
set_option maxHeartbeats 1600000 in
theorem ayp {ts:List Ty} (ih:∀ t ∈ ts,ToC 8 (Ty.pd t)):ToR 24 (.row 4 (ts.flatMap Ty.pd)):=by
 intro B v w hB hsz h;rw[am4 Ty.ay (by decide)] at hsz;obtain⟨A,n,c,rfl,hnl,hm,hat⟩:=bf Ty.ay (by decide) h;obtain⟨i0,hi,hz0,hz1,hz2⟩:=info_parts ayo;have hmk:=fun W=>ajz (P:=Tryz.prog) 37 39 i0 _ Tryz.underlying37 hi hz0 .i64 .i64 n n (zql _) (by rw[hz2];omega) (by omega) W;rw[hz1] at hmk;have hnn:n≤1048576:=by omega
 have HN:=zqd hnl;have HS:=zqd hsz;have HI:=zqd ih;clear ih;clear h hnl hz0 hz1 hz2 hi hm hsz;go_enter Tryz.func24,Tryz.ntmps24
 go_wp2
 clear hmk;obtain⟨W1,hW1⟩:∃ W1,W1=w.alloc (.cells (madeCells #[.int .i64 0,.string {data:=#[]},.slice none 0 0,.slice none 0 0] (n * 4)) 39):=⟨_,rfl⟩;rw[← hW1]
 have hF:Fills w W1 w.heap.size n 4 ((ts.take 0).flatMap Ty.pd) 0:=by
  rw[hW1];exact Fills.start (cs:=(madeCells #[.int .i64 0,.string {data:=#[]},.slice none 0 0,.slice none 0 0] (n * 4)).toList) (afn.new w _ _) (by simp[size_madeCells]) ((zqf _ _).alloc (zql _) _) (by simp)
 clear hW1;go_loopw [4] (fun i wr=>∃ k:Nat,k≤n∧i=.int .i64 k∧Fills w wr w.heap.size n 4 ((ts.take k).flatMap Ty.pd) k) (fun i _=>n - (intOf i).toNat)
 case atStart=>exact⟨0,Nat.zero_le _,rfl,hF⟩
 case round=>
  obtain⟨k,hk,rfl,hf⟩:=hrel;clear hF;by_cases hlt:k < n
  ·obtain⟨g,off,rfl,hg,hcell⟩:=hat (by omega)
   obtain⟨t,hx,hmem⟩:=uo HN.out hlt;obtain⟨hbr,hg0⟩:=hf.under;have hle:=akz (f:=Ty.pd) hx;obtain⟨kind,name,labels,kids⟩:=t;have c0:wr.cell? ⟨g,off+k * 4,none⟩=some (.int .i64 kind):=ng hbr (by omega) (hcell k 0 _ _ hx (by rw[Ty.ji];rfl));have c1:wr.cell? ⟨g,off+k * 4+1,none⟩=some (.string name):=ng hbr (by omega) (hcell k 1 _ _ hx (by rw[Ty.ji];rfl));obtain⟨iy,c2,hr2⟩:∃ u,wr.cell? ⟨g,off+k * 4+2,none⟩=some u∧Rep wr B (.row 1 (labels.flatMap aam)) u:=xq hbr (by omega) hB (hcell k 2 _ _ hx (by rw[Ty.ji];rfl));have HR2:=zqd hr2;clear hr2;obtain⟨iw,c3,hr3⟩:∃ u,wr.cell? ⟨g,off+k * 4+3,none⟩=some u∧Rep wr B (.row 4 (kids.flatMap Ty.pd)) u:=xq hbr (by omega) hB (hcell k 3 _ _ hx (by rw[Ty.ji];rfl));have HR3:=zqd hr3;clear hr3;have HX:=zqd hx;have HL:=zqd hle;have HM:=zqd hmem;clear hx hcell hle hmem;go_wp2_with fail
   refine(HI.out _ HM.out B [.int .i64 kind,.string name,iy,iw] _ (by omega) (by have:=HS.out;have:=HL.out;omega) (Ty.close_ HR2.out HR3.out)).mono ?_;rintro e wq ⟨us,rfl,hl,hbq⟩;obtain⟨jy,jc,jl,l9,iq,ku,rfl⟩:=Ty.acv hl;have hlen:=hl.len;obtain⟨F2,hh,hi2,_⟩:=hl;obtain⟨⟨u0,d0⟩,f0⟩:=hf.cell hbq hlt 0 (by decide);rw[Nat.add_zero] at d0 f0;obtain⟨⟨u1,d1⟩,f1⟩:=hf.cell hbq hlt 1 (by decide);obtain⟨⟨u2,d2⟩,f2⟩:=hf.cell hbq hlt 2 (by decide);obtain⟨⟨u3,d3⟩,f3⟩:=hf.cell hbq hlt 3 (by decide);have hnx:=hf.next hbq (es:=Ty.pd ⟨kind,name,labels,kids⟩) hh hi2 (hlen.trans (Ty.ay _)) hlt
   have HF:=zqd hnx;clear hnx hf hh hi2 hlen;go_wp2_with fail
   go_roundw
   case rel=>exact⟨k+1,by omega,by go_num,by rw[List.take_add_one,HX.out,List.flatMap_append,aso];exact HF.out⟩
   case measure=>simp[intOf];omega
  ·have hkn:k=n:=by omega
   subst hkn
   have hfin:Lv wr w.heap.size wr.heap.size (.row 4 (ts.flatMap Ty.pd)) (.slice (some ⟨w.heap.size,0,none⟩) k k):=by
    rw[List.take_of_length_le (by have:=HN.out;omega)] at hf;exact hf.done (by rw[abx Ty.ay];rw[HN.out]) (zql _) (by simp only[maxLen];omega)
   have hbr:=hf.under.1;clear hf;go_wp2_with fail
   go_ret
   exact⟨_,rfl,hfin,hbr⟩
set_option maxHeartbeats 1600000 in
theorem a0t {kind:Int} {name:ByteArray} {labels:List ByteArray} {kids:List Ty} (ai5:ToR 23 (.row 1 (labels.flatMap aam))) (afq:ToR 24 (.row 4 (kids.flatMap Ty.pd))):ToC 8 (Ty.pd ⟨kind,name,labels,kids⟩):=by
 intro B cs w hB hsz h;obtain⟨iy,iw,rfl,dh,dn⟩:=Ty.open_ h;have pz:=zqd dh;clear dh;have pq:=zqd dn;clear dn;simp only[Ty.ji,PD.szL] at hsz;have HS:=zqd hsz;clear hsz;go_enter Tryz.func8,Tryz.ntmps8
 go_wp2_with fail
 obtain⟨w0,hw0⟩:∃ w0,w0=((w.alloc (.cells #[.int .i64 kind,.string name,iy,iw] 28)).alloc (.cells #[.int .i64 0,.string {data:=#[]},.slice none 0 0,.slice none 0 0] 39)).alloc (.cells #[.int .i64 kind,.string name,.slice none 0 0,.slice none 0 0] 39):=⟨_,rfl⟩;rw[← hw0];have bP:Blk w0 w.heap.size 28 #[.int .i64 kind,.string name,iy,iw]:=by rw[hw0];exact((Blk.new w _ _).alloc _).alloc _
 have bR:=zn31 hw0;have bO:=zn32 hw0;have hB0:Below w.heap.size w w0:=by rw[hw0];exact(((zqf _ _).alloc (zql _) _).alloc (by simp) _).alloc (by simp;omega) _
 have hs0:w.heap.size+3≤w0.heap.size:=by rw[hw0];simp
 clear hw0;refine(ai5 B iy _ (by have:=hB0.size;omega) (by have:=HS.out;omega) (pz.out.below (hB0.mono hB))).mono ?_;rintro e w1 ⟨bx2,rfl,aj3,hb1⟩;obtain⟨jy,jc,jl,rfl⟩:=aj3.form;have hB1:=hB0.trans (hb1.mono hB0.size);have hs1:=hb1.size;replace bP:=bP.step hb1;replace bR:=bR.step hb1;replace bO:=bO.step hb1;have bvi:=bO.frozen 2;have bon:w1.cell? ⟨w.heap.size+1+1,2,none⟩=some (.slice none 0 0):=bO.cell 2;have bvj:w1.cell? ⟨w.heap.size,3,none⟩=some (iw):=bP.cell 3;go_wp2_with fail
 clear bvi bon bvj;obtain⟨w2,hw2⟩:∃ W,W=(w1.setCell ⟨w.heap.size+1+1,2,none⟩ (.slice jy jc jl)):=⟨_,rfl⟩;rw[← hw2];replace bP:Blk w2 w.heap.size 28 #[.int .i64 kind,.string name,iy,iw]:=by rw[hw2];exact(bP.far (by simp;try omega) _)
 replace bR:Blk w2 (w.heap.size+1) 39 #[.int .i64 0,.string {data:=#[]},.slice none 0 0,.slice none 0 0]:=by rw[hw2];exact(bR.far (by simp;try omega) _)
 replace bO:Blk w2 (w.heap.size+1+1) 39 #[.int .i64 kind,.string name,.slice jy jc jl,.slice none 0 0]:=by rw[hw2];have:=(bO.l7 2 (.slice jy jc jl));simpa using this
 have hB2:Below w.heap.size w w2:=by rw[hw2];exact(hB1.setCell (by simp;try omega) _)
 have hs2:w1.heap.size≤w2.heap.size:=by rw[hw2];simp[World.setCell]
 replace aj3:=(aj3.setCell (p:=⟨w.heap.size+1+1,2,none⟩) (.inl (by simp;omega)) (.slice jy jc jl));rw[← hw2] at aj3;clear hw2;refine(afq B iw _ (by have:=hB2.size;omega) (by have:=HS.out;omega) (pq.out.below (hB2.mono hB))).mono ?_;rintro e w3 ⟨bso,rfl,ap9,hb3⟩;obtain⟨l9,iq,ku,rfl⟩:=ap9.form;have hB3:=hB2.trans (hb3.mono hB2.size);have hs3:=hb3.size;replace bP:=bP.step hb3;replace bR:=bR.step hb3;replace bO:=bO.step hb3;replace aj3:=aj3.step hb3;have b26:=bO.frozen 3;have b29:w3.cell? ⟨w.heap.size+1+1,3,none⟩=some (.slice none 0 0):=bO.cell 3;have fR0:=bR.frozen 0;have cR0:w3.cell? ⟨w.heap.size+1,0,none⟩=some (.int .i64 0):=bR.cell 0;have fR1:=bR.frozen 1;have cR1:w3.cell? ⟨w.heap.size+1,1,none⟩=some (.string {data:=#[]}):=bR.cell 1;have fR2:=bR.frozen 2;have cR2:w3.cell? ⟨w.heap.size+1,2,none⟩=some (.slice none 0 0):=bR.cell 2;have fR3:=bR.frozen 3;have cR3:w3.cell? ⟨w.heap.size+1,3,none⟩=some (.slice none 0 0):=bR.cell 3;obtain⟨b3a,b3b,b3c⟩:=zc3 bO;go_wp2_with fail
 clear bP bR bO;refine bodyPost_ret (v:=.agg #[.int .i64 kind,.string name,.slice jy jc jl,.slice l9 iq ku]) (by simp[results,Tryz.results8,go_sem,cR0,cR1,cR2,cR3]) rfl ⟨[.int .i64 kind,.string name,.slice jy jc jl,.slice l9 iq ku],rfl,?_,?_⟩
 ·have base:LvC w3 w0.heap.size w3.heap.size [.lit (.int .i64 kind),.lit (.string name),.row 1 (labels.flatMap aam),.row 4 (kids.flatMap Ty.pd)] [.int .i64 kind,.string name,.slice jy jc jl,.slice l9 iq ku]:=by
   have:=LvC.lit (LvC.lit (LvC.cons aj3 (LvC.cons ap9 (LvC.nil0 _) (by first|omega|(simp;omega)) (by first|omega|(simp;omega)) (by first|omega|(simp;omega))) (by first|omega|(simp;omega)) (by first|omega|(simp;omega)) (by first|omega|(simp;omega))) (.string name)) (.int .i64 kind);exact this
  rw[Ty.ji];refine LvC.low (lo2:=w0.heap.size) ?_ (by omega);refine LvC.more (hi:=w3.heap.size) ?_ (zql _) (by simp[World.setCell]) (zql _)
  iterate 5 (refine LvC.setCell ?_ (.inl (by simp;omega)) _)
  exact base
 ·iterate 5 (refine Below.setCell ?_ (by simp;try omega) _)
  exact hB3
mutual
theorem agw:∀ t:Ty,ToC 8 (Ty.pd t)
 | .mk kind name labels kids=>a0t avh (ayp (aud kids))
theorem aud:∀ ts:List Ty,∀ t ∈ ts,ToC 8 (Ty.pd t)
 | [],x,hx=>absurd hx (by simp)
 | t ::r,x,hx=>(List.mem_cons.1 hx).elim (fun e=>e ▸ agw t) (fun h=>aud r x h)
end
theorem ad6:(Tryz.prog.info? 33).map (fun i=>(i.zero,i.size,i.bytes))=some (some (.agg #[.int .i64 0,.int .i64 0,.string {data:=#[]},.slice none 0 0]),4,56):=by kernel_rfl
set_option maxHeartbeats 1600000 in
theorem axi {ts:List Val} (ih:∀ t ∈ ts,ToC 7 (Val.pd t)):ToR 22 (.row 4 (ts.flatMap Val.pd)):=by
 intro B v w hB hsz h;rw[am4 Val.ay (by decide)] at hsz;obtain⟨A,n,c,rfl,hnl,hm,hat⟩:=bf Val.ay (by decide) h;obtain⟨i0,hi,hz0,hz1,hz2⟩:=info_parts ad6;have hmk:=fun W=>ajz (P:=Tryz.prog) 31 33 i0 _ Tryz.underlying31 hi hz0 .i64 .i64 n n (zql _) (by rw[hz2];omega) (by omega) W;rw[hz1] at hmk;have hnn:n≤1048576:=by omega
 have HN:=zqd hnl;have HS:=zqd hsz;have HI:=zqd ih;clear ih;clear h hnl hz0 hz1 hz2 hi hm hsz;go_enter Tryz.func22,Tryz.ntmps22
 go_wp2
 clear hmk;obtain⟨W1,hW1⟩:∃ W1,W1=w.alloc (.cells (madeCells #[.int .i64 0,.int .i64 0,.string {data:=#[]},.slice none 0 0] (n * 4)) 33):=⟨_,rfl⟩;rw[← hW1]
 have hF:Fills w W1 w.heap.size n 4 ((ts.take 0).flatMap Val.pd) 0:=by
  rw[hW1];exact Fills.start (cs:=(madeCells #[.int .i64 0,.int .i64 0,.string {data:=#[]},.slice none 0 0] (n * 4)).toList) (afn.new w _ _) (by simp[size_madeCells]) ((zqf _ _).alloc (zql _) _) (by simp)
 clear hW1;go_loopw [4] (fun i wr=>∃ k:Nat,k≤n∧i=.int .i64 k∧Fills w wr w.heap.size n 4 ((ts.take k).flatMap Val.pd) k) (fun i _=>n - (intOf i).toNat)
 case atStart=>exact⟨0,Nat.zero_le _,rfl,hF⟩
 case round=>
  obtain⟨k,hk,rfl,hf⟩:=hrel;clear hF;by_cases hlt:k < n
  ·obtain⟨g,off,rfl,hg,hcell⟩:=hat (by omega)
   obtain⟨t,hx,hmem⟩:=uo HN.out hlt;obtain⟨hbr,hg0⟩:=hf.under;have hle:=akz (f:=Val.pd) hx;obtain⟨kind,num,text,kids⟩:=t;have c0:wr.cell? ⟨g,off+k * 4,none⟩=some (.int .i64 kind):=ng hbr (by omega) (hcell k 0 _ _ hx (by rw[Val.ji];rfl));have c1:wr.cell? ⟨g,off+k * 4+1,none⟩=some (.int .i64 num):=ng hbr (by omega) (hcell k 1 _ _ hx (by rw[Val.ji];rfl));have c2:wr.cell? ⟨g,off+k * 4+2,none⟩=some (.string text):=ng hbr (by omega) (hcell k 2 _ _ hx (by rw[Val.ji];rfl));obtain⟨iw,c3,hr3⟩:∃ u,wr.cell? ⟨g,off+k * 4+3,none⟩=some u∧Rep wr B (.row 4 (kids.flatMap Val.pd)) u:=xq hbr (by omega) hB (hcell k 3 _ _ hx (by rw[Val.ji];rfl));have HR3:=zqd hr3;clear hr3;have HX:=zqd hx;have HL:=zqd hle;have HM:=zqd hmem;clear hx hcell hle hmem;go_wp2_with fail
   refine(HI.out _ HM.out B [.int .i64 kind,.int .i64 num,.string text,iw] _ (by omega) (by have:=HS.out;have:=HL.out;omega) (Val.close_ HR3.out)).mono ?_;rintro e wq ⟨us,rfl,hl,hbq⟩;obtain⟨l9,iq,ku,rfl⟩:=Val.acv hl;have hlen:=hl.len;obtain⟨F2,hh,hi2,_⟩:=hl;obtain⟨⟨u0,d0⟩,f0⟩:=hf.cell hbq hlt 0 (by decide);rw[Nat.add_zero] at d0 f0;obtain⟨⟨u1,d1⟩,f1⟩:=hf.cell hbq hlt 1 (by decide);obtain⟨⟨u2,d2⟩,f2⟩:=hf.cell hbq hlt 2 (by decide);obtain⟨⟨u3,d3⟩,f3⟩:=hf.cell hbq hlt 3 (by decide);have hnx:=hf.next hbq (es:=Val.pd ⟨kind,num,text,kids⟩) hh hi2 (hlen.trans (Val.ay _)) hlt
   have HF:=zqd hnx;clear hnx hf hh hi2 hlen;go_wp2_with fail
   go_roundw
   case rel=>exact⟨k+1,by omega,by go_num,by rw[List.take_add_one,HX.out,List.flatMap_append,aso];exact HF.out⟩
   case measure=>simp[intOf];omega
  ·have hkn:k=n:=by omega
   subst hkn
   have hfin:Lv wr w.heap.size wr.heap.size (.row 4 (ts.flatMap Val.pd)) (.slice (some ⟨w.heap.size,0,none⟩) k k):=by
    rw[List.take_of_length_le (by have:=HN.out;omega)] at hf;exact hf.done (by rw[abx Val.ay];rw[HN.out]) (zql _) (by simp only[maxLen];omega)
   have hbr:=hf.under.1;clear hf;go_wp2_with fail
   go_ret
   exact⟨_,rfl,hfin,hbr⟩
set_option maxHeartbeats 1600000 in
theorem ayq {kind:Int} {num:Int} {text:ByteArray} {kids:List Val} (afq:ToR 22 (.row 4 (kids.flatMap Val.pd))):ToC 7 (Val.pd ⟨kind,num,text,kids⟩):=by
 intro B cs w hB hsz h;obtain⟨iw,rfl,dn⟩:=Val.open_ h;have pq:=zqd dn;clear dn;simp only[Val.ji,PD.szL] at hsz;have HS:=zqd hsz;clear hsz;go_enter Tryz.func7,Tryz.ntmps7
 go_wp2_with fail
 obtain⟨w0,hw0⟩:∃ w0,w0=((w.alloc (.cells #[.int .i64 kind,.int .i64 num,.string text,iw] 24)).alloc (.cells #[.int .i64 0,.int .i64 0,.string {data:=#[]},.slice none 0 0] 33)).alloc (.cells #[.int .i64 kind,.int .i64 num,.string text,.slice none 0 0] 33):=⟨_,rfl⟩;rw[← hw0];have bP:Blk w0 w.heap.size 24 #[.int .i64 kind,.int .i64 num,.string text,iw]:=by rw[hw0];exact((Blk.new w _ _).alloc _).alloc _
 have bR:=zn31 hw0;have bO:=zn32 hw0;have hB0:Below w.heap.size w w0:=by rw[hw0];exact(((zqf _ _).alloc (zql _) _).alloc (by simp) _).alloc (by simp;omega) _
 have hs0:w.heap.size+3≤w0.heap.size:=by rw[hw0];simp
 clear hw0;refine(afq B iw _ (by have:=hB0.size;omega) (by have:=HS.out;omega) (pq.out.below (hB0.mono hB))).mono ?_;rintro e w1 ⟨bso,rfl,ap9,hb1⟩;obtain⟨l9,iq,ku,rfl⟩:=ap9.form;have hB1:=hB0.trans (hb1.mono hB0.size);have hs1:=hb1.size;replace bP:=bP.step hb1;replace bR:=bR.step hb1;replace bO:=bO.step hb1;have b3d:=bO.frozen 3;have b3e:w1.cell? ⟨w.heap.size+1+1,3,none⟩=some (.slice none 0 0):=bO.cell 3;have fR0:=bR.frozen 0;have cR0:w1.cell? ⟨w.heap.size+1,0,none⟩=some (.int .i64 0):=bR.cell 0;have fR1:=bR.frozen 1;have cR1:w1.cell? ⟨w.heap.size+1,1,none⟩=some (.int .i64 0):=bR.cell 1;have fR2:=bR.frozen 2;have cR2:w1.cell? ⟨w.heap.size+1,2,none⟩=some (.string {data:=#[]}):=bR.cell 2;have fR3:=bR.frozen 3;have cR3:w1.cell? ⟨w.heap.size+1,3,none⟩=some (.slice none 0 0):=bR.cell 3;obtain⟨b3f,b3g,bon⟩:=zc3 bO;go_wp2_with fail
 clear bP bR bO;refine bodyPost_ret (v:=.agg #[.int .i64 kind,.int .i64 num,.string text,.slice l9 iq ku]) (by simp[results,Tryz.results7,go_sem,cR0,cR1,cR2,cR3]) rfl ⟨[.int .i64 kind,.int .i64 num,.string text,.slice l9 iq ku],rfl,?_,?_⟩
 ·have base:LvC w1 w0.heap.size w1.heap.size [.lit (.int .i64 kind),.lit (.int .i64 num),.lit (.string text),.row 4 (kids.flatMap Val.pd)] [.int .i64 kind,.int .i64 num,.string text,.slice l9 iq ku]:=by
   have:=LvC.lit (LvC.lit (LvC.lit (LvC.cons ap9 (LvC.nil0 _) (by first|omega|(simp;omega)) (by first|omega|(simp;omega)) (by first|omega|(simp;omega))) (.string text)) (.int .i64 num)) (.int .i64 kind);exact this
  rw[Val.ji];refine LvC.low (lo2:=w0.heap.size) ?_ (by omega);refine LvC.more (hi:=w1.heap.size) ?_ (zql _) (by simp[World.setCell]) (zql _)
  iterate 5 (refine LvC.setCell ?_ (.inl (by simp;omega)) _)
  exact base
 ·iterate 5 (refine Below.setCell ?_ (by simp;try omega) _)
  exact hB1
mutual
theorem ajv:∀ t:Val,ToC 7 (Val.pd t)
 | .mk kind num text kids=>ayq (axi (ar6 kids))
theorem ar6:∀ ts:List Val,∀ t ∈ ts,ToC 7 (Val.pd t)
 | [],x,hx=>absurd hx (by simp)
 | t ::r,x,hx=>(List.mem_cons.1 hx).elim (fun e=>e ▸ ajv t) (fun h=>ar6 r x h)
end
end Go.Proofs.YtfpannkadjdnaaaGreatDoor
