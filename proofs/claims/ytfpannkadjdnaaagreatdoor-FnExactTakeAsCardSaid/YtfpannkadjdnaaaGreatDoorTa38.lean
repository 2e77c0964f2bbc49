/-
  Values that fit a type: spec.l04Fits (by program: gen_tkh.py) (by program: gen_why.py).
-/
import Derived.Test.YtfpannkadjdnaaaGreatDoorTa37
import Derived.Test.YtfpannkadjdnaaaGreatDoorTa26
namespace Go.Proofs.YtfpannkadjdnaaaGreatDoor
open Go.RowKit
set_option linter.all false
set_option maxRecDepth 16000
theorem afs (k:Int) {lo hi:Int} {v:Bool} (w:World) (h1:zu k=lo) (h2:zx k=hi) (h3:isNum k=v):Calls Tryz.prog 55 #[.int .i64 k] w fun e w'=>e=.returned (.tuple #[.int .i64 lo,.int .i64 hi,.bool v])∧w=w':=by
 rw[← h1,← h2,← h3];exact aki k w
def ahg (fid:Nat) (n:Nat) (K:Int) (vt:ByteArray):Prop:=∀ (vn:Int) (vks:List Val) (name:ByteArray) (labels:List ByteArray) (kids:List Ty) (B:Nat) (cs ds:List Value) (w:World),B≤w.heap.size→aiz w→OkT (n+1) ⟨K,name,labels,kids⟩→PD.wfL (Val.pd ⟨K,vn,vt,vks⟩)→jq w B (Val.pd ⟨K,vn,vt,vks⟩) cs→jq w B (Ty.pd ⟨K,name,labels,kids⟩) ds→
 Calls Tryz.prog fid #[.agg cs.toArray,.agg ds.toArray] w fun e w'=>e=.returned (.bool (uq (n+1) ⟨K,vn,vt,vks⟩ ⟨K,name,labels,kids⟩))∧Below w.heap.size w w'
theorem len0 {vN:Nat} {vks:List Val} (h:vN=vks.length):decide ((vN:Int)=0)=decide (vks.length=0):=by
 by_cases e:vN=0
 ·rw[decide_eq_true (by omega),decide_eq_true (by omega)]
 ·rw[decide_eq_false (by omega),decide_eq_false (by omega)]
theorem agv {R a b:Bool} {c d:Bool} (h:R=(a && b)) (h1:a=c) (h2:b=d):R=(c && d):=by rw[h,h1,h2]
theorem a3b {n:Nat} {x:Ty} (h:jk 13 n [x]=true):¬ x.kind=1:=by
 obtain⟨eu,gq,lq,oq⟩:=x;simp[jk,aa4] at h;simpa [Ty.isUnit,Ty.kind] using h
theorem apn {n:Int}:inB n 0 0=decide (n=0):=by
 by_cases h:n=0
 ·subst h;rfl
 ·rw[decide_eq_false h,aec];omega
set_option maxHeartbeats 6400000 in
theorem bul {n:Nat} (ih:afg 37 n):ahg 37 n 1 ⟨#[]⟩:=by
 intro vn vks name labels kids B cs ds w hB hT hok hwf hv h;obtain⟨R,hR⟩:∃ R,uq (n+1) ⟨1,vn,⟨#[]⟩,vks⟩ ⟨1,name,labels,kids⟩=R:=⟨_,rfl⟩;rw[hR];have HR:Hid (R=(adu 1 labels.length vn && xw (uq n) vks (og 1 vn vks.length kids))):=hR.symm;clear hR;obtain⟨hw1,hw2⟩:=ada hwf;have HW2:=zqd hw2;have HOK:=zqd (qg hok);have zn:Ty.shapes ⟨1,name,labels,kids⟩=true:=hok.2;have adk:=ab7 zn;have HSH:=zqd (shF zn);have IH:=zqd ih;have HT:=zqd hT;clear ih hwf hw2 hok hT zn;obtain⟨adx,rfl,r_v⟩:=Val.open_ hv;obtain⟨vA,vN,vC,rfl⟩:=r_v.form;obtain⟨iy,iw,rfl,r_l,r_k⟩:=Ty.open_ h;obtain⟨lA,lN,lC,rfl⟩:=r_l.form;obtain⟨kA,kN,kC,rfl⟩:=r_k.form;have hvl:vN=vks.length:=by obtain⟨A',n',c',he,hnl,_⟩:=bf Val.ay (by decide) r_v;injection he with e1 e2 e3;omega
 have hvm:vN≤maxLen:=by obtain⟨A',n',c',he,_,hm,_⟩:=bf Val.ay (by decide) r_v;injection he with e1 e2 e3;omega
 have hll:lN=labels.length:=by obtain⟨A',n',c',he,hnl,_⟩:=bf jo (by decide) r_l;injection he with e1 e2 e3;omega
 have hkl:kN=kids.length:=by obtain⟨A',n',c',he,hnl,_⟩:=bf Ty.ay (by decide) r_k;injection he with e1 e2 e3;omega
 unfold maxLen at hvm;have RV:=zqd r_v;have RL:=zqd r_l;have RK:=zqd r_k;have HVL:=zqd hvl;have HLL:=zqd hll;have HKL:=zqd hkl;clear hv h r_v r_l r_k hvl hll hkl;obtain⟨w0,hw0⟩:∃ V,V=(w.alloc (.cells #[.int .i64 1,.int .i64 vn,.string {data:=#[]},.slice vA vN vC] 33)).alloc (.cells #[.int .i64 1,.string name,.slice lA lN lC,.slice kA kN kC] 39):=⟨_,rfl⟩;have bV:Blk w0 w.heap.size 33 #[.int .i64 1,.int .i64 vn,.string {data:=#[]},.slice vA vN vC]:=by rw[hw0];exact(Blk.new w _ _).alloc _
 have bT:=zn21 hw0;have hB0:Below w.heap.size w w0:=by rw[hw0];exact((zqf _ _).alloc (zql _) _).alloc (by simp) _
 have HW0:=zqd hw0;clear hw0;obtain⟨v0,v1,v2,v3⟩:=zc4 bV;obtain⟨t0,t1,t2,t3⟩:=zc4 bT;have hl:lN≤16:=by have:=HLL.out;omega
 clear adk;have HL0:=zqd (len0 HVL.out);have HQ:Hid (R=(inB vn (zu 1) (zx 1) && decide ((vN:Int)=0))):=agv HR.out (rfl) ((ae1 (by omega) kids).trans HL0.out.symm);obtain⟨lo,hlo⟩:∃ lo,zu 1=lo:=⟨_,rfl⟩;obtain⟨hi,hhi⟩:∃ hi,zx 1=hi:=⟨_,rfl⟩;rw[hlo,hhi] at HQ;have HNR:=zqd (afs 1 w0 hlo hhi (v:=false) rfl);clear hlo hhi;obtain⟨b1,hv⟩:∃ b,inB vn lo hi=b:=⟨_,rfl⟩;rw[hv] at HQ;go_enter Tryz.func37,Tryz.ntmps37
 go_wp2_with fail
 rw[← HW0.out];clear HW0;refine HNR.out.mono ?_;rintro e w1 ⟨rfl,hq⟩;subst hq;go_wp2_with fail
 refine(aip hv).mono ?_;rintro e w1 ⟨rfl,hq⟩;replace hq:=hq.symm;subst hq;cases b1
 case false=>
  have HF:Hid (R=false):=HQ.out;go_wp2_with fail
  go_ret
  exact⟨au HF.out.symm,hB0⟩
 have HF:Hid (R=decide ((vN:Int)=0)):=HQ.out;go_wp2_with fail
 go_ret
 exact⟨au HF.out.symm,hB0⟩
set_option maxHeartbeats 6400000 in
theorem bum {n:Nat} (ih:afg 37 n):ahg 37 n 2 ⟨#[]⟩:=by
 intro vn vks name labels kids B cs ds w hB hT hok hwf hv h;obtain⟨R,hR⟩:∃ R,uq (n+1) ⟨2,vn,⟨#[]⟩,vks⟩ ⟨2,name,labels,kids⟩=R:=⟨_,rfl⟩;rw[hR];have HR:Hid (R=(adu 2 labels.length vn && xw (uq n) vks (og 2 vn vks.length kids))):=hR.symm;clear hR;obtain⟨hw1,hw2⟩:=ada hwf;have HW2:=zqd hw2;have HOK:=zqd (qg hok);have zn:Ty.shapes ⟨2,name,labels,kids⟩=true:=hok.2;have adk:=ab7 zn;have HSH:=zqd (shF zn);have IH:=zqd ih;have HT:=zqd hT;clear ih hwf hw2 hok hT zn;obtain⟨adx,rfl,r_v⟩:=Val.open_ hv;obtain⟨vA,vN,vC,rfl⟩:=r_v.form;obtain⟨iy,iw,rfl,r_l,r_k⟩:=Ty.open_ h;obtain⟨lA,lN,lC,rfl⟩:=r_l.form;obtain⟨kA,kN,kC,rfl⟩:=r_k.form;have hvl:vN=vks.length:=by obtain⟨A',n',c',he,hnl,_⟩:=bf Val.ay (by decide) r_v;injection he with e1 e2 e3;omega
 have hvm:vN≤maxLen:=by obtain⟨A',n',c',he,_,hm,_⟩:=bf Val.ay (by decide) r_v;injection he with e1 e2 e3;omega
 have hll:lN=labels.length:=by obtain⟨A',n',c',he,hnl,_⟩:=bf jo (by decide) r_l;injection he with e1 e2 e3;omega
 have hkl:kN=kids.length:=by obtain⟨A',n',c',he,hnl,_⟩:=bf Ty.ay (by decide) r_k;injection he with e1 e2 e3;omega
 unfold maxLen at hvm;have RV:=zqd r_v;have RL:=zqd r_l;have RK:=zqd r_k;have HVL:=zqd hvl;have HLL:=zqd hll;have HKL:=zqd hkl;clear hv h r_v r_l r_k hvl hll hkl;obtain⟨w0,hw0⟩:∃ V,V=(w.alloc (.cells #[.int .i64 2,.int .i64 vn,.string {data:=#[]},.slice vA vN vC] 33)).alloc (.cells #[.int .i64 2,.string name,.slice lA lN lC,.slice kA kN kC] 39):=⟨_,rfl⟩;have bV:Blk w0 w.heap.size 33 #[.int .i64 2,.int .i64 vn,.string {data:=#[]},.slice vA vN vC]:=by rw[hw0];exact(Blk.new w _ _).alloc _
 have bT:=zn21 hw0;have hB0:Below w.heap.size w w0:=by rw[hw0];exact((zqf _ _).alloc (zql _) _).alloc (by simp) _
 have HW0:=zqd hw0;clear hw0;obtain⟨v0,v1,v2,v3⟩:=zc4 bV;obtain⟨t0,t1,t2,t3⟩:=zc4 bT;have hl:lN≤16:=by have:=HLL.out;omega
 clear adk;have HL0:=zqd (len0 HVL.out);have HQ:Hid (R=(inB vn 0 1 && decide ((vN:Int)=0))):=agv HR.out (afc (by omega) _ _) ((ae1 (by omega) kids).trans HL0.out.symm);obtain⟨b1,hv⟩:∃ b,inB vn 0 1=b:=⟨_,rfl⟩;rw[hv] at HQ;go_enter Tryz.func37,Tryz.ntmps37
 go_wp2_with fail
 rw[← HW0.out];clear HW0;refine(aip hv).mono ?_;rintro e w1 ⟨rfl,hq⟩;replace hq:=hq.symm;subst hq;cases b1
 case false=>
  have HF:Hid (R=false):=HQ.out;go_wp2_with fail
  go_ret
  exact⟨au HF.out.symm,hB0⟩
 have HF:Hid (R=decide ((vN:Int)=0)):=HQ.out;go_wp2_with fail
 go_ret
 exact⟨au HF.out.symm,hB0⟩
set_option maxHeartbeats 6400000 in
theorem bun {n:Nat} (ih:afg 37 n):ahg 37 n 3 ⟨#[]⟩:=by
 intro vn vks name labels kids B cs ds w hB hT hok hwf hv h;obtain⟨R,hR⟩:∃ R,uq (n+1) ⟨3,vn,⟨#[]⟩,vks⟩ ⟨3,name,labels,kids⟩=R:=⟨_,rfl⟩;rw[hR];have HR:Hid (R=(adu 3 labels.length vn && xw (uq n) vks (og 3 vn vks.length kids))):=hR.symm;clear hR;obtain⟨hw1,hw2⟩:=ada hwf;have HW2:=zqd hw2;have HOK:=zqd (qg hok);have zn:Ty.shapes ⟨3,name,labels,kids⟩=true:=hok.2;have adk:=ab7 zn;have HSH:=zqd (shF zn);have IH:=zqd ih;have HT:=zqd hT;clear ih hwf hw2 hok hT zn;obtain⟨adx,rfl,r_v⟩:=Val.open_ hv;obtain⟨vA,vN,vC,rfl⟩:=r_v.form;obtain⟨iy,iw,rfl,r_l,r_k⟩:=Ty.open_ h;obtain⟨lA,lN,lC,rfl⟩:=r_l.form;obtain⟨kA,kN,kC,rfl⟩:=r_k.form;have hvl:vN=vks.length:=by obtain⟨A',n',c',he,hnl,_⟩:=bf Val.ay (by decide) r_v;injection he with e1 e2 e3;omega
 have hvm:vN≤maxLen:=by obtain⟨A',n',c',he,_,hm,_⟩:=bf Val.ay (by decide) r_v;injection he with e1 e2 e3;omega
 have hll:lN=labels.length:=by obtain⟨A',n',c',he,hnl,_⟩:=bf jo (by decide) r_l;injection he with e1 e2 e3;omega
 have hkl:kN=kids.length:=by obtain⟨A',n',c',he,hnl,_⟩:=bf Ty.ay (by decide) r_k;injection he with e1 e2 e3;omega
 unfold maxLen at hvm;have RV:=zqd r_v;have RL:=zqd r_l;have RK:=zqd r_k;have HVL:=zqd hvl;have HLL:=zqd hll;have HKL:=zqd hkl;clear hv h r_v r_l r_k hvl hll hkl;obtain⟨w0,hw0⟩:∃ V,V=(w.alloc (.cells #[.int .i64 3,.int .i64 vn,.string {data:=#[]},.slice vA vN vC] 33)).alloc (.cells #[.int .i64 3,.string name,.slice lA lN lC,.slice kA kN kC] 39):=⟨_,rfl⟩;have bV:Blk w0 w.heap.size 33 #[.int .i64 3,.int .i64 vn,.string {data:=#[]},.slice vA vN vC]:=by rw[hw0];exact(Blk.new w _ _).alloc _
 have bT:=zn21 hw0;have hB0:Below w.heap.size w w0:=by rw[hw0];exact((zqf _ _).alloc (zql _) _).alloc (by simp) _
 have HW0:=zqd hw0;clear hw0;obtain⟨v0,v1,v2,v3⟩:=zc4 bV;obtain⟨t0,t1,t2,t3⟩:=zc4 bT;have hl:lN≤16:=by have:=HLL.out;omega
 clear adk;have HL0:=zqd (len0 HVL.out);have HQ:Hid (R=(inB vn (zu 3) (zx 3) && decide ((vN:Int)=0))):=agv HR.out (af0 (by rfl) _ _) ((ae1 (by omega) kids).trans HL0.out.symm);obtain⟨lo,hlo⟩:∃ lo,zu 3=lo:=⟨_,rfl⟩;obtain⟨hi,hhi⟩:∃ hi,zx 3=hi:=⟨_,rfl⟩;rw[hlo,hhi] at HQ;have HNR:=zqd (afs 3 w0 hlo hhi (v:=true) rfl);clear hlo hhi;obtain⟨b1,hv⟩:∃ b,inB vn lo hi=b:=⟨_,rfl⟩;rw[hv] at HQ;go_enter Tryz.func37,Tryz.ntmps37
 go_wp2_with fail
 rw[← HW0.out];clear HW0;refine HNR.out.mono ?_;rintro e w1 ⟨rfl,hq⟩;subst hq;go_wp2_with fail
 refine(aip hv).mono ?_;rintro e w1 ⟨rfl,hq⟩;replace hq:=hq.symm;subst hq;cases b1
 case false=>
  have HF:Hid (R=false):=HQ.out;go_wp2_with fail
  go_ret
  exact⟨au HF.out.symm,hB0⟩
 have HF:Hid (R=decide ((vN:Int)=0)):=HQ.out;go_wp2_with fail
 go_ret
 exact⟨au HF.out.symm,hB0⟩
set_option maxHeartbeats 6400000 in
theorem buo {n:Nat} (ih:afg 37 n):ahg 37 n 4 ⟨#[]⟩:=by
 intro vn vks name labels kids B cs ds w hB hT hok hwf hv h;obtain⟨R,hR⟩:∃ R,uq (n+1) ⟨4,vn,⟨#[]⟩,vks⟩ ⟨4,name,labels,kids⟩=R:=⟨_,rfl⟩;rw[hR];have HR:Hid (R=(adu 4 labels.length vn && xw (uq n) vks (og 4 vn vks.length kids))):=hR.symm;clear hR;obtain⟨hw1,hw2⟩:=ada hwf;have HW2:=zqd hw2;have HOK:=zqd (qg hok);have zn:Ty.shapes ⟨4,name,labels,kids⟩=true:=hok.2;have adk:=ab7 zn;have HSH:=zqd (shF zn);have IH:=zqd ih;have HT:=zqd hT;clear ih hwf hw2 hok hT zn;obtain⟨adx,rfl,r_v⟩:=Val.open_ hv;obtain⟨vA,vN,vC,rfl⟩:=r_v.form;obtain⟨iy,iw,rfl,r_l,r_k⟩:=Ty.open_ h;obtain⟨lA,lN,lC,rfl⟩:=r_l.form;obtain⟨kA,kN,kC,rfl⟩:=r_k.form;have hvl:vN=vks.length:=by obtain⟨A',n',c',he,hnl,_⟩:=bf Val.ay (by decide) r_v;injection he with e1 e2 e3;omega
 have hvm:vN≤maxLen:=by obtain⟨A',n',c',he,_,hm,_⟩:=bf Val.ay (by decide) r_v;injection he with e1 e2 e3;omega
 have hll:lN=labels.length:=by obtain⟨A',n',c',he,hnl,_⟩:=bf jo (by decide) r_l;injection he with e1 e2 e3;omega
 have hkl:kN=kids.length:=by obtain⟨A',n',c',he,hnl,_⟩:=bf Ty.ay (by decide) r_k;injection he with e1 e2 e3;omega
 unfold maxLen at hvm;have RV:=zqd r_v;have RL:=zqd r_l;have RK:=zqd r_k;have HVL:=zqd hvl;have HLL:=zqd hll;have HKL:=zqd hkl;clear hv h r_v r_l r_k hvl hll hkl;obtain⟨w0,hw0⟩:∃ V,V=(w.alloc (.cells #[.int .i64 4,.int .i64 vn,.string {data:=#[]},.slice vA vN vC] 33)).alloc (.cells #[.int .i64 4,.string name,.slice lA lN lC,.slice kA kN kC] 39):=⟨_,rfl⟩;have bV:Blk w0 w.heap.size 33 #[.int .i64 4,.int .i64 vn,.string {data:=#[]},.slice vA vN vC]:=by rw[hw0];exact(Blk.new w _ _).alloc _
 have bT:=zn21 hw0;have hB0:Below w.heap.size w w0:=by rw[hw0];exact((zqf _ _).alloc (zql _) _).alloc (by simp) _
 have HW0:=zqd hw0;clear hw0;obtain⟨v0,v1,v2,v3⟩:=zc4 bV;obtain⟨t0,t1,t2,t3⟩:=zc4 bT;have hl:lN≤16:=by have:=HLL.out;omega
 clear adk;have HL0:=zqd (len0 HVL.out);have HQ:Hid (R=(inB vn (zu 4) (zx 4) && decide ((vN:Int)=0))):=agv HR.out (af0 (by rfl) _ _) ((ae1 (by omega) kids).trans HL0.out.symm);obtain⟨lo,hlo⟩:∃ lo,zu 4=lo:=⟨_,rfl⟩;obtain⟨hi,hhi⟩:∃ hi,zx 4=hi:=⟨_,rfl⟩;rw[hlo,hhi] at HQ;have HNR:=zqd (afs 4 w0 hlo hhi (v:=true) rfl);clear hlo hhi;obtain⟨b1,hv⟩:∃ b,inB vn lo hi=b:=⟨_,rfl⟩;rw[hv] at HQ;go_enter Tryz.func37,Tryz.ntmps37
 go_wp2_with fail
 rw[← HW0.out];clear HW0;refine HNR.out.mono ?_;rintro e w1 ⟨rfl,hq⟩;subst hq;go_wp2_with fail
 refine(aip hv).mono ?_;rintro e w1 ⟨rfl,hq⟩;replace hq:=hq.symm;subst hq;cases b1
 case false=>
  have HF:Hid (R=false):=HQ.out;go_wp2_with fail
  go_ret
  exact⟨au HF.out.symm,hB0⟩
 have HF:Hid (R=decide ((vN:Int)=0)):=HQ.out;go_wp2_with fail
 go_ret
 exact⟨au HF.out.symm,hB0⟩
set_option maxHeartbeats 6400000 in
theorem bup {n:Nat} (ih:afg 37 n):ahg 37 n 5 ⟨#[]⟩:=by
 intro vn vks name labels kids B cs ds w hB hT hok hwf hv h;obtain⟨R,hR⟩:∃ R,uq (n+1) ⟨5,vn,⟨#[]⟩,vks⟩ ⟨5,name,labels,kids⟩=R:=⟨_,rfl⟩;rw[hR];have HR:Hid (R=(adu 5 labels.length vn && xw (uq n) vks (og 5 vn vks.length kids))):=hR.symm;clear hR;obtain⟨hw1,hw2⟩:=ada hwf;have HW2:=zqd hw2;have HOK:=zqd (qg hok);have zn:Ty.shapes ⟨5,name,labels,kids⟩=true:=hok.2;have adk:=ab7 zn;have HSH:=zqd (shF zn);have IH:=zqd ih;have HT:=zqd hT;clear ih hwf hw2 hok hT zn;obtain⟨adx,rfl,r_v⟩:=Val.open_ hv;obtain⟨vA,vN,vC,rfl⟩:=r_v.form;obtain⟨iy,iw,rfl,r_l,r_k⟩:=Ty.open_ h;obtain⟨lA,lN,lC,rfl⟩:=r_l.form;obtain⟨kA,kN,kC,rfl⟩:=r_k.form;have hvl:vN=vks.length:=by obtain⟨A',n',c',he,hnl,_⟩:=bf Val.ay (by decide) r_v;injection he with e1 e2 e3;omega
 have hvm:vN≤maxLen:=by obtain⟨A',n',c',he,_,hm,_⟩:=bf Val.ay (by decide) r_v;injection he with e1 e2 e3;omega
 have hll:lN=labels.length:=by obtain⟨A',n',c',he,hnl,_⟩:=bf jo (by decide) r_l;injection he with e1 e2 e3;omega
 have hkl:kN=kids.length:=by obtain⟨A',n',c',he,hnl,_⟩:=bf Ty.ay (by decide) r_k;injection he with e1 e2 e3;omega
 unfold maxLen at hvm;have RV:=zqd r_v;have RL:=zqd r_l;have RK:=zqd r_k;have HVL:=zqd hvl;have HLL:=zqd hll;have HKL:=zqd hkl;clear hv h r_v r_l r_k hvl hll hkl;obtain⟨w0,hw0⟩:∃ V,V=(w.alloc (.cells #[.int .i64 5,.int .i64 vn,.string {data:=#[]},.slice vA vN vC] 33)).alloc (.cells #[.int .i64 5,.string name,.slice lA lN lC,.slice kA kN kC] 39):=⟨_,rfl⟩;have bV:Blk w0 w.heap.size 33 #[.int .i64 5,.int .i64 vn,.string {data:=#[]},.slice vA vN vC]:=by rw[hw0];exact(Blk.new w _ _).alloc _
 have bT:=zn21 hw0;have hB0:Below w.heap.size w w0:=by rw[hw0];exact((zqf _ _).alloc (zql _) _).alloc (by simp) _
 have HW0:=zqd hw0;clear hw0;obtain⟨v0,v1,v2,v3⟩:=zc4 bV;obtain⟨t0,t1,t2,t3⟩:=zc4 bT;have hl:lN≤16:=by have:=HLL.out;omega
 clear adk;have HL0:=zqd (len0 HVL.out);have HQ:Hid (R=(inB vn (zu 5) (zx 5) && decide ((vN:Int)=0))):=agv HR.out (af0 (by rfl) _ _) ((ae1 (by omega) kids).trans HL0.out.symm);obtain⟨lo,hlo⟩:∃ lo,zu 5=lo:=⟨_,rfl⟩;obtain⟨hi,hhi⟩:∃ hi,zx 5=hi:=⟨_,rfl⟩;rw[hlo,hhi] at HQ;have HNR:=zqd (afs 5 w0 hlo hhi (v:=true) rfl);clear hlo hhi;obtain⟨b1,hv⟩:∃ b,inB vn lo hi=b:=⟨_,rfl⟩;rw[hv] at HQ;go_enter Tryz.func37,Tryz.ntmps37
 go_wp2_with fail
 rw[← HW0.out];clear HW0;refine HNR.out.mono ?_;rintro e w1 ⟨rfl,hq⟩;subst hq;go_wp2_with fail
 refine(aip hv).mono ?_;rintro e w1 ⟨rfl,hq⟩;replace hq:=hq.symm;subst hq;cases b1
 case false=>
  have HF:Hid (R=false):=HQ.out;go_wp2_with fail
  go_ret
  exact⟨au HF.out.symm,hB0⟩
 have HF:Hid (R=decide ((vN:Int)=0)):=HQ.out;go_wp2_with fail
 go_ret
 exact⟨au HF.out.symm,hB0⟩
set_option maxHeartbeats 6400000 in
theorem buq {n:Nat} (ih:afg 37 n):ahg 37 n 6 ⟨#[]⟩:=by
 intro vn vks name labels kids B cs ds w hB hT hok hwf hv h;obtain⟨R,hR⟩:∃ R,uq (n+1) ⟨6,vn,⟨#[]⟩,vks⟩ ⟨6,name,labels,kids⟩=R:=⟨_,rfl⟩;rw[hR];have HR:Hid (R=(adu 6 labels.length vn && xw (uq n) vks (og 6 vn vks.length kids))):=hR.symm;clear hR;obtain⟨hw1,hw2⟩:=ada hwf;have HW2:=zqd hw2;have HOK:=zqd (qg hok);have zn:Ty.shapes ⟨6,name,labels,kids⟩=true:=hok.2;have adk:=ab7 zn;have HSH:=zqd (shF zn);have IH:=zqd ih;have HT:=zqd hT;clear ih hwf hw2 hok hT zn;obtain⟨adx,rfl,r_v⟩:=Val.open_ hv;obtain⟨vA,vN,vC,rfl⟩:=r_v.form;obtain⟨iy,iw,rfl,r_l,r_k⟩:=Ty.open_ h;obtain⟨lA,lN,lC,rfl⟩:=r_l.form;obtain⟨kA,kN,kC,rfl⟩:=r_k.form;have hvl:vN=vks.length:=by obtain⟨A',n',c',he,hnl,_⟩:=bf Val.ay (by decide) r_v;injection he with e1 e2 e3;omega
 have hvm:vN≤maxLen:=by obtain⟨A',n',c',he,_,hm,_⟩:=bf Val.ay (by decide) r_v;injection he with e1 e2 e3;omega
 have hll:lN=labels.length:=by obtain⟨A',n',c',he,hnl,_⟩:=bf jo (by decide) r_l;injection he with e1 e2 e3;omega
 have hkl:kN=kids.length:=by obtain⟨A',n',c',he,hnl,_⟩:=bf Ty.ay (by decide) r_k;injection he with e1 e2 e3;omega
 unfold maxLen at hvm;have RV:=zqd r_v;have RL:=zqd r_l;have RK:=zqd r_k;have HVL:=zqd hvl;have HLL:=zqd hll;have HKL:=zqd hkl;clear hv h r_v r_l r_k hvl hll hkl;obtain⟨w0,hw0⟩:∃ V,V=(w.alloc (.cells #[.int .i64 6,.int .i64 vn,.string {data:=#[]},.slice vA vN vC] 33)).alloc (.cells #[.int .i64 6,.string name,.slice lA lN lC,.slice kA kN kC] 39):=⟨_,rfl⟩;have bV:Blk w0 w.heap.size 33 #[.int .i64 6,.int .i64 vn,.string {data:=#[]},.slice vA vN vC]:=by rw[hw0];exact(Blk.new w _ _).alloc _
 have bT:=zn21 hw0;have hB0:Below w.heap.size w w0:=by rw[hw0];exact((zqf _ _).alloc (zql _) _).alloc (by simp) _
 have HW0:=zqd hw0;clear hw0;obtain⟨v0,v1,v2,v3⟩:=zc4 bV;obtain⟨t0,t1,t2,t3⟩:=zc4 bT;have hl:lN≤16:=by have:=HLL.out;omega
 clear adk;have HL0:=zqd (len0 HVL.out);have HQ:Hid (R=(inB vn (zu 6) (zx 6) && decide ((vN:Int)=0))):=agv HR.out (af0 (by rfl) _ _) ((ae1 (by omega) kids).trans HL0.out.symm);obtain⟨lo,hlo⟩:∃ lo,zu 6=lo:=⟨_,rfl⟩;obtain⟨hi,hhi⟩:∃ hi,zx 6=hi:=⟨_,rfl⟩;rw[hlo,hhi] at HQ;have HNR:=zqd (afs 6 w0 hlo hhi (v:=true) rfl);clear hlo hhi;obtain⟨b1,hv⟩:∃ b,inB vn lo hi=b:=⟨_,rfl⟩;rw[hv] at HQ;go_enter Tryz.func37,Tryz.ntmps37
 go_wp2_with fail
 rw[← HW0.out];clear HW0;refine HNR.out.mono ?_;rintro e w1 ⟨rfl,hq⟩;subst hq;go_wp2_with fail
 refine(aip hv).mono ?_;rintro e w1 ⟨rfl,hq⟩;replace hq:=hq.symm;subst hq;cases b1
 case false=>
  have HF:Hid (R=false):=HQ.out;go_wp2_with fail
  go_ret
  exact⟨au HF.out.symm,hB0⟩
 have HF:Hid (R=decide ((vN:Int)=0)):=HQ.out;go_wp2_with fail
 go_ret
 exact⟨au HF.out.symm,hB0⟩
set_option maxHeartbeats 6400000 in
theorem bur {n:Nat} (ih:afg 37 n):ahg 37 n 7 ⟨#[]⟩:=by
 intro vn vks name labels kids B cs ds w hB hT hok hwf hv h;obtain⟨R,hR⟩:∃ R,uq (n+1) ⟨7,vn,⟨#[]⟩,vks⟩ ⟨7,name,labels,kids⟩=R:=⟨_,rfl⟩;rw[hR];have HR:Hid (R=(adu 7 labels.length vn && xw (uq n) vks (og 7 vn vks.length kids))):=hR.symm;clear hR;obtain⟨hw1,hw2⟩:=ada hwf;have HW2:=zqd hw2;have HOK:=zqd (qg hok);have zn:Ty.shapes ⟨7,name,labels,kids⟩=true:=hok.2;have adk:=ab7 zn;have HSH:=zqd (shF zn);have IH:=zqd ih;have HT:=zqd hT;clear ih hwf hw2 hok hT zn;obtain⟨adx,rfl,r_v⟩:=Val.open_ hv;obtain⟨vA,vN,vC,rfl⟩:=r_v.form;obtain⟨iy,iw,rfl,r_l,r_k⟩:=Ty.open_ h;obtain⟨lA,lN,lC,rfl⟩:=r_l.form;obtain⟨kA,kN,kC,rfl⟩:=r_k.form;have hvl:vN=vks.length:=by obtain⟨A',n',c',he,hnl,_⟩:=bf Val.ay (by decide) r_v;injection he with e1 e2 e3;omega
 have hvm:vN≤maxLen:=by obtain⟨A',n',c',he,_,hm,_⟩:=bf Val.ay (by decide) r_v;injection he with e1 e2 e3;omega
 have hll:lN=labels.length:=by obtain⟨A',n',c',he,hnl,_⟩:=bf jo (by decide) r_l;injection he with e1 e2 e3;omega
 have hkl:kN=kids.length:=by obtain⟨A',n',c',he,hnl,_⟩:=bf Ty.ay (by decide) r_k;injection he with e1 e2 e3;omega
 unfold maxLen at hvm;have RV:=zqd r_v;have RL:=zqd r_l;have RK:=zqd r_k;have HVL:=zqd hvl;have HLL:=zqd hll;have HKL:=zqd hkl;clear hv h r_v r_l r_k hvl hll hkl;obtain⟨w0,hw0⟩:∃ V,V=(w.alloc (.cells #[.int .i64 7,.int .i64 vn,.string {data:=#[]},.slice vA vN vC] 33)).alloc (.cells #[.int .i64 7,.string name,.slice lA lN lC,.slice kA kN kC] 39):=⟨_,rfl⟩;have bV:Blk w0 w.heap.size 33 #[.int .i64 7,.int .i64 vn,.string {data:=#[]},.slice vA vN vC]:=by rw[hw0];exact(Blk.new w _ _).alloc _
 have bT:=zn21 hw0;have hB0:Below w.heap.size w w0:=by rw[hw0];exact((zqf _ _).alloc (zql _) _).alloc (by simp) _
 have HW0:=zqd hw0;clear hw0;obtain⟨v0,v1,v2,v3⟩:=zc4 bV;obtain⟨t0,t1,t2,t3⟩:=zc4 bT;have hl:lN≤16:=by have:=HLL.out;omega
 clear adk;have HL0:=zqd (len0 HVL.out);have HQ:Hid (R=(inB vn (zu 7) (zx 7) && decide ((vN:Int)=0))):=agv HR.out (af0 (by rfl) _ _) ((ae1 (by omega) kids).trans HL0.out.symm);obtain⟨lo,hlo⟩:∃ lo,zu 7=lo:=⟨_,rfl⟩;obtain⟨hi,hhi⟩:∃ hi,zx 7=hi:=⟨_,rfl⟩;rw[hlo,hhi] at HQ;have HNR:=zqd (afs 7 w0 hlo hhi (v:=true) rfl);clear hlo hhi;obtain⟨b1,hv⟩:∃ b,inB vn lo hi=b:=⟨_,rfl⟩;rw[hv] at HQ;go_enter Tryz.func37,Tryz.ntmps37
 go_wp2_with fail
 rw[← HW0.out];clear HW0;refine HNR.out.mono ?_;rintro e w1 ⟨rfl,hq⟩;subst hq;go_wp2_with fail
 refine(aip hv).mono ?_;rintro e w1 ⟨rfl,hq⟩;replace hq:=hq.symm;subst hq;cases b1
 case false=>
  have HF:Hid (R=false):=HQ.out;go_wp2_with fail
  go_ret
  exact⟨au HF.out.symm,hB0⟩
 have HF:Hid (R=decide ((vN:Int)=0)):=HQ.out;go_wp2_with fail
 go_ret
 exact⟨au HF.out.symm,hB0⟩
set_option maxHeartbeats 6400000 in
theorem bus {n:Nat} (ih:afg 37 n):ahg 37 n 8 ⟨#[]⟩:=by
 intro vn vks name labels kids B cs ds w hB hT hok hwf hv h;obtain⟨R,hR⟩:∃ R,uq (n+1) ⟨8,vn,⟨#[]⟩,vks⟩ ⟨8,name,labels,kids⟩=R:=⟨_,rfl⟩;rw[hR];have HR:Hid (R=(adu 8 labels.length vn && xw (uq n) vks (og 8 vn vks.length kids))):=hR.symm;clear hR;obtain⟨hw1,hw2⟩:=ada hwf;have HW2:=zqd hw2;have HOK:=zqd (qg hok);have zn:Ty.shapes ⟨8,name,labels,kids⟩=true:=hok.2;have adk:=ab7 zn;have HSH:=zqd (shF zn);have IH:=zqd ih;have HT:=zqd hT;clear ih hwf hw2 hok hT zn;obtain⟨adx,rfl,r_v⟩:=Val.open_ hv;obtain⟨vA,vN,vC,rfl⟩:=r_v.form;obtain⟨iy,iw,rfl,r_l,r_k⟩:=Ty.open_ h;obtain⟨lA,lN,lC,rfl⟩:=r_l.form;obtain⟨kA,kN,kC,rfl⟩:=r_k.form;have hvl:vN=vks.length:=by obtain⟨A',n',c',he,hnl,_⟩:=bf Val.ay (by decide) r_v;injection he with e1 e2 e3;omega
 have hvm:vN≤maxLen:=by obtain⟨A',n',c',he,_,hm,_⟩:=bf Val.ay (by decide) r_v;injection he with e1 e2 e3;omega
 have hll:lN=labels.length:=by obtain⟨A',n',c',he,hnl,_⟩:=bf jo (by decide) r_l;injection he with e1 e2 e3;omega
 have hkl:kN=kids.length:=by obtain⟨A',n',c',he,hnl,_⟩:=bf Ty.ay (by decide) r_k;injection he with e1 e2 e3;omega
 unfold maxLen at hvm;have RV:=zqd r_v;have RL:=zqd r_l;have RK:=zqd r_k;have HVL:=zqd hvl;have HLL:=zqd hll;have HKL:=zqd hkl;clear hv h r_v r_l r_k hvl hll hkl;obtain⟨w0,hw0⟩:∃ V,V=(w.alloc (.cells #[.int .i64 8,.int .i64 vn,.string {data:=#[]},.slice vA vN vC] 33)).alloc (.cells #[.int .i64 8,.string name,.slice lA lN lC,.slice kA kN kC] 39):=⟨_,rfl⟩;have bV:Blk w0 w.heap.size 33 #[.int .i64 8,.int .i64 vn,.string {data:=#[]},.slice vA vN vC]:=by rw[hw0];exact(Blk.new w _ _).alloc _
 have bT:=zn21 hw0;have hB0:Below w.heap.size w w0:=by rw[hw0];exact((zqf _ _).alloc (zql _) _).alloc (by simp) _
 have HW0:=zqd hw0;clear hw0;obtain⟨v0,v1,v2,v3⟩:=zc4 bV;obtain⟨t0,t1,t2,t3⟩:=zc4 bT;have hl:lN≤16:=by have:=HLL.out;omega
 clear adk;have HL0:=zqd (len0 HVL.out);have HQ:Hid (R=(inB vn (zu 8) (zx 8) && decide ((vN:Int)=0))):=agv HR.out (af0 (by rfl) _ _) ((ae1 (by omega) kids).trans HL0.out.symm);obtain⟨lo,hlo⟩:∃ lo,zu 8=lo:=⟨_,rfl⟩;obtain⟨hi,hhi⟩:∃ hi,zx 8=hi:=⟨_,rfl⟩;rw[hlo,hhi] at HQ;have HNR:=zqd (afs 8 w0 hlo hhi (v:=true) rfl);clear hlo hhi;obtain⟨b1,hv⟩:∃ b,inB vn lo hi=b:=⟨_,rfl⟩;rw[hv] at HQ;go_enter Tryz.func37,Tryz.ntmps37
 go_wp2_with fail
 rw[← HW0.out];clear HW0;refine HNR.out.mono ?_;rintro e w1 ⟨rfl,hq⟩;subst hq;go_wp2_with fail
 refine(aip hv).mono ?_;rintro e w1 ⟨rfl,hq⟩;replace hq:=hq.symm;subst hq;cases b1
 case false=>
  have HF:Hid (R=false):=HQ.out;go_wp2_with fail
  go_ret
  exact⟨au HF.out.symm,hB0⟩
 have HF:Hid (R=decide ((vN:Int)=0)):=HQ.out;go_wp2_with fail
 go_ret
 exact⟨au HF.out.symm,hB0⟩
set_option maxHeartbeats 6400000 in
theorem buu {n:Nat} (ih:afg 37 n):ahg 37 n 9 ⟨#[]⟩:=by
 intro vn vks name labels kids B cs ds w hB hT hok hwf hv h;obtain⟨R,hR⟩:∃ R,uq (n+1) ⟨9,vn,⟨#[]⟩,vks⟩ ⟨9,name,labels,kids⟩=R:=⟨_,rfl⟩;rw[hR];have HR:Hid (R=(adu 9 labels.length vn && xw (uq n) vks (og 9 vn vks.length kids))):=hR.symm;clear hR;obtain⟨hw1,hw2⟩:=ada hwf;have HW2:=zqd hw2;have HOK:=zqd (qg hok);have zn:Ty.shapes ⟨9,name,labels,kids⟩=true:=hok.2;have adk:=ab7 zn;have HSH:=zqd (shF zn);have IH:=zqd ih;have HT:=zqd hT;clear ih hwf hw2 hok hT zn;obtain⟨adx,rfl,r_v⟩:=Val.open_ hv;obtain⟨vA,vN,vC,rfl⟩:=r_v.form;obtain⟨iy,iw,rfl,r_l,r_k⟩:=Ty.open_ h;obtain⟨lA,lN,lC,rfl⟩:=r_l.form;obtain⟨kA,kN,kC,rfl⟩:=r_k.form;have hvl:vN=vks.length:=by obtain⟨A',n',c',he,hnl,_⟩:=bf Val.ay (by decide) r_v;injection he with e1 e2 e3;omega
 have hvm:vN≤maxLen:=by obtain⟨A',n',c',he,_,hm,_⟩:=bf Val.ay (by decide) r_v;injection he with e1 e2 e3;omega
 have hll:lN=labels.length:=by obtain⟨A',n',c',he,hnl,_⟩:=bf jo (by decide) r_l;injection he with e1 e2 e3;omega
 have hkl:kN=kids.length:=by obtain⟨A',n',c',he,hnl,_⟩:=bf Ty.ay (by decide) r_k;injection he with e1 e2 e3;omega
 unfold maxLen at hvm;have RV:=zqd r_v;have RL:=zqd r_l;have RK:=zqd r_k;have HVL:=zqd hvl;have HLL:=zqd hll;have HKL:=zqd hkl;clear hv h r_v r_l r_k hvl hll hkl;obtain⟨w0,hw0⟩:∃ V,V=(w.alloc (.cells #[.int .i64 9,.int .i64 vn,.string {data:=#[]},.slice vA vN vC] 33)).alloc (.cells #[.int .i64 9,.string name,.slice lA lN lC,.slice kA kN kC] 39):=⟨_,rfl⟩;have bV:Blk w0 w.heap.size 33 #[.int .i64 9,.int .i64 vn,.string {data:=#[]},.slice vA vN vC]:=by rw[hw0];exact(Blk.new w _ _).alloc _
 have bT:=zn21 hw0;have hB0:Below w.heap.size w w0:=by rw[hw0];exact((zqf _ _).alloc (zql _) _).alloc (by simp) _
 have HW0:=zqd hw0;clear hw0;obtain⟨v0,v1,v2,v3⟩:=zc4 bV;obtain⟨t0,t1,t2,t3⟩:=zc4 bT;have hl:lN≤16:=by have:=HLL.out;omega
 clear adk;have HL0:=zqd (len0 HVL.out);have HQ:Hid (R=(inB vn (zu 9) (zx 9) && decide ((vN:Int)=0))):=agv HR.out (af0 (by rfl) _ _) ((ae1 (by omega) kids).trans HL0.out.symm);obtain⟨lo,hlo⟩:∃ lo,zu 9=lo:=⟨_,rfl⟩;obtain⟨hi,hhi⟩:∃ hi,zx 9=hi:=⟨_,rfl⟩;rw[hlo,hhi] at HQ;have HNR:=zqd (afs 9 w0 hlo hhi (v:=true) rfl);clear hlo hhi;obtain⟨b1,hv⟩:∃ b,inB vn lo hi=b:=⟨_,rfl⟩;rw[hv] at HQ;go_enter Tryz.func37,Tryz.ntmps37
 go_wp2_with fail
 rw[← HW0.out];clear HW0;refine HNR.out.mono ?_;rintro e w1 ⟨rfl,hq⟩;subst hq;go_wp2_with fail
 refine(aip hv).mono ?_;rintro e w1 ⟨rfl,hq⟩;replace hq:=hq.symm;subst hq;cases b1
 case false=>
  have HF:Hid (R=false):=HQ.out;go_wp2_with fail
  go_ret
  exact⟨au HF.out.symm,hB0⟩
 have HF:Hid (R=decide ((vN:Int)=0)):=HQ.out;go_wp2_with fail
 go_ret
 exact⟨au HF.out.symm,hB0⟩
set_option maxHeartbeats 6400000 in
theorem bph {n:Nat} (ih:afg 37 n):ahg 37 n 10 ⟨#[]⟩:=by
 intro vn vks name labels kids B cs ds w hB hT hok hwf hv h;obtain⟨R,hR⟩:∃ R,uq (n+1) ⟨10,vn,⟨#[]⟩,vks⟩ ⟨10,name,labels,kids⟩=R:=⟨_,rfl⟩;rw[hR];have HR:Hid (R=(adu 10 labels.length vn && xw (uq n) vks (og 10 vn vks.length kids))):=hR.symm;clear hR;obtain⟨hw1,hw2⟩:=ada hwf;have HW2:=zqd hw2;have HOK:=zqd (qg hok);have zn:Ty.shapes ⟨10,name,labels,kids⟩=true:=hok.2;have adk:=ab7 zn;have HSH:=zqd (shF zn);have IH:=zqd ih;have HT:=zqd hT;clear ih hwf hw2 hok hT zn;obtain⟨adx,rfl,r_v⟩:=Val.open_ hv;obtain⟨vA,vN,vC,rfl⟩:=r_v.form;obtain⟨iy,iw,rfl,r_l,r_k⟩:=Ty.open_ h;obtain⟨lA,lN,lC,rfl⟩:=r_l.form;obtain⟨kA,kN,kC,rfl⟩:=r_k.form;have hvl:vN=vks.length:=by obtain⟨A',n',c',he,hnl,_⟩:=bf Val.ay (by decide) r_v;injection he with e1 e2 e3;omega
 have hvm:vN≤maxLen:=by obtain⟨A',n',c',he,_,hm,_⟩:=bf Val.ay (by decide) r_v;injection he with e1 e2 e3;omega
 have hll:lN=labels.length:=by obtain⟨A',n',c',he,hnl,_⟩:=bf jo (by decide) r_l;injection he with e1 e2 e3;omega
 have hkl:kN=kids.length:=by obtain⟨A',n',c',he,hnl,_⟩:=bf Ty.ay (by decide) r_k;injection he with e1 e2 e3;omega
 unfold maxLen at hvm;have RV:=zqd r_v;have RL:=zqd r_l;have RK:=zqd r_k;have HVL:=zqd hvl;have HLL:=zqd hll;have HKL:=zqd hkl;clear hv h r_v r_l r_k hvl hll hkl;obtain⟨w0,hw0⟩:∃ V,V=(w.alloc (.cells #[.int .i64 10,.int .i64 vn,.string {data:=#[]},.slice vA vN vC] 33)).alloc (.cells #[.int .i64 10,.string name,.slice lA lN lC,.slice kA kN kC] 39):=⟨_,rfl⟩;have bV:Blk w0 w.heap.size 33 #[.int .i64 10,.int .i64 vn,.string {data:=#[]},.slice vA vN vC]:=by rw[hw0];exact(Blk.new w _ _).alloc _
 have bT:=zn21 hw0;have hB0:Below w.heap.size w w0:=by rw[hw0];exact((zqf _ _).alloc (zql _) _).alloc (by simp) _
 have HW0:=zqd hw0;clear hw0;obtain⟨v0,v1,v2,v3⟩:=zc4 bV;obtain⟨t0,t1,t2,t3⟩:=zc4 bT;have hl:lN≤16:=by have:=HLL.out;omega
 clear adk;have HL0:=zqd (len0 HVL.out);have HQ:Hid (R=(ad7 vn && decide ((vN:Int)=0))):=agv HR.out (rfl) ((ae1 (by omega) kids).trans HL0.out.symm);obtain⟨b1,hb1⟩:∃ b,ad7 vn=b:=⟨_,rfl⟩;have HCK:=zqd (ah4 vn w0);rw[hb1] at HQ HCK;clear hb1;go_enter Tryz.func37,Tryz.ntmps37
 go_wp2_with fail
 rw[← HW0.out];clear HW0;refine HCK.out.mono ?_;rintro e w1 ⟨rfl,hq⟩;subst hq;cases b1
 case false=>
  have HF:Hid (R=false):=HQ.out;go_wp2_with fail
  go_ret
  exact⟨au HF.out.symm,hB0⟩
 have HF:Hid (R=decide ((vN:Int)=0)):=HQ.out;go_wp2_with fail
 go_ret
 exact⟨au HF.out.symm,hB0⟩
set_option maxHeartbeats 6400000 in
theorem bpi {n:Nat} (ih:afg 37 n) (vt:ByteArray):ahg 37 n 11 vt:=by
 intro vn vks name labels kids B cs ds w hB hT hok hwf hv h;obtain⟨R,hR⟩:∃ R,uq (n+1) ⟨11,vn,vt,vks⟩ ⟨11,name,labels,kids⟩=R:=⟨_,rfl⟩;rw[hR]
 have HR:Hid (R=(adu 11 labels.length vn && (as1 vt && xw (uq n) vks (og 11 vn vks.length kids)))):=by
  show _=_;rw[← hR,avz,ay9,show(decide (vt.size=0) ||decide ((11:Int)=11))=true by simp];rfl
 clear hR;obtain⟨hw1,hw2⟩:=ada hwf;have HW2:=zqd hw2;have HOK:=zqd (qg hok);have zn:Ty.shapes ⟨11,name,labels,kids⟩=true:=hok.2;have adk:=ab7 zn;have HSH:=zqd (shF zn);have IH:=zqd ih;have HT:=zqd hT;clear ih hwf hw2 hok hT zn;obtain⟨adx,rfl,r_v⟩:=Val.open_ hv;obtain⟨vA,vN,vC,rfl⟩:=r_v.form;obtain⟨iy,iw,rfl,r_l,r_k⟩:=Ty.open_ h;obtain⟨lA,lN,lC,rfl⟩:=r_l.form;obtain⟨kA,kN,kC,rfl⟩:=r_k.form;have hvl:vN=vks.length:=by obtain⟨A',n',c',he,hnl,_⟩:=bf Val.ay (by decide) r_v;injection he with e1 e2 e3;omega
 have hvm:vN≤maxLen:=by obtain⟨A',n',c',he,_,hm,_⟩:=bf Val.ay (by decide) r_v;injection he with e1 e2 e3;omega
 have hll:lN=labels.length:=by obtain⟨A',n',c',he,hnl,_⟩:=bf jo (by decide) r_l;injection he with e1 e2 e3;omega
 have hkl:kN=kids.length:=by obtain⟨A',n',c',he,hnl,_⟩:=bf Ty.ay (by decide) r_k;injection he with e1 e2 e3;omega
 unfold maxLen at hvm;have RV:=zqd r_v;have RL:=zqd r_l;have RK:=zqd r_k;have HVL:=zqd hvl;have HLL:=zqd hll;have HKL:=zqd hkl;clear hv h r_v r_l r_k hvl hll hkl;obtain⟨w0,hw0⟩:∃ V,V=(w.alloc (.cells #[.int .i64 11,.int .i64 vn,.string vt,.slice vA vN vC] 33)).alloc (.cells #[.int .i64 11,.string name,.slice lA lN lC,.slice kA kN kC] 39):=⟨_,rfl⟩;have bV:Blk w0 w.heap.size 33 #[.int .i64 11,.int .i64 vn,.string vt,.slice vA vN vC]:=by rw[hw0];exact(Blk.new w _ _).alloc _
 have bT:=zn21 hw0;have hB0:Below w.heap.size w w0:=by rw[hw0];exact((zqf _ _).alloc (zql _) _).alloc (by simp) _
 have HW0:=zqd hw0;clear hw0;obtain⟨v0,v1,v2,v3⟩:=zc4 bV;obtain⟨t0,t1,t2,t3⟩:=zc4 bT;have hl:lN≤16:=by have:=HLL.out;omega
 clear adk;have HL0:=zqd (len0 HVL.out);obtain⟨b2,hb2⟩:∃ b,as1 vt=b:=⟨_,rfl⟩;have HTX:=zqd (awe vt hw1 w0);rw[show(decide (vt.size≤24) && (agd (byt vt)).isSome)=b2 from hb2] at HTX;rw[hb2] at HR;clear hb2
 have HQ:Hid (R=(decide (vn=0) && (b2 && decide ((vN:Int)=0)))):=by
  show _=_;rw[HR.out,ahm (by omega),apn,ae1 (by omega),HL0.out]
 clear HR;go_enter Tryz.func37,Tryz.ntmps37
 go_wp2_with fail
 rw[← HW0.out];clear HW0;refine HTX.out.mono ?_;rintro e w1 ⟨rfl,hc1⟩;have hB1:=hB0.trans (hc1.mono hB0.size);have bV1:=bV.step hc1;have bT1:=bT.step hc1;clear v0 v1 v2 v3 t0 t1 t2 t3;obtain⟨v0,v1,v2,v3⟩:=zc4 bV1;cases b2
 case false=>
  have HF:Hid (R=false):=by show _=_;rw[HQ.out];simp
  go_wp2_with fail
  go_ret
  exact⟨au HF.out.symm,hB1⟩
 by_cases hn:vn=0
 case neg=>
  have HF:Hid (R=false):=by show _=_;rw[HQ.out,decide_eq_false hn];rfl
  have hn2:(vn ==0)=false:=by simp[hn]
  go_wp2_with fail
  go_ret
  exact⟨au HF.out.symm,hB1⟩
 subst hn;have HF:Hid (R=decide ((vN:Int)=0)):=HQ.out;go_wp2_with fail
 go_ret
 exact⟨au HF.out.symm,hB1⟩
set_option maxHeartbeats 6400000 in
theorem bpj {n:Nat} (ih:afg 37 n):ahg 37 n 12 ⟨#[]⟩:=by
 intro vn vks name labels kids B cs ds w hB hT hok hwf hv h;obtain⟨R,hR⟩:∃ R,uq (n+1) ⟨12,vn,⟨#[]⟩,vks⟩ ⟨12,name,labels,kids⟩=R:=⟨_,rfl⟩;rw[hR];have HR:Hid (R=(adu 12 labels.length vn && xw (uq n) vks (og 12 vn vks.length kids))):=hR.symm;clear hR;obtain⟨hw1,hw2⟩:=ada hwf;have HW2:=zqd hw2;have HOK:=zqd (qg hok);have zn:Ty.shapes ⟨12,name,labels,kids⟩=true:=hok.2;have adk:=ab7 zn;have HSH:=zqd (shF zn);have IH:=zqd ih;have HT:=zqd hT;clear ih hwf hw2 hok hT zn;obtain⟨adx,rfl,r_v⟩:=Val.open_ hv;obtain⟨vA,vN,vC,rfl⟩:=r_v.form;obtain⟨iy,iw,rfl,r_l,r_k⟩:=Ty.open_ h;obtain⟨lA,lN,lC,rfl⟩:=r_l.form;obtain⟨kA,kN,kC,rfl⟩:=r_k.form;have hvl:vN=vks.length:=by obtain⟨A',n',c',he,hnl,_⟩:=bf Val.ay (by decide) r_v;injection he with e1 e2 e3;omega
 have hvm:vN≤maxLen:=by obtain⟨A',n',c',he,_,hm,_⟩:=bf Val.ay (by decide) r_v;injection he with e1 e2 e3;omega
 have hll:lN=labels.length:=by obtain⟨A',n',c',he,hnl,_⟩:=bf jo (by decide) r_l;injection he with e1 e2 e3;omega
 have hkl:kN=kids.length:=by obtain⟨A',n',c',he,hnl,_⟩:=bf Ty.ay (by decide) r_k;injection he with e1 e2 e3;omega
 unfold maxLen at hvm;have RV:=zqd r_v;have RL:=zqd r_l;have RK:=zqd r_k;have HVL:=zqd hvl;have HLL:=zqd hll;have HKL:=zqd hkl;clear hv h r_v r_l r_k hvl hll hkl;obtain⟨w0,hw0⟩:∃ V,V=(w.alloc (.cells #[.int .i64 12,.int .i64 vn,.string {data:=#[]},.slice vA vN vC] 33)).alloc (.cells #[.int .i64 12,.string name,.slice lA lN lC,.slice kA kN kC] 39):=⟨_,rfl⟩;have bV:Blk w0 w.heap.size 33 #[.int .i64 12,.int .i64 vn,.string {data:=#[]},.slice vA vN vC]:=by rw[hw0];exact(Blk.new w _ _).alloc _
 have bT:=zn21 hw0;have hB0:Below w.heap.size w w0:=by rw[hw0];exact((zqf _ _).alloc (zql _) _).alloc (by simp) _
 have HW0:=zqd hw0;clear hw0;obtain⟨v0,v1,v2,v3⟩:=zc4 bV;obtain⟨t0,t1,t2,t3⟩:=zc4 bT;have hl:lN≤16:=by have:=HLL.out;omega
 clear adk;have HL0:=zqd (len0 HVL.out);have h1:=ade (.inl rfl) HSH.out.right;obtain⟨k0,rfl⟩:∃ k0,kids=[k0]:=by match kids,h1 with|[x],_=>exact⟨x,rfl⟩
 clear h1;obtain rfl:kN=1:=HKL.out;have hx:[k0][0]?=some k0:=rfl;obtain⟨eu,gq,lq,oq⟩:=k0;have HKO:=zqd (HOK.out ⟨eu,gq,lq,oq⟩ (by simp))
 have HQ:Hid (R=(decide (vn=0) && agc (uq n) vks 8 ⟨eu,gq,lq,oq⟩)):=by
  show _=_;rw[HR.out,ahm (by omega),apn,bs3]
 clear HR;by_cases hn:vn=0
 case neg=>
  have HF:Hid (R=false):=by show _=_;rw[HQ.out,decide_eq_false hn];rfl
  have hn2:(vn ==0)=false:=by simp[hn]
  clear hn hx;go_enter Tryz.func37,Tryz.ntmps37
  go_wp2_with fail
  rw[← HW0.out];clear HW0;have HS:Hid (∀ V,Below w0.heap.size w0 V→V.cell? ⟨w.heap.size,1,none⟩=some (.int .i64 vn)∧V.cell? ⟨w.heap.size,3,none⟩=some (.slice vA vN vC)):=zqd fun V hV=>⟨(hV.cell (p:=⟨w.heap.size,1,none⟩) bV.lt).trans v1,(hV.cell (p:=⟨w.heap.size,3,none⟩) bV.lt).trans v3⟩;have hkA:Below w0.heap.size w0 w0.drew:=(zqf _ _).drew;refine zqh HS (HS.out _ hkA) fun hHeld=>?_;refine zqx 0 ?_;refine zqx 1 ?_;refine zqx 2 ?_;refine zqx 3 ?_;refine zqo 4 ?_;try simp only[Act.put,zs1,zs2,zs3]
  refine zqo 5 ?_;try simp only[Act.put,zs1,zs2,zs3]
  refine zqo 6 ?_;try simp only[Act.put,zs1,zs2,zs3]
  refine zqo 7 ?_;try simp only[Act.put,zs1,zs2,zs3]
  refine zqo 8 ?_;try simp only[Act.put,zs1,zs2,zs3]
  refine zqo 9 ?_;try simp only[Act.put,zs1,zs2,zs3]
  refine zqo 10 ?_;try simp only[Act.put,zs1,zs2,zs3]
  refine zqx 11 ?_;refine zqx 12 ?_;refine wpAnyH_done (by kernel_rfl) ?_ _;go_wp2_with fail
  go_ret
  exact⟨au HF.out.symm,hB0.drew⟩
 subst hn;have HF0:Hid (R=agc (uq n) vks 8 ⟨eu,gq,lq,oq⟩):=by show _=_;rw[HQ.out,decide_eq_true rfl];rfl
 obtain⟨A',n',c',he,hnl,_,hat⟩:=bf Ty.ay (by decide) RK.out;obtain⟨rfl,rfl,rfl⟩:kA=A'∧1=n'∧kC=c':=by injection he with e1 e2 e3;exact⟨e1,e2,e3⟩
 clear he hnl;obtain⟨g,off,rfl,hg,hcell⟩:=hat (by omega);obtain⟨xl,xk,c0,c1,c2,c3,Rl,Rk⟩:=acs (k:=0) (a0:=off) (a1:=off+1) (a2:=off+2) (a3:=off+3) (Below.refl w.heap.size w) hg hB hcell hx ⟨by omega,by omega,by omega,by omega⟩;obtain⟨xlA,xlN,xlC,rfl⟩:=Rl.form;obtain⟨xkA,xkN,xkC,rfl⟩:=Rk.form;have RLX:=zqd Rl;have RKX:=zqd Rk;clear Rl Rk hcell hat;have HS:Hid (∀ V,Below w0.heap.size w0 V→V.cell? ⟨w.heap.size,1,none⟩=some (.int .i64 0)∧V.cell? ⟨w.heap.size,3,none⟩=some (.slice vA vN vC)∧V.cell? ⟨w.heap.size+1,3,none⟩=some (.slice (some ⟨g,off,none⟩) 1 kC)∧V.cell? ⟨g,off,none⟩=some (.int .i64 eu)∧V.cell? ⟨g,off+1,none⟩=some (.string gq)∧V.cell? ⟨g,off+2,none⟩=some (.slice xlA xlN xlC)∧V.cell? ⟨g,off+3,none⟩=some (.slice xkA xkN xkC)):=zqd fun V hV=>⟨(hV.cell (p:=⟨w.heap.size,1,none⟩) bV.lt).trans v1,(hV.cell (p:=⟨w.heap.size,3,none⟩) bV.lt).trans v3,(hV.cell (p:=⟨w.heap.size+1,3,none⟩) bT.lt).trans t3,(hV.cell (p:=⟨g,off,none⟩) (by have:=hB0.size;simp only;omega)).trans (zqk hB0 c0),(hV.cell (p:=⟨g,off+1,none⟩) (by have:=hB0.size;simp only;omega)).trans (zqk hB0 c1),(hV.cell (p:=⟨g,off+2,none⟩) (by have:=hB0.size;simp only;omega)).trans (zqk hB0 c2),(hV.cell (p:=⟨g,off+3,none⟩) (by have:=hB0.size;simp only;omega)).trans (zqk hB0 c3)⟩;have HC:=zqd (fun(V:World) (hV:Below w0.heap.size w0 V)=>axe IH.out vks 8 (by omega) ⟨eu,gq,lq,oq⟩ HKO.out (ds:=[.int .i64 eu,.string gq,.slice xlA xlN xlC,.slice xkA xkN xkC]) (Nat.le_trans (Nat.le_trans hB hB0.size) hV.size) (HT.out.below (hB0.trans (hV.mono hB0.size))) HW2.out (RV.out.below ((hB0.trans (hV.mono hB0.size)).mono hB)) (Ty.close_ (RLX.out.below ((hB0.trans (hV.mono hB0.size)).mono hB)) (RKX.out.below ((hB0.trans (hV.mono hB0.size)).mono hB))));obtain⟨b,hb⟩:∃ b,agc (uq n) vks 8 ⟨eu,gq,lq,oq⟩=b:=⟨_,rfl⟩;rw[hb] at HC;have HF:Hid (R=b):=HF0.out.trans hb;clear hb HF0 c0 c1 c2 c3;go_enter Tryz.func37,Tryz.ntmps37
 go_wp2_with fail
 rw[← HW0.out];clear HW0;have hkA:Below w0.heap.size w0 w0.drew:=(zqf _ _).drew;refine zqh HS (HS.out _ hkA) fun hHeld=>?_;refine zqx 0 ?_;refine zqx 1 ?_;refine zqx 2 ?_;refine zqx 3 ?_;refine zqx 4 ?_;refine zqx 5 ?_;refine zqx 6 ?_;refine zqx 7 ?_;refine zqx 8 ?_;refine zqx 9 ?_;refine zqr 10 fun K hK=>?_;go_simp;go_at_call 51
 refine(HC.out _ hkA).mono ?_;rintro e wq ⟨rfl,hbq⟩;have hkB:=hkA.trans (hbq.mono hkA.size);refine hK.out _ _ (by first|exact(HS.out _ hkB)|go_keep) (fun hHeld=>?_);clear hK K;try simp only[Act.put,zs1,zs2,zs3]
 refine zqx 11 ?_;refine zqx 12 ?_;refine wpAnyH_done (by kernel_rfl) ?_ _;go_wp2_with fail
 go_ret
 exact⟨au HF.out.symm,hB0.trans (hkB.mono hB0.size)⟩
set_option maxHeartbeats 6400000 in
theorem bpk {n:Nat} (ih:afg 37 n):ahg 37 n 13 ⟨#[]⟩:=by
 intro vn vks name labels kids B cs ds w hB hT hok hwf hv h;obtain⟨R,hR⟩:∃ R,uq (n+1) ⟨13,vn,⟨#[]⟩,vks⟩ ⟨13,name,labels,kids⟩=R:=⟨_,rfl⟩;rw[hR];have HR:Hid (R=(adu 13 labels.length vn && xw (uq n) vks (og 13 vn vks.length kids))):=hR.symm;clear hR;obtain⟨hw1,hw2⟩:=ada hwf;have HW2:=zqd hw2;have HOK:=zqd (qg hok);have zn:Ty.shapes ⟨13,name,labels,kids⟩=true:=hok.2;have adk:=ab7 zn;have HSH:=zqd (shF zn);have IH:=zqd ih;have HT:=zqd hT;clear ih hwf hw2 hok hT zn;obtain⟨adx,rfl,r_v⟩:=Val.open_ hv;obtain⟨vA,vN,vC,rfl⟩:=r_v.form;obtain⟨iy,iw,rfl,r_l,r_k⟩:=Ty.open_ h;obtain⟨lA,lN,lC,rfl⟩:=r_l.form;obtain⟨kA,kN,kC,rfl⟩:=r_k.form;have hvl:vN=vks.length:=by obtain⟨A',n',c',he,hnl,_⟩:=bf Val.ay (by decide) r_v;injection he with e1 e2 e3;omega
 have hvm:vN≤maxLen:=by obtain⟨A',n',c',he,_,hm,_⟩:=bf Val.ay (by decide) r_v;injection he with e1 e2 e3;omega
 have hll:lN=labels.length:=by obtain⟨A',n',c',he,hnl,_⟩:=bf jo (by decide) r_l;injection he with e1 e2 e3;omega
 have hkl:kN=kids.length:=by obtain⟨A',n',c',he,hnl,_⟩:=bf Ty.ay (by decide) r_k;injection he with e1 e2 e3;omega
 unfold maxLen at hvm;have RV:=zqd r_v;have RL:=zqd r_l;have RK:=zqd r_k;have HVL:=zqd hvl;have HLL:=zqd hll;have HKL:=zqd hkl;clear hv h r_v r_l r_k hvl hll hkl;obtain⟨w0,hw0⟩:∃ V,V=(w.alloc (.cells #[.int .i64 13,.int .i64 vn,.string {data:=#[]},.slice vA vN vC] 33)).alloc (.cells #[.int .i64 13,.string name,.slice lA lN lC,.slice kA kN kC] 39):=⟨_,rfl⟩;have bV:Blk w0 w.heap.size 33 #[.int .i64 13,.int .i64 vn,.string {data:=#[]},.slice vA vN vC]:=by rw[hw0];exact(Blk.new w _ _).alloc _
 have bT:=zn21 hw0;have hB0:Below w.heap.size w w0:=by rw[hw0];exact((zqf _ _).alloc (zql _) _).alloc (by simp) _
 have HW0:=zqd hw0;clear hw0;obtain⟨v0,v1,v2,v3⟩:=zc4 bV;obtain⟨t0,t1,t2,t3⟩:=zc4 bT;have hl:lN≤16:=by have:=HLL.out;omega
 clear adk;have HL0:=zqd (len0 HVL.out);have h1:=ade (.inr (.inl rfl)) HSH.out.right;obtain⟨k0,rfl⟩:∃ k0,kids=[k0]:=by match kids,h1 with|[x],_=>exact⟨x,rfl⟩
 clear h1;obtain rfl:kN=1:=HKL.out;have hx:[k0][0]?=some k0:=rfl;obtain⟨eu,gq,lq,oq⟩:=k0;have HKO:=zqd (HOK.out ⟨eu,gq,lq,oq⟩ (by simp));have hu:¬ eu=1:=a3b HSH.out.right
 have HQ:Hid (R=(decide (vn=(vN:Int)) && agc (uq n) vks 1 ⟨eu,gq,lq,oq⟩)):=by
  show _=_;rw[HR.out,afc (by omega),bs4 vn ⟨eu,gq,lq,oq⟩ hu,HVL.out]
 clear HR;by_cases hn:vn=(vN:Int)
 case neg=>
  have HF:Hid (R=false):=by show _=_;rw[HQ.out,decide_eq_false hn];rfl
  have hn2:(vn ==(vN:Int))=false:=by simp[hn]
  clear hn hx;go_enter Tryz.func37,Tryz.ntmps37
  go_wp2_with fail
  rw[← HW0.out];clear HW0;have HS:Hid (∀ V,Below w0.heap.size w0 V→V.cell? ⟨w.heap.size,1,none⟩=some (.int .i64 vn)∧V.cell? ⟨w.heap.size,3,none⟩=some (.slice vA vN vC)):=zqd fun V hV=>⟨(hV.cell (p:=⟨w.heap.size,1,none⟩) bV.lt).trans v1,(hV.cell (p:=⟨w.heap.size,3,none⟩) bV.lt).trans v3⟩;have hkA:Below w0.heap.size w0 w0.drew:=(zqf _ _).drew;refine zqh HS (HS.out _ hkA) fun hHeld=>?_;refine zqx 0 ?_;refine zqx 1 ?_;refine zqx 2 ?_;refine zqx 3 ?_;refine zqx 4 ?_;refine zqx 5 ?_;refine zqx 6 ?_;refine zqo 7 ?_;try simp only[Act.put,zs1,zs2,zs3]
  refine zqo 8 ?_;try simp only[Act.put,zs1,zs2,zs3]
  refine zqo 9 ?_;try simp only[Act.put,zs1,zs2,zs3]
  refine zqo 10 ?_;try simp only[Act.put,zs1,zs2,zs3]
  refine zqo 11 ?_;try simp only[Act.put,zs1,zs2,zs3]
  refine zqo 12 ?_;try simp only[Act.put,zs1,zs2,zs3]
  refine zqo 13 ?_;try simp only[Act.put,zs1,zs2,zs3]
  refine zqx 14 ?_;refine zqx 15 ?_;refine wpAnyH_done (by kernel_rfl) ?_ _;go_wp2_with fail
  go_ret
  exact⟨au HF.out.symm,hB0.drew⟩
 subst hn;have HF0:Hid (R=agc (uq n) vks 1 ⟨eu,gq,lq,oq⟩):=by show _=_;rw[HQ.out,decide_eq_true rfl];rfl
 obtain⟨A',n',c',he,hnl,_,hat⟩:=bf Ty.ay (by decide) RK.out;obtain⟨rfl,rfl,rfl⟩:kA=A'∧1=n'∧kC=c':=by injection he with e1 e2 e3;exact⟨e1,e2,e3⟩
 clear he hnl;obtain⟨g,off,rfl,hg,hcell⟩:=hat (by omega);obtain⟨xl,xk,c0,c1,c2,c3,Rl,Rk⟩:=acs (k:=0) (a0:=off) (a1:=off+1) (a2:=off+2) (a3:=off+3) (Below.refl w.heap.size w) hg hB hcell hx ⟨by omega,by omega,by omega,by omega⟩;obtain⟨xlA,xlN,xlC,rfl⟩:=Rl.form;obtain⟨xkA,xkN,xkC,rfl⟩:=Rk.form;have RLX:=zqd Rl;have RKX:=zqd Rk;clear Rl Rk hcell hat;have HS:Hid (∀ V,Below w0.heap.size w0 V→V.cell? ⟨w.heap.size,1,none⟩=some (.int .i64 vN)∧V.cell? ⟨w.heap.size,3,none⟩=some (.slice vA vN vC)∧V.cell? ⟨w.heap.size+1,3,none⟩=some (.slice (some ⟨g,off,none⟩) 1 kC)∧V.cell? ⟨g,off,none⟩=some (.int .i64 eu)∧V.cell? ⟨g,off+1,none⟩=some (.string gq)∧V.cell? ⟨g,off+2,none⟩=some (.slice xlA xlN xlC)∧V.cell? ⟨g,off+3,none⟩=some (.slice xkA xkN xkC)):=zqd fun V hV=>⟨(hV.cell (p:=⟨w.heap.size,1,none⟩) bV.lt).trans v1,(hV.cell (p:=⟨w.heap.size,3,none⟩) bV.lt).trans v3,(hV.cell (p:=⟨w.heap.size+1,3,none⟩) bT.lt).trans t3,(hV.cell (p:=⟨g,off,none⟩) (by have:=hB0.size;simp only;omega)).trans (zqk hB0 c0),(hV.cell (p:=⟨g,off+1,none⟩) (by have:=hB0.size;simp only;omega)).trans (zqk hB0 c1),(hV.cell (p:=⟨g,off+2,none⟩) (by have:=hB0.size;simp only;omega)).trans (zqk hB0 c2),(hV.cell (p:=⟨g,off+3,none⟩) (by have:=hB0.size;simp only;omega)).trans (zqk hB0 c3)⟩;have HC:=zqd (fun(V:World) (hV:Below w0.heap.size w0 V)=>axe IH.out vks 1 (by omega) ⟨eu,gq,lq,oq⟩ HKO.out (ds:=[.int .i64 eu,.string gq,.slice xlA xlN xlC,.slice xkA xkN xkC]) (Nat.le_trans (Nat.le_trans hB hB0.size) hV.size) (HT.out.below (hB0.trans (hV.mono hB0.size))) HW2.out (RV.out.below ((hB0.trans (hV.mono hB0.size)).mono hB)) (Ty.close_ (RLX.out.below ((hB0.trans (hV.mono hB0.size)).mono hB)) (RKX.out.below ((hB0.trans (hV.mono hB0.size)).mono hB))));obtain⟨b,hb⟩:∃ b,agc (uq n) vks 1 ⟨eu,gq,lq,oq⟩=b:=⟨_,rfl⟩;rw[hb] at HC;have HF:Hid (R=b):=HF0.out.trans hb;clear hb HF0 c0 c1 c2 c3;go_enter Tryz.func37,Tryz.ntmps37
 go_wp2_with fail
 rw[← HW0.out];clear HW0;have hkA:Below w0.heap.size w0 w0.drew:=(zqf _ _).drew;refine zqh HS (HS.out _ hkA) fun hHeld=>?_;refine zqx 0 ?_;refine zqx 1 ?_;refine zqx 2 ?_;refine zqx 3 ?_;refine zqx 4 ?_;refine zqx 5 ?_;refine zqx 6 ?_;refine zqx 7 ?_;refine zqx 8 ?_;refine zqx 9 ?_;refine zqx 10 ?_;refine zqx 11 ?_;refine zqx 12 ?_;refine zqr 13 fun K hK=>?_;go_simp;go_at_call 51
 refine(HC.out _ hkA).mono ?_;rintro e wq ⟨rfl,hbq⟩;have hkB:=hkA.trans (hbq.mono hkA.size);refine hK.out _ _ (by first|exact(HS.out _ hkB)|go_keep) (fun hHeld=>?_);clear hK K;try simp only[Act.put,zs1,zs2,zs3]
 refine zqx 14 ?_;refine zqx 15 ?_;refine wpAnyH_done (by kernel_rfl) ?_ _;go_wp2_with fail
 go_ret
 exact⟨au HF.out.symm,hB0.trans (hkB.mono hB0.size)⟩
set_option maxHeartbeats 6400000 in
theorem bpl {n:Nat} (ih:afg 37 n):ahg 37 n 14 ⟨#[]⟩:=by
 intro vn vks name labels kids B cs ds w hB hT hok hwf hv h;obtain⟨R,hR⟩:∃ R,uq (n+1) ⟨14,vn,⟨#[]⟩,vks⟩ ⟨14,name,labels,kids⟩=R:=⟨_,rfl⟩;rw[hR];have HR:Hid (R=(adu 14 labels.length vn && xw (uq n) vks (og 14 vn vks.length kids))):=hR.symm;clear hR;obtain⟨hw1,hw2⟩:=ada hwf;have HW2:=zqd hw2;have HOK:=zqd (qg hok);have zn:Ty.shapes ⟨14,name,labels,kids⟩=true:=hok.2;have adk:=ab7 zn;have HSH:=zqd (shF zn);have IH:=zqd ih;have HT:=zqd hT;clear ih hwf hw2 hok hT zn;obtain⟨adx,rfl,r_v⟩:=Val.open_ hv;obtain⟨vA,vN,vC,rfl⟩:=r_v.form;obtain⟨iy,iw,rfl,r_l,r_k⟩:=Ty.open_ h;obtain⟨lA,lN,lC,rfl⟩:=r_l.form;obtain⟨kA,kN,kC,rfl⟩:=r_k.form;have hvl:vN=vks.length:=by obtain⟨A',n',c',he,hnl,_⟩:=bf Val.ay (by decide) r_v;injection he with e1 e2 e3;omega
 have hvm:vN≤maxLen:=by obtain⟨A',n',c',he,_,hm,_⟩:=bf Val.ay (by decide) r_v;injection he with e1 e2 e3;omega
 have hll:lN=labels.length:=by obtain⟨A',n',c',he,hnl,_⟩:=bf jo (by decide) r_l;injection he with e1 e2 e3;omega
 have hkl:kN=kids.length:=by obtain⟨A',n',c',he,hnl,_⟩:=bf Ty.ay (by decide) r_k;injection he with e1 e2 e3;omega
 unfold maxLen at hvm;have RV:=zqd r_v;have RL:=zqd r_l;have RK:=zqd r_k;have HVL:=zqd hvl;have HLL:=zqd hll;have HKL:=zqd hkl;clear hv h r_v r_l r_k hvl hll hkl;obtain⟨w0,hw0⟩:∃ V,V=(w.alloc (.cells #[.int .i64 14,.int .i64 vn,.string {data:=#[]},.slice vA vN vC] 33)).alloc (.cells #[.int .i64 14,.string name,.slice lA lN lC,.slice kA kN kC] 39):=⟨_,rfl⟩;have bV:Blk w0 w.heap.size 33 #[.int .i64 14,.int .i64 vn,.string {data:=#[]},.slice vA vN vC]:=by rw[hw0];exact(Blk.new w _ _).alloc _
 have bT:=zn21 hw0;have hB0:Below w.heap.size w w0:=by rw[hw0];exact((zqf _ _).alloc (zql _) _).alloc (by simp) _
 have HW0:=zqd hw0;clear hw0;obtain⟨v0,v1,v2,v3⟩:=zc4 bV;obtain⟨t0,t1,t2,t3⟩:=zc4 bT;have hl:lN≤16:=by have:=HLL.out;omega
 clear adk;have HL0:=zqd (len0 HVL.out);have HNB:Hid (adu 14 labels.length vn=inB vn 0 (1)):=afc (by omega) _ _;have hkn:(kN:Int)=2:=by have:=HKL.out;have:=HLL.out;have:=ai7 HSH.out.right;omega
 by_cases hin:0≤vn∧vn≤1
 case neg=>
  have hv:inB vn 0 (1)=false:=by rw[aec];omega
  have HF:Hid (R=false):=by show _=_;rw[HR.out,HNB.out,hv];rfl
  go_enter Tryz.func37,Tryz.ntmps37
  go_wp2_with fail
  rw[← HW0.out];clear HW0;refine(aip hv).mono ?_;rintro e w1 ⟨rfl,hq⟩;replace hq:=hq.symm;subst hq;go_wp2_with fail
  go_ret
  exact⟨au HF.out.symm,hB0⟩
 have hv:inB vn 0 (1)=true:=abm.2 hin;obtain⟨j,rfl⟩:∃ j:Nat,vn=(j:Int):=⟨vn.toNat,by omega⟩;have hjk:j < kN:=by omega
 clear hkn hin;obtain⟨x,hx,hxm⟩:=uo HKL.out hjk;obtain⟨eu,gq,lq,oq⟩:=x;have HKO:=zqd (HOK.out _ hxm);have HF0:Hid (R=an3 (uq n) vks ⟨eu,gq,lq,oq⟩):=by show _=_;rw[HR.out,HNB.out,hv,Bool.true_and];exact azb (by omega) (by omega) kids (by rw[Int.toNat_natCast];exact hx)
 obtain⟨A',n',c',he,hnl,_,hat⟩:=bf Ty.ay (by decide) RK.out;obtain⟨rfl,rfl,rfl⟩:kA=A'∧kN=n'∧kC=c':=by injection he with e1 e2 e3;exact⟨e1,e2,e3⟩
 clear he hnl;obtain⟨g,off,rfl,hg,hcell⟩:=hat (by omega);obtain⟨xl,xk,c0,c1,c2,c3,Rl,Rk⟩:=acs (k:=j) (a0:=off+j * 4) (a1:=off+j * 4+1) (a2:=off+j * 4+2) (a3:=off+j * 4+3) (Below.refl w.heap.size w) hg hB hcell hx ⟨rfl,rfl,rfl,rfl⟩;obtain⟨xlA,xlN,xlC,rfl⟩:=Rl.form;obtain⟨xkA,xkN,xkC,rfl⟩:=Rk.form;have RLX:=zqd Rl;have RKX:=zqd Rk;clear Rl Rk hcell hat;have HS:Hid (∀ V,Below w0.heap.size w0 V→V.cell? ⟨w.heap.size,1,none⟩=some (.int .i64 (j:Int))∧V.cell? ⟨w.heap.size,3,none⟩=some (.slice vA vN vC)∧V.cell? ⟨w.heap.size+1,3,none⟩=some (.slice (some ⟨g,off,none⟩) kN kC)∧V.cell? ⟨g,off+j * 4,none⟩=some (.int .i64 eu)∧V.cell? ⟨g,off+j * 4+1,none⟩=some (.string gq)∧V.cell? ⟨g,off+j * 4+2,none⟩=some (.slice xlA xlN xlC)∧V.cell? ⟨g,off+j * 4+3,none⟩=some (.slice xkA xkN xkC)):=zqd fun V hV=>⟨(hV.cell (p:=⟨w.heap.size,1,none⟩) bV.lt).trans v1,(hV.cell (p:=⟨w.heap.size,3,none⟩) bV.lt).trans v3,(hV.cell (p:=⟨w.heap.size+1,3,none⟩) bT.lt).trans t3,(hV.cell (p:=⟨g,off+j * 4,none⟩) (by have:=hB0.size;simp only;omega)).trans (zqk hB0 c0),(hV.cell (p:=⟨g,off+j * 4+1,none⟩) (by have:=hB0.size;simp only;omega)).trans (zqk hB0 c1),(hV.cell (p:=⟨g,off+j * 4+2,none⟩) (by have:=hB0.size;simp only;omega)).trans (zqk hB0 c2),(hV.cell (p:=⟨g,off+j * 4+3,none⟩) (by have:=hB0.size;simp only;omega)).trans (zqk hB0 c3)⟩;have HC:=zqd (fun(V:World) (hV:Below w0.heap.size w0 V)=>au3 IH.out vks ⟨eu,gq,lq,oq⟩ HKO.out (ds:=[.int .i64 eu,.string gq,.slice xlA xlN xlC,.slice xkA xkN xkC]) (Nat.le_trans (Nat.le_trans hB hB0.size) hV.size) (HT.out.below (hB0.trans (hV.mono hB0.size))) HW2.out (RV.out.below ((hB0.trans (hV.mono hB0.size)).mono hB)) (Ty.close_ (RLX.out.below ((hB0.trans (hV.mono hB0.size)).mono hB)) (RKX.out.below ((hB0.trans (hV.mono hB0.size)).mono hB))));obtain⟨b,hb⟩:∃ b,an3 (uq n) vks ⟨eu,gq,lq,oq⟩=b:=⟨_,rfl⟩;rw[hb] at HC;have HF:Hid (R=b):=HF0.out.trans hb;clear hb HF0 c0 c1 c2 c3 HNB HR hx hxm;go_enter Tryz.func37,Tryz.ntmps37
 go_wp2_with fail
 rw[← HW0.out];clear HW0;refine(aip hv).mono ?_;rintro e w1 ⟨rfl,hq⟩;replace hq:=hq.symm;subst hq;have hkA:Below w0.heap.size w0 w0.drew:=(zqf _ _).drew;go_wp2_with fail
 refine zqh HS (HS.out _ hkA) fun hHeld=>?_;refine zqx 0 ?_;refine zqx 1 ?_;refine zqx 2 ?_;refine zqx 3 ?_;refine zqx 4 ?_;refine zqx 5 ?_;refine zqx 6 ?_;refine zqx 7 ?_;refine zqr 8 fun K hK=>?_;go_simp;go_at_call 57
 refine(HC.out _ hkA).mono ?_;rintro e wq ⟨rfl,hbq⟩;have hkB:=hkA.trans (hbq.mono hkA.size);refine hK.out _ _ (by first|exact(HS.out _ hkB)|go_keep) (fun hHeld=>?_);clear hK K;try simp only[Act.put,zs1,zs2,zs3]
 refine zqx 9 ?_;refine wpAnyH_done (by kernel_rfl) ?_ _;go_wp2_with fail
 go_ret
 exact⟨au HF.out.symm,hB0.trans (hkB.mono hB0.size)⟩
set_option maxHeartbeats 6400000 in
theorem bpm {n:Nat} (ih:afg 37 n):ahg 37 n 15 ⟨#[]⟩:=by
 intro vn vks name labels kids B cs ds w hB hT hok hwf hv h;obtain⟨R,hR⟩:∃ R,uq (n+1) ⟨15,vn,⟨#[]⟩,vks⟩ ⟨15,name,labels,kids⟩=R:=⟨_,rfl⟩;rw[hR];have HR:Hid (R=(adu 15 labels.length vn && xw (uq n) vks (og 15 vn vks.length kids))):=hR.symm;clear hR;obtain⟨hw1,hw2⟩:=ada hwf;have HW2:=zqd hw2;have HOK:=zqd (qg hok);have zn:Ty.shapes ⟨15,name,labels,kids⟩=true:=hok.2;have adk:=ab7 zn;have HSH:=zqd (shF zn);have IH:=zqd ih;have HT:=zqd hT;clear ih hwf hw2 hok hT zn;obtain⟨adx,rfl,r_v⟩:=Val.open_ hv;obtain⟨vA,vN,vC,rfl⟩:=r_v.form;obtain⟨iy,iw,rfl,r_l,r_k⟩:=Ty.open_ h;obtain⟨lA,lN,lC,rfl⟩:=r_l.form;obtain⟨kA,kN,kC,rfl⟩:=r_k.form;have hvl:vN=vks.length:=by obtain⟨A',n',c',he,hnl,_⟩:=bf Val.ay (by decide) r_v;injection he with e1 e2 e3;omega
 have hvm:vN≤maxLen:=by obtain⟨A',n',c',he,_,hm,_⟩:=bf Val.ay (by decide) r_v;injection he with e1 e2 e3;omega
 have hll:lN=labels.length:=by obtain⟨A',n',c',he,hnl,_⟩:=bf jo (by decide) r_l;injection he with e1 e2 e3;omega
 have hkl:kN=kids.length:=by obtain⟨A',n',c',he,hnl,_⟩:=bf Ty.ay (by decide) r_k;injection he with e1 e2 e3;omega
 unfold maxLen at hvm;have RV:=zqd r_v;have RL:=zqd r_l;have RK:=zqd r_k;have HVL:=zqd hvl;have HLL:=zqd hll;have HKL:=zqd hkl;clear hv h r_v r_l r_k hvl hll hkl;obtain⟨w0,hw0⟩:∃ V,V=(w.alloc (.cells #[.int .i64 15,.int .i64 vn,.string {data:=#[]},.slice vA vN vC] 33)).alloc (.cells #[.int .i64 15,.string name,.slice lA lN lC,.slice kA kN kC] 39):=⟨_,rfl⟩;have bV:Blk w0 w.heap.size 33 #[.int .i64 15,.int .i64 vn,.string {data:=#[]},.slice vA vN vC]:=by rw[hw0];exact(Blk.new w _ _).alloc _
 have bT:=zn21 hw0;have hB0:Below w.heap.size w w0:=by rw[hw0];exact((zqf _ _).alloc (zql _) _).alloc (by simp) _
 have HW0:=zqd hw0;clear hw0;obtain⟨v0,v1,v2,v3⟩:=zc4 bV;obtain⟨t0,t1,t2,t3⟩:=zc4 bT;have hl:lN≤16:=by have:=HLL.out;omega
 clear adk;have HL0:=zqd (len0 HVL.out)
 have HQ:Hid (R=(decide (vn=0) && xw (uq n) vks kids)):=by
  show _=_;rw[HR.out,ahm (by omega),apn,agz (by omega)]
 clear HR;by_cases hn:vn=0
 case neg=>
  have HF:Hid (R=false):=by show _=_;rw[HQ.out,decide_eq_false hn];rfl
  have hn2:(vn ==0)=false:=by simp[hn]
  go_enter Tryz.func37,Tryz.ntmps37
  go_wp2_with fail
  rw[← HW0.out];clear HW0;go_ret
  exact⟨au HF.out.symm,hB0⟩
 subst hn;have HF0:Hid (R=xw (uq n) vks kids):=HQ.out;have HC:=zqd (axf IH.out vks kids HOK.out (Nat.le_trans hB hB0.size) (HT.out.below hB0) HW2.out (RV.out.below (hB0.mono hB)) (RK.out.below (hB0.mono hB)));obtain⟨b,hb⟩:∃ b,xw (uq n) vks kids=b:=⟨_,rfl⟩;rw[hb] at HC;have HF:Hid (R=b):=HF0.out.trans hb;clear hb HF0;go_enter Tryz.func37,Tryz.ntmps37
 go_wp2_with fail
 rw[← HW0.out];clear HW0;refine HC.out.mono ?_;rintro e w1 ⟨rfl,hc1⟩;go_wp2_with fail
 go_ret
 exact⟨au HF.out.symm,hB0.trans (hc1.mono hB0.size)⟩
set_option maxHeartbeats 6400000 in
theorem bpn {n:Nat} (ih:afg 37 n):ahg 37 n 16 ⟨#[]⟩:=by
 intro vn vks name labels kids B cs ds w hB hT hok hwf hv h;obtain⟨R,hR⟩:∃ R,uq (n+1) ⟨16,vn,⟨#[]⟩,vks⟩ ⟨16,name,labels,kids⟩=R:=⟨_,rfl⟩;rw[hR];have HR:Hid (R=(adu 16 labels.length vn && xw (uq n) vks (og 16 vn vks.length kids))):=hR.symm;clear hR;obtain⟨hw1,hw2⟩:=ada hwf;have HW2:=zqd hw2;have HOK:=zqd (qg hok);have zn:Ty.shapes ⟨16,name,labels,kids⟩=true:=hok.2;have adk:=ab7 zn;have HSH:=zqd (shF zn);have IH:=zqd ih;have HT:=zqd hT;clear ih hwf hw2 hok hT zn;obtain⟨adx,rfl,r_v⟩:=Val.open_ hv;obtain⟨vA,vN,vC,rfl⟩:=r_v.form;obtain⟨iy,iw,rfl,r_l,r_k⟩:=Ty.open_ h;obtain⟨lA,lN,lC,rfl⟩:=r_l.form;obtain⟨kA,kN,kC,rfl⟩:=r_k.form;have hvl:vN=vks.length:=by obtain⟨A',n',c',he,hnl,_⟩:=bf Val.ay (by decide) r_v;injection he with e1 e2 e3;omega
 have hvm:vN≤maxLen:=by obtain⟨A',n',c',he,_,hm,_⟩:=bf Val.ay (by decide) r_v;injection he with e1 e2 e3;omega
 have hll:lN=labels.length:=by obtain⟨A',n',c',he,hnl,_⟩:=bf jo (by decide) r_l;injection he with e1 e2 e3;omega
 have hkl:kN=kids.length:=by obtain⟨A',n',c',he,hnl,_⟩:=bf Ty.ay (by decide) r_k;injection he with e1 e2 e3;omega
 unfold maxLen at hvm;have RV:=zqd r_v;have RL:=zqd r_l;have RK:=zqd r_k;have HVL:=zqd hvl;have HLL:=zqd hll;have HKL:=zqd hkl;clear hv h r_v r_l r_k hvl hll hkl;obtain⟨w0,hw0⟩:∃ V,V=(w.alloc (.cells #[.int .i64 16,.int .i64 vn,.string {data:=#[]},.slice vA vN vC] 33)).alloc (.cells #[.int .i64 16,.string name,.slice lA lN lC,.slice kA kN kC] 39):=⟨_,rfl⟩;have bV:Blk w0 w.heap.size 33 #[.int .i64 16,.int .i64 vn,.string {data:=#[]},.slice vA vN vC]:=by rw[hw0];exact(Blk.new w _ _).alloc _
 have bT:=zn21 hw0;have hB0:Below w.heap.size w w0:=by rw[hw0];exact((zqf _ _).alloc (zql _) _).alloc (by simp) _
 have HW0:=zqd hw0;clear hw0;obtain⟨v0,v1,v2,v3⟩:=zc4 bV;obtain⟨t0,t1,t2,t3⟩:=zc4 bT;have hl:lN≤16:=by have:=HLL.out;omega
 clear adk;have HL0:=zqd (len0 HVL.out)
 have HQ:Hid (R=(decide (vn=0) && xw (uq n) vks kids)):=by
  show _=_;rw[HR.out,ahm (by omega),apn,agz (by omega)]
 clear HR;by_cases hn:vn=0
 case neg=>
  have HF:Hid (R=false):=by show _=_;rw[HQ.out,decide_eq_false hn];rfl
  have hn2:(vn ==0)=false:=by simp[hn]
  go_enter Tryz.func37,Tryz.ntmps37
  go_wp2_with fail
  rw[← HW0.out];clear HW0;go_ret
  exact⟨au HF.out.symm,hB0⟩
 subst hn;have HF0:Hid (R=xw (uq n) vks kids):=HQ.out;have HC:=zqd (axf IH.out vks kids HOK.out (Nat.le_trans hB hB0.size) (HT.out.below hB0) HW2.out (RV.out.below (hB0.mono hB)) (RK.out.below (hB0.mono hB)));obtain⟨b,hb⟩:∃ b,xw (uq n) vks kids=b:=⟨_,rfl⟩;rw[hb] at HC;have HF:Hid (R=b):=HF0.out.trans hb;clear hb HF0;go_enter Tryz.func37,Tryz.ntmps37
 go_wp2_with fail
 rw[← HW0.out];clear HW0;refine HC.out.mono ?_;rintro e w1 ⟨rfl,hc1⟩;go_wp2_with fail
 go_ret
 exact⟨au HF.out.symm,hB0.trans (hc1.mono hB0.size)⟩
set_option maxHeartbeats 6400000 in
theorem bpo {n:Nat} (ih:afg 37 n):ahg 37 n 17 ⟨#[]⟩:=by
 intro vn vks name labels kids B cs ds w hB hT hok hwf hv h;obtain⟨R,hR⟩:∃ R,uq (n+1) ⟨17,vn,⟨#[]⟩,vks⟩ ⟨17,name,labels,kids⟩=R:=⟨_,rfl⟩;rw[hR];have HR:Hid (R=(adu 17 labels.length vn && xw (uq n) vks (og 17 vn vks.length kids))):=hR.symm;clear hR;obtain⟨hw1,hw2⟩:=ada hwf;have HW2:=zqd hw2;have HOK:=zqd (qg hok);have zn:Ty.shapes ⟨17,name,labels,kids⟩=true:=hok.2;have adk:=ab7 zn;have HSH:=zqd (shF zn);have IH:=zqd ih;have HT:=zqd hT;clear ih hwf hw2 hok hT zn;obtain⟨adx,rfl,r_v⟩:=Val.open_ hv;obtain⟨vA,vN,vC,rfl⟩:=r_v.form;obtain⟨iy,iw,rfl,r_l,r_k⟩:=Ty.open_ h;obtain⟨lA,lN,lC,rfl⟩:=r_l.form;obtain⟨kA,kN,kC,rfl⟩:=r_k.form;have hvl:vN=vks.length:=by obtain⟨A',n',c',he,hnl,_⟩:=bf Val.ay (by decide) r_v;injection he with e1 e2 e3;omega
 have hvm:vN≤maxLen:=by obtain⟨A',n',c',he,_,hm,_⟩:=bf Val.ay (by decide) r_v;injection he with e1 e2 e3;omega
 have hll:lN=labels.length:=by obtain⟨A',n',c',he,hnl,_⟩:=bf jo (by decide) r_l;injection he with e1 e2 e3;omega
 have hkl:kN=kids.length:=by obtain⟨A',n',c',he,hnl,_⟩:=bf Ty.ay (by decide) r_k;injection he with e1 e2 e3;omega
 unfold maxLen at hvm;have RV:=zqd r_v;have RL:=zqd r_l;have RK:=zqd r_k;have HVL:=zqd hvl;have HLL:=zqd hll;have HKL:=zqd hkl;clear hv h r_v r_l r_k hvl hll hkl;obtain⟨w0,hw0⟩:∃ V,V=(w.alloc (.cells #[.int .i64 17,.int .i64 vn,.string {data:=#[]},.slice vA vN vC] 33)).alloc (.cells #[.int .i64 17,.string name,.slice lA lN lC,.slice kA kN kC] 39):=⟨_,rfl⟩;have bV:Blk w0 w.heap.size 33 #[.int .i64 17,.int .i64 vn,.string {data:=#[]},.slice vA vN vC]:=by rw[hw0];exact(Blk.new w _ _).alloc _
 have bT:=zn21 hw0;have hB0:Below w.heap.size w w0:=by rw[hw0];exact((zqf _ _).alloc (zql _) _).alloc (by simp) _
 have HW0:=zqd hw0;clear hw0;obtain⟨v0,v1,v2,v3⟩:=zc4 bV;obtain⟨t0,t1,t2,t3⟩:=zc4 bT;have hl:lN≤16:=by have:=HLL.out;omega
 clear adk;have HL0:=zqd (len0 HVL.out);have HNB:Hid (adu 17 labels.length vn=inB vn 0 ((lN:Int) - 1)):=by show _=_;rw[HLL.out];exact aie (by omega) _ _
 have hkn:(kN:Int)=lN:=by have:=HKL.out;have:=HLL.out;have:=afz (.inr rfl) HSH.out.right;omega
 have hwr:IntKind.i64.wrap ((lN:Int) - 1)=(lN:Int) - 1:=IntWalk.i64_in _ (by omega);by_cases hin:0≤vn∧vn≤(lN:Int) - 1
 case neg=>
  have hv:inB vn 0 ((lN:Int) - 1)=false:=by rw[aec];omega
  have HF:Hid (R=false):=by show _=_;rw[HR.out,HNB.out,hv];rfl
  go_enter Tryz.func37,Tryz.ntmps37
  go_wp2_with fail
  rw[← HW0.out];clear HW0;refine(aip hv).mono ?_;rintro e w1 ⟨rfl,hq⟩;replace hq:=hq.symm;subst hq;go_wp2_with fail
  go_ret
  exact⟨au HF.out.symm,hB0⟩
 have hv:inB vn 0 ((lN:Int) - 1)=true:=abm.2 hin;obtain⟨j,rfl⟩:∃ j:Nat,vn=(j:Int):=⟨vn.toNat,by omega⟩;have hjk:j < kN:=by omega
 clear hkn hin;obtain⟨x,hx,hxm⟩:=uo HKL.out hjk;obtain⟨eu,gq,lq,oq⟩:=x;have HKO:=zqd (HOK.out _ hxm);have HF0:Hid (R=an3 (uq n) vks ⟨eu,gq,lq,oq⟩):=by show _=_;rw[HR.out,HNB.out,hv,Bool.true_and];exact azb (by omega) (by omega) kids (by rw[Int.toNat_natCast];exact hx)
 obtain⟨A',n',c',he,hnl,_,hat⟩:=bf Ty.ay (by decide) RK.out;obtain⟨rfl,rfl,rfl⟩:kA=A'∧kN=n'∧kC=c':=by injection he with e1 e2 e3;exact⟨e1,e2,e3⟩
 clear he hnl;obtain⟨g,off,rfl,hg,hcell⟩:=hat (by omega);obtain⟨xl,xk,c0,c1,c2,c3,Rl,Rk⟩:=acs (k:=j) (a0:=off+j * 4) (a1:=off+j * 4+1) (a2:=off+j * 4+2) (a3:=off+j * 4+3) (Below.refl w.heap.size w) hg hB hcell hx ⟨rfl,rfl,rfl,rfl⟩;obtain⟨xlA,xlN,xlC,rfl⟩:=Rl.form;obtain⟨xkA,xkN,xkC,rfl⟩:=Rk.form;have RLX:=zqd Rl;have RKX:=zqd Rk;clear Rl Rk hcell hat;have HS:Hid (∀ V,Below w0.heap.size w0 V→V.cell? ⟨w.heap.size,1,none⟩=some (.int .i64 (j:Int))∧V.cell? ⟨w.heap.size,3,none⟩=some (.slice vA vN vC)∧V.cell? ⟨w.heap.size+1,3,none⟩=some (.slice (some ⟨g,off,none⟩) kN kC)∧V.cell? ⟨g,off+j * 4,none⟩=some (.int .i64 eu)∧V.cell? ⟨g,off+j * 4+1,none⟩=some (.string gq)∧V.cell? ⟨g,off+j * 4+2,none⟩=some (.slice xlA xlN xlC)∧V.cell? ⟨g,off+j * 4+3,none⟩=some (.slice xkA xkN xkC)):=zqd fun V hV=>⟨(hV.cell (p:=⟨w.heap.size,1,none⟩) bV.lt).trans v1,(hV.cell (p:=⟨w.heap.size,3,none⟩) bV.lt).trans v3,(hV.cell (p:=⟨w.heap.size+1,3,none⟩) bT.lt).trans t3,(hV.cell (p:=⟨g,off+j * 4,none⟩) (by have:=hB0.size;simp only;omega)).trans (zqk hB0 c0),(hV.cell (p:=⟨g,off+j * 4+1,none⟩) (by have:=hB0.size;simp only;omega)).trans (zqk hB0 c1),(hV.cell (p:=⟨g,off+j * 4+2,none⟩) (by have:=hB0.size;simp only;omega)).trans (zqk hB0 c2),(hV.cell (p:=⟨g,off+j * 4+3,none⟩) (by have:=hB0.size;simp only;omega)).trans (zqk hB0 c3)⟩;have HC:=zqd (fun(V:World) (hV:Below w0.heap.size w0 V)=>au3 IH.out vks ⟨eu,gq,lq,oq⟩ HKO.out (ds:=[.int .i64 eu,.string gq,.slice xlA xlN xlC,.slice xkA xkN xkC]) (Nat.le_trans (Nat.le_trans hB hB0.size) hV.size) (HT.out.below (hB0.trans (hV.mono hB0.size))) HW2.out (RV.out.below ((hB0.trans (hV.mono hB0.size)).mono hB)) (Ty.close_ (RLX.out.below ((hB0.trans (hV.mono hB0.size)).mono hB)) (RKX.out.below ((hB0.trans (hV.mono hB0.size)).mono hB))));obtain⟨b,hb⟩:∃ b,an3 (uq n) vks ⟨eu,gq,lq,oq⟩=b:=⟨_,rfl⟩;rw[hb] at HC;have HF:Hid (R=b):=HF0.out.trans hb;clear hb HF0 c0 c1 c2 c3 HNB HR hx hxm;go_enter Tryz.func37,Tryz.ntmps37
 go_wp2_with fail
 rw[← HW0.out];clear HW0;refine(aip hv).mono ?_;rintro e w1 ⟨rfl,hq⟩;replace hq:=hq.symm;subst hq;have hkA:Below w0.heap.size w0 w0.drew:=(zqf _ _).drew;go_wp2_with fail
 refine zqh HS (HS.out _ hkA) fun hHeld=>?_;refine zqx 0 ?_;refine zqx 1 ?_;refine zqx 2 ?_;refine zqx 3 ?_;refine zqx 4 ?_;refine zqx 5 ?_;refine zqx 6 ?_;refine zqx 7 ?_;refine zqr 8 fun K hK=>?_;go_simp;go_at_call 57
 refine(HC.out _ hkA).mono ?_;rintro e wq ⟨rfl,hbq⟩;have hkB:=hkA.trans (hbq.mono hkA.size);refine hK.out _ _ (by first|exact(HS.out _ hkB)|go_keep) (fun hHeld=>?_);clear hK K;try simp only[Act.put,zs1,zs2,zs3]
 refine zqx 9 ?_;refine wpAnyH_done (by kernel_rfl) ?_ _;go_wp2_with fail
 go_ret
 exact⟨au HF.out.symm,hB0.trans (hkB.mono hB0.size)⟩
set_option maxHeartbeats 6400000 in
theorem bpp {n:Nat} (ih:afg 37 n):ahg 37 n 18 ⟨#[]⟩:=by
 intro vn vks name labels kids B cs ds w hB hT hok hwf hv h;obtain⟨R,hR⟩:∃ R,uq (n+1) ⟨18,vn,⟨#[]⟩,vks⟩ ⟨18,name,labels,kids⟩=R:=⟨_,rfl⟩;rw[hR];have HR:Hid (R=(adu 18 labels.length vn && xw (uq n) vks (og 18 vn vks.length kids))):=hR.symm;clear hR;obtain⟨hw1,hw2⟩:=ada hwf;have HW2:=zqd hw2;have HOK:=zqd (qg hok);have zn:Ty.shapes ⟨18,name,labels,kids⟩=true:=hok.2;have adk:=ab7 zn;have HSH:=zqd (shF zn);have IH:=zqd ih;have HT:=zqd hT;clear ih hwf hw2 hok hT zn;obtain⟨adx,rfl,r_v⟩:=Val.open_ hv;obtain⟨vA,vN,vC,rfl⟩:=r_v.form;obtain⟨iy,iw,rfl,r_l,r_k⟩:=Ty.open_ h;obtain⟨lA,lN,lC,rfl⟩:=r_l.form;obtain⟨kA,kN,kC,rfl⟩:=r_k.form;have hvl:vN=vks.length:=by obtain⟨A',n',c',he,hnl,_⟩:=bf Val.ay (by decide) r_v;injection he with e1 e2 e3;omega
 have hvm:vN≤maxLen:=by obtain⟨A',n',c',he,_,hm,_⟩:=bf Val.ay (by decide) r_v;injection he with e1 e2 e3;omega
 have hll:lN=labels.length:=by obtain⟨A',n',c',he,hnl,_⟩:=bf jo (by decide) r_l;injection he with e1 e2 e3;omega
 have hkl:kN=kids.length:=by obtain⟨A',n',c',he,hnl,_⟩:=bf Ty.ay (by decide) r_k;injection he with e1 e2 e3;omega
 unfold maxLen at hvm;have RV:=zqd r_v;have RL:=zqd r_l;have RK:=zqd r_k;have HVL:=zqd hvl;have HLL:=zqd hll;have HKL:=zqd hkl;clear hv h r_v r_l r_k hvl hll hkl;obtain⟨w0,hw0⟩:∃ V,V=(w.alloc (.cells #[.int .i64 18,.int .i64 vn,.string {data:=#[]},.slice vA vN vC] 33)).alloc (.cells #[.int .i64 18,.string name,.slice lA lN lC,.slice kA kN kC] 39):=⟨_,rfl⟩;have bV:Blk w0 w.heap.size 33 #[.int .i64 18,.int .i64 vn,.string {data:=#[]},.slice vA vN vC]:=by rw[hw0];exact(Blk.new w _ _).alloc _
 have bT:=zn21 hw0;have hB0:Below w.heap.size w w0:=by rw[hw0];exact((zqf _ _).alloc (zql _) _).alloc (by simp) _
 have HW0:=zqd hw0;clear hw0;obtain⟨v0,v1,v2,v3⟩:=zc4 bV;obtain⟨t0,t1,t2,t3⟩:=zc4 bT;have hl:lN≤16:=by have:=HLL.out;omega
 clear adk;have HL0:=zqd (len0 HVL.out);have hwr:IntKind.i64.wrap ((lN:Int) - 1)=(lN:Int) - 1:=IntWalk.i64_in _ (by omega);have HQ:Hid (R=(inB vn 0 ((lN:Int) - 1) && decide ((vN:Int)=0))):=agv HR.out (by rw[HLL.out];exact aie (by omega) _ _) ((ae1 (by omega) kids).trans HL0.out.symm);obtain⟨b1,hv⟩:∃ b,inB vn 0 ((lN:Int) - 1)=b:=⟨_,rfl⟩;rw[hv] at HQ;go_enter Tryz.func37,Tryz.ntmps37
 go_wp2_with fail
 rw[← HW0.out];clear HW0;refine(aip hv).mono ?_;rintro e w1 ⟨rfl,hq⟩;replace hq:=hq.symm;subst hq;cases b1
 case false=>
  have HF:Hid (R=false):=HQ.out;go_wp2_with fail
  go_ret
  exact⟨au HF.out.symm,hB0⟩
 have HF:Hid (R=decide ((vN:Int)=0)):=HQ.out;go_wp2_with fail
 go_ret
 exact⟨au HF.out.symm,hB0⟩
set_option maxHeartbeats 6400000 in
theorem bpq {n:Nat} (ih:afg 37 n):ahg 37 n 19 ⟨#[]⟩:=by
 intro vn vks name labels kids B cs ds w hB hT hok hwf hv h;obtain⟨R,hR⟩:∃ R,uq (n+1) ⟨19,vn,⟨#[]⟩,vks⟩ ⟨19,name,labels,kids⟩=R:=⟨_,rfl⟩;rw[hR];have HR:Hid (R=(adu 19 labels.length vn && xw (uq n) vks (og 19 vn vks.length kids))):=hR.symm;clear hR;obtain⟨hw1,hw2⟩:=ada hwf;have HW2:=zqd hw2;have HOK:=zqd (qg hok);have zn:Ty.shapes ⟨19,name,labels,kids⟩=true:=hok.2;have adk:=ab7 zn;have HSH:=zqd (shF zn);have IH:=zqd ih;have HT:=zqd hT;clear ih hwf hw2 hok hT zn;obtain⟨adx,rfl,r_v⟩:=Val.open_ hv;obtain⟨vA,vN,vC,rfl⟩:=r_v.form;obtain⟨iy,iw,rfl,r_l,r_k⟩:=Ty.open_ h;obtain⟨lA,lN,lC,rfl⟩:=r_l.form;obtain⟨kA,kN,kC,rfl⟩:=r_k.form;have hvl:vN=vks.length:=by obtain⟨A',n',c',he,hnl,_⟩:=bf Val.ay (by decide) r_v;injection he with e1 e2 e3;omega
 have hvm:vN≤maxLen:=by obtain⟨A',n',c',he,_,hm,_⟩:=bf Val.ay (by decide) r_v;injection he with e1 e2 e3;omega
 have hll:lN=labels.length:=by obtain⟨A',n',c',he,hnl,_⟩:=bf jo (by decide) r_l;injection he with e1 e2 e3;omega
 have hkl:kN=kids.length:=by obtain⟨A',n',c',he,hnl,_⟩:=bf Ty.ay (by decide) r_k;injection he with e1 e2 e3;omega
 unfold maxLen at hvm;have RV:=zqd r_v;have RL:=zqd r_l;have RK:=zqd r_k;have HVL:=zqd hvl;have HLL:=zqd hll;have HKL:=zqd hkl;clear hv h r_v r_l r_k hvl hll hkl;obtain⟨w0,hw0⟩:∃ V,V=(w.alloc (.cells #[.int .i64 19,.int .i64 vn,.string {data:=#[]},.slice vA vN vC] 33)).alloc (.cells #[.int .i64 19,.string name,.slice lA lN lC,.slice kA kN kC] 39):=⟨_,rfl⟩;have bV:Blk w0 w.heap.size 33 #[.int .i64 19,.int .i64 vn,.string {data:=#[]},.slice vA vN vC]:=by rw[hw0];exact(Blk.new w _ _).alloc _
 have bT:=zn21 hw0;have hB0:Below w.heap.size w w0:=by rw[hw0];exact((zqf _ _).alloc (zql _) _).alloc (by simp) _
 have HW0:=zqd hw0;clear hw0;obtain⟨v0,v1,v2,v3⟩:=zc4 bV;obtain⟨t0,t1,t2,t3⟩:=zc4 bT;have hl:lN≤16:=by have:=HLL.out;omega
 clear adk;have HL0:=zqd (len0 HVL.out);have HQ:Hid (R=(inB vn 0 (2 ^ lN - 1) && decide ((vN:Int)=0))):=agv HR.out (by rw[HLL.out];exact am0 _ _) ((ae1 (by omega) kids).trans HL0.out.symm);obtain⟨b1,hv⟩:∃ b,inB vn 0 (2 ^ lN - 1)=b:=⟨_,rfl⟩;rw[hv] at HQ;have h17:lN=0∨lN=1∨lN=2∨lN=3∨lN=4∨lN=5∨lN=6∨lN=7∨lN=8∨lN=9∨lN=10∨lN=11∨lN=12∨lN=13∨lN=14∨lN=15∨lN=16:=by omega
 clear hl HLL;rcases h17 with rfl|rfl|rfl|rfl|rfl|rfl|rfl|rfl|rfl|rfl|rfl|rfl|rfl|rfl|rfl|rfl|rfl
 all_goals
  simp only[Int.reducePow,Int.reduceSub] at hv;go_enter Tryz.func37,Tryz.ntmps37
  go_wp2_with fail
  rw[← HW0.out];clear HW0;refine(aip hv).mono ?_;rintro e w1 ⟨rfl,hq⟩;replace hq:=hq.symm;subst hq;cases b1
  case false=>
   have HF:Hid (R=false):=HQ.out;go_wp2_with fail
   go_ret
   exact⟨au HF.out.symm,hB0⟩
  have HF:Hid (R=decide ((vN:Int)=0)):=HQ.out;go_wp2_with fail
  go_ret
  exact⟨au HF.out.symm,hB0⟩
set_option maxHeartbeats 6400000 in
theorem bpr {n:Nat} (ih:afg 37 n):ahg 37 n 20 ⟨#[]⟩:=by
 intro vn vks name labels kids B cs ds w hB hT hok hwf hv h;obtain⟨R,hR⟩:∃ R,uq (n+1) ⟨20,vn,⟨#[]⟩,vks⟩ ⟨20,name,labels,kids⟩=R:=⟨_,rfl⟩;rw[hR];have HR:Hid (R=(adu 20 labels.length vn && xw (uq n) vks (og 20 vn vks.length kids))):=hR.symm;clear hR;obtain⟨hw1,hw2⟩:=ada hwf;have HW2:=zqd hw2;have HOK:=zqd (qg hok);have zn:Ty.shapes ⟨20,name,labels,kids⟩=true:=hok.2;have adk:=ab7 zn;have HSH:=zqd (shF zn);have IH:=zqd ih;have HT:=zqd hT;clear ih hwf hw2 hok hT zn;obtain⟨adx,rfl,r_v⟩:=Val.open_ hv;obtain⟨vA,vN,vC,rfl⟩:=r_v.form;obtain⟨iy,iw,rfl,r_l,r_k⟩:=Ty.open_ h;obtain⟨lA,lN,lC,rfl⟩:=r_l.form;obtain⟨kA,kN,kC,rfl⟩:=r_k.form;have hvl:vN=vks.length:=by obtain⟨A',n',c',he,hnl,_⟩:=bf Val.ay (by decide) r_v;injection he with e1 e2 e3;omega
 have hvm:vN≤maxLen:=by obtain⟨A',n',c',he,_,hm,_⟩:=bf Val.ay (by decide) r_v;injection he with e1 e2 e3;omega
 have hll:lN=labels.length:=by obtain⟨A',n',c',he,hnl,_⟩:=bf jo (by decide) r_l;injection he with e1 e2 e3;omega
 have hkl:kN=kids.length:=by obtain⟨A',n',c',he,hnl,_⟩:=bf Ty.ay (by decide) r_k;injection he with e1 e2 e3;omega
 unfold maxLen at hvm;have RV:=zqd r_v;have RL:=zqd r_l;have RK:=zqd r_k;have HVL:=zqd hvl;have HLL:=zqd hll;have HKL:=zqd hkl;clear hv h r_v r_l r_k hvl hll hkl;obtain⟨w0,hw0⟩:∃ V,V=(w.alloc (.cells #[.int .i64 20,.int .i64 vn,.string {data:=#[]},.slice vA vN vC] 33)).alloc (.cells #[.int .i64 20,.string name,.slice lA lN lC,.slice kA kN kC] 39):=⟨_,rfl⟩;have bV:Blk w0 w.heap.size 33 #[.int .i64 20,.int .i64 vn,.string {data:=#[]},.slice vA vN vC]:=by rw[hw0];exact(Blk.new w _ _).alloc _
 have bT:=zn21 hw0;have hB0:Below w.heap.size w w0:=by rw[hw0];exact((zqf _ _).alloc (zql _) _).alloc (by simp) _
 have HW0:=zqd hw0;clear hw0;obtain⟨v0,v1,v2,v3⟩:=zc4 bV;obtain⟨t0,t1,t2,t3⟩:=zc4 bT;have hl:lN≤16:=by have:=HLL.out;omega
 clear adk;have HL0:=zqd (len0 HVL.out);have HQ:Hid (R=(inB vn 0 2147483647 && decide ((vN:Int)=0))):=agv HR.out (aif (by omega) _ _) ((ae1 (by omega) kids).trans HL0.out.symm);obtain⟨b1,hv⟩:∃ b,inB vn 0 2147483647=b:=⟨_,rfl⟩;rw[hv] at HQ;go_enter Tryz.func37,Tryz.ntmps37
 go_wp2_with fail
 rw[← HW0.out];clear HW0;refine(aip hv).mono ?_;rintro e w1 ⟨rfl,hq⟩;replace hq:=hq.symm;subst hq;cases b1
 case false=>
  have HF:Hid (R=false):=HQ.out;go_wp2_with fail
  go_ret
  exact⟨au HF.out.symm,hB0⟩
 have HF:Hid (R=decide ((vN:Int)=0)):=HQ.out;go_wp2_with fail
 go_ret
 exact⟨au HF.out.symm,hB0⟩
set_option maxHeartbeats 6400000 in
theorem bps {n:Nat} (ih:afg 37 n):ahg 37 n 21 ⟨#[]⟩:=by
 intro vn vks name labels kids B cs ds w hB hT hok hwf hv h;obtain⟨R,hR⟩:∃ R,uq (n+1) ⟨21,vn,⟨#[]⟩,vks⟩ ⟨21,name,labels,kids⟩=R:=⟨_,rfl⟩;rw[hR];have HR:Hid (R=(adu 21 labels.length vn && xw (uq n) vks (og 21 vn vks.length kids))):=hR.symm;clear hR;obtain⟨hw1,hw2⟩:=ada hwf;have HW2:=zqd hw2;have HOK:=zqd (qg hok);have zn:Ty.shapes ⟨21,name,labels,kids⟩=true:=hok.2;have adk:=ab7 zn;have HSH:=zqd (shF zn);have IH:=zqd ih;have HT:=zqd hT;clear ih hwf hw2 hok hT zn;obtain⟨adx,rfl,r_v⟩:=Val.open_ hv;obtain⟨vA,vN,vC,rfl⟩:=r_v.form;obtain⟨iy,iw,rfl,r_l,r_k⟩:=Ty.open_ h;obtain⟨lA,lN,lC,rfl⟩:=r_l.form;obtain⟨kA,kN,kC,rfl⟩:=r_k.form;have hvl:vN=vks.length:=by obtain⟨A',n',c',he,hnl,_⟩:=bf Val.ay (by decide) r_v;injection he with e1 e2 e3;omega
 have hvm:vN≤maxLen:=by obtain⟨A',n',c',he,_,hm,_⟩:=bf Val.ay (by decide) r_v;injection he with e1 e2 e3;omega
 have hll:lN=labels.length:=by obtain⟨A',n',c',he,hnl,_⟩:=bf jo (by decide) r_l;injection he with e1 e2 e3;omega
 have hkl:kN=kids.length:=by obtain⟨A',n',c',he,hnl,_⟩:=bf Ty.ay (by decide) r_k;injection he with e1 e2 e3;omega
 unfold maxLen at hvm;have RV:=zqd r_v;have RL:=zqd r_l;have RK:=zqd r_k;have HVL:=zqd hvl;have HLL:=zqd hll;have HKL:=zqd hkl;clear hv h r_v r_l r_k hvl hll hkl;obtain⟨w0,hw0⟩:∃ V,V=(w.alloc (.cells #[.int .i64 21,.int .i64 vn,.string {data:=#[]},.slice vA vN vC] 33)).alloc (.cells #[.int .i64 21,.string name,.slice lA lN lC,.slice kA kN kC] 39):=⟨_,rfl⟩;have bV:Blk w0 w.heap.size 33 #[.int .i64 21,.int .i64 vn,.string {data:=#[]},.slice vA vN vC]:=by rw[hw0];exact(Blk.new w _ _).alloc _
 have bT:=zn21 hw0;have hB0:Below w.heap.size w w0:=by rw[hw0];exact((zqf _ _).alloc (zql _) _).alloc (by simp) _
 have HW0:=zqd hw0;clear hw0;obtain⟨v0,v1,v2,v3⟩:=zc4 bV;obtain⟨t0,t1,t2,t3⟩:=zc4 bT;have hl:lN≤16:=by have:=HLL.out;omega
 clear adk;have HL0:=zqd (len0 HVL.out);have HQ:Hid (R=(inB vn 0 2147483647 && decide ((vN:Int)=0))):=agv HR.out (aif (by omega) _ _) ((ae1 (by omega) kids).trans HL0.out.symm);obtain⟨b1,hv⟩:∃ b,inB vn 0 2147483647=b:=⟨_,rfl⟩;rw[hv] at HQ;go_enter Tryz.func37,Tryz.ntmps37
 go_wp2_with fail
 rw[← HW0.out];clear HW0;refine(aip hv).mono ?_;rintro e w1 ⟨rfl,hq⟩;replace hq:=hq.symm;subst hq;cases b1
 case false=>
  have HF:Hid (R=false):=HQ.out;go_wp2_with fail
  go_ret
  exact⟨au HF.out.symm,hB0⟩
 have HF:Hid (R=decide ((vN:Int)=0)):=HQ.out;go_wp2_with fail
 go_ret
 exact⟨au HF.out.symm,hB0⟩
set_option maxHeartbeats 6400000 in
theorem bpt {n:Nat} (ih:afg 37 n):ahg 37 n 22 ⟨#[]⟩:=by
 intro vn vks name labels kids B cs ds w hB hT hok hwf hv h;obtain⟨R,hR⟩:∃ R,uq (n+1) ⟨22,vn,⟨#[]⟩,vks⟩ ⟨22,name,labels,kids⟩=R:=⟨_,rfl⟩;rw[hR];have HR:Hid (R=(adu 22 labels.length vn && xw (uq n) vks (og 22 vn vks.length kids))):=hR.symm;clear hR;obtain⟨hw1,hw2⟩:=ada hwf;have HW2:=zqd hw2;have HOK:=zqd (qg hok);have zn:Ty.shapes ⟨22,name,labels,kids⟩=true:=hok.2;have adk:=ab7 zn;have HSH:=zqd (shF zn);have IH:=zqd ih;have HT:=zqd hT;clear ih hwf hw2 hok hT zn;obtain⟨adx,rfl,r_v⟩:=Val.open_ hv;obtain⟨vA,vN,vC,rfl⟩:=r_v.form;obtain⟨iy,iw,rfl,r_l,r_k⟩:=Ty.open_ h;obtain⟨lA,lN,lC,rfl⟩:=r_l.form;obtain⟨kA,kN,kC,rfl⟩:=r_k.form;have hvl:vN=vks.length:=by obtain⟨A',n',c',he,hnl,_⟩:=bf Val.ay (by decide) r_v;injection he with e1 e2 e3;omega
 have hvm:vN≤maxLen:=by obtain⟨A',n',c',he,_,hm,_⟩:=bf Val.ay (by decide) r_v;injection he with e1 e2 e3;omega
 have hll:lN=labels.length:=by obtain⟨A',n',c',he,hnl,_⟩:=bf jo (by decide) r_l;injection he with e1 e2 e3;omega
 have hkl:kN=kids.length:=by obtain⟨A',n',c',he,hnl,_⟩:=bf Ty.ay (by decide) r_k;injection he with e1 e2 e3;omega
 unfold maxLen at hvm;have RV:=zqd r_v;have RL:=zqd r_l;have RK:=zqd r_k;have HVL:=zqd hvl;have HLL:=zqd hll;have HKL:=zqd hkl;clear hv h r_v r_l r_k hvl hll hkl;obtain⟨w0,hw0⟩:∃ V,V=(w.alloc (.cells #[.int .i64 22,.int .i64 vn,.string {data:=#[]},.slice vA vN vC] 33)).alloc (.cells #[.int .i64 22,.string name,.slice lA lN lC,.slice kA kN kC] 39):=⟨_,rfl⟩;have bV:Blk w0 w.heap.size 33 #[.int .i64 22,.int .i64 vn,.string {data:=#[]},.slice vA vN vC]:=by rw[hw0];exact(Blk.new w _ _).alloc _
 have bT:=zn21 hw0;have hB0:Below w.heap.size w w0:=by rw[hw0];exact((zqf _ _).alloc (zql _) _).alloc (by simp) _
 have HW0:=zqd hw0;clear hw0;obtain⟨v0,v1,v2,v3⟩:=zc4 bV;obtain⟨t0,t1,t2,t3⟩:=zc4 bT;have hl:lN≤16:=by have:=HLL.out;omega
 clear adk;have HL0:=zqd (len0 HVL.out);have HQ:Hid (R=(inB vn 0 2147483647 && decide ((vN:Int)=0))):=agv HR.out (aif (by omega) _ _) ((ae1 (by omega) kids).trans HL0.out.symm);obtain⟨b1,hv⟩:∃ b,inB vn 0 2147483647=b:=⟨_,rfl⟩;rw[hv] at HQ;go_enter Tryz.func37,Tryz.ntmps37
 go_wp2_with fail
 rw[← HW0.out];clear HW0;refine(aip hv).mono ?_;rintro e w1 ⟨rfl,hq⟩;replace hq:=hq.symm;subst hq;cases b1
 case false=>
  have HF:Hid (R=false):=HQ.out;go_wp2_with fail
  go_ret
  exact⟨au HF.out.symm,hB0⟩
 have HF:Hid (R=decide ((vN:Int)=0)):=HQ.out;go_wp2_with fail
 go_ret
 exact⟨au HF.out.symm,hB0⟩
set_option maxHeartbeats 6400000 in
theorem bpu {n:Nat} (ih:afg 37 n):ahg 37 n 23 ⟨#[]⟩:=by
 intro vn vks name labels kids B cs ds w hB hT hok hwf hv h;obtain⟨R,hR⟩:∃ R,uq (n+1) ⟨23,vn,⟨#[]⟩,vks⟩ ⟨23,name,labels,kids⟩=R:=⟨_,rfl⟩;rw[hR];have HR:Hid (R=(adu 23 labels.length vn && xw (uq n) vks (og 23 vn vks.length kids))):=hR.symm;clear hR;obtain⟨hw1,hw2⟩:=ada hwf;have HW2:=zqd hw2;have HOK:=zqd (qg hok);have zn:Ty.shapes ⟨23,name,labels,kids⟩=true:=hok.2;have adk:=ab7 zn;have HSH:=zqd (shF zn);have IH:=zqd ih;have HT:=zqd hT;clear ih hwf hw2 hok hT zn;obtain⟨adx,rfl,r_v⟩:=Val.open_ hv;obtain⟨vA,vN,vC,rfl⟩:=r_v.form;obtain⟨iy,iw,rfl,r_l,r_k⟩:=Ty.open_ h;obtain⟨lA,lN,lC,rfl⟩:=r_l.form;obtain⟨kA,kN,kC,rfl⟩:=r_k.form;have hvl:vN=vks.length:=by obtain⟨A',n',c',he,hnl,_⟩:=bf Val.ay (by decide) r_v;injection he with e1 e2 e3;omega
 have hvm:vN≤maxLen:=by obtain⟨A',n',c',he,_,hm,_⟩:=bf Val.ay (by decide) r_v;injection he with e1 e2 e3;omega
 have hll:lN=labels.length:=by obtain⟨A',n',c',he,hnl,_⟩:=bf jo (by decide) r_l;injection he with e1 e2 e3;omega
 have hkl:kN=kids.length:=by obtain⟨A',n',c',he,hnl,_⟩:=bf Ty.ay (by decide) r_k;injection he with e1 e2 e3;omega
 unfold maxLen at hvm;have RV:=zqd r_v;have RL:=zqd r_l;have RK:=zqd r_k;have HVL:=zqd hvl;have HLL:=zqd hll;have HKL:=zqd hkl;clear hv h r_v r_l r_k hvl hll hkl;obtain⟨w0,hw0⟩:∃ V,V=(w.alloc (.cells #[.int .i64 23,.int .i64 vn,.string {data:=#[]},.slice vA vN vC] 33)).alloc (.cells #[.int .i64 23,.string name,.slice lA lN lC,.slice kA kN kC] 39):=⟨_,rfl⟩;have bV:Blk w0 w.heap.size 33 #[.int .i64 23,.int .i64 vn,.string {data:=#[]},.slice vA vN vC]:=by rw[hw0];exact(Blk.new w _ _).alloc _
 have bT:=zn21 hw0;have hB0:Below w.heap.size w w0:=by rw[hw0];exact((zqf _ _).alloc (zql _) _).alloc (by simp) _
 have HW0:=zqd hw0;clear hw0;obtain⟨v0,v1,v2,v3⟩:=zc4 bV;obtain⟨t0,t1,t2,t3⟩:=zc4 bT;have hl:lN≤16:=by have:=HLL.out;omega
 clear adk;have HL0:=zqd (len0 HVL.out);have HQ:Hid (R=(inB vn 0 2147483647 && decide ((vN:Int)=0))):=agv HR.out (aif (by omega) _ _) ((ae1 (by omega) kids).trans HL0.out.symm);obtain⟨b1,hv⟩:∃ b,inB vn 0 2147483647=b:=⟨_,rfl⟩;rw[hv] at HQ;go_enter Tryz.func37,Tryz.ntmps37
 go_wp2_with fail
 rw[← HW0.out];clear HW0;refine(aip hv).mono ?_;rintro e w1 ⟨rfl,hq⟩;replace hq:=hq.symm;subst hq;cases b1
 case false=>
  have HF:Hid (R=false):=HQ.out;go_wp2_with fail
  go_ret
  exact⟨au HF.out.symm,hB0⟩
 have HF:Hid (R=decide ((vN:Int)=0)):=HQ.out;go_wp2_with fail
 go_ret
 exact⟨au HF.out.symm,hB0⟩
set_option maxHeartbeats 6400000 in
theorem ax8 {n:Nat} (ih:afg 37 n):afg 37 (n+1):=by
 intro v t B cs ds w hB hT hok hwf hv h;obtain⟨vk,vn,vt,vks⟩:=v;obtain⟨kind,name,labels,kids⟩:=t;by_cases hgo:vk=kind∧(vt.size=0∨kind=11)
 case pos=>
  obtain⟨rfl,hgo⟩:=hgo;have hkk:=av1 hok.2;by_cases h11:vk=11
  ·subst h11;exact bpi ih vt vn vks name labels kids B cs ds w hB hT hok hwf hv h
  obtain rfl:=size_nil (hgo.resolve_right h11);have hcase:vk=1∨vk=2∨vk=3∨vk=4∨vk=5∨vk=6∨vk=7∨vk=8∨vk=9∨vk=10∨vk=12∨vk=13∨vk=14∨vk=15∨vk=16∨vk=17∨vk=18∨vk=19∨vk=20∨vk=21∨vk=22∨vk=23:=by omega
  rcases hcase with rfl|rfl|rfl|rfl|rfl|rfl|rfl|rfl|rfl|rfl|rfl|rfl|rfl|rfl|rfl|rfl|rfl|rfl|rfl|rfl|rfl|rfl
  ·exact bul ih vn vks name labels kids B cs ds w hB hT hok hwf hv h
  ·exact bum ih vn vks name labels kids B cs ds w hB hT hok hwf hv h
  ·exact bun ih vn vks name labels kids B cs ds w hB hT hok hwf hv h
  ·exact buo ih vn vks name labels kids B cs ds w hB hT hok hwf hv h
  ·exact bup ih vn vks name labels kids B cs ds w hB hT hok hwf hv h
  ·exact buq ih vn vks name labels kids B cs ds w hB hT hok hwf hv h
  ·exact bur ih vn vks name labels kids B cs ds w hB hT hok hwf hv h
  ·exact bus ih vn vks name labels kids B cs ds w hB hT hok hwf hv h
  ·exact buu ih vn vks name labels kids B cs ds w hB hT hok hwf hv h
  ·exact bph ih vn vks name labels kids B cs ds w hB hT hok hwf hv h
  ·exact bpj ih vn vks name labels kids B cs ds w hB hT hok hwf hv h
  ·exact bpk ih vn vks name labels kids B cs ds w hB hT hok hwf hv h
  ·exact bpl ih vn vks name labels kids B cs ds w hB hT hok hwf hv h
  ·exact bpm ih vn vks name labels kids B cs ds w hB hT hok hwf hv h
  ·exact bpn ih vn vks name labels kids B cs ds w hB hT hok hwf hv h
  ·exact bpo ih vn vks name labels kids B cs ds w hB hT hok hwf hv h
  ·exact bpp ih vn vks name labels kids B cs ds w hB hT hok hwf hv h
  ·exact bpq ih vn vks name labels kids B cs ds w hB hT hok hwf hv h
  ·exact bpr ih vn vks name labels kids B cs ds w hB hT hok hwf hv h
  ·exact bps ih vn vks name labels kids B cs ds w hB hT hok hwf hv h
  ·exact bpt ih vn vks name labels kids B cs ds w hB hT hok hwf hv h
  ·exact bpu ih vn vks name labels kids B cs ds w hB hT hok hwf hv h
 obtain⟨R,hR⟩:∃ R,uq (n+1) ⟨vk,vn,vt,vks⟩ ⟨kind,name,labels,kids⟩=R:=⟨_,rfl⟩;rw[hR]
 have HF:Hid (R=false):=by
  show _=_;rw[← hR,avz,ay9];by_cases e:vk=kind
  ·rw[decide_eq_false (show ¬ vt.size=0 from fun h=>hgo ⟨e,.inl h⟩),decide_eq_false (show ¬ kind=11 from fun h=>hgo ⟨e,.inr h⟩)];simp
  ·rw[decide_eq_false e];rfl
 clear hR hok hwf ih hT;obtain⟨adx,rfl,r_v⟩:=Val.open_ hv;obtain⟨vA,vN,vC,rfl⟩:=r_v.form;obtain⟨iy,iw,rfl,r_l,r_k⟩:=Ty.open_ h;obtain⟨lA,lN,lC,rfl⟩:=r_l.form;obtain⟨kA,kN,kC,rfl⟩:=r_k.form;have hvl:vN=vks.length:=by obtain⟨A',n',c',he,hnl,_⟩:=bf Val.ay (by decide) r_v;injection he with e1 e2 e3;omega
 have hvm:vN≤maxLen:=by obtain⟨A',n',c',he,_,hm,_⟩:=bf Val.ay (by decide) r_v;injection he with e1 e2 e3;omega
 have hll:lN=labels.length:=by obtain⟨A',n',c',he,hnl,_⟩:=bf jo (by decide) r_l;injection he with e1 e2 e3;omega
 have hkl:kN=kids.length:=by obtain⟨A',n',c',he,hnl,_⟩:=bf Ty.ay (by decide) r_k;injection he with e1 e2 e3;omega
 unfold maxLen at hvm;have RV:=zqd r_v;have RL:=zqd r_l;have RK:=zqd r_k;have HVL:=zqd hvl;have HLL:=zqd hll;have HKL:=zqd hkl;clear hv h r_v r_l r_k hvl hll hkl;obtain⟨w0,hw0⟩:∃ V,V=(w.alloc (.cells #[.int .i64 vk,.int .i64 vn,.string vt,.slice vA vN vC] 33)).alloc (.cells #[.int .i64 kind,.string name,.slice lA lN lC,.slice kA kN kC] 39):=⟨_,rfl⟩;have bV:Blk w0 w.heap.size 33 #[.int .i64 vk,.int .i64 vn,.string vt,.slice vA vN vC]:=by rw[hw0];exact(Blk.new w _ _).alloc _
 have bT:=zn21 hw0;have hB0:Below w.heap.size w w0:=by rw[hw0];exact((zqf _ _).alloc (zql _) _).alloc (by simp) _
 have HW0:=zqd hw0;clear hw0;obtain⟨v0,v1,v2,v3⟩:=zc4 bV;obtain⟨t0,t1,t2,t3⟩:=zc4 bT;by_cases hk:vk=kind
 case neg=>
  clear hgo;go_enter Tryz.func37,Tryz.ntmps37
  go_wp2_with fail
  rw[← HW0.out];go_ret
  exact⟨au HF.out.symm,hB0⟩
 have hz:¬ vt.size=0:=fun h=>hgo ⟨hk,.inl h⟩;have h11:¬ kind=11:=fun h=>hgo ⟨hk,.inr h⟩;have hem:vt.toList.isEmpty=false:=by rw[toList_nil,decide_eq_false hz]
 subst hk;clear hgo hz;go_enter Tryz.func37,Tryz.ntmps37
 go_wp2_with fail
 rw[← HW0.out];go_ret
 exact⟨au HF.out.symm,hB0⟩
theorem aqt:∀ n,afg 37 n
 | 0=>fun v t B cs ds w hB hT hok=>by
  have:=agi t;have:=hok.1;omega
 | n+1=>ax8 (aqt n)
end Go.Proofs.YtfpannkadjdnaaaGreatDoor
