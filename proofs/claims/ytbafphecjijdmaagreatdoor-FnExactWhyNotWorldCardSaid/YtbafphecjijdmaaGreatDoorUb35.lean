/-
  Why one type cannot stand for another: spec.l08Why (by program: gen_why.py).
-/
import Derived.Test.YtbafphecjijdmaaGreatDoorUb34
import Derived.Deep.RegionHeld3
namespace Go.Proofs.YtbafphecjijdmaaGreatDoor
open Go.RowKit
set_option linter.all false
set_option maxRecDepth 16000
set_option maxHeartbeats 12800000 in
theorem bed {rec:Ty→Ty→ByteArray→Why} {n M:Nat} (hM:M≤1000000) (hrec:agu 80 rec n M) {name dw at_:ByteArray} {labels eu:List ByteArray} {kids jk:List Ty} (hat:at_.size+32≤M) {B:Nat} {cs ds:List Value} {w:World} (hB:B≤w.heap.size) (hT:afg w) (hx:OkT (n+1) ⟨12,name,labels,kids⟩) (hy:OkT (n+1) ⟨12,dw,eu,jk⟩) (h:lq w B (Ty.pd ⟨12,name,labels,kids⟩) cs) (k:lq w B (Ty.pd ⟨12,dw,eu,jk⟩) ds):
  Calls Tryz.prog 80 #[.agg cs.toArray,.agg ds.toArray,.string at_] w fun e w'=>WQ (adv rec 12 name labels kids dw eu jk at_) w e w':=by
 have HHX:=zqd hx
 have HHY:=zqd hy
 obtain⟨iw,qw,rfl,bf,gu⟩:=Ty.open_ h
 obtain⟨jo,ig,ji,rfl⟩:=bf.form
 have pz:=zqd bf
 clear bf
 obtain⟨qg,gy,l9,rfl⟩:=gu.form
 have qo:=zqd gu
 clear gu
 obtain⟨acd,ad9,rfl,gq,jg⟩:=Ty.open_ k
 obtain⟨jy,jf,jr,rfl⟩:=gq.form
 have yj:=zqd gq
 clear gq
 obtain⟨oq,iq,jw,rfl⟩:=jg.form
 have aah:=zqd jg
 clear jg
 clear h k
 have af8:=zqd (aan hx)
 have af9:=zqd (aan hy)
 have SX:=zqd (shF hx.2)
 have SY:=zqd (shF hy.2)
 clear hx hy
 have ael:=zqd hrec
 clear hrec
 obtain⟨R,hR⟩:∃ R:Why,R=adv rec 12 name labels kids dw eu jk at_:=⟨_,rfl⟩
 rw[← hR]
 have HR:=zqd hR
 clear hR
 obtain⟨_,_,_,he,acf,aev,ad2⟩:=ni Ty.jd (by decide) qo.out
 injection he with e1 e2 e3
 subst e1 e2 e3
 unfold maxLen at aev
 have aa3:=zqd acf
 clear acf
 obtain⟨_,_,_,he,abp,aeb,ac9⟩:=ni Ty.jd (by decide) aah.out
 injection he with e1 e2 e3
 subst e1 e2 e3
 unfold maxLen at aeb
 have aay:=zqd abp
 clear abp
 have hkn:gy=1:=by have:=aip (by decide) SX.out.right;have:=aa3.out;omega
 have hkz:iq=1:=by have:=aip (by decide) SY.out.right;have:=aay.out;omega
 have hpos:0 < gy:=by omega
 have ak1:0 < iq:=by omega
 have atg:(0:Int) < (gy:Int):=by omega
 have aqu:(0:Int) < (iq:Int):=by omega
 clear hkn hkz
 obtain⟨w0,hw0,bA,bC,bR,hB0,hs0⟩:=afb w 60 #[.int .i64 12,.string name,.slice jo ig ji,.slice qg gy l9] #[.int .i64 12,.string dw,.slice jy jf jr,.slice oq iq jw]
 have HW0:=zqd hw0
 clear hw0
 go_enter Tryz.func80,Tryz.ntmps80
 go_wp2_with fail
 rw[← HW0.out]
 clear HW0
 have a0:w0.cell? ⟨w.heap.size,0,none⟩=some (.int .i64 12):=bA.cell 0
 have z0:w0.cell? ⟨w.heap.size+1,0,none⟩=some (.int .i64 12):=bC.cell 0
 refine(aee 12 w0 (by rfl)).mono ?_
 rintro e wn ⟨rfl,hwn⟩
 subst hwn
 have a3:w0.cell? ⟨w.heap.size,3,none⟩=some (.slice qg gy l9):=bA.cell 3
 have z3:w0.cell? ⟨w.heap.size+1,3,none⟩=some (.slice oq iq jw):=bC.cell 3
 obtain⟨g,off,rfl,aey,acy⟩:=ad2 (by omega)
 obtain⟨x,adt,ac4⟩:=um aa3.out hpos
 obtain⟨tu,ql,aat,ab8⟩:=x
 obtain⟨ug,zo,adb,ac8,abx,adf,qy,y8⟩:=ahc (k:=0) (a0:=off) (a1:=off+1) (a2:=off+2) (a3:=off+3) (hB0.mono (zql _)) aey hB acy adt ⟨rfl,rfl,rfl,rfl⟩
 replace qy:=zqd qy
 replace y8:=zqd y8
 have ag4:=zqd adt
 have ahz:=zqd ac4
 clear adt ac4
 obtain⟨g2,off2,rfl,aec,ab6⟩:=ac9 (by omega)
 obtain⟨y,adu,ac5⟩:=um aay.out ak1
 obtain⟨qx,qh,aau,ab9⟩:=y
 obtain⟨xq,aal,adl,ade,ab2,adn,qp,y5⟩:=ahc (k:=0) (a0:=off2) (a1:=off2+1) (a2:=off2+2) (a3:=off2+3) (hB0.mono (zql _)) aec hB ab6 adu ⟨rfl,rfl,rfl,rfl⟩
 replace qp:=zqd qp
 replace y5:=zqd y5
 have ag5:=zqd adu
 have ah0:=zqd ac5
 clear adu ac5
 have als:(9223372036854775807 < at_.size+(⟨#[91,93]⟩:ByteArray).size)=False:=eq_false (by have z_:(⟨#[91,93]⟩:ByteArray).size=2:=rfl;omega)
 have alu:(9223372036854775807 < at_.size+2)=False:=eq_false (by omega)
 obtain⟨p1,ad3⟩:∃ p,at_ ++(⟨#[91,93]⟩:ByteArray)=p:=⟨_,rfl⟩
 have alv:p1.size≤at_.size+2:=by rw[← ad3,ByteArray.size_append];have z_:(⟨#[91,93]⟩:ByteArray).size=2:=rfl;omega
 obtain⟨R2,hR2⟩:∃ r,rec ⟨tu,ql,aat,ab8⟩ ⟨qx,qh,aau,ab9⟩ p1=r:=⟨_,rfl⟩
 have HC:=fun(V:World) (hV:Keep (w.heap.size+1+1) (w.heap.size+1+1+1) w0 V)=>ael.out ⟨tu,ql,aat,ab8⟩ ⟨qx,qh,aau,ab9⟩ p1 B [.int .i64 tu,.string ql,ug,zo] [.int .i64 qx,.string qh,xq,aal] V (Nat.le_trans (Nat.le_trans hB hB0.size) hV.size) (hT.below (hB0.trans (kb hV (by omega)))) (af8.out _ ahz.out) (af9.out _ ah0.out) (by omega) ((Ty.close_ qy.out y8.out).below (kb hV (by omega))) ((Ty.close_ qp.out y5.out).below (kb hV (by omega)))
 unfold WQ at HC
 rw[hR2] at HC
 obtain⟨RK,RS,RN,HRK,HRS,HRN⟩:=agp R2
 rw[HRK.out,HRS.out,HRN.out] at HC
 replace HC:=zqd HC
 have HR2:=zqd hR2
 clear hR2
 have HF:Hid (R=R2):=by show _=_;rw[HR.out,bb4,am9 ag4.out ag5.out,← HR2.out,← ad3]
 have HS:Hid (∀ V,Keep (w.heap.size+1+1) (w.heap.size+1+1+1) w0 V→V.cell? ⟨w.heap.size,3,none⟩=some (.slice (some ⟨g,off,none⟩) gy l9)∧V.cell? ⟨w.heap.size+1,3,none⟩=some (.slice (some ⟨g2,off2,none⟩) iq jw)∧V.cell? ⟨g,off,none⟩=some (.int .i64 tu)∧V.cell? ⟨g,off+1,none⟩=some (.string ql)∧V.cell? ⟨g,off+2,none⟩=some (ug)∧V.cell? ⟨g,off+3,none⟩=some (zo)∧V.cell? ⟨g2,off2,none⟩=some (.int .i64 qx)∧V.cell? ⟨g2,off2+1,none⟩=some (.string qh)∧V.cell? ⟨g2,off2+2,none⟩=some (xq)∧V.cell? ⟨g2,off2+3,none⟩=some (aal)):=zqd fun V hV=>⟨(hV.cell (p:=⟨w.heap.size,3,none⟩) (by simp only;omega) (by simp only;omega)).trans a3,(hV.cell (p:=⟨w.heap.size+1,3,none⟩) (by simp only;omega) (by simp only;omega)).trans z3,(hV.cell (p:=⟨g,off,none⟩) (by simp only;omega) (by simp only;omega)).trans adb,(hV.cell (p:=⟨g,off+1,none⟩) (by simp only;omega) (by simp only;omega)).trans ac8,(hV.cell (p:=⟨g,off+2,none⟩) (by simp only;omega) (by simp only;omega)).trans abx,(hV.cell (p:=⟨g,off+3,none⟩) (by simp only;omega) (by simp only;omega)).trans adf,(hV.cell (p:=⟨g2,off2,none⟩) (by simp only;omega) (by simp only;omega)).trans adl,(hV.cell (p:=⟨g2,off2+1,none⟩) (by simp only;omega) (by simp only;omega)).trans ade,(hV.cell (p:=⟨g2,off2+2,none⟩) (by simp only;omega) (by simp only;omega)).trans ab2,(hV.cell (p:=⟨g2,off2+3,none⟩) (by simp only;omega) (by simp only;omega)).trans adn⟩
 clear bA bC
 go_wp2_with fail
 go_region_held3 (fun w'=>w'.cell? ⟨w.heap.size,3,none⟩=some (.slice (some ⟨g,off,none⟩) gy l9)∧w'.cell? ⟨w.heap.size+1,3,none⟩=some (.slice (some ⟨g2,off2,none⟩) iq jw)∧w'.cell? ⟨g,off,none⟩=some (.int .i64 tu)∧w'.cell? ⟨g,off+1,none⟩=some (.string ql)∧w'.cell? ⟨g,off+2,none⟩=some (ug)∧w'.cell? ⟨g,off+3,none⟩=some (zo)∧w'.cell? ⟨g2,off2,none⟩=some (.int .i64 qx)∧w'.cell? ⟨g2,off2+1,none⟩=some (.string qh)∧w'.cell? ⟨g2,off2+2,none⟩=some (xq)∧w'.cell? ⟨g2,off2+3,none⟩=some (aal))
  (first|exact HS.out _ (by repeat(first|exact hq1|exact hq2|exact Keep.refl _ _ _|refine Keep.drew ?_|refine Keep.alloc ?_ _|refine Keep.setAt ?_ _ _|refine Keep.newAt ?_ (zql _) _ _|refine Keep.newAt ?_ aak.size _ _|refine Keep.newAt ?_ hbW.size _ _)))
  (first|(go_at_call 80;refine(HC.out _ (by repeat(first|exact hq1|exact hq2|exact Keep.refl _ _ _|refine Keep.drew ?_|refine Keep.alloc ?_ _|refine Keep.setAt ?_ _ _|refine Keep.newAt ?_ (zql _) _ _|refine Keep.newAt ?_ aak.size _ _|refine Keep.newAt ?_ hbW.size _ _))).mono ?_;rintro e wq ⟨rfl,hbq⟩;have hbW:=(Below.refl w0.heap.size w0).drew.trans hbq;have hq1:Keep (w.heap.size+1+1) (w.heap.size+1+1+1) w0 wq:=Keep.of_below hbW;have bRq:=bR.step hbW;have r0:wq.cell? ⟨w.heap.size+1+1,0,none⟩=some (.int .i64 0):=bRq.cell 0;have r1:wq.cell? ⟨w.heap.size+1+1,1,none⟩=some (.string {data:=#[]}):=bRq.cell 1;have f0:=bRq.frozen 0;have f1:=bRq.frozen 1))
 all_goals
  have hBq:=hB0.trans (hbW.mono (by omega))
  have hsq:=hbW.size
  try go_wp2_with fail
  obtain⟨n0,n1,nB⟩:=aaw bRq hBq (by omega) (RK) (RS)
  exact bodyPost_ret (v:=.tuple #[.agg #[.int .i64 RK,.string RS],.bool RN]) (by simp[results,Tryz.results80,go_sem,n0,n1]) rfl ⟨qc (by rw[HF.out,HRK.out]) (by rw[HF.out,HRS.out]) (by rw[HF.out,HRN.out]),nB⟩
set_option maxHeartbeats 12800000 in
theorem bee {rec:Ty→Ty→ByteArray→Why} {n M:Nat} (hM:M≤1000000) (hrec:agu 80 rec n M) {name dw at_:ByteArray} {labels eu:List ByteArray} {kids jk:List Ty} (hat:at_.size+32≤M) {B:Nat} {cs ds:List Value} {w:World} (hB:B≤w.heap.size) (hT:afg w) (hx:OkT (n+1) ⟨13,name,labels,kids⟩) (hy:OkT (n+1) ⟨13,dw,eu,jk⟩) (h:lq w B (Ty.pd ⟨13,name,labels,kids⟩) cs) (k:lq w B (Ty.pd ⟨13,dw,eu,jk⟩) ds):
  Calls Tryz.prog 80 #[.agg cs.toArray,.agg ds.toArray,.string at_] w fun e w'=>WQ (adv rec 13 name labels kids dw eu jk at_) w e w':=by
 have HHX:=zqd hx
 have HHY:=zqd hy
 obtain⟨iw,qw,rfl,bf,gu⟩:=Ty.open_ h
 obtain⟨jo,ig,ji,rfl⟩:=bf.form
 have pz:=zqd bf
 clear bf
 obtain⟨qg,gy,l9,rfl⟩:=gu.form
 have qo:=zqd gu
 clear gu
 obtain⟨acd,ad9,rfl,gq,jg⟩:=Ty.open_ k
 obtain⟨jy,jf,jr,rfl⟩:=gq.form
 have yj:=zqd gq
 clear gq
 obtain⟨oq,iq,jw,rfl⟩:=jg.form
 have aah:=zqd jg
 clear jg
 clear h k
 have af8:=zqd (aan hx)
 have af9:=zqd (aan hy)
 have SX:=zqd (shF hx.2)
 have SY:=zqd (shF hy.2)
 clear hx hy
 have ael:=zqd hrec
 clear hrec
 obtain⟨R,hR⟩:∃ R:Why,R=adv rec 13 name labels kids dw eu jk at_:=⟨_,rfl⟩
 rw[← hR]
 have HR:=zqd hR
 clear hR
 obtain⟨_,_,_,he,acf,aev,ad2⟩:=ni Ty.jd (by decide) qo.out
 injection he with e1 e2 e3
 subst e1 e2 e3
 unfold maxLen at aev
 have aa3:=zqd acf
 clear acf
 obtain⟨_,_,_,he,abp,aeb,ac9⟩:=ni Ty.jd (by decide) aah.out
 injection he with e1 e2 e3
 subst e1 e2 e3
 unfold maxLen at aeb
 have aay:=zqd abp
 clear abp
 have hkn:gy=1:=by have:=aip (by decide) SX.out.right;have:=aa3.out;omega
 have hkz:iq=1:=by have:=aip (by decide) SY.out.right;have:=aay.out;omega
 have hpos:0 < gy:=by omega
 have ak1:0 < iq:=by omega
 have atg:(0:Int) < (gy:Int):=by omega
 have aqu:(0:Int) < (iq:Int):=by omega
 clear hkn hkz
 obtain⟨w0,hw0,bA,bC,bR,hB0,hs0⟩:=afb w 60 #[.int .i64 13,.string name,.slice jo ig ji,.slice qg gy l9] #[.int .i64 13,.string dw,.slice jy jf jr,.slice oq iq jw]
 have HW0:=zqd hw0
 clear hw0
 go_enter Tryz.func80,Tryz.ntmps80
 go_wp2_with fail
 rw[← HW0.out]
 clear HW0
 have a0:w0.cell? ⟨w.heap.size,0,none⟩=some (.int .i64 13):=bA.cell 0
 have z0:w0.cell? ⟨w.heap.size+1,0,none⟩=some (.int .i64 13):=bC.cell 0
 refine(aee 13 w0 (by rfl)).mono ?_
 rintro e wn ⟨rfl,hwn⟩
 subst hwn
 have a3:w0.cell? ⟨w.heap.size,3,none⟩=some (.slice qg gy l9):=bA.cell 3
 have z3:w0.cell? ⟨w.heap.size+1,3,none⟩=some (.slice oq iq jw):=bC.cell 3
 obtain⟨g,off,rfl,aey,acy⟩:=ad2 (by omega)
 obtain⟨x,adt,ac4⟩:=um aa3.out hpos
 obtain⟨tu,ql,aat,ab8⟩:=x
 obtain⟨ug,zo,adb,ac8,abx,adf,qy,y8⟩:=ahc (k:=0) (a0:=off) (a1:=off+1) (a2:=off+2) (a3:=off+3) (hB0.mono (zql _)) aey hB acy adt ⟨rfl,rfl,rfl,rfl⟩
 replace qy:=zqd qy
 replace y8:=zqd y8
 have ag4:=zqd adt
 have ahz:=zqd ac4
 clear adt ac4
 obtain⟨g2,off2,rfl,aec,ab6⟩:=ac9 (by omega)
 obtain⟨y,adu,ac5⟩:=um aay.out ak1
 obtain⟨qx,qh,aau,ab9⟩:=y
 obtain⟨xq,aal,adl,ade,ab2,adn,qp,y5⟩:=ahc (k:=0) (a0:=off2) (a1:=off2+1) (a2:=off2+2) (a3:=off2+3) (hB0.mono (zql _)) aec hB ab6 adu ⟨rfl,rfl,rfl,rfl⟩
 replace qp:=zqd qp
 replace y5:=zqd y5
 have ag5:=zqd adu
 have ah0:=zqd ac5
 clear adu ac5
 have als:(9223372036854775807 < at_.size+(⟨#[63]⟩:ByteArray).size)=False:=eq_false (by have z_:(⟨#[63]⟩:ByteArray).size=1:=rfl;omega)
 have alu:(9223372036854775807 < at_.size+1)=False:=eq_false (by omega)
 obtain⟨p1,ad3⟩:∃ p,at_ ++(⟨#[63]⟩:ByteArray)=p:=⟨_,rfl⟩
 have alv:p1.size≤at_.size+1:=by rw[← ad3,ByteArray.size_append];have z_:(⟨#[63]⟩:ByteArray).size=1:=rfl;omega
 obtain⟨R2,hR2⟩:∃ r,rec ⟨tu,ql,aat,ab8⟩ ⟨qx,qh,aau,ab9⟩ p1=r:=⟨_,rfl⟩
 have HC:=fun(V:World) (hV:Keep (w.heap.size+1+1) (w.heap.size+1+1+1) w0 V)=>ael.out ⟨tu,ql,aat,ab8⟩ ⟨qx,qh,aau,ab9⟩ p1 B [.int .i64 tu,.string ql,ug,zo] [.int .i64 qx,.string qh,xq,aal] V (Nat.le_trans (Nat.le_trans hB hB0.size) hV.size) (hT.below (hB0.trans (kb hV (by omega)))) (af8.out _ ahz.out) (af9.out _ ah0.out) (by omega) ((Ty.close_ qy.out y8.out).below (kb hV (by omega))) ((Ty.close_ qp.out y5.out).below (kb hV (by omega)))
 unfold WQ at HC
 rw[hR2] at HC
 obtain⟨RK,RS,RN,HRK,HRS,HRN⟩:=agp R2
 rw[HRK.out,HRS.out,HRN.out] at HC
 replace HC:=zqd HC
 have HR2:=zqd hR2
 clear hR2
 have HF:Hid (R=R2):=by show _=_;rw[HR.out,bb5,am9 ag4.out ag5.out,← HR2.out,← ad3]
 have HS:Hid (∀ V,Keep (w.heap.size+1+1) (w.heap.size+1+1+1) w0 V→V.cell? ⟨w.heap.size,3,none⟩=some (.slice (some ⟨g,off,none⟩) gy l9)∧V.cell? ⟨w.heap.size+1,3,none⟩=some (.slice (some ⟨g2,off2,none⟩) iq jw)∧V.cell? ⟨g,off,none⟩=some (.int .i64 tu)∧V.cell? ⟨g,off+1,none⟩=some (.string ql)∧V.cell? ⟨g,off+2,none⟩=some (ug)∧V.cell? ⟨g,off+3,none⟩=some (zo)∧V.cell? ⟨g2,off2,none⟩=some (.int .i64 qx)∧V.cell? ⟨g2,off2+1,none⟩=some (.string qh)∧V.cell? ⟨g2,off2+2,none⟩=some (xq)∧V.cell? ⟨g2,off2+3,none⟩=some (aal)):=zqd fun V hV=>⟨(hV.cell (p:=⟨w.heap.size,3,none⟩) (by simp only;omega) (by simp only;omega)).trans a3,(hV.cell (p:=⟨w.heap.size+1,3,none⟩) (by simp only;omega) (by simp only;omega)).trans z3,(hV.cell (p:=⟨g,off,none⟩) (by simp only;omega) (by simp only;omega)).trans adb,(hV.cell (p:=⟨g,off+1,none⟩) (by simp only;omega) (by simp only;omega)).trans ac8,(hV.cell (p:=⟨g,off+2,none⟩) (by simp only;omega) (by simp only;omega)).trans abx,(hV.cell (p:=⟨g,off+3,none⟩) (by simp only;omega) (by simp only;omega)).trans adf,(hV.cell (p:=⟨g2,off2,none⟩) (by simp only;omega) (by simp only;omega)).trans adl,(hV.cell (p:=⟨g2,off2+1,none⟩) (by simp only;omega) (by simp only;omega)).trans ade,(hV.cell (p:=⟨g2,off2+2,none⟩) (by simp only;omega) (by simp only;omega)).trans ab2,(hV.cell (p:=⟨g2,off2+3,none⟩) (by simp only;omega) (by simp only;omega)).trans adn⟩
 clear bA bC
 go_wp2_with fail
 go_region_held3 (fun w'=>w'.cell? ⟨w.heap.size,3,none⟩=some (.slice (some ⟨g,off,none⟩) gy l9)∧w'.cell? ⟨w.heap.size+1,3,none⟩=some (.slice (some ⟨g2,off2,none⟩) iq jw)∧w'.cell? ⟨g,off,none⟩=some (.int .i64 tu)∧w'.cell? ⟨g,off+1,none⟩=some (.string ql)∧w'.cell? ⟨g,off+2,none⟩=some (ug)∧w'.cell? ⟨g,off+3,none⟩=some (zo)∧w'.cell? ⟨g2,off2,none⟩=some (.int .i64 qx)∧w'.cell? ⟨g2,off2+1,none⟩=some (.string qh)∧w'.cell? ⟨g2,off2+2,none⟩=some (xq)∧w'.cell? ⟨g2,off2+3,none⟩=some (aal))
  (first|exact HS.out _ (by repeat(first|exact hq1|exact hq2|exact Keep.refl _ _ _|refine Keep.drew ?_|refine Keep.alloc ?_ _|refine Keep.setAt ?_ _ _|refine Keep.newAt ?_ (zql _) _ _|refine Keep.newAt ?_ aak.size _ _|refine Keep.newAt ?_ hbW.size _ _)))
  (first|(go_at_call 80;refine(HC.out _ (by repeat(first|exact hq1|exact hq2|exact Keep.refl _ _ _|refine Keep.drew ?_|refine Keep.alloc ?_ _|refine Keep.setAt ?_ _ _|refine Keep.newAt ?_ (zql _) _ _|refine Keep.newAt ?_ aak.size _ _|refine Keep.newAt ?_ hbW.size _ _))).mono ?_;rintro e wq ⟨rfl,hbq⟩;have hbW:=(Below.refl w0.heap.size w0).drew.trans hbq;have hq1:Keep (w.heap.size+1+1) (w.heap.size+1+1+1) w0 wq:=Keep.of_below hbW;have bRq:=bR.step hbW;have r0:wq.cell? ⟨w.heap.size+1+1,0,none⟩=some (.int .i64 0):=bRq.cell 0;have r1:wq.cell? ⟨w.heap.size+1+1,1,none⟩=some (.string {data:=#[]}):=bRq.cell 1;have f0:=bRq.frozen 0;have f1:=bRq.frozen 1))
 all_goals
  have hBq:=hB0.trans (hbW.mono (by omega))
  have hsq:=hbW.size
  try go_wp2_with fail
  obtain⟨n0,n1,nB⟩:=aaw bRq hBq (by omega) (RK) (RS)
  exact bodyPost_ret (v:=.tuple #[.agg #[.int .i64 RK,.string RS],.bool RN]) (by simp[results,Tryz.results80,go_sem,n0,n1]) rfl ⟨qc (by rw[HF.out,HRK.out]) (by rw[HF.out,HRS.out]) (by rw[HF.out,HRN.out]),nB⟩
set_option maxHeartbeats 12800000 in
theorem bef {rec:Ty→Ty→ByteArray→Why} {n M:Nat} (hM:M≤1000000) (hrec:agu 80 rec n M) {name dw at_:ByteArray} {labels eu:List ByteArray} {kids jk:List Ty} (hat:at_.size+32≤M) {B:Nat} {cs ds:List Value} {w:World} (hB:B≤w.heap.size) (hT:afg w) (hx:OkT (n+1) ⟨14,name,labels,kids⟩) (hy:OkT (n+1) ⟨14,dw,eu,jk⟩) (h:lq w B (Ty.pd ⟨14,name,labels,kids⟩) cs) (k:lq w B (Ty.pd ⟨14,dw,eu,jk⟩) ds):
  Calls Tryz.prog 80 #[.agg cs.toArray,.agg ds.toArray,.string at_] w fun e w'=>WQ (adv rec 14 name labels kids dw eu jk at_) w e w':=by
 have HHX:=zqd hx
 have HHY:=zqd hy
 obtain⟨iw,qw,rfl,bf,gu⟩:=Ty.open_ h
 obtain⟨jo,ig,ji,rfl⟩:=bf.form
 have pz:=zqd bf
 clear bf
 obtain⟨qg,gy,l9,rfl⟩:=gu.form
 have qo:=zqd gu
 clear gu
 obtain⟨acd,ad9,rfl,gq,jg⟩:=Ty.open_ k
 obtain⟨jy,jf,jr,rfl⟩:=gq.form
 have yj:=zqd gq
 clear gq
 obtain⟨oq,iq,jw,rfl⟩:=jg.form
 have aah:=zqd jg
 clear jg
 clear h k
 have af8:=zqd (aan hx)
 have af9:=zqd (aan hy)
 have SX:=zqd (shF hx.2)
 have SY:=zqd (shF hy.2)
 clear hx hy
 have ael:=zqd hrec
 clear hrec
 obtain⟨R,hR⟩:∃ R:Why,R=adv rec 14 name labels kids dw eu jk at_:=⟨_,rfl⟩
 rw[← hR]
 have HR:=zqd hR
 clear hR
 obtain⟨_,_,_,he,acf,aev,ad2⟩:=ni Ty.jd (by decide) qo.out
 injection he with e1 e2 e3
 subst e1 e2 e3
 unfold maxLen at aev
 have aa3:=zqd acf
 clear acf
 obtain⟨_,_,_,he,abp,aeb,ac9⟩:=ni Ty.jd (by decide) aah.out
 injection he with e1 e2 e3
 subst e1 e2 e3
 unfold maxLen at aeb
 have aay:=zqd abp
 clear abp
 have hkn:gy=2:=by have:=as4 SX.out.right;have:=aa3.out;omega
 have hkz:iq=2:=by have:=as4 SY.out.right;have:=aay.out;omega
 have hpos:0 < gy:=by omega
 have ak1:0 < iq:=by omega
 have atg:(0:Int) < (gy:Int):=by omega
 have aqu:(0:Int) < (iq:Int):=by omega
 have beg:1 < gy:=by omega
 have a8u:1 < iq:=by omega
 have brv:(1:Int) < (gy:Int):=by omega
 have boa:(1:Int) < (iq:Int):=by omega
 clear hkn hkz
 obtain⟨w0,hw0,bA,bC,bR,hB0,hs0⟩:=afb w 60 #[.int .i64 14,.string name,.slice jo ig ji,.slice qg gy l9] #[.int .i64 14,.string dw,.slice jy jf jr,.slice oq iq jw]
 have HW0:=zqd hw0
 clear hw0
 go_enter Tryz.func80,Tryz.ntmps80
 go_wp2_with fail
 rw[← HW0.out]
 clear HW0
 have a0:w0.cell? ⟨w.heap.size,0,none⟩=some (.int .i64 14):=bA.cell 0
 have z0:w0.cell? ⟨w.heap.size+1,0,none⟩=some (.int .i64 14):=bC.cell 0
 refine(aee 14 w0 (by rfl)).mono ?_
 rintro e wn ⟨rfl,hwn⟩
 subst hwn
 have a3:w0.cell? ⟨w.heap.size,3,none⟩=some (.slice qg gy l9):=bA.cell 3
 have z3:w0.cell? ⟨w.heap.size+1,3,none⟩=some (.slice oq iq jw):=bC.cell 3
 obtain⟨g,off,rfl,aey,acy⟩:=ad2 (by omega)
 obtain⟨x,adt,ac4⟩:=um aa3.out hpos
 obtain⟨tu,ql,aat,ab8⟩:=x
 obtain⟨ug,zo,adb,ac8,abx,adf,qy,y8⟩:=ahc (k:=0) (a0:=off) (a1:=off+1) (a2:=off+2) (a3:=off+3) (hB0.mono (zql _)) aey hB acy adt ⟨rfl,rfl,rfl,rfl⟩
 replace qy:=zqd qy
 replace y8:=zqd y8
 have ag4:=zqd adt
 have ahz:=zqd ac4
 clear adt ac4
 obtain⟨g2,off2,rfl,aec,ab6⟩:=ac9 (by omega)
 obtain⟨y,adu,ac5⟩:=um aay.out ak1
 obtain⟨qx,qh,aau,ab9⟩:=y
 obtain⟨xq,aal,adl,ade,ab2,adn,qp,y5⟩:=ahc (k:=0) (a0:=off2) (a1:=off2+1) (a2:=off2+2) (a3:=off2+3) (hB0.mono (zql _)) aec hB ab6 adu ⟨rfl,rfl,rfl,rfl⟩
 replace qp:=zqd qp
 replace y5:=zqd y5
 have ag5:=zqd adu
 have ah0:=zqd ac5
 clear adu ac5
 have als:(9223372036854775807 < at_.size+(⟨#[46,111,107]⟩:ByteArray).size)=False:=eq_false (by have z_:(⟨#[46,111,107]⟩:ByteArray).size=3:=rfl;omega)
 have alu:(9223372036854775807 < at_.size+3)=False:=eq_false (by omega)
 obtain⟨p1,ad3⟩:∃ p,at_ ++(⟨#[46,111,107]⟩:ByteArray)=p:=⟨_,rfl⟩
 have alv:p1.size≤at_.size+3:=by rw[← ad3,ByteArray.size_append];have z_:(⟨#[46,111,107]⟩:ByteArray).size=3:=rfl;omega
 have ari:(9223372036854775807 < at_.size+(⟨#[46,101,114,114]⟩:ByteArray).size)=False:=eq_false (by have z_:(⟨#[46,101,114,114]⟩:ByteArray).size=4:=rfl;omega)
 have bwh:(9223372036854775807 < at_.size+4)=False:=eq_false (by omega)
 obtain⟨p2,agz⟩:∃ p,at_ ++(⟨#[46,101,114,114]⟩:ByteArray)=p:=⟨_,rfl⟩
 have aps:p2.size≤at_.size+4:=by rw[← agz,ByteArray.size_append];have z_:(⟨#[46,101,114,114]⟩:ByteArray).size=4:=rfl;omega
 obtain⟨R2,hR2⟩:∃ r,rec ⟨tu,ql,aat,ab8⟩ ⟨qx,qh,aau,ab9⟩ p1=r:=⟨_,rfl⟩
 have HC:=fun(V:World) (hV:Keep (w.heap.size+1+1) (w.heap.size+1+1+1) w0 V)=>ael.out ⟨tu,ql,aat,ab8⟩ ⟨qx,qh,aau,ab9⟩ p1 B [.int .i64 tu,.string ql,ug,zo] [.int .i64 qx,.string qh,xq,aal] V (Nat.le_trans (Nat.le_trans hB hB0.size) hV.size) (hT.below (hB0.trans (kb hV (by omega)))) (af8.out _ ahz.out) (af9.out _ ah0.out) (by omega) ((Ty.close_ qy.out y8.out).below (kb hV (by omega))) ((Ty.close_ qp.out y5.out).below (kb hV (by omega)))
 unfold WQ at HC
 rw[hR2] at HC
 obtain⟨RK,RS,RN,HRK,HRS,HRN⟩:=agp R2
 rw[HRK.out,HRS.out,HRN.out] at HC
 replace HC:=zqd HC
 have HR2:=zqd hR2
 clear hR2
 have HK1:Hid (ajv rec p1 kids jk 0=R2):=by show _=_;rw[am9 ag4.out ag5.out,← HR2.out]
 have HS:Hid (∀ V,Keep (w.heap.size+1+1) (w.heap.size+1+1+1) w0 V→V.cell? ⟨w.heap.size,3,none⟩=some (.slice (some ⟨g,off,none⟩) gy l9)∧V.cell? ⟨w.heap.size+1,3,none⟩=some (.slice (some ⟨g2,off2,none⟩) iq jw)∧V.cell? ⟨g,off,none⟩=some (.int .i64 tu)∧V.cell? ⟨g,off+1,none⟩=some (.string ql)∧V.cell? ⟨g,off+2,none⟩=some (ug)∧V.cell? ⟨g,off+3,none⟩=some (zo)∧V.cell? ⟨g2,off2,none⟩=some (.int .i64 qx)∧V.cell? ⟨g2,off2+1,none⟩=some (.string qh)∧V.cell? ⟨g2,off2+2,none⟩=some (xq)∧V.cell? ⟨g2,off2+3,none⟩=some (aal)):=zqd fun V hV=>⟨(hV.cell (p:=⟨w.heap.size,3,none⟩) (by simp only;omega) (by simp only;omega)).trans a3,(hV.cell (p:=⟨w.heap.size+1,3,none⟩) (by simp only;omega) (by simp only;omega)).trans z3,(hV.cell (p:=⟨g,off,none⟩) (by simp only;omega) (by simp only;omega)).trans adb,(hV.cell (p:=⟨g,off+1,none⟩) (by simp only;omega) (by simp only;omega)).trans ac8,(hV.cell (p:=⟨g,off+2,none⟩) (by simp only;omega) (by simp only;omega)).trans abx,(hV.cell (p:=⟨g,off+3,none⟩) (by simp only;omega) (by simp only;omega)).trans adf,(hV.cell (p:=⟨g2,off2,none⟩) (by simp only;omega) (by simp only;omega)).trans adl,(hV.cell (p:=⟨g2,off2+1,none⟩) (by simp only;omega) (by simp only;omega)).trans ade,(hV.cell (p:=⟨g2,off2+2,none⟩) (by simp only;omega) (by simp only;omega)).trans ab2,(hV.cell (p:=⟨g2,off2+3,none⟩) (by simp only;omega) (by simp only;omega)).trans adn⟩
 go_wp2_with fail
 go_region_held3 (fun w'=>w'.cell? ⟨w.heap.size,3,none⟩=some (.slice (some ⟨g,off,none⟩) gy l9)∧w'.cell? ⟨w.heap.size+1,3,none⟩=some (.slice (some ⟨g2,off2,none⟩) iq jw)∧w'.cell? ⟨g,off,none⟩=some (.int .i64 tu)∧w'.cell? ⟨g,off+1,none⟩=some (.string ql)∧w'.cell? ⟨g,off+2,none⟩=some (ug)∧w'.cell? ⟨g,off+3,none⟩=some (zo)∧w'.cell? ⟨g2,off2,none⟩=some (.int .i64 qx)∧w'.cell? ⟨g2,off2+1,none⟩=some (.string qh)∧w'.cell? ⟨g2,off2+2,none⟩=some (xq)∧w'.cell? ⟨g2,off2+3,none⟩=some (aal))
  (first|exact HS.out _ (by repeat(first|exact hq1|exact hq2|exact Keep.refl _ _ _|refine Keep.drew ?_|refine Keep.alloc ?_ _|refine Keep.setAt ?_ _ _|refine Keep.newAt ?_ (zql _) _ _|refine Keep.newAt ?_ aak.size _ _|refine Keep.newAt ?_ hbW.size _ _)))
  (first|(go_at_call 80;refine(HC.out _ (by repeat(first|exact hq1|exact hq2|exact Keep.refl _ _ _|refine Keep.drew ?_|refine Keep.alloc ?_ _|refine Keep.setAt ?_ _ _|refine Keep.newAt ?_ (zql _) _ _|refine Keep.newAt ?_ aak.size _ _|refine Keep.newAt ?_ hbW.size _ _))).mono ?_;rintro e wq ⟨rfl,hbq⟩;have hbW:Below w0.heap.size w0 wq:=(by first|exact(zqf _ _).drew.trans hbq|exact((zqf _ _).drew.alloc (zql _) _).trans (hbq.mono (by simp)));have hq2:Keep (w.heap.size+1+1) (w.heap.size+1+1+1) w0 wq:=Keep.of_below hbW;(first|(have bP:Blk wq w0.heap.size 34 #[.int .i64 0,.string {data:=#[]}]:=(Blk.new w0.drew _ _).step hbq;have p0:wq.cell? ⟨w0.heap.size,0,none⟩=some (.int .i64 0):=bP.cell 0;have p1:wq.cell? ⟨w0.heap.size,1,none⟩=some (.string {data:=#[]}):=bP.cell 1;have g0:wq.frozen? ⟨w0.heap.size,0,none⟩=false:=bP.frozen 0;have g1:wq.frozen? ⟨w0.heap.size,1,none⟩=false:=bP.frozen 1)|skip)))
 all_goals
  first
   | (obtain⟨w6,hw6⟩:=zqe wq 34 #[.int .i64 RK,.string RS];rw[← hw6];have bX:Blk w6 wq.heap.size 34 #[.int .i64 RK,.string RS]:=(by rw[hw6];exact Blk.new wq _ _);have hb6:Below w0.heap.size w0 w6:=(by rw[hw6];exact hbW.alloc hbW.size _);obtain⟨rx,hrx⟩:∃ r,r=wq.heap.size:=⟨_,rfl⟩;have aiq:w0.heap.size≤rx:=(by rw[hrx];exact hbW.size);rw[← hrx] at bX ⊢;clear hw6 hrx)
   | (obtain⟨w6,hw6⟩:∃ V,V=(wq.setCell ⟨w0.heap.size,0,none⟩ (.int .i64 RK)).setCell ⟨w0.heap.size,1,none⟩ (.string RS):=⟨_,rfl⟩;rw[← hw6];have bX:Blk w6 (w0.heap.size) 34 #[.int .i64 RK,.string RS]:=(by rw[hw6];have:=(bP.aam 0 (.int .i64 RK)).aam 1 (.string RS);simpa using this);have hb6:Below w0.heap.size w0 w6:=(by rw[hw6];exact(hbW.setCell (p:=⟨w0.heap.size,0,none⟩) (by first|exact zql _|exact aak.size|exact hbW.size) _).setCell (p:=⟨w0.heap.size,1,none⟩) (by first|exact zql _|exact aak.size|exact hbW.size) _);obtain⟨rx,hrx⟩:∃ r,r=w0.heap.size:=⟨_,rfl⟩;have aiq:w0.heap.size≤rx:=(by rw[hrx];first|exact zql _|exact hbW.size|exact aak.size);rw[← hrx] at bX ⊢;clear hw6 hrx)
  have hB6:=hB0.trans (hb6.mono (by omega))
  have bR6:=bR.step hb6
  have hs6:=hb6.size
  cases RN
  case true=>
   have HF:Hid (R=some (RK,RS)):=by show _=_;rw[HR.out,awv,ad3,HK1.out,af2 HRN.out,HRK.out,HRS.out]
   obtain⟨q0,q1⟩:=rq bX
   obtain⟨r0,r1,f0,f1⟩:=zr bR6
   go_wp2_with fail
   obtain⟨n0,n1,nB⟩:=aaw bR6 hB6 (by omega) (RK) (RS)
   exact bodyPost_ret (v:=.tuple #[.agg #[.int .i64 RK,.string RS],.bool true]) (by simp[results,Tryz.results80,go_sem,n0,n1]) rfl ⟨qc (by rw[HF.out];rfl) (by rw[HF.out];rfl) (by rw[HF.out];rfl),nB⟩
  case false=>
   have HF1:Hid (R=ajv rec p2 kids jk 1):=by show _=_;rw[HR.out,awv,ad3,HK1.out,af0 HRN.out,agz]
   clear a3 z3 HS HC HRK HRS HRN HR2
   have bA6:=bA.step hb6
   have bC6:=bC.step hb6
   have a3:w6.cell? ⟨w.heap.size,3,none⟩=some (.slice (some ⟨g,off,none⟩) gy l9):=bA6.cell 3
   have z3:w6.cell? ⟨w.heap.size+1,3,none⟩=some (.slice (some ⟨g2,off2,none⟩) iq jw):=bC6.cell 3
   clear bA bC
   have beh:=af8
   have bei:=af9
   obtain⟨x1,ath,asa⟩:=um aa3.out beg
   obtain⟨aki,akj,apg,asb⟩:=x1
   obtain⟨ak2,am2,avu,avv,arj,avw,ajy,al0⟩:=ahc (k:=1) (a0:=off+4) (a1:=off+5) (a2:=off+6) (a3:=off+7) (hB6.mono (zql _)) aey hB acy ath ⟨rfl,rfl,rfl,rfl⟩
   replace ajy:=zqd ajy
   replace al0:=zqd al0
   have bej:=zqd ath
   have bek:=zqd asa
   clear ath asa
   obtain⟨y1,ati,asc⟩:=um aay.out a8u
   obtain⟨akk,akl,aph,ase⟩:=y1
   obtain⟨ak3,am3,avx,avy,aro,avz,ajz,al1⟩:=ahc (k:=1) (a0:=off2+4) (a1:=off2+5) (a2:=off2+6) (a3:=off2+7) (hB6.mono (zql _)) aec hB ab6 ati ⟨rfl,rfl,rfl,rfl⟩
   replace ajz:=zqd ajz
   replace al1:=zqd al1
   have bem:=zqd ati
   have ben:=zqd asc
   clear ati asc
   obtain⟨R2,hR2⟩:∃ r,rec ⟨aki,akj,apg,asb⟩ ⟨akk,akl,aph,ase⟩ p2=r:=⟨_,rfl⟩
   have HC:=fun(V:World) (hV:Keep (w.heap.size+1+1) (w.heap.size+1+1+1) w6 V)=>ael.out ⟨aki,akj,apg,asb⟩ ⟨akk,akl,aph,ase⟩ p2 B [.int .i64 aki,.string akj,ak2,am2] [.int .i64 akk,.string akl,ak3,am3] V (Nat.le_trans (Nat.le_trans hB hB6.size) hV.size) (hT.below (hB6.trans (kb hV (by omega)))) (beh.out _ bek.out) (bei.out _ ben.out) (by omega) ((Ty.close_ ajy.out al0.out).below (kb hV (by omega))) ((Ty.close_ ajz.out al1.out).below (kb hV (by omega)))
   unfold WQ at HC
   rw[hR2] at HC
   obtain⟨RK,RS,RN,HRK,HRS,HRN⟩:=agp R2
   rw[HRK.out,HRS.out,HRN.out] at HC
   replace HC:=zqd HC
   have HR2:=zqd hR2
   clear hR2
   have HF:Hid (R=R2):=by show _=_;rw[HF1.out,am9 bej.out bem.out,← HR2.out]
   have HS:Hid (∀ V,Keep (w.heap.size+1+1) (w.heap.size+1+1+1) w6 V→V.cell? ⟨w.heap.size,3,none⟩=some (.slice (some ⟨g,off,none⟩) gy l9)∧V.cell? ⟨w.heap.size+1,3,none⟩=some (.slice (some ⟨g2,off2,none⟩) iq jw)∧V.cell? ⟨g,off+4,none⟩=some (.int .i64 aki)∧V.cell? ⟨g,off+5,none⟩=some (.string akj)∧V.cell? ⟨g,off+6,none⟩=some (ak2)∧V.cell? ⟨g,off+7,none⟩=some (am2)∧V.cell? ⟨g2,off2+4,none⟩=some (.int .i64 akk)∧V.cell? ⟨g2,off2+5,none⟩=some (.string akl)∧V.cell? ⟨g2,off2+6,none⟩=some (ak3)∧V.cell? ⟨g2,off2+7,none⟩=some (am3)):=zqd fun V hV=>⟨(hV.cell (p:=⟨w.heap.size,3,none⟩) (by simp only;omega) (by simp only;omega)).trans a3,(hV.cell (p:=⟨w.heap.size+1,3,none⟩) (by simp only;omega) (by simp only;omega)).trans z3,(hV.cell (p:=⟨g,off+4,none⟩) (by simp only;omega) (by simp only;omega)).trans avu,(hV.cell (p:=⟨g,off+5,none⟩) (by simp only;omega) (by simp only;omega)).trans avv,(hV.cell (p:=⟨g,off+6,none⟩) (by simp only;omega) (by simp only;omega)).trans arj,(hV.cell (p:=⟨g,off+7,none⟩) (by simp only;omega) (by simp only;omega)).trans avw,(hV.cell (p:=⟨g2,off2+4,none⟩) (by simp only;omega) (by simp only;omega)).trans avx,(hV.cell (p:=⟨g2,off2+5,none⟩) (by simp only;omega) (by simp only;omega)).trans avy,(hV.cell (p:=⟨g2,off2+6,none⟩) (by simp only;omega) (by simp only;omega)).trans aro,(hV.cell (p:=⟨g2,off2+7,none⟩) (by simp only;omega) (by simp only;omega)).trans avz⟩
   clear bA6 bC6
   go_wp2_with fail
   go_region_held3 (fun w'=>w'.cell? ⟨w.heap.size,3,none⟩=some (.slice (some ⟨g,off,none⟩) gy l9)∧w'.cell? ⟨w.heap.size+1,3,none⟩=some (.slice (some ⟨g2,off2,none⟩) iq jw)∧w'.cell? ⟨g,off+4,none⟩=some (.int .i64 aki)∧w'.cell? ⟨g,off+5,none⟩=some (.string akj)∧w'.cell? ⟨g,off+6,none⟩=some (ak2)∧w'.cell? ⟨g,off+7,none⟩=some (am2)∧w'.cell? ⟨g2,off2+4,none⟩=some (.int .i64 akk)∧w'.cell? ⟨g2,off2+5,none⟩=some (.string akl)∧w'.cell? ⟨g2,off2+6,none⟩=some (ak3)∧w'.cell? ⟨g2,off2+7,none⟩=some (am3))
    (first|exact HS.out _ (by repeat(first|exact hq1|exact hq2|exact Keep.refl _ _ _|refine Keep.drew ?_|refine Keep.alloc ?_ _|refine Keep.setAt ?_ _ _|refine Keep.newAt ?_ (zql _) _ _|refine Keep.newAt ?_ aak.size _ _|refine Keep.newAt ?_ hbW.size _ _)))
    (first|(go_at_call 80;refine(HC.out _ (by repeat(first|exact hq1|exact hq2|exact Keep.refl _ _ _|refine Keep.drew ?_|refine Keep.alloc ?_ _|refine Keep.setAt ?_ _ _|refine Keep.newAt ?_ (zql _) _ _|refine Keep.newAt ?_ aak.size _ _|refine Keep.newAt ?_ hbW.size _ _))).mono ?_;rintro e wq ⟨rfl,hbq⟩;have hbW:=(Below.refl w6.heap.size w6).drew.trans hbq;have hq1:Keep (w.heap.size+1+1) (w.heap.size+1+1+1) w6 wq:=Keep.of_below hbW;have bRq:=bR6.step hbW;have r0:wq.cell? ⟨w.heap.size+1+1,0,none⟩=some (.int .i64 0):=bRq.cell 0;have r1:wq.cell? ⟨w.heap.size+1+1,1,none⟩=some (.string {data:=#[]}):=bRq.cell 1;have f0:=bRq.frozen 0;have f1:=bRq.frozen 1))
   all_goals
    have hBq:=hB6.trans (hbW.mono (by omega))
    have hsq:=hbW.size
    try go_wp2_with fail
    obtain⟨n0,n1,nB⟩:=aaw bRq hBq (by omega) (RK) (RS)
    exact bodyPost_ret (v:=.tuple #[.agg #[.int .i64 RK,.string RS],.bool RN]) (by simp[results,Tryz.results80,go_sem,n0,n1]) rfl ⟨qc (by rw[HF.out,HRK.out]) (by rw[HF.out,HRS.out]) (by rw[HF.out,HRN.out]),nB⟩
set_option maxHeartbeats 12800000 in
theorem beo {rec:Ty→Ty→ByteArray→Why} {n M:Nat} (hM:M≤1000000) (hrec:agu 80 rec n M) {name dw at_:ByteArray} {labels eu:List ByteArray} {kids jk:List Ty} (hat:at_.size+32≤M) {B:Nat} {cs ds:List Value} {w:World} (hB:B≤w.heap.size) (hT:afg w) (hx:OkT (n+1) ⟨15,name,labels,kids⟩) (hy:OkT (n+1) ⟨15,dw,eu,jk⟩) (h:lq w B (Ty.pd ⟨15,name,labels,kids⟩) cs) (k:lq w B (Ty.pd ⟨15,dw,eu,jk⟩) ds):
  Calls Tryz.prog 80 #[.agg cs.toArray,.agg ds.toArray,.string at_] w fun e w'=>WQ (adv rec 15 name labels kids dw eu jk at_) w e w':=by
 have HHX:=zqd hx
 have HHY:=zqd hy
 obtain⟨iw,qw,rfl,bf,gu⟩:=Ty.open_ h
 obtain⟨jo,ig,ji,rfl⟩:=bf.form
 have pz:=zqd bf
 clear bf
 obtain⟨qg,gy,l9,rfl⟩:=gu.form
 have qo:=zqd gu
 clear gu
 obtain⟨acd,ad9,rfl,gq,jg⟩:=Ty.open_ k
 obtain⟨jy,jf,jr,rfl⟩:=gq.form
 have yj:=zqd gq
 clear gq
 obtain⟨oq,iq,jw,rfl⟩:=jg.form
 have aah:=zqd jg
 clear jg
 clear h k
 have af8:=zqd (aan hx)
 have af9:=zqd (aan hy)
 have SX:=zqd (shF hx.2)
 have SY:=zqd (shF hy.2)
 clear hx hy
 have ael:=zqd hrec
 clear hrec
 obtain⟨R,hR⟩:∃ R:Why,R=adv rec 15 name labels kids dw eu jk at_:=⟨_,rfl⟩
 rw[← hR]
 have HR:=zqd hR
 clear hR
 obtain⟨w0,hw0,bA,bC,bR,hB0,hs0⟩:=afb w 60 #[.int .i64 15,.string name,.slice jo ig ji,.slice qg gy l9] #[.int .i64 15,.string dw,.slice jy jf jr,.slice oq iq jw]
 have HW0:=zqd hw0
 clear hw0
 go_enter Tryz.func80,Tryz.ntmps80
 go_wp2_with fail
 rw[← HW0.out]
 clear HW0
 have a0:w0.cell? ⟨w.heap.size,0,none⟩=some (.int .i64 15):=bA.cell 0
 have z0:w0.cell? ⟨w.heap.size+1,0,none⟩=some (.int .i64 15):=bC.cell 0
 refine(aee 15 w0 (by rfl)).mono ?_
 rintro e wn ⟨rfl,hwn⟩
 subst hwn
 have a1:w0.cell? ⟨w.heap.size,1,none⟩=some (.string name):=bA.cell 1
 have a2:w0.cell? ⟨w.heap.size,2,none⟩=some (.slice jo ig ji):=bA.cell 2
 have a3:w0.cell? ⟨w.heap.size,3,none⟩=some (.slice qg gy l9):=bA.cell 3
 have z1:w0.cell? ⟨w.heap.size+1,1,none⟩=some (.string dw):=bC.cell 1
 have z2:w0.cell? ⟨w.heap.size+1,2,none⟩=some (.slice jy jf jr):=bC.cell 2
 have z3:w0.cell? ⟨w.heap.size+1,3,none⟩=some (.slice oq iq jw):=bC.cell 3
 have HCW:=a4w hM ael.out (at_:=at_) hat (B:=B) (cs:=[.int .i64 15,.string name,.slice jo ig ji,.slice qg gy l9]) (ds:=[.int .i64 15,.string dw,.slice jy jf jr,.slice oq iq jw]) (w:=w0) (Nat.le_trans hB hB0.size) (hT.below hB0) HHX.out HHY.out (Ty.close_ (pz.out.below (hB0.mono hB)) (qo.out.below (hB0.mono hB))) (Ty.close_ (yj.out.below (hB0.mono hB)) (aah.out.below (hB0.mono hB)))
 obtain⟨R2,hR2⟩:∃ r,aqg rec at_ kids jk=r:=⟨_,rfl⟩
 unfold WQ at HCW
 rw[hR2] at HCW
 obtain⟨RK,RS,RN,HRK,HRS,HRN⟩:=agp R2
 rw[HRK.out,HRS.out,HRN.out] at HCW
 replace HCW:=zqd HCW
 have HF:Hid (R=R2):=by show _=_;rw[HR.out,← hR2];exact bb6
 clear hR2
 go_wp2_with fail
 refine HCW.out.mono ?_
 rintro e wq ⟨rfl,hbq⟩
 have hBq:=hB0.trans (hbq.mono (by omega))
 have hsq:=hbq.size
 have bRq:=bR.step hbq
 obtain⟨r0,r1,f0,f1⟩:=zr bRq
 go_wp2_with fail
 obtain⟨n0,n1,nB⟩:=aaw bRq hBq (by omega) (RK) (RS)
 exact bodyPost_ret (v:=.tuple #[.agg #[.int .i64 RK,.string RS],.bool RN]) (by simp[results,Tryz.results80,go_sem,n0,n1]) rfl ⟨qc (by rw[HF.out,HRK.out]) (by rw[HF.out,HRS.out]) (by rw[HF.out,HRN.out]),nB⟩
set_option maxHeartbeats 12800000 in
theorem bep {rec:Ty→Ty→ByteArray→Why} {n M:Nat} (hM:M≤1000000) (hrec:agu 80 rec n M) {name dw at_:ByteArray} {labels eu:List ByteArray} {kids jk:List Ty} (hat:at_.size+32≤M) {B:Nat} {cs ds:List Value} {w:World} (hB:B≤w.heap.size) (hT:afg w) (hx:OkT (n+1) ⟨16,name,labels,kids⟩) (hy:OkT (n+1) ⟨16,dw,eu,jk⟩) (h:lq w B (Ty.pd ⟨16,name,labels,kids⟩) cs) (k:lq w B (Ty.pd ⟨16,dw,eu,jk⟩) ds):
  Calls Tryz.prog 80 #[.agg cs.toArray,.agg ds.toArray,.string at_] w fun e w'=>WQ (adv rec 16 name labels kids dw eu jk at_) w e w':=by
 have HHX:=zqd hx
 have HHY:=zqd hy
 obtain⟨iw,qw,rfl,bf,gu⟩:=Ty.open_ h
 obtain⟨jo,ig,ji,rfl⟩:=bf.form
 have pz:=zqd bf
 clear bf
 obtain⟨qg,gy,l9,rfl⟩:=gu.form
 have qo:=zqd gu
 clear gu
 obtain⟨acd,ad9,rfl,gq,jg⟩:=Ty.open_ k
 obtain⟨jy,jf,jr,rfl⟩:=gq.form
 have yj:=zqd gq
 clear gq
 obtain⟨oq,iq,jw,rfl⟩:=jg.form
 have aah:=zqd jg
 clear jg
 clear h k
 have af8:=zqd (aan hx)
 have af9:=zqd (aan hy)
 have SX:=zqd (shF hx.2)
 have SY:=zqd (shF hy.2)
 clear hx hy
 have ael:=zqd hrec
 clear hrec
 obtain⟨R,hR⟩:∃ R:Why,R=adv rec 16 name labels kids dw eu jk at_:=⟨_,rfl⟩
 rw[← hR]
 have HR:=zqd hR
 clear hR
 obtain⟨w0,hw0,bA,bC,bR,hB0,hs0⟩:=afb w 60 #[.int .i64 16,.string name,.slice jo ig ji,.slice qg gy l9] #[.int .i64 16,.string dw,.slice jy jf jr,.slice oq iq jw]
 have HW0:=zqd hw0
 clear hw0
 go_enter Tryz.func80,Tryz.ntmps80
 go_wp2_with fail
 rw[← HW0.out]
 clear HW0
 have a0:w0.cell? ⟨w.heap.size,0,none⟩=some (.int .i64 16):=bA.cell 0
 have z0:w0.cell? ⟨w.heap.size+1,0,none⟩=some (.int .i64 16):=bC.cell 0
 refine(aee 16 w0 (by rfl)).mono ?_
 rintro e wn ⟨rfl,hwn⟩
 subst hwn
 have a1:w0.cell? ⟨w.heap.size,1,none⟩=some (.string name):=bA.cell 1
 have a2:w0.cell? ⟨w.heap.size,2,none⟩=some (.slice jo ig ji):=bA.cell 2
 have a3:w0.cell? ⟨w.heap.size,3,none⟩=some (.slice qg gy l9):=bA.cell 3
 have z1:w0.cell? ⟨w.heap.size+1,1,none⟩=some (.string dw):=bC.cell 1
 have z2:w0.cell? ⟨w.heap.size+1,2,none⟩=some (.slice jy jf jr):=bC.cell 2
 have z3:w0.cell? ⟨w.heap.size+1,3,none⟩=some (.slice oq iq jw):=bC.cell 3
 have HCW:=a2k hM ael.out (at_:=at_) hat (B:=B) (cs:=[.int .i64 16,.string name,.slice jo ig ji,.slice qg gy l9]) (ds:=[.int .i64 16,.string dw,.slice jy jf jr,.slice oq iq jw]) (w:=w0) (Nat.le_trans hB hB0.size) (hT.below hB0) HHX.out HHY.out (Ty.close_ (pz.out.below (hB0.mono hB)) (qo.out.below (hB0.mono hB))) (Ty.close_ (yj.out.below (hB0.mono hB)) (aah.out.below (hB0.mono hB)))
 obtain⟨R2,hR2⟩:∃ r,ai9 (fun x y=>rec y x) 4 at_ eu jk labels kids=r:=⟨_,rfl⟩
 unfold WQ at HCW
 rw[hR2] at HCW
 obtain⟨RK,RS,RN,HRK,HRS,HRN⟩:=agp R2
 rw[HRK.out,HRS.out,HRN.out] at HCW
 replace HCW:=zqd HCW
 have HF:Hid (R=R2):=by show _=_;rw[HR.out,← hR2];exact bb7
 clear hR2
 go_wp2_with fail
 refine HCW.out.mono ?_
 rintro e wq ⟨rfl,hbq⟩
 have hBq:=hB0.trans (hbq.mono (by omega))
 have hsq:=hbq.size
 have bRq:=bR.step hbq
 obtain⟨r0,r1,f0,f1⟩:=zr bRq
 go_wp2_with fail
 obtain⟨n0,n1,nB⟩:=aaw bRq hBq (by omega) (RK) (RS)
 exact bodyPost_ret (v:=.tuple #[.agg #[.int .i64 RK,.string RS],.bool RN]) (by simp[results,Tryz.results80,go_sem,n0,n1]) rfl ⟨qc (by rw[HF.out,HRK.out]) (by rw[HF.out,HRS.out]) (by rw[HF.out,HRN.out]),nB⟩
set_option maxHeartbeats 12800000 in
theorem ber {rec:Ty→Ty→ByteArray→Why} {n M:Nat} (hM:M≤1000000) (hrec:agu 80 rec n M) {name dw at_:ByteArray} {labels eu:List ByteArray} {kids jk:List Ty} (hat:at_.size+32≤M) {B:Nat} {cs ds:List Value} {w:World} (hB:B≤w.heap.size) (hT:afg w) (hx:OkT (n+1) ⟨17,name,labels,kids⟩) (hy:OkT (n+1) ⟨17,dw,eu,jk⟩) (h:lq w B (Ty.pd ⟨17,name,labels,kids⟩) cs) (k:lq w B (Ty.pd ⟨17,dw,eu,jk⟩) ds):
  Calls Tryz.prog 80 #[.agg cs.toArray,.agg ds.toArray,.string at_] w fun e w'=>WQ (adv rec 17 name labels kids dw eu jk at_) w e w':=by
 have HHX:=zqd hx
 have HHY:=zqd hy
 obtain⟨iw,qw,rfl,bf,gu⟩:=Ty.open_ h
 obtain⟨jo,ig,ji,rfl⟩:=bf.form
 have pz:=zqd bf
 clear bf
 obtain⟨qg,gy,l9,rfl⟩:=gu.form
 have qo:=zqd gu
 clear gu
 obtain⟨acd,ad9,rfl,gq,jg⟩:=Ty.open_ k
 obtain⟨jy,jf,jr,rfl⟩:=gq.form
 have yj:=zqd gq
 clear gq
 obtain⟨oq,iq,jw,rfl⟩:=jg.form
 have aah:=zqd jg
 clear jg
 clear h k
 have af8:=zqd (aan hx)
 have af9:=zqd (aan hy)
 have SX:=zqd (shF hx.2)
 have SY:=zqd (shF hy.2)
 clear hx hy
 have ael:=zqd hrec
 clear hrec
 obtain⟨R,hR⟩:∃ R:Why,R=adv rec 17 name labels kids dw eu jk at_:=⟨_,rfl⟩
 rw[← hR]
 have HR:=zqd hR
 clear hR
 obtain⟨w0,hw0,bA,bC,bR,hB0,hs0⟩:=afb w 60 #[.int .i64 17,.string name,.slice jo ig ji,.slice qg gy l9] #[.int .i64 17,.string dw,.slice jy jf jr,.slice oq iq jw]
 have HW0:=zqd hw0
 clear hw0
 go_enter Tryz.func80,Tryz.ntmps80
 go_wp2_with fail
 rw[← HW0.out]
 clear HW0
 have a0:w0.cell? ⟨w.heap.size,0,none⟩=some (.int .i64 17):=bA.cell 0
 have z0:w0.cell? ⟨w.heap.size+1,0,none⟩=some (.int .i64 17):=bC.cell 0
 refine(aee 17 w0 (by rfl)).mono ?_
 rintro e wn ⟨rfl,hwn⟩
 subst hwn
 have a1:w0.cell? ⟨w.heap.size,1,none⟩=some (.string name):=bA.cell 1
 have a2:w0.cell? ⟨w.heap.size,2,none⟩=some (.slice jo ig ji):=bA.cell 2
 have a3:w0.cell? ⟨w.heap.size,3,none⟩=some (.slice qg gy l9):=bA.cell 3
 have z1:w0.cell? ⟨w.heap.size+1,1,none⟩=some (.string dw):=bC.cell 1
 have z2:w0.cell? ⟨w.heap.size+1,2,none⟩=some (.slice jy jf jr):=bC.cell 2
 have z3:w0.cell? ⟨w.heap.size+1,3,none⟩=some (.slice oq iq jw):=bC.cell 3
 have HCW:=a0x hM ael.out (at_:=at_) hat (B:=B) (cs:=[.int .i64 17,.string name,.slice jo ig ji,.slice qg gy l9]) (ds:=[.int .i64 17,.string dw,.slice jy jf jr,.slice oq iq jw]) (w:=w0) (Nat.le_trans hB hB0.size) (hT.below hB0) HHX.out HHY.out (Ty.close_ (pz.out.below (hB0.mono hB)) (qo.out.below (hB0.mono hB))) (Ty.close_ (yj.out.below (hB0.mono hB)) (aah.out.below (hB0.mono hB)))
 obtain⟨R2,hR2⟩:∃ r,ai9 rec 5 at_ labels kids eu jk=r:=⟨_,rfl⟩
 unfold WQ at HCW
 rw[hR2] at HCW
 obtain⟨RK,RS,RN,HRK,HRS,HRN⟩:=agp R2
 rw[HRK.out,HRS.out,HRN.out] at HCW
 replace HCW:=zqd HCW
 have HF:Hid (R=R2):=by show _=_;rw[HR.out,← hR2];exact as6 (by decide)
 clear hR2
 go_wp2_with fail
 refine HCW.out.mono ?_
 rintro e wq ⟨rfl,hbq⟩
 have hBq:=hB0.trans (hbq.mono (by omega))
 have hsq:=hbq.size
 have bRq:=bR.step hbq
 obtain⟨r0,r1,f0,f1⟩:=zr bRq
 go_wp2_with fail
 obtain⟨n0,n1,nB⟩:=aaw bRq hBq (by omega) (RK) (RS)
 exact bodyPost_ret (v:=.tuple #[.agg #[.int .i64 RK,.string RS],.bool RN]) (by simp[results,Tryz.results80,go_sem,n0,n1]) rfl ⟨qc (by rw[HF.out,HRK.out]) (by rw[HF.out,HRS.out]) (by rw[HF.out,HRN.out]),nB⟩
set_option maxHeartbeats 12800000 in
theorem a0z {rec:Ty→Ty→ByteArray→Why} {n M:Nat} (hM:M≤1000000) (hrec:agu 80 rec n M) {kind:Int} (hk:kind=18∨kind=19) {name dw at_:ByteArray} {labels eu:List ByteArray} {kids jk:List Ty} (hat:at_.size+32≤M) {B:Nat} {cs ds:List Value} {w:World} (hB:B≤w.heap.size) (hT:afg w) (hx:OkT (n+1) ⟨kind,name,labels,kids⟩) (hy:OkT (n+1) ⟨kind,dw,eu,jk⟩) (h:lq w B (Ty.pd ⟨kind,name,labels,kids⟩) cs) (k:lq w B (Ty.pd ⟨kind,dw,eu,jk⟩) ds):
  Calls Tryz.prog 80 #[.agg cs.toArray,.agg ds.toArray,.string at_] w fun e w'=>WQ (adv rec kind name labels kids dw eu jk at_) w e w':=by
 have HHX:=zqd hx
 have HHY:=zqd hy
 obtain⟨iw,qw,rfl,bf,gu⟩:=Ty.open_ h
 obtain⟨jo,ig,ji,rfl⟩:=bf.form
 have pz:=zqd bf
 clear bf
 obtain⟨qg,gy,l9,rfl⟩:=gu.form
 have qo:=zqd gu
 clear gu
 obtain⟨acd,ad9,rfl,gq,jg⟩:=Ty.open_ k
 obtain⟨jy,jf,jr,rfl⟩:=gq.form
 have yj:=zqd gq
 clear gq
 obtain⟨oq,iq,jw,rfl⟩:=jg.form
 have aah:=zqd jg
 clear jg
 clear h k
 have af8:=zqd (aan hx)
 have af9:=zqd (aan hy)
 have SX:=zqd (shF hx.2)
 have SY:=zqd (shF hy.2)
 clear hx hy
 have ael:=zqd hrec
 clear hrec
 obtain⟨R,hR⟩:∃ R:Why,R=adv rec kind name labels kids dw eu jk at_:=⟨_,rfl⟩
 rw[← hR]
 have HR:=zqd hR
 clear hR
 obtain⟨_,_,_,he,aie,alx,ame⟩:=ni aaz (by decide) pz.out
 injection he with e1 e2 e3
 subst e1 e2 e3
 unfold maxLen at alx
 have afy:=zqd aie
 clear aie
 obtain⟨_,_,_,he,ahm,ak0,aov⟩:=ni aaz (by decide) yj.out
 injection he with e1 e2 e3
 subst e1 e2 e3
 unfold maxLen at ak0
 have ahn:=zqd ahm
 clear ahm
 have HK:=zqd hk
 have HNU:Hid (isNum kind=false):=by show _=_;rcases hk with rfl|rfl<;>rfl
 have hkk:(kind != kind)=false:=by simp
 have h12:(kind ==12)=false:=by rcases hk with rfl|rfl<;>rfl
 have h13:(kind ==13)=false:=by rcases hk with rfl|rfl<;>rfl
 have h14:(kind ==14)=false:=by rcases hk with rfl|rfl<;>rfl
 have h15:(kind ==15)=false:=by rcases hk with rfl|rfl<;>rfl
 have h16:(kind ==16)=false:=by rcases hk with rfl|rfl<;>rfl
 have h17:(kind ==17)=false:=by rcases hk with rfl|rfl<;>rfl
 have HCS:Hid ((kind ==18)=true∨((kind ==18)=false∧(kind ==19)=true)):=by show _∨_;rcases hk with rfl|rfl<;>simp
 clear hk
 have hkz:kids.length=0:=a3m HK.out SX.out.right
 have HKZ:=zqd hkz
 clear hkz
 have SI:=zqd (SX.out.avd (bgb HK.out))
 have h16:ig≤16:=by have:=SI.out.1;have:=afy.out;omega
 have HF0:Hid (R=zq (aio rec 5 at_ labels kids eu jk) ig):=by show _=_;rw[HR.out,as6 (.inr HK.out),ai9,← afy.out]
 obtain⟨w0,hw0,bA,bC,bR,hB0,hs0⟩:=afb w 60 #[.int .i64 kind,.string name,.slice jo ig ji,.slice qg gy l9] #[.int .i64 kind,.string dw,.slice jy jf jr,.slice oq iq jw]
 have HW0:=zqd hw0
 clear hw0
 go_enter Tryz.func80,Tryz.ntmps80
 go_wp2_with fail
 rw[← HW0.out]
 clear HW0
 have a0:w0.cell? ⟨w.heap.size,0,none⟩=some (.int .i64 kind):=bA.cell 0
 have z0:w0.cell? ⟨w.heap.size+1,0,none⟩=some (.int .i64 kind):=bC.cell 0
 refine(aee kind w0 (HNU.out)).mono ?_
 rintro e wn ⟨rfl,hwn⟩
 subst hwn
 rcases HCS.out with t1|⟨t1,t2⟩
 all_goals
  have a2:w0.cell? ⟨w.heap.size,2,none⟩=some (.slice jo ig ji):=bA.cell 2
  go_wp2_with fail
  clear a0 z0 a2
  go_loopw [10] (fun i wr=>∃ k:Nat,k≤ig∧i=.int .i64 k∧Hid (zq (aio rec 5 at_ labels kids eu jk) k=none)∧Below w0.heap.size w0 wr) (fun i _=>ig - (intOf i).toNat)
  case atStart=>exact⟨0,Nat.zero_le _,rfl,zqd rfl,zqf _ _⟩
  case round=>
   obtain⟨k,hk,rfl,HP,hbr⟩:=hrel
   have hBr:=hB0.trans (hbr.mono (by omega))
   have hsr:=hbr.size
   have bRr:=bR.step hbr
   have bAr:=bA.step hbr
   have bCr:=bC.step hbr
   clear bA bC bR
   have i2:wr.cell? ⟨w.heap.size,2,none⟩=some (.slice jo ig ji):=bAr.cell 2
   have o2:wr.cell? ⟨w.heap.size+1,2,none⟩=some (.slice jy jf jr):=bCr.cell 2
   by_cases hlt:k < ig
   case neg=>
    have hkn:k=ig:=by omega
    subst hkn
    have HF:Hid (R=none):=by show _=_;rw[HF0.out,HP.out]
    obtain⟨r0,r1,f0,f1⟩:=zr bRr
    go_wp2_with fail
    obtain⟨n0,n1,nB⟩:=aaw bRr hBr (by omega) (0) (⟨#[]⟩)
    exact bodyPost_ret (v:=.tuple #[.agg #[.int .i64 0,.string {data:=#[]}],.bool false]) (by simp[results,Tryz.results80,go_sem,n0,n1]) rfl ⟨qc (by rw[HF.out];rfl) (by rw[HF.out];rfl) (by rw[HF.out];rfl),nB⟩
   have ayv:(k:Int) < (ig:Int):=by omega
   have hk0:(0:Int)≤(k:Int):=by omega
   obtain⟨gl,afi,rfl,a3z,alz⟩:=ame (by omega)
   obtain⟨l,am1,aly⟩:=um afy.out hlt
   have cl:wr.cell? ⟨gl,afi+k,none⟩=some (.string l):=bg hBr (by omega) (by have:=alz k 0 _ _ am1 rfl;simpa using this)
   have apt:=zqd am1
   have ayw:=zqd aly
   clear am1 aly
   have l_l:l.size≤12:=SI.out.2 l ayw.out
   have als:(9223372036854775807 < at_.size+(⟨#[46]⟩:ByteArray).size)=False:=eq_false (by have z_:(⟨#[46]⟩:ByteArray).size=1:=rfl;omega)
   have alu:(9223372036854775807 < at_.size+1)=False:=eq_false (by omega)
   obtain⟨p1,ad3⟩:∃ p,at_ ++(⟨#[46]⟩:ByteArray)=p:=⟨_,rfl⟩
   have alv:p1.size≤at_.size+1:=by rw[← ad3,ByteArray.size_append];have z_:(⟨#[46]⟩:ByteArray).size=1:=rfl;omega
   have ari:(9223372036854775807 < p1.size+l.size)=False:=eq_false (by omega)
   obtain⟨p2,agz⟩:∃ p,p1 ++l=p:=⟨_,rfl⟩
   have aps:p2.size≤at_.size+13:=by rw[← agz,ByteArray.size_append];omega
   have HP2:Hid (ah6 at_ l=p2):=by show _=_;rw[← agz,← ad3];rfl
   have LB:=zqd (fun(V:World) (hV:Keep (w.heap.size+1+1) (w.heap.size+1+1+1) wr V)=>an6 (t:=l) (yj.out.below ((hBr.trans (kb hV (by omega))).mono hB)))
   obtain⟨ix,hix⟩:∃ i,acu (strEq l) eu=i:=⟨_,rfl⟩
   rw[hix] at LB
   have HIX:=zqd hix
   have hlo:=ap7 (strEq l) eu
   rw[hix] at hlo
   clear hix
   have HS:Hid (∀ V,Keep (w.heap.size+1+1) (w.heap.size+1+1+1) wr V→V.cell? ⟨w.heap.size,2,none⟩=some (.slice (some ⟨gl,afi,none⟩) ig ji)∧V.cell? ⟨w.heap.size+1,2,none⟩=some (.slice jy jf jr)∧V.cell? ⟨gl,afi+k,none⟩=some (.string l)):=zqd fun V hV=>⟨(hV.cell (p:=⟨w.heap.size,2,none⟩) (by simp only;omega) (by simp only;omega)).trans i2,(hV.cell (p:=⟨w.heap.size+1,2,none⟩) (by simp only;omega) (by simp only;omega)).trans o2,(hV.cell (p:=⟨gl,afi+k,none⟩) (by simp only;omega) (by simp only;omega)).trans cl⟩
   go_wp2_with fail
   go_region_held3 (fun w'=>w'.cell? ⟨w.heap.size,2,none⟩=some (.slice (some ⟨gl,afi,none⟩) ig ji)∧w'.cell? ⟨w.heap.size+1,2,none⟩=some (.slice jy jf jr)∧w'.cell? ⟨gl,afi+k,none⟩=some (.string l))
    (first|exact HS.out _ (by repeat(first|exact hq1|exact hq2|exact Keep.refl _ _ _|refine Keep.drew ?_|refine Keep.alloc ?_ _|refine Keep.setAt ?_ _ _|refine Keep.newAt ?_ (zql _) _ _|refine Keep.newAt ?_ aak.size _ _|refine Keep.newAt ?_ hbW.size _ _)))
    (first|(go_at_call 57;refine(LB.out _ (by repeat(first|exact hq1|exact hq2|exact Keep.refl _ _ _|refine Keep.drew ?_|refine Keep.alloc ?_ _|refine Keep.setAt ?_ _ _|refine Keep.newAt ?_ (zql _) _ _|refine Keep.newAt ?_ aak.size _ _|refine Keep.newAt ?_ hbW.size _ _))).mono ?_;rintro e wl ⟨rfl,hwl⟩;subst hwl))
   obtain⟨w1,hw1⟩:∃ V,V=wr.drew:=⟨_,rfl⟩
   rw[← hw1]
   have hb1:Below wr.heap.size wr w1:=by rw[hw1];exact(zqf _ _).drew
   clear hw1 HS i2 o2 LB
   have hB1:=hBr.trans (hb1.mono (by omega))
   have avt:=hbr.trans (hb1.mono hsr)
   have hs1:=hb1.size
   have bA1:=bAr.step hb1
   have bC1:=bCr.step hb1
   have bR1:=bRr.step hb1
   have cl1:w1.cell? ⟨gl,afi+k,none⟩=some (.string l):=(hb1.cell (p:=⟨gl,afi+k,none⟩) (by simp only;omega)).trans cl
   clear cl bAr bCr bRr
   have i2:w1.cell? ⟨w.heap.size,2,none⟩=some (.slice (some ⟨gl,afi,none⟩) ig ji):=bA1.cell 2
   by_cases hneg:ix < 0
   case pos=>
    have HF:Hid (R=some (5,p2)):=by show _=_;rw[HF0.out,← HP2.out];exact ada HP.out (aq8 apt.out (by rw[HIX.out];exact hneg)) _ hlt
    go_wp2_with fail
    refine(aen 5 p2 _).mono ?_
    rintro e wz ⟨rfl,hbz⟩
    have hBz:=hB1.trans (hbz.mono (by omega))
    have bRz:=bR1.step hbz
    have hsz:=hbz.size
    obtain⟨r0,r1,f0,f1⟩:=zr bRz
    go_wp2_with fail
    obtain⟨n0,n1,nB⟩:=aaw bRz hBz (by omega) (5) (p2)
    exact bodyPost_ret (v:=.tuple #[.agg #[.int .i64 5,.string p2],.bool true]) (by simp[results,Tryz.results80,go_sem,n0,n1]) rfl ⟨qc (by rw[HF.out];rfl) (by rw[HF.out];rfl) (by rw[HF.out];rfl),nB⟩
   have HQ:Hid (zq (aio rec 5 at_ labels kids eu jk) (k+1)=none):=by show _=_;exact ae4 HP.out (a3l apt.out (by rw[HIX.out];exact hneg) HKZ.out)
   go_wp2_with fail
   go_roundw
   case rel=>exact⟨k+1,by omega,by go_num,HQ,avt⟩
   case measure=>simp[intOf];omega
set_option maxHeartbeats 12800000 in
theorem a00 {rec:Ty→Ty→ByteArray→Why} {n M:Nat} (hM:M≤1000000) (hrec:agu 80 rec n M) {kind:Int} (hk:kind=20∨kind=21) {name dw at_:ByteArray} {labels eu:List ByteArray} {kids jk:List Ty} (hat:at_.size+32≤M) {B:Nat} {cs ds:List Value} {w:World} (hB:B≤w.heap.size) (hT:afg w) (hx:OkT (n+1) ⟨kind,name,labels,kids⟩) (hy:OkT (n+1) ⟨kind,dw,eu,jk⟩) (h:lq w B (Ty.pd ⟨kind,name,labels,kids⟩) cs) (k:lq w B (Ty.pd ⟨kind,dw,eu,jk⟩) ds):
  Calls Tryz.prog 80 #[.agg cs.toArray,.agg ds.toArray,.string at_] w fun e w'=>WQ (adv rec kind name labels kids dw eu jk at_) w e w':=by
 have HHX:=zqd hx
 have HHY:=zqd hy
 obtain⟨iw,qw,rfl,bf,gu⟩:=Ty.open_ h
 obtain⟨jo,ig,ji,rfl⟩:=bf.form
 have pz:=zqd bf
 clear bf
 obtain⟨qg,gy,l9,rfl⟩:=gu.form
 have qo:=zqd gu
 clear gu
 obtain⟨acd,ad9,rfl,gq,jg⟩:=Ty.open_ k
 obtain⟨jy,jf,jr,rfl⟩:=gq.form
 have yj:=zqd gq
 clear gq
 obtain⟨oq,iq,jw,rfl⟩:=jg.form
 have aah:=zqd jg
 clear jg
 clear h k
 have af8:=zqd (aan hx)
 have af9:=zqd (aan hy)
 have SX:=zqd (shF hx.2)
 have SY:=zqd (shF hy.2)
 clear hx hy
 have ael:=zqd hrec
 clear hrec
 obtain⟨R,hR⟩:∃ R:Why,R=adv rec kind name labels kids dw eu jk at_:=⟨_,rfl⟩
 rw[← hR]
 have HR:=zqd hR
 clear hR
 have HK:=zqd hk
 have HNU:Hid (isNum kind=false):=by show _=_;rcases hk with rfl|rfl<;>rfl
 have hkk:(kind != kind)=false:=by simp
 have h12:(kind ==12)=false:=by rcases hk with rfl|rfl<;>rfl
 have h13:(kind ==13)=false:=by rcases hk with rfl|rfl<;>rfl
 have h14:(kind ==14)=false:=by rcases hk with rfl|rfl<;>rfl
 have h15:(kind ==15)=false:=by rcases hk with rfl|rfl<;>rfl
 have h16:(kind ==16)=false:=by rcases hk with rfl|rfl<;>rfl
 have h17:(kind ==17)=false:=by rcases hk with rfl|rfl<;>rfl
 have h18:(kind ==18)=false:=by rcases hk with rfl|rfl<;>rfl
 have h19:(kind ==19)=false:=by rcases hk with rfl|rfl<;>rfl
 have HCS:Hid ((kind ==20)=true∨((kind ==20)=false∧(kind ==21)=true)):=by show _∨_;rcases hk with rfl|rfl<;>simp
 clear hk
 by_cases hn:name=dw
 case neg=>
  have HF:Hid (R=some (6,at_)):=by show _=_;rw[HR.out,as7 HK.out,if_neg hn]
  have hne:(name.toList ==dw.toList)=false:=aeu hn
  have hne2:(name.toList != dw.toList)=true:=by simpa using hne
  obtain⟨w0,hw0,bA,bC,bR,hB0,hs0⟩:=afb w 60 #[.int .i64 kind,.string name,.slice jo ig ji,.slice qg gy l9] #[.int .i64 kind,.string dw,.slice jy jf jr,.slice oq iq jw]
  have HW0:=zqd hw0
  clear hw0
  go_enter Tryz.func80,Tryz.ntmps80
  go_wp2_with fail
  rw[← HW0.out]
  clear HW0
  have a0:w0.cell? ⟨w.heap.size,0,none⟩=some (.int .i64 kind):=bA.cell 0
  have z0:w0.cell? ⟨w.heap.size+1,0,none⟩=some (.int .i64 kind):=bC.cell 0
  refine(aee kind w0 (HNU.out)).mono ?_
  rintro e wn ⟨rfl,hwn⟩
  subst hwn
  have a1:w0.cell? ⟨w.heap.size,1,none⟩=some (.string name):=bA.cell 1
  have z1:w0.cell? ⟨w.heap.size+1,1,none⟩=some (.string dw):=bC.cell 1
  clear hn
  rcases HCS.out with t1|⟨t1,t2⟩
  all_goals
   go_wp2_with fail
   refine(aen 6 at_ _).mono ?_
   rintro e wz ⟨rfl,hbz⟩
   have hBz:=hB0.trans (hbz.mono (by omega))
   have bRz:=bR.step hbz
   have hsz:=hbz.size
   obtain⟨r0,r1,f0,f1⟩:=zr bRz
   go_wp2_with fail
   obtain⟨n0,n1,nB⟩:=aaw bRz hBz (by omega) (6) (at_)
   exact bodyPost_ret (v:=.tuple #[.agg #[.int .i64 6,.string at_],.bool true]) (by simp[results,Tryz.results80,go_sem,n0,n1]) rfl ⟨qc (by rw[HF.out];rfl) (by rw[HF.out];rfl) (by rw[HF.out];rfl),nB⟩
 subst hn
 have HF:Hid (R=none):=by show _=_;rw[HR.out,as7 HK.out,if_pos rfl]
 obtain⟨w0,hw0,bA,bC,bR,hB0,hs0⟩:=afb w 60 #[.int .i64 kind,.string name,.slice jo ig ji,.slice qg gy l9] #[.int .i64 kind,.string name,.slice jy jf jr,.slice oq iq jw]
 have HW0:=zqd hw0
 clear hw0
 go_enter Tryz.func80,Tryz.ntmps80
 go_wp2_with fail
 rw[← HW0.out]
 clear HW0
 have a0:w0.cell? ⟨w.heap.size,0,none⟩=some (.int .i64 kind):=bA.cell 0
 have z0:w0.cell? ⟨w.heap.size+1,0,none⟩=some (.int .i64 kind):=bC.cell 0
 refine(aee kind w0 (HNU.out)).mono ?_
 rintro e wn ⟨rfl,hwn⟩
 subst hwn
 have a1:w0.cell? ⟨w.heap.size,1,none⟩=some (.string name):=bA.cell 1
 have z1:w0.cell? ⟨w.heap.size+1,1,none⟩=some (.string name):=bC.cell 1
 rcases HCS.out with t1|⟨t1,t2⟩
 all_goals
  obtain⟨r0,r1,f0,f1⟩:=zr bR
  go_wp2_with fail
  obtain⟨n0,n1,nB⟩:=aaw bR hB0 (by omega) (0) (⟨#[]⟩)
  exact bodyPost_ret (v:=.tuple #[.agg #[.int .i64 0,.string {data:=#[]}],.bool false]) (by simp[results,Tryz.results80,go_sem,n0,n1]) rfl ⟨qc (by rw[HF.out];rfl) (by rw[HF.out];rfl) (by rw[HF.out];rfl),nB⟩
set_option maxHeartbeats 12800000 in
theorem a01 {rec:Ty→Ty→ByteArray→Why} {n M:Nat} (hM:M≤1000000) (hrec:agu 80 rec n M) {kind:Int} (hk:kind=22∨kind=23) {name dw at_:ByteArray} {labels eu:List ByteArray} {kids jk:List Ty} (hat:at_.size+32≤M) {B:Nat} {cs ds:List Value} {w:World} (hB:B≤w.heap.size) (hT:afg w) (hx:OkT (n+1) ⟨kind,name,labels,kids⟩) (hy:OkT (n+1) ⟨kind,dw,eu,jk⟩) (h:lq w B (Ty.pd ⟨kind,name,labels,kids⟩) cs) (k:lq w B (Ty.pd ⟨kind,dw,eu,jk⟩) ds):
  Calls Tryz.prog 80 #[.agg cs.toArray,.agg ds.toArray,.string at_] w fun e w'=>WQ (adv rec kind name labels kids dw eu jk at_) w e w':=by
 have HHX:=zqd hx
 have HHY:=zqd hy
 obtain⟨iw,qw,rfl,bf,gu⟩:=Ty.open_ h
 obtain⟨jo,ig,ji,rfl⟩:=bf.form
 have pz:=zqd bf
 clear bf
 obtain⟨qg,gy,l9,rfl⟩:=gu.form
 have qo:=zqd gu
 clear gu
 obtain⟨acd,ad9,rfl,gq,jg⟩:=Ty.open_ k
 obtain⟨jy,jf,jr,rfl⟩:=gq.form
 have yj:=zqd gq
 clear gq
 obtain⟨oq,iq,jw,rfl⟩:=jg.form
 have aah:=zqd jg
 clear jg
 clear h k
 have af8:=zqd (aan hx)
 have af9:=zqd (aan hy)
 have SX:=zqd (shF hx.2)
 have SY:=zqd (shF hy.2)
 clear hx hy
 have ael:=zqd hrec
 clear hrec
 obtain⟨R,hR⟩:∃ R:Why,R=adv rec kind name labels kids dw eu jk at_:=⟨_,rfl⟩
 rw[← hR]
 have HR:=zqd hR
 clear hR
 obtain⟨_,_,_,he,acf,aev,ad2⟩:=ni Ty.jd (by decide) qo.out
 injection he with e1 e2 e3
 subst e1 e2 e3
 unfold maxLen at aev
 have aa3:=zqd acf
 clear acf
 obtain⟨_,_,_,he,abp,aeb,ac9⟩:=ni Ty.jd (by decide) aah.out
 injection he with e1 e2 e3
 subst e1 e2 e3
 unfold maxLen at aeb
 have aay:=zqd abp
 clear abp
 have HK:=zqd hk
 have HNU:Hid (isNum kind=false):=by show _=_;rcases hk with rfl|rfl<;>rfl
 have hkk:(kind != kind)=false:=by simp
 have h12:(kind ==12)=false:=by rcases hk with rfl|rfl<;>rfl
 have h13:(kind ==13)=false:=by rcases hk with rfl|rfl<;>rfl
 have h14:(kind ==14)=false:=by rcases hk with rfl|rfl<;>rfl
 have h15:(kind ==15)=false:=by rcases hk with rfl|rfl<;>rfl
 have h16:(kind ==16)=false:=by rcases hk with rfl|rfl<;>rfl
 have h17:(kind ==17)=false:=by rcases hk with rfl|rfl<;>rfl
 have h18:(kind ==18)=false:=by rcases hk with rfl|rfl<;>rfl
 have h19:(kind ==19)=false:=by rcases hk with rfl|rfl<;>rfl
 have h20:(kind ==20)=false:=by rcases hk with rfl|rfl<;>rfl
 have h21:(kind ==21)=false:=by rcases hk with rfl|rfl<;>rfl
 have HCS:Hid ((kind ==22)=true∨((kind ==22)=false∧(kind ==23)=true)):=by show _∨_;rcases hk with rfl|rfl<;>simp
 clear hk
 have hkn:gy=1:=by have:=aip (.inr (.inr HK.out)) SX.out.right;have:=aa3.out;omega
 have hkz:iq=1:=by have:=aip (.inr (.inr HK.out)) SY.out.right;have:=aay.out;omega
 have hpos:0 < gy:=by omega
 have ak1:0 < iq:=by omega
 have atg:(0:Int) < (gy:Int):=by omega
 have aqu:(0:Int) < (iq:Int):=by omega
 clear hkn hkz
 obtain⟨w0,hw0,bA,bC,bR,hB0,hs0⟩:=afb w 60 #[.int .i64 kind,.string name,.slice jo ig ji,.slice qg gy l9] #[.int .i64 kind,.string dw,.slice jy jf jr,.slice oq iq jw]
 have HW0:=zqd hw0
 clear hw0
 go_enter Tryz.func80,Tryz.ntmps80
 go_wp2_with fail
 rw[← HW0.out]
 clear HW0
 have a0:w0.cell? ⟨w.heap.size,0,none⟩=some (.int .i64 kind):=bA.cell 0
 have z0:w0.cell? ⟨w.heap.size+1,0,none⟩=some (.int .i64 kind):=bC.cell 0
 refine(aee kind w0 (HNU.out)).mono ?_
 rintro e wn ⟨rfl,hwn⟩
 subst hwn
 have a3:w0.cell? ⟨w.heap.size,3,none⟩=some (.slice qg gy l9):=bA.cell 3
 have z3:w0.cell? ⟨w.heap.size+1,3,none⟩=some (.slice oq iq jw):=bC.cell 3
 obtain⟨g,off,rfl,aey,acy⟩:=ad2 (by omega)
 obtain⟨x,adt,ac4⟩:=um aa3.out hpos
 obtain⟨tu,ql,aat,ab8⟩:=x
 obtain⟨ug,zo,adb,ac8,abx,adf,qy,y8⟩:=ahc (k:=0) (a0:=off) (a1:=off+1) (a2:=off+2) (a3:=off+3) (hB0.mono (zql _)) aey hB acy adt ⟨rfl,rfl,rfl,rfl⟩
 replace qy:=zqd qy
 replace y8:=zqd y8
 have ag4:=zqd adt
 have ahz:=zqd ac4
 clear adt ac4
 obtain⟨g2,off2,rfl,aec,ab6⟩:=ac9 (by omega)
 obtain⟨y,adu,ac5⟩:=um aay.out ak1
 obtain⟨qx,qh,aau,ab9⟩:=y
 obtain⟨xq,aal,adl,ade,ab2,adn,qp,y5⟩:=ahc (k:=0) (a0:=off2) (a1:=off2+1) (a2:=off2+2) (a3:=off2+3) (hB0.mono (zql _)) aec hB ab6 adu ⟨rfl,rfl,rfl,rfl⟩
 replace qp:=zqd qp
 replace y5:=zqd y5
 have ag5:=zqd adu
 have ah0:=zqd ac5
 clear adu ac5
 have HF0:Hid (R=if afq 100 ⟨tu,ql,aat,ab8⟩ ⟨qx,qh,aau,ab9⟩then none else some (3,at_)):=by show _=_;rw[HR.out,a7d HK.out ag4.out ag5.out]
 have HC:=fun(V:World) (hV:Keep (w.heap.size+1+1) (w.heap.size+1+1+1) w0 V)=>axk ⟨tu,ql,aat,ab8⟩ ⟨qx,qh,aau,ab9⟩ (B:=B) (cs:=[.int .i64 tu,.string ql,ug,zo]) (ds:=[.int .i64 qx,.string qh,xq,aal]) (w:=V) (Nat.le_trans (Nat.le_trans hB hB0.size) hV.size) ((Ty.close_ qy.out y8.out).below (kb hV (by omega))) ((Ty.close_ qp.out y5.out).below (kb hV (by omega)))
 obtain⟨EQ,hEQ⟩:∃ z:Bool,afq 100 ⟨tu,ql,aat,ab8⟩ ⟨qx,qh,aau,ab9⟩=z:=⟨_,rfl⟩
 rw[hEQ] at HC
 have HEQ:=zqd hEQ
 clear hEQ
 replace HC:=zqd HC
 have HS:Hid (∀ V,Keep (w.heap.size+1+1) (w.heap.size+1+1+1) w0 V→V.cell? ⟨w.heap.size,3,none⟩=some (.slice (some ⟨g,off,none⟩) gy l9)∧V.cell? ⟨w.heap.size+1,3,none⟩=some (.slice (some ⟨g2,off2,none⟩) iq jw)∧V.cell? ⟨g,off,none⟩=some (.int .i64 tu)∧V.cell? ⟨g,off+1,none⟩=some (.string ql)∧V.cell? ⟨g,off+2,none⟩=some (ug)∧V.cell? ⟨g,off+3,none⟩=some (zo)∧V.cell? ⟨g2,off2,none⟩=some (.int .i64 qx)∧V.cell? ⟨g2,off2+1,none⟩=some (.string qh)∧V.cell? ⟨g2,off2+2,none⟩=some (xq)∧V.cell? ⟨g2,off2+3,none⟩=some (aal)):=zqd fun V hV=>⟨(hV.cell (p:=⟨w.heap.size,3,none⟩) (by simp only;omega) (by simp only;omega)).trans a3,(hV.cell (p:=⟨w.heap.size+1,3,none⟩) (by simp only;omega) (by simp only;omega)).trans z3,(hV.cell (p:=⟨g,off,none⟩) (by simp only;omega) (by simp only;omega)).trans adb,(hV.cell (p:=⟨g,off+1,none⟩) (by simp only;omega) (by simp only;omega)).trans ac8,(hV.cell (p:=⟨g,off+2,none⟩) (by simp only;omega) (by simp only;omega)).trans abx,(hV.cell (p:=⟨g,off+3,none⟩) (by simp only;omega) (by simp only;omega)).trans adf,(hV.cell (p:=⟨g2,off2,none⟩) (by simp only;omega) (by simp only;omega)).trans adl,(hV.cell (p:=⟨g2,off2+1,none⟩) (by simp only;omega) (by simp only;omega)).trans ade,(hV.cell (p:=⟨g2,off2+2,none⟩) (by simp only;omega) (by simp only;omega)).trans ab2,(hV.cell (p:=⟨g2,off2+3,none⟩) (by simp only;omega) (by simp only;omega)).trans adn⟩
 clear bA bC
 rcases HCS.out with t1|⟨t1,t2⟩
 all_goals
  go_wp2_with fail
  go_region_held3 (fun w'=>w'.cell? ⟨w.heap.size,3,none⟩=some (.slice (some ⟨g,off,none⟩) gy l9)∧w'.cell? ⟨w.heap.size+1,3,none⟩=some (.slice (some ⟨g2,off2,none⟩) iq jw)∧w'.cell? ⟨g,off,none⟩=some (.int .i64 tu)∧w'.cell? ⟨g,off+1,none⟩=some (.string ql)∧w'.cell? ⟨g,off+2,none⟩=some (ug)∧w'.cell? ⟨g,off+3,none⟩=some (zo)∧w'.cell? ⟨g2,off2,none⟩=some (.int .i64 qx)∧w'.cell? ⟨g2,off2+1,none⟩=some (.string qh)∧w'.cell? ⟨g2,off2+2,none⟩=some (xq)∧w'.cell? ⟨g2,off2+3,none⟩=some (aal))
   (first|exact HS.out _ (by repeat(first|exact hq1|exact hq2|exact Keep.refl _ _ _|refine Keep.drew ?_|refine Keep.alloc ?_ _|refine Keep.setAt ?_ _ _|refine Keep.newAt ?_ (zql _) _ _|refine Keep.newAt ?_ aak.size _ _|refine Keep.newAt ?_ hbW.size _ _)))
   (first|(go_at_call 108;refine(HC.out _ (by repeat(first|exact hq1|exact hq2|exact Keep.refl _ _ _|refine Keep.drew ?_|refine Keep.alloc ?_ _|refine Keep.setAt ?_ _ _|refine Keep.newAt ?_ (zql _) _ _|refine Keep.newAt ?_ aak.size _ _|refine Keep.newAt ?_ hbW.size _ _))).mono ?_;rintro e wq ⟨rfl,hbq⟩;have hbW:=(Below.refl w0.heap.size w0).drew.trans hbq;have hq1:Keep (w.heap.size+1+1) (w.heap.size+1+1+1) w0 wq:=Keep.of_below hbW))
  all_goals
   have hBq:=hB0.trans (hbW.mono (by omega))
   have bRq:=bR.step hbW
   have hsq:=hbW.size
   cases EQ
   case false=>
    have HF:Hid (R=some (3,at_)):=by show _=_;rw[HF0.out,HEQ.out];rfl
    go_wp2_with fail
    refine(aen 3 at_ _).mono ?_
    rintro e wz ⟨rfl,hbz⟩
    have hBz:=hBq.trans (hbz.mono (by omega))
    have bRz:=bRq.step hbz
    have hsz:=hbz.size
    obtain⟨r0,r1,f0,f1⟩:=zr bRz
    go_wp2_with fail
    obtain⟨n0,n1,nB⟩:=aaw bRz hBz (by omega) (3) (at_)
    exact bodyPost_ret (v:=.tuple #[.agg #[.int .i64 3,.string at_],.bool true]) (by simp[results,Tryz.results80,go_sem,n0,n1]) rfl ⟨qc (by rw[HF.out];rfl) (by rw[HF.out];rfl) (by rw[HF.out];rfl),nB⟩
   case true=>
    have HF:Hid (R=none):=by show _=_;rw[HF0.out,HEQ.out];rfl
    obtain⟨r0,r1,f0,f1⟩:=zr bRq
    go_wp2_with fail
    obtain⟨n0,n1,nB⟩:=aaw bRq hBq (by omega) (0) (⟨#[]⟩)
    exact bodyPost_ret (v:=.tuple #[.agg #[.int .i64 0,.string {data:=#[]}],.bool false]) (by simp[results,Tryz.results80,go_sem,n0,n1]) rfl ⟨qc (by rw[HF.out];rfl) (by rw[HF.out];rfl) (by rw[HF.out];rfl),nB⟩
set_option maxHeartbeats 12800000 in
theorem a8v {rec:Ty→Ty→ByteArray→Why} {n M:Nat} (hM:M≤1000000) (hrec:agu 80 rec n M) {kind:Int} (hk:¬ (12≤kind∧kind≤23)) (hnum:isNum kind=false) {name dw at_:ByteArray} {labels eu:List ByteArray} {kids jk:List Ty} (hat:at_.size+32≤M) {B:Nat} {cs ds:List Value} {w:World} (hB:B≤w.heap.size) (hT:afg w) (hx:OkT (n+1) ⟨kind,name,labels,kids⟩) (hy:OkT (n+1) ⟨kind,dw,eu,jk⟩) (h:lq w B (Ty.pd ⟨kind,name,labels,kids⟩) cs) (k:lq w B (Ty.pd ⟨kind,dw,eu,jk⟩) ds):
  Calls Tryz.prog 80 #[.agg cs.toArray,.agg ds.toArray,.string at_] w fun e w'=>WQ (adv rec kind name labels kids dw eu jk at_) w e w':=by
 have HHX:=zqd hx
 have HHY:=zqd hy
 obtain⟨iw,qw,rfl,bf,gu⟩:=Ty.open_ h
 obtain⟨jo,ig,ji,rfl⟩:=bf.form
 have pz:=zqd bf
 clear bf
 obtain⟨qg,gy,l9,rfl⟩:=gu.form
 have qo:=zqd gu
 clear gu
 obtain⟨acd,ad9,rfl,gq,jg⟩:=Ty.open_ k
 obtain⟨jy,jf,jr,rfl⟩:=gq.form
 have yj:=zqd gq
 clear gq
 obtain⟨oq,iq,jw,rfl⟩:=jg.form
 have aah:=zqd jg
 clear jg
 clear h k
 have af8:=zqd (aan hx)
 have af9:=zqd (aan hy)
 have SX:=zqd (shF hx.2)
 have SY:=zqd (shF hy.2)
 clear hx hy
 have ael:=zqd hrec
 clear hrec
 obtain⟨R,hR⟩:∃ R:Why,R=adv rec kind name labels kids dw eu jk at_:=⟨_,rfl⟩
 rw[← hR]
 have HR:=zqd hR
 clear hR
 have HF:Hid (R=none):=by show _=_;rw[HR.out,a3p hk]
 have HNU:=zqd hnum
 have hkk:(kind != kind)=false:=by simp
 have h12:(kind ==12)=false:=by simp;omega
 have h13:(kind ==13)=false:=by simp;omega
 have h14:(kind ==14)=false:=by simp;omega
 have h15:(kind ==15)=false:=by simp;omega
 have h16:(kind ==16)=false:=by simp;omega
 have h17:(kind ==17)=false:=by simp;omega
 have h18:(kind ==18)=false:=by simp;omega
 have h19:(kind ==19)=false:=by simp;omega
 have h20:(kind ==20)=false:=by simp;omega
 have h21:(kind ==21)=false:=by simp;omega
 have h22:(kind ==22)=false:=by simp;omega
 have h23:(kind ==23)=false:=by simp;omega
 clear hk hnum
 obtain⟨w0,hw0,bA,bC,bR,hB0,hs0⟩:=afb w 60 #[.int .i64 kind,.string name,.slice jo ig ji,.slice qg gy l9] #[.int .i64 kind,.string dw,.slice jy jf jr,.slice oq iq jw]
 have HW0:=zqd hw0
 clear hw0
 go_enter Tryz.func80,Tryz.ntmps80
 go_wp2_with fail
 rw[← HW0.out]
 clear HW0
 have a0:w0.cell? ⟨w.heap.size,0,none⟩=some (.int .i64 kind):=bA.cell 0
 have z0:w0.cell? ⟨w.heap.size+1,0,none⟩=some (.int .i64 kind):=bC.cell 0
 refine(aee kind w0 (HNU.out)).mono ?_
 rintro e wn ⟨rfl,hwn⟩
 subst hwn
 obtain⟨r0,r1,f0,f1⟩:=zr bR
 go_wp2_with fail
 obtain⟨n0,n1,nB⟩:=aaw bR hB0 (by omega) (0) (⟨#[]⟩)
 exact bodyPost_ret (v:=.tuple #[.agg #[.int .i64 0,.string {data:=#[]}],.bool false]) (by simp[results,Tryz.results80,go_sem,n0,n1]) rfl ⟨qc (by rw[HF.out];rfl) (by rw[HF.out];rfl) (by rw[HF.out];rfl),nB⟩
set_option maxHeartbeats 12800000 in
theorem ax6 {rec:Ty→Ty→ByteArray→Why} {n M:Nat} (hM:M≤1000000) (hrec:agu 80 rec n M) {kind xw:Int} (h1:isNum kind=true) (h2:isNum xw=true) {name dw at_:ByteArray} {labels eu:List ByteArray} {kids jk:List Ty} (hat:at_.size+32≤M) {B:Nat} {cs ds:List Value} {w:World} (hB:B≤w.heap.size) (hT:afg w) (hx:OkT (n+1) ⟨kind,name,labels,kids⟩) (hy:OkT (n+1) ⟨xw,dw,eu,jk⟩) (h:lq w B (Ty.pd ⟨kind,name,labels,kids⟩) cs) (k:lq w B (Ty.pd ⟨xw,dw,eu,jk⟩) ds):
  Calls Tryz.prog 80 #[.agg cs.toArray,.agg ds.toArray,.string at_] w fun e w'=>WQ (if afm xw≤afm kind∧afn kind≤afn xw then none else some (2,at_)) w e w':=by
 obtain⟨iw,qw,rfl,bf,gu⟩:=Ty.open_ h
 obtain⟨jo,ig,ji,rfl⟩:=bf.form
 have pz:=zqd bf
 clear bf
 obtain⟨qg,gy,l9,rfl⟩:=gu.form
 have qo:=zqd gu
 clear gu
 obtain⟨acd,ad9,rfl,gq,jg⟩:=Ty.open_ k
 obtain⟨jy,jf,jr,rfl⟩:=gq.form
 have yj:=zqd gq
 clear gq
 obtain⟨oq,iq,jw,rfl⟩:=jg.form
 have aah:=zqd jg
 clear jg
 clear h k
 obtain⟨R,hR⟩:∃ R:Why,R=if afm xw≤afm kind∧afn kind≤afn xw then none else some (2,at_):=⟨_,rfl⟩
 rw[← hR]
 have HR:=zqd hR
 clear hR
 have H1:=zqd h1
 have H2:=zqd h2
 clear h1 h2 hx hy
 obtain⟨V,hV⟩:∃ v:Bool,decide (afm xw≤afm kind∧afn kind≤afn xw)=v:=⟨_,rfl⟩
 have HV:=zqd hV
 clear hV
 have HF0:Hid (R=if V=true then none else some (2,at_)):=by show _=_;rw[HR.out,← HV.out];simp only[decide_eq_true_eq]
 obtain⟨w0,hw0,bA,bC,bR,hB0,hs0⟩:=afb w 60 #[.int .i64 kind,.string name,.slice jo ig ji,.slice qg gy l9] #[.int .i64 xw,.string dw,.slice jy jf jr,.slice oq iq jw]
 have HW0:=zqd hw0
 clear hw0
 go_enter Tryz.func80,Tryz.ntmps80
 go_wp2_with fail
 rw[← HW0.out]
 clear HW0
 have a0:w0.cell? ⟨w.heap.size,0,none⟩=some (.int .i64 kind):=bA.cell 0
 have z0:w0.cell? ⟨w.heap.size+1,0,none⟩=some (.int .i64 xw):=bC.cell 0
 refine(aee kind w0 (H1.out)).mono ?_
 rintro e wn ⟨rfl,hwn⟩
 subst hwn
 go_wp2_with fail
 refine(aee xw w0 (H2.out)).mono ?_
 rintro e wn ⟨rfl,hwn⟩
 subst hwn
 go_wp2_with fail
 refine(a4v kind xw w0 HV.out).mono ?_
 rintro e wn ⟨rfl,hwn⟩
 subst hwn
 cases V
 case true=>
  have HF:Hid (R=none):=HF0.out
  obtain⟨r0,r1,f0,f1⟩:=zr bR
  go_wp2_with fail
  obtain⟨n0,n1,nB⟩:=aaw bR hB0 (by omega) (0) (⟨#[]⟩)
  exact bodyPost_ret (v:=.tuple #[.agg #[.int .i64 0,.string {data:=#[]}],.bool false]) (by simp[results,Tryz.results80,go_sem,n0,n1]) rfl ⟨qc (by rw[HF.out];rfl) (by rw[HF.out];rfl) (by rw[HF.out];rfl),nB⟩
 case false=>
  have HF:Hid (R=some (2,at_)):=HF0.out
  go_wp2_with fail
  refine(aen 2 at_ _).mono ?_
  rintro e wz ⟨rfl,hbz⟩
  have hBz:=hB0.trans (hbz.mono (by omega))
  have bRz:=bR.step hbz
  have hsz:=hbz.size
  obtain⟨r0,r1,f0,f1⟩:=zr bRz
  go_wp2_with fail
  obtain⟨n0,n1,nB⟩:=aaw bRz hBz (by omega) (2) (at_)
  exact bodyPost_ret (v:=.tuple #[.agg #[.int .i64 2,.string at_],.bool true]) (by simp[results,Tryz.results80,go_sem,n0,n1]) rfl ⟨qc (by rw[HF.out];rfl) (by rw[HF.out];rfl) (by rw[HF.out];rfl),nB⟩
set_option maxHeartbeats 12800000 in
theorem a8w {rec:Ty→Ty→ByteArray→Why} {n M:Nat} (hM:M≤1000000) (hrec:agu 80 rec n M) {kind xw:Int} (hk:¬ kind=xw) (hn:(isNum kind && isNum xw)=false) {name dw at_:ByteArray} {labels eu:List ByteArray} {kids jk:List Ty} (hat:at_.size+32≤M) {B:Nat} {cs ds:List Value} {w:World} (hB:B≤w.heap.size) (hT:afg w) (hx:OkT (n+1) ⟨kind,name,labels,kids⟩) (hy:OkT (n+1) ⟨xw,dw,eu,jk⟩) (h:lq w B (Ty.pd ⟨kind,name,labels,kids⟩) cs) (k:lq w B (Ty.pd ⟨xw,dw,eu,jk⟩) ds):
  Calls Tryz.prog 80 #[.agg cs.toArray,.agg ds.toArray,.string at_] w fun e w'=>WQ (some (1,at_)) w e w':=by
 obtain⟨iw,qw,rfl,bf,gu⟩:=Ty.open_ h
 obtain⟨jo,ig,ji,rfl⟩:=bf.form
 have pz:=zqd bf
 clear bf
 obtain⟨qg,gy,l9,rfl⟩:=gu.form
 have qo:=zqd gu
 clear gu
 obtain⟨acd,ad9,rfl,gq,jg⟩:=Ty.open_ k
 obtain⟨jy,jf,jr,rfl⟩:=gq.form
 have yj:=zqd gq
 clear gq
 obtain⟨oq,iq,jw,rfl⟩:=jg.form
 have aah:=zqd jg
 clear jg
 clear h k
 obtain⟨R,hR⟩:∃ R:Why,R=some (1,at_):=⟨_,rfl⟩
 rw[← hR]
 have HR:=zqd hR
 clear hR
 have HF:Hid (R=some (1,at_)):=HR.out
 have hne:(kind ==xw)=false:=by simpa using hk
 have hne2:(kind != xw)=true:=by simpa using hk
 clear hk hx hy
 obtain⟨va,hva⟩:∃ v,isNum kind=v:=⟨_,rfl⟩
 obtain⟨vb,hvb⟩:∃ v,isNum xw=v:=⟨_,rfl⟩
 rw[hva,hvb] at hn
 have HVA:=zqd hva
 have HVB:=zqd hvb
 clear hva hvb
 cases va
 case false=>
  clear hn
  obtain⟨w0,hw0,bA,bC,bR,hB0,hs0⟩:=afb w 60 #[.int .i64 kind,.string name,.slice jo ig ji,.slice qg gy l9] #[.int .i64 xw,.string dw,.slice jy jf jr,.slice oq iq jw]
  have HW0:=zqd hw0
  clear hw0
  go_enter Tryz.func80,Tryz.ntmps80
  go_wp2_with fail
  rw[← HW0.out]
  clear HW0
  have a0:w0.cell? ⟨w.heap.size,0,none⟩=some (.int .i64 kind):=bA.cell 0
  have z0:w0.cell? ⟨w.heap.size+1,0,none⟩=some (.int .i64 xw):=bC.cell 0
  refine(aee kind w0 (HVA.out)).mono ?_
  rintro e wn ⟨rfl,hwn⟩
  subst hwn
  go_wp2_with fail
  refine(aen 1 at_ _).mono ?_
  rintro e wz ⟨rfl,hbz⟩
  have hBz:=hB0.trans (hbz.mono (by omega))
  have bRz:=bR.step hbz
  have hsz:=hbz.size
  obtain⟨r0,r1,f0,f1⟩:=zr bRz
  go_wp2_with fail
  obtain⟨n0,n1,nB⟩:=aaw bRz hBz (by omega) (1) (at_)
  exact bodyPost_ret (v:=.tuple #[.agg #[.int .i64 1,.string at_],.bool true]) (by simp[results,Tryz.results80,go_sem,n0,n1]) rfl ⟨qc (by rw[HF.out];rfl) (by rw[HF.out];rfl) (by rw[HF.out];rfl),nB⟩
 case true=>
  have hvb:vb=false:=by simpa using hn
  subst hvb
  clear hn
  obtain⟨w0,hw0,bA,bC,bR,hB0,hs0⟩:=afb w 60 #[.int .i64 kind,.string name,.slice jo ig ji,.slice qg gy l9] #[.int .i64 xw,.string dw,.slice jy jf jr,.slice oq iq jw]
  have HW0:=zqd hw0
  clear hw0
  go_enter Tryz.func80,Tryz.ntmps80
  go_wp2_with fail
  rw[← HW0.out]
  clear HW0
  have a0:w0.cell? ⟨w.heap.size,0,none⟩=some (.int .i64 kind):=bA.cell 0
  have z0:w0.cell? ⟨w.heap.size+1,0,none⟩=some (.int .i64 xw):=bC.cell 0
  refine(aee kind w0 (HVA.out)).mono ?_
  rintro e wn ⟨rfl,hwn⟩
  subst hwn
  go_wp2_with fail
  refine(aee xw w0 (HVB.out)).mono ?_
  rintro e wn ⟨rfl,hwn⟩
  subst hwn
  go_wp2_with fail
  refine(aen 1 at_ _).mono ?_
  rintro e wz ⟨rfl,hbz⟩
  have hBz:=hB0.trans (hbz.mono (by omega))
  have bRz:=bR.step hbz
  have hsz:=hbz.size
  obtain⟨r0,r1,f0,f1⟩:=zr bRz
  go_wp2_with fail
  obtain⟨n0,n1,nB⟩:=aaw bRz hBz (by omega) (1) (at_)
  exact bodyPost_ret (v:=.tuple #[.agg #[.int .i64 1,.string at_],.bool true]) (by simp[results,Tryz.results80,go_sem,n0,n1]) rfl ⟨qc (by rw[HF.out];rfl) (by rw[HF.out];rfl) (by rw[HF.out];rfl),nB⟩
theorem ax7:∀ n,n≤10→agu 80 (agf n) n (1000000 - 32 * n)
 | 0,_=>fun x y at_ B cs ds w hB hT hx=>absurd hx.1 (by have:=apx x;omega)
 | n+1,hn=>by
  have hrec:=ax7 n (by omega)
  have hM:1000000 - 32 * n≤1000000:=by omega
  intro x y at_ B cs ds w hB hT hx hy hat h k
  obtain⟨kind,name,labels,kids⟩:=x
  obtain⟨xw,dw,eu,jk⟩:=y
  have hat':at_.size+32≤1000000 - 32 * n:=by omega
  by_cases hk:kind=xw
  ·subst hk
   cases hnum:isNum kind
   ·rw[a3o hnum]
    by_cases h12:12≤kind∧kind≤23
    ·have hc:kind=12∨kind=13∨kind=14∨kind=15∨kind=16∨kind=17∨kind=18∨kind=19∨kind=20∨kind=21∨kind=22∨kind=23:=by omega
     rcases hc with rfl|rfl|rfl|rfl|rfl|rfl|rfl|rfl|rfl|rfl|rfl|rfl
     ·exact bed hM hrec hat' hB hT hx hy h k
     ·exact bee hM hrec hat' hB hT hx hy h k
     ·exact bef hM hrec hat' hB hT hx hy h k
     ·exact beo hM hrec hat' hB hT hx hy h k
     ·exact bep hM hrec hat' hB hT hx hy h k
     ·exact ber hM hrec hat' hB hT hx hy h k
     ·exact a0z hM hrec (.inl rfl) hat' hB hT hx hy h k
     ·exact a0z hM hrec (.inr rfl) hat' hB hT hx hy h k
     ·exact a00 hM hrec (.inl rfl) hat' hB hT hx hy h k
     ·exact a00 hM hrec (.inr rfl) hat' hB hT hx hy h k
     ·exact a01 hM hrec (.inl rfl) hat' hB hT hx hy h k
     ·exact a01 hM hrec (.inr rfl) hat' hB hT hx hy h k
    ·exact a8v hM hrec h12 hnum hat' hB hT hx hy h k
   ·rw[as5 hnum hnum];exact ax6 hM hrec hnum hnum hat' hB hT hx hy h k
  ·cases hn2:isNum kind && isNum xw
   ·rw[a3n hn2 hk];exact a8w hM hrec hk hn2 hat' hB hT hx hy h k
   ·rw[Bool.and_eq_true] at hn2;rw[as5 hn2.1 hn2.2];exact ax6 hM hrec hn2.1 hn2.2 hat' hB hT hx hy h k
end Go.Proofs.YtbafphecjijdmaaGreatDoor
