/-
  Why one type cannot stand for another: spec.l08Why (by program: gen_why.py).
-/
import Derived.Test.YtbafphecjijdmaaGreatDoorWa35
import Derived.Deep.RegionHeld3
namespace Go.Proofs.YtbafphecjijdmaaGreatDoor
open Go.RowKit
set_option linter.unusedVariables false
set_option linter.unusedSimpArgs false
set_option linter.unnecessarySimpa false
set_option maxRecDepth 16000
set_option maxHeartbeats 12800000 in
theorem a8l {rec:Ty→Ty→ByteArray→Why} {n M:Nat} (hM:M≤1000000) (hrec:af7 80 rec n M) {name dh at_:ByteArray} {labels dn:List ByteArray} {kids jf:List Ty} (hat:at_.size+32≤M) {B:Nat} {cs ds:List Value} {w:World} (hB:B≤w.heap.size) (hT:ae3 w) (hx:OkT (n+1) ⟨12,name,labels,kids⟩) (hy:OkT (n+1) ⟨12,dh,dn,jf⟩) (h:jy w B (Ty.pd ⟨12,name,labels,kids⟩) cs) (k:jy w B (Ty.pd ⟨12,dh,dn,jf⟩) ds):
  Calls Tryz.prog 80 #[.agg cs.toArray,.agg ds.toArray,.string at_] w fun e w'=>WQ (ad5 rec 12 name labels kids dh dn jf at_) w e w':=by
 have HHX:=Lib.hid hx
 have HHY:=Lib.hid hy
 obtain⟨iq,qp,rfl,bf,eu⟩:=Ty.open_ h
 obtain⟨jk,gy,je,rfl⟩:=bf.form
 have pq:=Lib.hid bf
 clear bf
 obtain⟨qc,gu,lu,rfl⟩:=eu.form
 have qm:=Lib.hid eu
 clear eu
 obtain⟨ab1,adt,rfl,dw,jd⟩:=Ty.open_ k
 obtain⟨jr,jc,jm,rfl⟩:=dw.form
 have xw:=Lib.hid dw
 clear dw
 obtain⟨ni,ig,jq,rfl⟩:=jd.form
 have zu:=Lib.hid jd
 clear jd
 clear h k
 have afl:=Lib.hid (aal hx)
 have afm:=Lib.hid (aal hy)
 have SX:=Lib.hid (shF hx.2)
 have SY:=Lib.hid (shF hy.2)
 clear hx hy
 have ad7:=Lib.hid hrec
 clear hrec
 obtain⟨R,hR⟩:∃ R:Why,R=ad5 rec 12 name labels kids dh dn jf at_:=⟨_,rfl⟩
 rw[← hR]
 have HR:=Lib.hid hR
 clear hR
 obtain⟨_,_,_,he,ab7,aed,adk⟩:=ny Ty.jw (by decide) qm.out
 injection he with e1 e2 e3
 subst e1 e2 e3
 unfold maxLen at aed
 have aax:=Lib.hid ab7
 clear ab7
 obtain⟨_,_,_,he,abe,adv,acv⟩:=ny Ty.jw (by decide) zu.out
 injection he with e1 e2 e3
 subst e1 e2 e3
 unfold maxLen at adv
 have aar:=Lib.hid abe
 clear abe
 have hkn:gu=1:=by have:=aho (by decide) SX.out.right;have:=aax.out;omega
 have hkz:ig=1:=by have:=aho (by decide) SY.out.right;have:=aar.out;omega
 have hpos:0 < gu:=by omega
 have ajz:0 < ig:=by omega
 have ara:(0:Int) < (gu:Int):=by omega
 have ao7:(0:Int) < (ig:Int):=by omega
 clear hkn hkz
 obtain⟨w0,hw0,bA,bC,bR,hB0,hs0⟩:=aeu w 60 #[.int .i64 12,.string name,.slice jk gy je,.slice qc gu lu] #[.int .i64 12,.string dh,.slice jr jc jm,.slice ni ig jq]
 have HW0:=Lib.hid hw0
 clear hw0
 go_enter Tryz.func80,Tryz.ntmps80
 go_wp2_with fail
 rw[← HW0.out]
 clear HW0
 have a0:w0.cell? ⟨w.heap.size,0,none⟩=some (.int .i64 12):=bA.cell 0
 have z0:w0.cell? ⟨w.heap.size+1,0,none⟩=some (.int .i64 12):=bC.cell 0
 refine(ady 12 w0 (by rfl)).mono ?_
 rintro e wn ⟨rfl,hwn⟩
 subst hwn
 have a3:w0.cell? ⟨w.heap.size,3,none⟩=some (.slice qc gu lu):=bA.cell 3
 have z3:w0.cell? ⟨w.heap.size+1,3,none⟩=some (.slice ni ig jq):=bC.cell 3
 obtain⟨g,off,rfl,aeg,acf⟩:=adk (by omega)
 obtain⟨x,adb,aco⟩:=xg aax.out hpos
 obtain⟨uf,qj,aaj,aby⟩:=x
 obtain⟨uh,zf,acw,acu,abo,acz,qy,yw⟩:=agm (k:=0) (a0:=off) (a1:=off+1) (a2:=off+2) (a3:=off+3) (hB0.mono (Nat.le_refl _)) aeg hB acf adb ⟨rfl,rfl,rfl,rfl⟩
 replace qy:=Lib.hid qy
 replace yw:=Lib.hid yw
 have agf:=Lib.hid adb
 have ag8:=Lib.hid aco
 clear adb aco
 obtain⟨g2,off2,rfl,adw,abw⟩:=acv (by omega)
 obtain⟨y,ade,acp⟩:=xg aar.out ajz
 obtain⟨qw,qh,aak,abz⟩:=y
 obtain⟨uz,aae,ac4,acy,abq,ac5,qo,yu⟩:=agm (k:=0) (a0:=off2) (a1:=off2+1) (a2:=off2+2) (a3:=off2+3) (hB0.mono (Nat.le_refl _)) adw hB abw ade ⟨rfl,rfl,rfl,rfl⟩
 replace qo:=Lib.hid qo
 replace yu:=Lib.hid yu
 have agh:=Lib.hid ade
 have ag9:=Lib.hid acp
 clear ade acp
 have akt:(9223372036854775807 < at_.size+(⟨#[91,93]⟩:ByteArray).size)=False:=eq_false (by have z_:(⟨#[91,93]⟩:ByteArray).size=2:=rfl;omega)
 have aku:(9223372036854775807 < at_.size+2)=False:=eq_false (by omega)
 obtain⟨p1,adl⟩:∃ p,at_ ++(⟨#[91,93]⟩:ByteArray)=p:=⟨_,rfl⟩
 have akv:p1.size≤at_.size+2:=by rw[← adl,ByteArray.size_append];have z_:(⟨#[91,93]⟩:ByteArray).size=2:=rfl;omega
 obtain⟨R2,hR2⟩:∃ r,rec ⟨uf,qj,aaj,aby⟩ ⟨qw,qh,aak,abz⟩ p1=r:=⟨_,rfl⟩
 have HC:=fun(V:World) (hV:Keep (w.heap.size+1+1) (w.heap.size+1+1+1) w0 V)=>ad7.out ⟨uf,qj,aaj,aby⟩ ⟨qw,qh,aak,abz⟩ p1 B [.int .i64 uf,.string qj,uh,zf] [.int .i64 qw,.string qh,uz,aae] V (Nat.le_trans (Nat.le_trans hB hB0.size) hV.size) (hT.below (hB0.trans (kb hV (by omega)))) (afl.out _ ag8.out) (afm.out _ ag9.out) (by omega) ((Ty.close_ qy.out yw.out).below (kb hV (by omega))) ((Ty.close_ qo.out yu.out).below (kb hV (by omega)))
 unfold WQ at HC
 rw[hR2] at HC
 obtain⟨RK,RS,RN,HRK,HRS,HRN⟩:=agn R2
 rw[HRK.out,HRS.out,HRN.out] at HC
 replace HC:=Lib.hid HC
 have HR2:=Lib.hid hR2
 clear hR2
 have HF:Hid (R=R2):=by show _=_;rw[HR.out,a5t,al8 agf.out agh.out,← HR2.out,← adl]
 have HS:Hid (∀ V,Keep (w.heap.size+1+1) (w.heap.size+1+1+1) w0 V→V.cell? ⟨w.heap.size,3,none⟩=some (.slice (some ⟨g,off,none⟩) gu lu)∧V.cell? ⟨w.heap.size+1,3,none⟩=some (.slice (some ⟨g2,off2,none⟩) ig jq)∧V.cell? ⟨g,off,none⟩=some (.int .i64 uf)∧V.cell? ⟨g,off+1,none⟩=some (.string qj)∧V.cell? ⟨g,off+2,none⟩=some (uh)∧V.cell? ⟨g,off+3,none⟩=some (zf)∧V.cell? ⟨g2,off2,none⟩=some (.int .i64 qw)∧V.cell? ⟨g2,off2+1,none⟩=some (.string qh)∧V.cell? ⟨g2,off2+2,none⟩=some (uz)∧V.cell? ⟨g2,off2+3,none⟩=some (aae)):=Lib.hid fun V hV=>⟨(hV.cell (p:=⟨w.heap.size,3,none⟩) (by simp only;omega) (by simp only;omega)).trans a3,(hV.cell (p:=⟨w.heap.size+1,3,none⟩) (by simp only;omega) (by simp only;omega)).trans z3,(hV.cell (p:=⟨g,off,none⟩) (by simp only;omega) (by simp only;omega)).trans acw,(hV.cell (p:=⟨g,off+1,none⟩) (by simp only;omega) (by simp only;omega)).trans acu,(hV.cell (p:=⟨g,off+2,none⟩) (by simp only;omega) (by simp only;omega)).trans abo,(hV.cell (p:=⟨g,off+3,none⟩) (by simp only;omega) (by simp only;omega)).trans acz,(hV.cell (p:=⟨g2,off2,none⟩) (by simp only;omega) (by simp only;omega)).trans ac4,(hV.cell (p:=⟨g2,off2+1,none⟩) (by simp only;omega) (by simp only;omega)).trans acy,(hV.cell (p:=⟨g2,off2+2,none⟩) (by simp only;omega) (by simp only;omega)).trans abq,(hV.cell (p:=⟨g2,off2+3,none⟩) (by simp only;omega) (by simp only;omega)).trans ac5⟩
 clear bA bC
 go_wp2_with fail
 go_region_held3 (fun w'=>w'.cell? ⟨w.heap.size,3,none⟩=some (.slice (some ⟨g,off,none⟩) gu lu)∧w'.cell? ⟨w.heap.size+1,3,none⟩=some (.slice (some ⟨g2,off2,none⟩) ig jq)∧w'.cell? ⟨g,off,none⟩=some (.int .i64 uf)∧w'.cell? ⟨g,off+1,none⟩=some (.string qj)∧w'.cell? ⟨g,off+2,none⟩=some (uh)∧w'.cell? ⟨g,off+3,none⟩=some (zf)∧w'.cell? ⟨g2,off2,none⟩=some (.int .i64 qw)∧w'.cell? ⟨g2,off2+1,none⟩=some (.string qh)∧w'.cell? ⟨g2,off2+2,none⟩=some (uz)∧w'.cell? ⟨g2,off2+3,none⟩=some (aae))
  (first|exact HS.out _ (by repeat(first|exact hq1|exact hq2|exact Keep.refl _ _ _|refine Keep.drew ?_|refine Keep.alloc ?_ _|refine Keep.setAt ?_ _ _|refine Keep.newAt ?_ (Nat.le_refl _) _ _|refine Keep.newAt ?_ aam.size _ _|refine Keep.newAt ?_ hbW.size _ _)))
  (first|(go_at_call 80;refine(HC.out _ (by repeat(first|exact hq1|exact hq2|exact Keep.refl _ _ _|refine Keep.drew ?_|refine Keep.alloc ?_ _|refine Keep.setAt ?_ _ _|refine Keep.newAt ?_ (Nat.le_refl _) _ _|refine Keep.newAt ?_ aam.size _ _|refine Keep.newAt ?_ hbW.size _ _))).mono ?_;rintro e wq ⟨rfl,hbq⟩;have hbW:=(Below.refl w0.heap.size w0).drew.trans hbq;have hq1:Keep (w.heap.size+1+1) (w.heap.size+1+1+1) w0 wq:=Keep.of_below hbW;have bRq:=bR.step hbW;have r0:wq.cell? ⟨w.heap.size+1+1,0,none⟩=some (.int .i64 0):=bRq.cell 0;have r1:wq.cell? ⟨w.heap.size+1+1,1,none⟩=some (.string {data:=#[]}):=bRq.cell 1;have f0:=bRq.frozen 0;have f1:=bRq.frozen 1))
 all_goals
  have hBq:=hB0.trans (hbW.mono (by omega))
  have hsq:=hbW.size
  try go_wp2_with fail
  obtain⟨n0,n1,nB⟩:=aaz bRq hBq (by omega) (RK) (RS)
  exact bodyPost_ret (v:=.tuple #[.agg #[.int .i64 RK,.string RS],.bool RN]) (by simp[results,Tryz.results80,go_sem,n0,n1]) rfl ⟨qx (by rw[HF.out,HRK.out]) (by rw[HF.out,HRS.out]) (by rw[HF.out,HRN.out]),nB⟩
set_option maxHeartbeats 12800000 in
theorem a8m {rec:Ty→Ty→ByteArray→Why} {n M:Nat} (hM:M≤1000000) (hrec:af7 80 rec n M) {name dh at_:ByteArray} {labels dn:List ByteArray} {kids jf:List Ty} (hat:at_.size+32≤M) {B:Nat} {cs ds:List Value} {w:World} (hB:B≤w.heap.size) (hT:ae3 w) (hx:OkT (n+1) ⟨13,name,labels,kids⟩) (hy:OkT (n+1) ⟨13,dh,dn,jf⟩) (h:jy w B (Ty.pd ⟨13,name,labels,kids⟩) cs) (k:jy w B (Ty.pd ⟨13,dh,dn,jf⟩) ds):
  Calls Tryz.prog 80 #[.agg cs.toArray,.agg ds.toArray,.string at_] w fun e w'=>WQ (ad5 rec 13 name labels kids dh dn jf at_) w e w':=by
 have HHX:=Lib.hid hx
 have HHY:=Lib.hid hy
 obtain⟨iq,qp,rfl,bf,eu⟩:=Ty.open_ h
 obtain⟨jk,gy,je,rfl⟩:=bf.form
 have pq:=Lib.hid bf
 clear bf
 obtain⟨qc,gu,lu,rfl⟩:=eu.form
 have qm:=Lib.hid eu
 clear eu
 obtain⟨ab1,adt,rfl,dw,jd⟩:=Ty.open_ k
 obtain⟨jr,jc,jm,rfl⟩:=dw.form
 have xw:=Lib.hid dw
 clear dw
 obtain⟨ni,ig,jq,rfl⟩:=jd.form
 have zu:=Lib.hid jd
 clear jd
 clear h k
 have afl:=Lib.hid (aal hx)
 have afm:=Lib.hid (aal hy)
 have SX:=Lib.hid (shF hx.2)
 have SY:=Lib.hid (shF hy.2)
 clear hx hy
 have ad7:=Lib.hid hrec
 clear hrec
 obtain⟨R,hR⟩:∃ R:Why,R=ad5 rec 13 name labels kids dh dn jf at_:=⟨_,rfl⟩
 rw[← hR]
 have HR:=Lib.hid hR
 clear hR
 obtain⟨_,_,_,he,ab7,aed,adk⟩:=ny Ty.jw (by decide) qm.out
 injection he with e1 e2 e3
 subst e1 e2 e3
 unfold maxLen at aed
 have aax:=Lib.hid ab7
 clear ab7
 obtain⟨_,_,_,he,abe,adv,acv⟩:=ny Ty.jw (by decide) zu.out
 injection he with e1 e2 e3
 subst e1 e2 e3
 unfold maxLen at adv
 have aar:=Lib.hid abe
 clear abe
 have hkn:gu=1:=by have:=aho (by decide) SX.out.right;have:=aax.out;omega
 have hkz:ig=1:=by have:=aho (by decide) SY.out.right;have:=aar.out;omega
 have hpos:0 < gu:=by omega
 have ajz:0 < ig:=by omega
 have ara:(0:Int) < (gu:Int):=by omega
 have ao7:(0:Int) < (ig:Int):=by omega
 clear hkn hkz
 obtain⟨w0,hw0,bA,bC,bR,hB0,hs0⟩:=aeu w 60 #[.int .i64 13,.string name,.slice jk gy je,.slice qc gu lu] #[.int .i64 13,.string dh,.slice jr jc jm,.slice ni ig jq]
 have HW0:=Lib.hid hw0
 clear hw0
 go_enter Tryz.func80,Tryz.ntmps80
 go_wp2_with fail
 rw[← HW0.out]
 clear HW0
 have a0:w0.cell? ⟨w.heap.size,0,none⟩=some (.int .i64 13):=bA.cell 0
 have z0:w0.cell? ⟨w.heap.size+1,0,none⟩=some (.int .i64 13):=bC.cell 0
 refine(ady 13 w0 (by rfl)).mono ?_
 rintro e wn ⟨rfl,hwn⟩
 subst hwn
 have a3:w0.cell? ⟨w.heap.size,3,none⟩=some (.slice qc gu lu):=bA.cell 3
 have z3:w0.cell? ⟨w.heap.size+1,3,none⟩=some (.slice ni ig jq):=bC.cell 3
 obtain⟨g,off,rfl,aeg,acf⟩:=adk (by omega)
 obtain⟨x,adb,aco⟩:=xg aax.out hpos
 obtain⟨uf,qj,aaj,aby⟩:=x
 obtain⟨uh,zf,acw,acu,abo,acz,qy,yw⟩:=agm (k:=0) (a0:=off) (a1:=off+1) (a2:=off+2) (a3:=off+3) (hB0.mono (Nat.le_refl _)) aeg hB acf adb ⟨rfl,rfl,rfl,rfl⟩
 replace qy:=Lib.hid qy
 replace yw:=Lib.hid yw
 have agf:=Lib.hid adb
 have ag8:=Lib.hid aco
 clear adb aco
 obtain⟨g2,off2,rfl,adw,abw⟩:=acv (by omega)
 obtain⟨y,ade,acp⟩:=xg aar.out ajz
 obtain⟨qw,qh,aak,abz⟩:=y
 obtain⟨uz,aae,ac4,acy,abq,ac5,qo,yu⟩:=agm (k:=0) (a0:=off2) (a1:=off2+1) (a2:=off2+2) (a3:=off2+3) (hB0.mono (Nat.le_refl _)) adw hB abw ade ⟨rfl,rfl,rfl,rfl⟩
 replace qo:=Lib.hid qo
 replace yu:=Lib.hid yu
 have agh:=Lib.hid ade
 have ag9:=Lib.hid acp
 clear ade acp
 have akt:(9223372036854775807 < at_.size+(⟨#[63]⟩:ByteArray).size)=False:=eq_false (by have z_:(⟨#[63]⟩:ByteArray).size=1:=rfl;omega)
 have aku:(9223372036854775807 < at_.size+1)=False:=eq_false (by omega)
 obtain⟨p1,adl⟩:∃ p,at_ ++(⟨#[63]⟩:ByteArray)=p:=⟨_,rfl⟩
 have akv:p1.size≤at_.size+1:=by rw[← adl,ByteArray.size_append];have z_:(⟨#[63]⟩:ByteArray).size=1:=rfl;omega
 obtain⟨R2,hR2⟩:∃ r,rec ⟨uf,qj,aaj,aby⟩ ⟨qw,qh,aak,abz⟩ p1=r:=⟨_,rfl⟩
 have HC:=fun(V:World) (hV:Keep (w.heap.size+1+1) (w.heap.size+1+1+1) w0 V)=>ad7.out ⟨uf,qj,aaj,aby⟩ ⟨qw,qh,aak,abz⟩ p1 B [.int .i64 uf,.string qj,uh,zf] [.int .i64 qw,.string qh,uz,aae] V (Nat.le_trans (Nat.le_trans hB hB0.size) hV.size) (hT.below (hB0.trans (kb hV (by omega)))) (afl.out _ ag8.out) (afm.out _ ag9.out) (by omega) ((Ty.close_ qy.out yw.out).below (kb hV (by omega))) ((Ty.close_ qo.out yu.out).below (kb hV (by omega)))
 unfold WQ at HC
 rw[hR2] at HC
 obtain⟨RK,RS,RN,HRK,HRS,HRN⟩:=agn R2
 rw[HRK.out,HRS.out,HRN.out] at HC
 replace HC:=Lib.hid HC
 have HR2:=Lib.hid hR2
 clear hR2
 have HF:Hid (R=R2):=by show _=_;rw[HR.out,a5u,al8 agf.out agh.out,← HR2.out,← adl]
 have HS:Hid (∀ V,Keep (w.heap.size+1+1) (w.heap.size+1+1+1) w0 V→V.cell? ⟨w.heap.size,3,none⟩=some (.slice (some ⟨g,off,none⟩) gu lu)∧V.cell? ⟨w.heap.size+1,3,none⟩=some (.slice (some ⟨g2,off2,none⟩) ig jq)∧V.cell? ⟨g,off,none⟩=some (.int .i64 uf)∧V.cell? ⟨g,off+1,none⟩=some (.string qj)∧V.cell? ⟨g,off+2,none⟩=some (uh)∧V.cell? ⟨g,off+3,none⟩=some (zf)∧V.cell? ⟨g2,off2,none⟩=some (.int .i64 qw)∧V.cell? ⟨g2,off2+1,none⟩=some (.string qh)∧V.cell? ⟨g2,off2+2,none⟩=some (uz)∧V.cell? ⟨g2,off2+3,none⟩=some (aae)):=Lib.hid fun V hV=>⟨(hV.cell (p:=⟨w.heap.size,3,none⟩) (by simp only;omega) (by simp only;omega)).trans a3,(hV.cell (p:=⟨w.heap.size+1,3,none⟩) (by simp only;omega) (by simp only;omega)).trans z3,(hV.cell (p:=⟨g,off,none⟩) (by simp only;omega) (by simp only;omega)).trans acw,(hV.cell (p:=⟨g,off+1,none⟩) (by simp only;omega) (by simp only;omega)).trans acu,(hV.cell (p:=⟨g,off+2,none⟩) (by simp only;omega) (by simp only;omega)).trans abo,(hV.cell (p:=⟨g,off+3,none⟩) (by simp only;omega) (by simp only;omega)).trans acz,(hV.cell (p:=⟨g2,off2,none⟩) (by simp only;omega) (by simp only;omega)).trans ac4,(hV.cell (p:=⟨g2,off2+1,none⟩) (by simp only;omega) (by simp only;omega)).trans acy,(hV.cell (p:=⟨g2,off2+2,none⟩) (by simp only;omega) (by simp only;omega)).trans abq,(hV.cell (p:=⟨g2,off2+3,none⟩) (by simp only;omega) (by simp only;omega)).trans ac5⟩
 clear bA bC
 go_wp2_with fail
 go_region_held3 (fun w'=>w'.cell? ⟨w.heap.size,3,none⟩=some (.slice (some ⟨g,off,none⟩) gu lu)∧w'.cell? ⟨w.heap.size+1,3,none⟩=some (.slice (some ⟨g2,off2,none⟩) ig jq)∧w'.cell? ⟨g,off,none⟩=some (.int .i64 uf)∧w'.cell? ⟨g,off+1,none⟩=some (.string qj)∧w'.cell? ⟨g,off+2,none⟩=some (uh)∧w'.cell? ⟨g,off+3,none⟩=some (zf)∧w'.cell? ⟨g2,off2,none⟩=some (.int .i64 qw)∧w'.cell? ⟨g2,off2+1,none⟩=some (.string qh)∧w'.cell? ⟨g2,off2+2,none⟩=some (uz)∧w'.cell? ⟨g2,off2+3,none⟩=some (aae))
  (first|exact HS.out _ (by repeat(first|exact hq1|exact hq2|exact Keep.refl _ _ _|refine Keep.drew ?_|refine Keep.alloc ?_ _|refine Keep.setAt ?_ _ _|refine Keep.newAt ?_ (Nat.le_refl _) _ _|refine Keep.newAt ?_ aam.size _ _|refine Keep.newAt ?_ hbW.size _ _)))
  (first|(go_at_call 80;refine(HC.out _ (by repeat(first|exact hq1|exact hq2|exact Keep.refl _ _ _|refine Keep.drew ?_|refine Keep.alloc ?_ _|refine Keep.setAt ?_ _ _|refine Keep.newAt ?_ (Nat.le_refl _) _ _|refine Keep.newAt ?_ aam.size _ _|refine Keep.newAt ?_ hbW.size _ _))).mono ?_;rintro e wq ⟨rfl,hbq⟩;have hbW:=(Below.refl w0.heap.size w0).drew.trans hbq;have hq1:Keep (w.heap.size+1+1) (w.heap.size+1+1+1) w0 wq:=Keep.of_below hbW;have bRq:=bR.step hbW;have r0:wq.cell? ⟨w.heap.size+1+1,0,none⟩=some (.int .i64 0):=bRq.cell 0;have r1:wq.cell? ⟨w.heap.size+1+1,1,none⟩=some (.string {data:=#[]}):=bRq.cell 1;have f0:=bRq.frozen 0;have f1:=bRq.frozen 1))
 all_goals
  have hBq:=hB0.trans (hbW.mono (by omega))
  have hsq:=hbW.size
  try go_wp2_with fail
  obtain⟨n0,n1,nB⟩:=aaz bRq hBq (by omega) (RK) (RS)
  exact bodyPost_ret (v:=.tuple #[.agg #[.int .i64 RK,.string RS],.bool RN]) (by simp[results,Tryz.results80,go_sem,n0,n1]) rfl ⟨qx (by rw[HF.out,HRK.out]) (by rw[HF.out,HRS.out]) (by rw[HF.out,HRN.out]),nB⟩
set_option maxHeartbeats 12800000 in
theorem a8n {rec:Ty→Ty→ByteArray→Why} {n M:Nat} (hM:M≤1000000) (hrec:af7 80 rec n M) {name dh at_:ByteArray} {labels dn:List ByteArray} {kids jf:List Ty} (hat:at_.size+32≤M) {B:Nat} {cs ds:List Value} {w:World} (hB:B≤w.heap.size) (hT:ae3 w) (hx:OkT (n+1) ⟨14,name,labels,kids⟩) (hy:OkT (n+1) ⟨14,dh,dn,jf⟩) (h:jy w B (Ty.pd ⟨14,name,labels,kids⟩) cs) (k:jy w B (Ty.pd ⟨14,dh,dn,jf⟩) ds):
  Calls Tryz.prog 80 #[.agg cs.toArray,.agg ds.toArray,.string at_] w fun e w'=>WQ (ad5 rec 14 name labels kids dh dn jf at_) w e w':=by
 have HHX:=Lib.hid hx
 have HHY:=Lib.hid hy
 obtain⟨iq,qp,rfl,bf,eu⟩:=Ty.open_ h
 obtain⟨jk,gy,je,rfl⟩:=bf.form
 have pq:=Lib.hid bf
 clear bf
 obtain⟨qc,gu,lu,rfl⟩:=eu.form
 have qm:=Lib.hid eu
 clear eu
 obtain⟨ab1,adt,rfl,dw,jd⟩:=Ty.open_ k
 obtain⟨jr,jc,jm,rfl⟩:=dw.form
 have xw:=Lib.hid dw
 clear dw
 obtain⟨ni,ig,jq,rfl⟩:=jd.form
 have zu:=Lib.hid jd
 clear jd
 clear h k
 have afl:=Lib.hid (aal hx)
 have afm:=Lib.hid (aal hy)
 have SX:=Lib.hid (shF hx.2)
 have SY:=Lib.hid (shF hy.2)
 clear hx hy
 have ad7:=Lib.hid hrec
 clear hrec
 obtain⟨R,hR⟩:∃ R:Why,R=ad5 rec 14 name labels kids dh dn jf at_:=⟨_,rfl⟩
 rw[← hR]
 have HR:=Lib.hid hR
 clear hR
 obtain⟨_,_,_,he,ab7,aed,adk⟩:=ny Ty.jw (by decide) qm.out
 injection he with e1 e2 e3
 subst e1 e2 e3
 unfold maxLen at aed
 have aax:=Lib.hid ab7
 clear ab7
 obtain⟨_,_,_,he,abe,adv,acv⟩:=ny Ty.jw (by decide) zu.out
 injection he with e1 e2 e3
 subst e1 e2 e3
 unfold maxLen at adv
 have aar:=Lib.hid abe
 clear abe
 have hkn:gu=2:=by have:=aq0 SX.out.right;have:=aax.out;omega
 have hkz:ig=2:=by have:=aq0 SY.out.right;have:=aar.out;omega
 have hpos:0 < gu:=by omega
 have ajz:0 < ig:=by omega
 have ara:(0:Int) < (gu:Int):=by omega
 have ao7:(0:Int) < (ig:Int):=by omega
 have a8o:1 < gu:=by omega
 have a2y:1 < ig:=by omega
 have bln:(1:Int) < (gu:Int):=by omega
 have bhy:(1:Int) < (ig:Int):=by omega
 clear hkn hkz
 obtain⟨w0,hw0,bA,bC,bR,hB0,hs0⟩:=aeu w 60 #[.int .i64 14,.string name,.slice jk gy je,.slice qc gu lu] #[.int .i64 14,.string dh,.slice jr jc jm,.slice ni ig jq]
 have HW0:=Lib.hid hw0
 clear hw0
 go_enter Tryz.func80,Tryz.ntmps80
 go_wp2_with fail
 rw[← HW0.out]
 clear HW0
 have a0:w0.cell? ⟨w.heap.size,0,none⟩=some (.int .i64 14):=bA.cell 0
 have z0:w0.cell? ⟨w.heap.size+1,0,none⟩=some (.int .i64 14):=bC.cell 0
 refine(ady 14 w0 (by rfl)).mono ?_
 rintro e wn ⟨rfl,hwn⟩
 subst hwn
 have a3:w0.cell? ⟨w.heap.size,3,none⟩=some (.slice qc gu lu):=bA.cell 3
 have z3:w0.cell? ⟨w.heap.size+1,3,none⟩=some (.slice ni ig jq):=bC.cell 3
 obtain⟨g,off,rfl,aeg,acf⟩:=adk (by omega)
 obtain⟨x,adb,aco⟩:=xg aax.out hpos
 obtain⟨uf,qj,aaj,aby⟩:=x
 obtain⟨uh,zf,acw,acu,abo,acz,qy,yw⟩:=agm (k:=0) (a0:=off) (a1:=off+1) (a2:=off+2) (a3:=off+3) (hB0.mono (Nat.le_refl _)) aeg hB acf adb ⟨rfl,rfl,rfl,rfl⟩
 replace qy:=Lib.hid qy
 replace yw:=Lib.hid yw
 have agf:=Lib.hid adb
 have ag8:=Lib.hid aco
 clear adb aco
 obtain⟨g2,off2,rfl,adw,abw⟩:=acv (by omega)
 obtain⟨y,ade,acp⟩:=xg aar.out ajz
 obtain⟨qw,qh,aak,abz⟩:=y
 obtain⟨uz,aae,ac4,acy,abq,ac5,qo,yu⟩:=agm (k:=0) (a0:=off2) (a1:=off2+1) (a2:=off2+2) (a3:=off2+3) (hB0.mono (Nat.le_refl _)) adw hB abw ade ⟨rfl,rfl,rfl,rfl⟩
 replace qo:=Lib.hid qo
 replace yu:=Lib.hid yu
 have agh:=Lib.hid ade
 have ag9:=Lib.hid acp
 clear ade acp
 have akt:(9223372036854775807 < at_.size+(⟨#[46,111,107]⟩:ByteArray).size)=False:=eq_false (by have z_:(⟨#[46,111,107]⟩:ByteArray).size=3:=rfl;omega)
 have aku:(9223372036854775807 < at_.size+3)=False:=eq_false (by omega)
 obtain⟨p1,adl⟩:∃ p,at_ ++(⟨#[46,111,107]⟩:ByteArray)=p:=⟨_,rfl⟩
 have akv:p1.size≤at_.size+3:=by rw[← adl,ByteArray.size_append];have z_:(⟨#[46,111,107]⟩:ByteArray).size=3:=rfl;omega
 have apq:(9223372036854775807 < at_.size+(⟨#[46,101,114,114]⟩:ByteArray).size)=False:=eq_false (by have z_:(⟨#[46,101,114,114]⟩:ByteArray).size=4:=rfl;omega)
 have bpw:(9223372036854775807 < at_.size+4)=False:=eq_false (by omega)
 obtain⟨p2,agb⟩:∃ p,at_ ++(⟨#[46,101,114,114]⟩:ByteArray)=p:=⟨_,rfl⟩
 have apr:p2.size≤at_.size+4:=by rw[← agb,ByteArray.size_append];have z_:(⟨#[46,101,114,114]⟩:ByteArray).size=4:=rfl;omega
 obtain⟨R2,hR2⟩:∃ r,rec ⟨uf,qj,aaj,aby⟩ ⟨qw,qh,aak,abz⟩ p1=r:=⟨_,rfl⟩
 have HC:=fun(V:World) (hV:Keep (w.heap.size+1+1) (w.heap.size+1+1+1) w0 V)=>ad7.out ⟨uf,qj,aaj,aby⟩ ⟨qw,qh,aak,abz⟩ p1 B [.int .i64 uf,.string qj,uh,zf] [.int .i64 qw,.string qh,uz,aae] V (Nat.le_trans (Nat.le_trans hB hB0.size) hV.size) (hT.below (hB0.trans (kb hV (by omega)))) (afl.out _ ag8.out) (afm.out _ ag9.out) (by omega) ((Ty.close_ qy.out yw.out).below (kb hV (by omega))) ((Ty.close_ qo.out yu.out).below (kb hV (by omega)))
 unfold WQ at HC
 rw[hR2] at HC
 obtain⟨RK,RS,RN,HRK,HRS,HRN⟩:=agn R2
 rw[HRK.out,HRS.out,HRN.out] at HC
 replace HC:=Lib.hid HC
 have HR2:=Lib.hid hR2
 clear hR2
 have HK1:Hid (amn rec p1 kids jf 0=R2):=by show _=_;rw[al8 agf.out agh.out,← HR2.out]
 have HS:Hid (∀ V,Keep (w.heap.size+1+1) (w.heap.size+1+1+1) w0 V→V.cell? ⟨w.heap.size,3,none⟩=some (.slice (some ⟨g,off,none⟩) gu lu)∧V.cell? ⟨w.heap.size+1,3,none⟩=some (.slice (some ⟨g2,off2,none⟩) ig jq)∧V.cell? ⟨g,off,none⟩=some (.int .i64 uf)∧V.cell? ⟨g,off+1,none⟩=some (.string qj)∧V.cell? ⟨g,off+2,none⟩=some (uh)∧V.cell? ⟨g,off+3,none⟩=some (zf)∧V.cell? ⟨g2,off2,none⟩=some (.int .i64 qw)∧V.cell? ⟨g2,off2+1,none⟩=some (.string qh)∧V.cell? ⟨g2,off2+2,none⟩=some (uz)∧V.cell? ⟨g2,off2+3,none⟩=some (aae)):=Lib.hid fun V hV=>⟨(hV.cell (p:=⟨w.heap.size,3,none⟩) (by simp only;omega) (by simp only;omega)).trans a3,(hV.cell (p:=⟨w.heap.size+1,3,none⟩) (by simp only;omega) (by simp only;omega)).trans z3,(hV.cell (p:=⟨g,off,none⟩) (by simp only;omega) (by simp only;omega)).trans acw,(hV.cell (p:=⟨g,off+1,none⟩) (by simp only;omega) (by simp only;omega)).trans acu,(hV.cell (p:=⟨g,off+2,none⟩) (by simp only;omega) (by simp only;omega)).trans abo,(hV.cell (p:=⟨g,off+3,none⟩) (by simp only;omega) (by simp only;omega)).trans acz,(hV.cell (p:=⟨g2,off2,none⟩) (by simp only;omega) (by simp only;omega)).trans ac4,(hV.cell (p:=⟨g2,off2+1,none⟩) (by simp only;omega) (by simp only;omega)).trans acy,(hV.cell (p:=⟨g2,off2+2,none⟩) (by simp only;omega) (by simp only;omega)).trans abq,(hV.cell (p:=⟨g2,off2+3,none⟩) (by simp only;omega) (by simp only;omega)).trans ac5⟩
 go_wp2_with fail
 go_region_held3 (fun w'=>w'.cell? ⟨w.heap.size,3,none⟩=some (.slice (some ⟨g,off,none⟩) gu lu)∧w'.cell? ⟨w.heap.size+1,3,none⟩=some (.slice (some ⟨g2,off2,none⟩) ig jq)∧w'.cell? ⟨g,off,none⟩=some (.int .i64 uf)∧w'.cell? ⟨g,off+1,none⟩=some (.string qj)∧w'.cell? ⟨g,off+2,none⟩=some (uh)∧w'.cell? ⟨g,off+3,none⟩=some (zf)∧w'.cell? ⟨g2,off2,none⟩=some (.int .i64 qw)∧w'.cell? ⟨g2,off2+1,none⟩=some (.string qh)∧w'.cell? ⟨g2,off2+2,none⟩=some (uz)∧w'.cell? ⟨g2,off2+3,none⟩=some (aae))
  (first|exact HS.out _ (by repeat(first|exact hq1|exact hq2|exact Keep.refl _ _ _|refine Keep.drew ?_|refine Keep.alloc ?_ _|refine Keep.setAt ?_ _ _|refine Keep.newAt ?_ (Nat.le_refl _) _ _|refine Keep.newAt ?_ aam.size _ _|refine Keep.newAt ?_ hbW.size _ _)))
  (first|(go_at_call 80;refine(HC.out _ (by repeat(first|exact hq1|exact hq2|exact Keep.refl _ _ _|refine Keep.drew ?_|refine Keep.alloc ?_ _|refine Keep.setAt ?_ _ _|refine Keep.newAt ?_ (Nat.le_refl _) _ _|refine Keep.newAt ?_ aam.size _ _|refine Keep.newAt ?_ hbW.size _ _))).mono ?_;rintro e wq ⟨rfl,hbq⟩;have hbW:Below w0.heap.size w0 wq:=(by first|exact(Below.refl _ _).drew.trans hbq|exact((Below.refl _ _).drew.alloc (Nat.le_refl _) _).trans (hbq.mono (by simp)));have hq2:Keep (w.heap.size+1+1) (w.heap.size+1+1+1) w0 wq:=Keep.of_below hbW;(first|(have bP:Blk wq w0.heap.size 34 #[.int .i64 0,.string {data:=#[]}]:=(Blk.new w0.drew _ _).step hbq;have p0:wq.cell? ⟨w0.heap.size,0,none⟩=some (.int .i64 0):=bP.cell 0;have p1:wq.cell? ⟨w0.heap.size,1,none⟩=some (.string {data:=#[]}):=bP.cell 1;have g0:wq.frozen? ⟨w0.heap.size,0,none⟩=false:=bP.frozen 0;have g1:wq.frozen? ⟨w0.heap.size,1,none⟩=false:=bP.frozen 1)|skip)))
 all_goals
  first
   | (obtain⟨w6,hw6⟩:∃ V,V=wq.alloc (.cells #[.int .i64 RK,.string RS] 34):=⟨_,rfl⟩;rw[← hw6];have bX:Blk w6 wq.heap.size 34 #[.int .i64 RK,.string RS]:=(by rw[hw6];exact Blk.new wq _ _);have hb6:Below w0.heap.size w0 w6:=(by rw[hw6];exact hbW.alloc hbW.size _);obtain⟨rx,hrx⟩:∃ r,r=wq.heap.size:=⟨_,rfl⟩;have ah0:w0.heap.size≤rx:=(by rw[hrx];exact hbW.size);rw[← hrx] at bX ⊢;clear hw6 hrx)
   | (obtain⟨w6,hw6⟩:∃ V,V=(wq.setCell ⟨w0.heap.size,0,none⟩ (.int .i64 RK)).setCell ⟨w0.heap.size,1,none⟩ (.string RS):=⟨_,rfl⟩;rw[← hw6];have bX:Blk w6 (w0.heap.size) 34 #[.int .i64 RK,.string RS]:=(by rw[hw6];have:=(bP.abf 0 (.int .i64 RK)).abf 1 (.string RS);simpa using this);have hb6:Below w0.heap.size w0 w6:=(by rw[hw6];exact(hbW.setCell (p:=⟨w0.heap.size,0,none⟩) (by first|exact Nat.le_refl _|exact aam.size|exact hbW.size) _).setCell (p:=⟨w0.heap.size,1,none⟩) (by first|exact Nat.le_refl _|exact aam.size|exact hbW.size) _);obtain⟨rx,hrx⟩:∃ r,r=w0.heap.size:=⟨_,rfl⟩;have ah0:w0.heap.size≤rx:=(by rw[hrx];first|exact Nat.le_refl _|exact hbW.size|exact aam.size);rw[← hrx] at bX ⊢;clear hw6 hrx)
  have hB6:=hB0.trans (hb6.mono (by omega))
  have bR6:=bR.step hb6
  have hs6:=hb6.size
  cases RN
  case true=>
   have HF:Hid (R=some (RK,RS)):=by show _=_;rw[HR.out,aui,adl,HK1.out,agy HRN.out,HRK.out,HRS.out]
   obtain⟨q0,q1⟩:=rq bX
   obtain⟨r0,r1,f0,f1⟩:=zr bR6
   go_wp2_with fail
   obtain⟨n0,n1,nB⟩:=aaz bR6 hB6 (by omega) (RK) (RS)
   exact bodyPost_ret (v:=.tuple #[.agg #[.int .i64 RK,.string RS],.bool true]) (by simp[results,Tryz.results80,go_sem,n0,n1]) rfl ⟨qx (by rw[HF.out];rfl) (by rw[HF.out];rfl) (by rw[HF.out];rfl),nB⟩
  case false=>
   have HF1:Hid (R=amn rec p2 kids jf 1):=by show _=_;rw[HR.out,aui,adl,HK1.out,agx HRN.out,agb]
   clear a3 z3 HS HC HRK HRS HRN HR2
   have bA6:=bA.step hb6
   have bC6:=bC.step hb6
   have a3:w6.cell? ⟨w.heap.size,3,none⟩=some (.slice (some ⟨g,off,none⟩) gu lu):=bA6.cell 3
   have z3:w6.cell? ⟨w.heap.size+1,3,none⟩=some (.slice (some ⟨g2,off2,none⟩) ig jq):=bC6.cell 3
   clear bA bC
   have a8p:=afl
   have a8q:=afm
   obtain⟨x1,arb,aqg⟩:=xg aax.out a8o
   obtain⟨ajf,ajg,an4,aqh⟩:=x1
   obtain⟨aj0,al0,ati,atj,aps,atl,ai1,akz⟩:=agm (k:=1) (a0:=off+4) (a1:=off+5) (a2:=off+6) (a3:=off+7) (hB6.mono (Nat.le_refl _)) aeg hB acf arb ⟨rfl,rfl,rfl,rfl⟩
   replace ai1:=Lib.hid ai1
   replace akz:=Lib.hid akz
   have a8r:=Lib.hid arb
   have a8s:=Lib.hid aqg
   clear arb aqg
   obtain⟨y1,ard,aqi⟩:=xg aar.out a2y
   obtain⟨ajh,aji,an5,aqj⟩:=y1
   obtain⟨aj1,al1,atm,atn,apt,ato,ai2,ak0⟩:=agm (k:=1) (a0:=off2+4) (a1:=off2+5) (a2:=off2+6) (a3:=off2+7) (hB6.mono (Nat.le_refl _)) adw hB abw ard ⟨rfl,rfl,rfl,rfl⟩
   replace ai2:=Lib.hid ai2
   replace ak0:=Lib.hid ak0
   have a8t:=Lib.hid ard
   have a8u:=Lib.hid aqi
   clear ard aqi
   obtain⟨R2,hR2⟩:∃ r,rec ⟨ajf,ajg,an4,aqh⟩ ⟨ajh,aji,an5,aqj⟩ p2=r:=⟨_,rfl⟩
   have HC:=fun(V:World) (hV:Keep (w.heap.size+1+1) (w.heap.size+1+1+1) w6 V)=>ad7.out ⟨ajf,ajg,an4,aqh⟩ ⟨ajh,aji,an5,aqj⟩ p2 B [.int .i64 ajf,.string ajg,aj0,al0] [.int .i64 ajh,.string aji,aj1,al1] V (Nat.le_trans (Nat.le_trans hB hB6.size) hV.size) (hT.below (hB6.trans (kb hV (by omega)))) (a8p.out _ a8s.out) (a8q.out _ a8u.out) (by omega) ((Ty.close_ ai1.out akz.out).below (kb hV (by omega))) ((Ty.close_ ai2.out ak0.out).below (kb hV (by omega)))
   unfold WQ at HC
   rw[hR2] at HC
   obtain⟨RK,RS,RN,HRK,HRS,HRN⟩:=agn R2
   rw[HRK.out,HRS.out,HRN.out] at HC
   replace HC:=Lib.hid HC
   have HR2:=Lib.hid hR2
   clear hR2
   have HF:Hid (R=R2):=by show _=_;rw[HF1.out,al8 a8r.out a8t.out,← HR2.out]
   have HS:Hid (∀ V,Keep (w.heap.size+1+1) (w.heap.size+1+1+1) w6 V→V.cell? ⟨w.heap.size,3,none⟩=some (.slice (some ⟨g,off,none⟩) gu lu)∧V.cell? ⟨w.heap.size+1,3,none⟩=some (.slice (some ⟨g2,off2,none⟩) ig jq)∧V.cell? ⟨g,off+4,none⟩=some (.int .i64 ajf)∧V.cell? ⟨g,off+5,none⟩=some (.string ajg)∧V.cell? ⟨g,off+6,none⟩=some (aj0)∧V.cell? ⟨g,off+7,none⟩=some (al0)∧V.cell? ⟨g2,off2+4,none⟩=some (.int .i64 ajh)∧V.cell? ⟨g2,off2+5,none⟩=some (.string aji)∧V.cell? ⟨g2,off2+6,none⟩=some (aj1)∧V.cell? ⟨g2,off2+7,none⟩=some (al1)):=Lib.hid fun V hV=>⟨(hV.cell (p:=⟨w.heap.size,3,none⟩) (by simp only;omega) (by simp only;omega)).trans a3,(hV.cell (p:=⟨w.heap.size+1,3,none⟩) (by simp only;omega) (by simp only;omega)).trans z3,(hV.cell (p:=⟨g,off+4,none⟩) (by simp only;omega) (by simp only;omega)).trans ati,(hV.cell (p:=⟨g,off+5,none⟩) (by simp only;omega) (by simp only;omega)).trans atj,(hV.cell (p:=⟨g,off+6,none⟩) (by simp only;omega) (by simp only;omega)).trans aps,(hV.cell (p:=⟨g,off+7,none⟩) (by simp only;omega) (by simp only;omega)).trans atl,(hV.cell (p:=⟨g2,off2+4,none⟩) (by simp only;omega) (by simp only;omega)).trans atm,(hV.cell (p:=⟨g2,off2+5,none⟩) (by simp only;omega) (by simp only;omega)).trans atn,(hV.cell (p:=⟨g2,off2+6,none⟩) (by simp only;omega) (by simp only;omega)).trans apt,(hV.cell (p:=⟨g2,off2+7,none⟩) (by simp only;omega) (by simp only;omega)).trans ato⟩
   clear bA6 bC6
   go_wp2_with fail
   go_region_held3 (fun w'=>w'.cell? ⟨w.heap.size,3,none⟩=some (.slice (some ⟨g,off,none⟩) gu lu)∧w'.cell? ⟨w.heap.size+1,3,none⟩=some (.slice (some ⟨g2,off2,none⟩) ig jq)∧w'.cell? ⟨g,off+4,none⟩=some (.int .i64 ajf)∧w'.cell? ⟨g,off+5,none⟩=some (.string ajg)∧w'.cell? ⟨g,off+6,none⟩=some (aj0)∧w'.cell? ⟨g,off+7,none⟩=some (al0)∧w'.cell? ⟨g2,off2+4,none⟩=some (.int .i64 ajh)∧w'.cell? ⟨g2,off2+5,none⟩=some (.string aji)∧w'.cell? ⟨g2,off2+6,none⟩=some (aj1)∧w'.cell? ⟨g2,off2+7,none⟩=some (al1))
    (first|exact HS.out _ (by repeat(first|exact hq1|exact hq2|exact Keep.refl _ _ _|refine Keep.drew ?_|refine Keep.alloc ?_ _|refine Keep.setAt ?_ _ _|refine Keep.newAt ?_ (Nat.le_refl _) _ _|refine Keep.newAt ?_ aam.size _ _|refine Keep.newAt ?_ hbW.size _ _)))
    (first|(go_at_call 80;refine(HC.out _ (by repeat(first|exact hq1|exact hq2|exact Keep.refl _ _ _|refine Keep.drew ?_|refine Keep.alloc ?_ _|refine Keep.setAt ?_ _ _|refine Keep.newAt ?_ (Nat.le_refl _) _ _|refine Keep.newAt ?_ aam.size _ _|refine Keep.newAt ?_ hbW.size _ _))).mono ?_;rintro e wq ⟨rfl,hbq⟩;have hbW:=(Below.refl w6.heap.size w6).drew.trans hbq;have hq1:Keep (w.heap.size+1+1) (w.heap.size+1+1+1) w6 wq:=Keep.of_below hbW;have bRq:=bR6.step hbW;have r0:wq.cell? ⟨w.heap.size+1+1,0,none⟩=some (.int .i64 0):=bRq.cell 0;have r1:wq.cell? ⟨w.heap.size+1+1,1,none⟩=some (.string {data:=#[]}):=bRq.cell 1;have f0:=bRq.frozen 0;have f1:=bRq.frozen 1))
   all_goals
    have hBq:=hB6.trans (hbW.mono (by omega))
    have hsq:=hbW.size
    try go_wp2_with fail
    obtain⟨n0,n1,nB⟩:=aaz bRq hBq (by omega) (RK) (RS)
    exact bodyPost_ret (v:=.tuple #[.agg #[.int .i64 RK,.string RS],.bool RN]) (by simp[results,Tryz.results80,go_sem,n0,n1]) rfl ⟨qx (by rw[HF.out,HRK.out]) (by rw[HF.out,HRS.out]) (by rw[HF.out,HRN.out]),nB⟩
set_option maxHeartbeats 12800000 in
theorem a8v {rec:Ty→Ty→ByteArray→Why} {n M:Nat} (hM:M≤1000000) (hrec:af7 80 rec n M) {name dh at_:ByteArray} {labels dn:List ByteArray} {kids jf:List Ty} (hat:at_.size+32≤M) {B:Nat} {cs ds:List Value} {w:World} (hB:B≤w.heap.size) (hT:ae3 w) (hx:OkT (n+1) ⟨15,name,labels,kids⟩) (hy:OkT (n+1) ⟨15,dh,dn,jf⟩) (h:jy w B (Ty.pd ⟨15,name,labels,kids⟩) cs) (k:jy w B (Ty.pd ⟨15,dh,dn,jf⟩) ds):
  Calls Tryz.prog 80 #[.agg cs.toArray,.agg ds.toArray,.string at_] w fun e w'=>WQ (ad5 rec 15 name labels kids dh dn jf at_) w e w':=by
 have HHX:=Lib.hid hx
 have HHY:=Lib.hid hy
 obtain⟨iq,qp,rfl,bf,eu⟩:=Ty.open_ h
 obtain⟨jk,gy,je,rfl⟩:=bf.form
 have pq:=Lib.hid bf
 clear bf
 obtain⟨qc,gu,lu,rfl⟩:=eu.form
 have qm:=Lib.hid eu
 clear eu
 obtain⟨ab1,adt,rfl,dw,jd⟩:=Ty.open_ k
 obtain⟨jr,jc,jm,rfl⟩:=dw.form
 have xw:=Lib.hid dw
 clear dw
 obtain⟨ni,ig,jq,rfl⟩:=jd.form
 have zu:=Lib.hid jd
 clear jd
 clear h k
 have afl:=Lib.hid (aal hx)
 have afm:=Lib.hid (aal hy)
 have SX:=Lib.hid (shF hx.2)
 have SY:=Lib.hid (shF hy.2)
 clear hx hy
 have ad7:=Lib.hid hrec
 clear hrec
 obtain⟨R,hR⟩:∃ R:Why,R=ad5 rec 15 name labels kids dh dn jf at_:=⟨_,rfl⟩
 rw[← hR]
 have HR:=Lib.hid hR
 clear hR
 obtain⟨w0,hw0,bA,bC,bR,hB0,hs0⟩:=aeu w 60 #[.int .i64 15,.string name,.slice jk gy je,.slice qc gu lu] #[.int .i64 15,.string dh,.slice jr jc jm,.slice ni ig jq]
 have HW0:=Lib.hid hw0
 clear hw0
 go_enter Tryz.func80,Tryz.ntmps80
 go_wp2_with fail
 rw[← HW0.out]
 clear HW0
 have a0:w0.cell? ⟨w.heap.size,0,none⟩=some (.int .i64 15):=bA.cell 0
 have z0:w0.cell? ⟨w.heap.size+1,0,none⟩=some (.int .i64 15):=bC.cell 0
 refine(ady 15 w0 (by rfl)).mono ?_
 rintro e wn ⟨rfl,hwn⟩
 subst hwn
 have a1:w0.cell? ⟨w.heap.size,1,none⟩=some (.string name):=bA.cell 1
 have a2:w0.cell? ⟨w.heap.size,2,none⟩=some (.slice jk gy je):=bA.cell 2
 have a3:w0.cell? ⟨w.heap.size,3,none⟩=some (.slice qc gu lu):=bA.cell 3
 have z1:w0.cell? ⟨w.heap.size+1,1,none⟩=some (.string dh):=bC.cell 1
 have z2:w0.cell? ⟨w.heap.size+1,2,none⟩=some (.slice jr jc jm):=bC.cell 2
 have z3:w0.cell? ⟨w.heap.size+1,3,none⟩=some (.slice ni ig jq):=bC.cell 3
 have HCW:=a0d hM ad7.out (at_:=at_) hat (B:=B) (cs:=[.int .i64 15,.string name,.slice jk gy je,.slice qc gu lu]) (ds:=[.int .i64 15,.string dh,.slice jr jc jm,.slice ni ig jq]) (w:=w0) (Nat.le_trans hB hB0.size) (hT.below hB0) HHX.out HHY.out (Ty.close_ (pq.out.below (hB0.mono hB)) (qm.out.below (hB0.mono hB))) (Ty.close_ (xw.out.below (hB0.mono hB)) (zu.out.below (hB0.mono hB)))
 obtain⟨R2,hR2⟩:∃ r,aow rec at_ kids jf=r:=⟨_,rfl⟩
 unfold WQ at HCW
 rw[hR2] at HCW
 obtain⟨RK,RS,RN,HRK,HRS,HRN⟩:=agn R2
 rw[HRK.out,HRS.out,HRN.out] at HCW
 replace HCW:=Lib.hid HCW
 have HF:Hid (R=R2):=by show _=_;rw[HR.out,← hR2];exact a5v
 clear hR2
 go_wp2_with fail
 refine HCW.out.mono ?_
 rintro e wq ⟨rfl,hbq⟩
 have hBq:=hB0.trans (hbq.mono (by omega))
 have hsq:=hbq.size
 have bRq:=bR.step hbq
 obtain⟨r0,r1,f0,f1⟩:=zr bRq
 go_wp2_with fail
 obtain⟨n0,n1,nB⟩:=aaz bRq hBq (by omega) (RK) (RS)
 exact bodyPost_ret (v:=.tuple #[.agg #[.int .i64 RK,.string RS],.bool RN]) (by simp[results,Tryz.results80,go_sem,n0,n1]) rfl ⟨qx (by rw[HF.out,HRK.out]) (by rw[HF.out,HRS.out]) (by rw[HF.out,HRN.out]),nB⟩
set_option maxHeartbeats 12800000 in
theorem a8w {rec:Ty→Ty→ByteArray→Why} {n M:Nat} (hM:M≤1000000) (hrec:af7 80 rec n M) {name dh at_:ByteArray} {labels dn:List ByteArray} {kids jf:List Ty} (hat:at_.size+32≤M) {B:Nat} {cs ds:List Value} {w:World} (hB:B≤w.heap.size) (hT:ae3 w) (hx:OkT (n+1) ⟨16,name,labels,kids⟩) (hy:OkT (n+1) ⟨16,dh,dn,jf⟩) (h:jy w B (Ty.pd ⟨16,name,labels,kids⟩) cs) (k:jy w B (Ty.pd ⟨16,dh,dn,jf⟩) ds):
  Calls Tryz.prog 80 #[.agg cs.toArray,.agg ds.toArray,.string at_] w fun e w'=>WQ (ad5 rec 16 name labels kids dh dn jf at_) w e w':=by
 have HHX:=Lib.hid hx
 have HHY:=Lib.hid hy
 obtain⟨iq,qp,rfl,bf,eu⟩:=Ty.open_ h
 obtain⟨jk,gy,je,rfl⟩:=bf.form
 have pq:=Lib.hid bf
 clear bf
 obtain⟨qc,gu,lu,rfl⟩:=eu.form
 have qm:=Lib.hid eu
 clear eu
 obtain⟨ab1,adt,rfl,dw,jd⟩:=Ty.open_ k
 obtain⟨jr,jc,jm,rfl⟩:=dw.form
 have xw:=Lib.hid dw
 clear dw
 obtain⟨ni,ig,jq,rfl⟩:=jd.form
 have zu:=Lib.hid jd
 clear jd
 clear h k
 have afl:=Lib.hid (aal hx)
 have afm:=Lib.hid (aal hy)
 have SX:=Lib.hid (shF hx.2)
 have SY:=Lib.hid (shF hy.2)
 clear hx hy
 have ad7:=Lib.hid hrec
 clear hrec
 obtain⟨R,hR⟩:∃ R:Why,R=ad5 rec 16 name labels kids dh dn jf at_:=⟨_,rfl⟩
 rw[← hR]
 have HR:=Lib.hid hR
 clear hR
 obtain⟨w0,hw0,bA,bC,bR,hB0,hs0⟩:=aeu w 60 #[.int .i64 16,.string name,.slice jk gy je,.slice qc gu lu] #[.int .i64 16,.string dh,.slice jr jc jm,.slice ni ig jq]
 have HW0:=Lib.hid hw0
 clear hw0
 go_enter Tryz.func80,Tryz.ntmps80
 go_wp2_with fail
 rw[← HW0.out]
 clear HW0
 have a0:w0.cell? ⟨w.heap.size,0,none⟩=some (.int .i64 16):=bA.cell 0
 have z0:w0.cell? ⟨w.heap.size+1,0,none⟩=some (.int .i64 16):=bC.cell 0
 refine(ady 16 w0 (by rfl)).mono ?_
 rintro e wn ⟨rfl,hwn⟩
 subst hwn
 have a1:w0.cell? ⟨w.heap.size,1,none⟩=some (.string name):=bA.cell 1
 have a2:w0.cell? ⟨w.heap.size,2,none⟩=some (.slice jk gy je):=bA.cell 2
 have a3:w0.cell? ⟨w.heap.size,3,none⟩=some (.slice qc gu lu):=bA.cell 3
 have z1:w0.cell? ⟨w.heap.size+1,1,none⟩=some (.string dh):=bC.cell 1
 have z2:w0.cell? ⟨w.heap.size+1,2,none⟩=some (.slice jr jc jm):=bC.cell 2
 have z3:w0.cell? ⟨w.heap.size+1,3,none⟩=some (.slice ni ig jq):=bC.cell 3
 have HCW:=ayu hM ad7.out (at_:=at_) hat (B:=B) (cs:=[.int .i64 16,.string name,.slice jk gy je,.slice qc gu lu]) (ds:=[.int .i64 16,.string dh,.slice jr jc jm,.slice ni ig jq]) (w:=w0) (Nat.le_trans hB hB0.size) (hT.below hB0) HHX.out HHY.out (Ty.close_ (pq.out.below (hB0.mono hB)) (qm.out.below (hB0.mono hB))) (Ty.close_ (xw.out.below (hB0.mono hB)) (zu.out.below (hB0.mono hB)))
 obtain⟨R2,hR2⟩:∃ r,ajt (fun x y=>rec y x) 4 at_ dn jf labels kids=r:=⟨_,rfl⟩
 unfold WQ at HCW
 rw[hR2] at HCW
 obtain⟨RK,RS,RN,HRK,HRS,HRN⟩:=agn R2
 rw[HRK.out,HRS.out,HRN.out] at HCW
 replace HCW:=Lib.hid HCW
 have HF:Hid (R=R2):=by show _=_;rw[HR.out,← hR2];exact a5w
 clear hR2
 go_wp2_with fail
 refine HCW.out.mono ?_
 rintro e wq ⟨rfl,hbq⟩
 have hBq:=hB0.trans (hbq.mono (by omega))
 have hsq:=hbq.size
 have bRq:=bR.step hbq
 obtain⟨r0,r1,f0,f1⟩:=zr bRq
 go_wp2_with fail
 obtain⟨n0,n1,nB⟩:=aaz bRq hBq (by omega) (RK) (RS)
 exact bodyPost_ret (v:=.tuple #[.agg #[.int .i64 RK,.string RS],.bool RN]) (by simp[results,Tryz.results80,go_sem,n0,n1]) rfl ⟨qx (by rw[HF.out,HRK.out]) (by rw[HF.out,HRS.out]) (by rw[HF.out,HRN.out]),nB⟩
set_option maxHeartbeats 12800000 in
theorem a8x {rec:Ty→Ty→ByteArray→Why} {n M:Nat} (hM:M≤1000000) (hrec:af7 80 rec n M) {name dh at_:ByteArray} {labels dn:List ByteArray} {kids jf:List Ty} (hat:at_.size+32≤M) {B:Nat} {cs ds:List Value} {w:World} (hB:B≤w.heap.size) (hT:ae3 w) (hx:OkT (n+1) ⟨17,name,labels,kids⟩) (hy:OkT (n+1) ⟨17,dh,dn,jf⟩) (h:jy w B (Ty.pd ⟨17,name,labels,kids⟩) cs) (k:jy w B (Ty.pd ⟨17,dh,dn,jf⟩) ds):
  Calls Tryz.prog 80 #[.agg cs.toArray,.agg ds.toArray,.string at_] w fun e w'=>WQ (ad5 rec 17 name labels kids dh dn jf at_) w e w':=by
 have HHX:=Lib.hid hx
 have HHY:=Lib.hid hy
 obtain⟨iq,qp,rfl,bf,eu⟩:=Ty.open_ h
 obtain⟨jk,gy,je,rfl⟩:=bf.form
 have pq:=Lib.hid bf
 clear bf
 obtain⟨qc,gu,lu,rfl⟩:=eu.form
 have qm:=Lib.hid eu
 clear eu
 obtain⟨ab1,adt,rfl,dw,jd⟩:=Ty.open_ k
 obtain⟨jr,jc,jm,rfl⟩:=dw.form
 have xw:=Lib.hid dw
 clear dw
 obtain⟨ni,ig,jq,rfl⟩:=jd.form
 have zu:=Lib.hid jd
 clear jd
 clear h k
 have afl:=Lib.hid (aal hx)
 have afm:=Lib.hid (aal hy)
 have SX:=Lib.hid (shF hx.2)
 have SY:=Lib.hid (shF hy.2)
 clear hx hy
 have ad7:=Lib.hid hrec
 clear hrec
 obtain⟨R,hR⟩:∃ R:Why,R=ad5 rec 17 name labels kids dh dn jf at_:=⟨_,rfl⟩
 rw[← hR]
 have HR:=Lib.hid hR
 clear hR
 obtain⟨w0,hw0,bA,bC,bR,hB0,hs0⟩:=aeu w 60 #[.int .i64 17,.string name,.slice jk gy je,.slice qc gu lu] #[.int .i64 17,.string dh,.slice jr jc jm,.slice ni ig jq]
 have HW0:=Lib.hid hw0
 clear hw0
 go_enter Tryz.func80,Tryz.ntmps80
 go_wp2_with fail
 rw[← HW0.out]
 clear HW0
 have a0:w0.cell? ⟨w.heap.size,0,none⟩=some (.int .i64 17):=bA.cell 0
 have z0:w0.cell? ⟨w.heap.size+1,0,none⟩=some (.int .i64 17):=bC.cell 0
 refine(ady 17 w0 (by rfl)).mono ?_
 rintro e wn ⟨rfl,hwn⟩
 subst hwn
 have a1:w0.cell? ⟨w.heap.size,1,none⟩=some (.string name):=bA.cell 1
 have a2:w0.cell? ⟨w.heap.size,2,none⟩=some (.slice jk gy je):=bA.cell 2
 have a3:w0.cell? ⟨w.heap.size,3,none⟩=some (.slice qc gu lu):=bA.cell 3
 have z1:w0.cell? ⟨w.heap.size+1,1,none⟩=some (.string dh):=bC.cell 1
 have z2:w0.cell? ⟨w.heap.size+1,2,none⟩=some (.slice jr jc jm):=bC.cell 2
 have z3:w0.cell? ⟨w.heap.size+1,3,none⟩=some (.slice ni ig jq):=bC.cell 3
 have HCW:=axk hM ad7.out (at_:=at_) hat (B:=B) (cs:=[.int .i64 17,.string name,.slice jk gy je,.slice qc gu lu]) (ds:=[.int .i64 17,.string dh,.slice jr jc jm,.slice ni ig jq]) (w:=w0) (Nat.le_trans hB hB0.size) (hT.below hB0) HHX.out HHY.out (Ty.close_ (pq.out.below (hB0.mono hB)) (qm.out.below (hB0.mono hB))) (Ty.close_ (xw.out.below (hB0.mono hB)) (zu.out.below (hB0.mono hB)))
 obtain⟨R2,hR2⟩:∃ r,ajt rec 5 at_ labels kids dn jf=r:=⟨_,rfl⟩
 unfold WQ at HCW
 rw[hR2] at HCW
 obtain⟨RK,RS,RN,HRK,HRS,HRN⟩:=agn R2
 rw[HRK.out,HRS.out,HRN.out] at HCW
 replace HCW:=Lib.hid HCW
 have HF:Hid (R=R2):=by show _=_;rw[HR.out,← hR2];exact aq2 (by decide)
 clear hR2
 go_wp2_with fail
 refine HCW.out.mono ?_
 rintro e wq ⟨rfl,hbq⟩
 have hBq:=hB0.trans (hbq.mono (by omega))
 have hsq:=hbq.size
 have bRq:=bR.step hbq
 obtain⟨r0,r1,f0,f1⟩:=zr bRq
 go_wp2_with fail
 obtain⟨n0,n1,nB⟩:=aaz bRq hBq (by omega) (RK) (RS)
 exact bodyPost_ret (v:=.tuple #[.agg #[.int .i64 RK,.string RS],.bool RN]) (by simp[results,Tryz.results80,go_sem,n0,n1]) rfl ⟨qx (by rw[HF.out,HRK.out]) (by rw[HF.out,HRS.out]) (by rw[HF.out,HRN.out]),nB⟩
set_option maxHeartbeats 12800000 in
theorem axm {rec:Ty→Ty→ByteArray→Why} {n M:Nat} (hM:M≤1000000) (hrec:af7 80 rec n M) {kind:Int} (hk:kind=18∨kind=19) {name dh at_:ByteArray} {labels dn:List ByteArray} {kids jf:List Ty} (hat:at_.size+32≤M) {B:Nat} {cs ds:List Value} {w:World} (hB:B≤w.heap.size) (hT:ae3 w) (hx:OkT (n+1) ⟨kind,name,labels,kids⟩) (hy:OkT (n+1) ⟨kind,dh,dn,jf⟩) (h:jy w B (Ty.pd ⟨kind,name,labels,kids⟩) cs) (k:jy w B (Ty.pd ⟨kind,dh,dn,jf⟩) ds):
  Calls Tryz.prog 80 #[.agg cs.toArray,.agg ds.toArray,.string at_] w fun e w'=>WQ (ad5 rec kind name labels kids dh dn jf at_) w e w':=by
 have HHX:=Lib.hid hx
 have HHY:=Lib.hid hy
 obtain⟨iq,qp,rfl,bf,eu⟩:=Ty.open_ h
 obtain⟨jk,gy,je,rfl⟩:=bf.form
 have pq:=Lib.hid bf
 clear bf
 obtain⟨qc,gu,lu,rfl⟩:=eu.form
 have qm:=Lib.hid eu
 clear eu
 obtain⟨ab1,adt,rfl,dw,jd⟩:=Ty.open_ k
 obtain⟨jr,jc,jm,rfl⟩:=dw.form
 have xw:=Lib.hid dw
 clear dw
 obtain⟨ni,ig,jq,rfl⟩:=jd.form
 have zu:=Lib.hid jd
 clear jd
 clear h k
 have afl:=Lib.hid (aal hx)
 have afm:=Lib.hid (aal hy)
 have SX:=Lib.hid (shF hx.2)
 have SY:=Lib.hid (shF hy.2)
 clear hx hy
 have ad7:=Lib.hid hrec
 clear hrec
 obtain⟨R,hR⟩:∃ R:Why,R=ad5 rec kind name labels kids dh dn jf at_:=⟨_,rfl⟩
 rw[← hR]
 have HR:=Lib.hid hR
 clear hR
 obtain⟨_,_,_,he,ahk,akw,ala⟩:=ny aat (by decide) pq.out
 injection he with e1 e2 e3
 subst e1 e2 e3
 unfold maxLen at akw
 have aff:=Lib.hid ahk
 clear ahk
 obtain⟨_,_,_,he,ag1,ajy,ano⟩:=ny aat (by decide) xw.out
 injection he with e1 e2 e3
 subst e1 e2 e3
 unfold maxLen at ajy
 have ag2:=Lib.hid ag1
 clear ag1
 have HK:=Lib.hid hk
 have HNU:Hid (isNum kind=false):=by show _=_;rcases hk with rfl|rfl<;>rfl
 have hkk:(kind != kind)=false:=by simp
 have h12:(kind ==12)=false:=by rcases hk with rfl|rfl<;>rfl
 have h13:(kind ==13)=false:=by rcases hk with rfl|rfl<;>rfl
 have h14:(kind ==14)=false:=by rcases hk with rfl|rfl<;>rfl
 have h15:(kind ==15)=false:=by rcases hk with rfl|rfl<;>rfl
 have h16:(kind ==16)=false:=by rcases hk with rfl|rfl<;>rfl
 have h17:(kind ==17)=false:=by rcases hk with rfl|rfl<;>rfl
 have HCS:Hid ((kind ==18)=true∨((kind ==18)=false∧(kind ==19)=true)):=by show _∨_;rcases hk with rfl|rfl<;>simp
 clear hk
 have hkz:kids.length=0:=aze HK.out SX.out.right
 have HKZ:=Lib.hid hkz
 clear hkz
 have SI:=Lib.hid (SX.out.ayb (a98 HK.out))
 have h16:gy≤16:=by have:=SI.out.1;have:=aff.out;omega
 have HF0:Hid (R=aa0 (ahz rec 5 at_ labels kids dn jf) gy):=by show _=_;rw[HR.out,aq2 (.inr HK.out),ajt,← aff.out]
 obtain⟨w0,hw0,bA,bC,bR,hB0,hs0⟩:=aeu w 60 #[.int .i64 kind,.string name,.slice jk gy je,.slice qc gu lu] #[.int .i64 kind,.string dh,.slice jr jc jm,.slice ni ig jq]
 have HW0:=Lib.hid hw0
 clear hw0
 go_enter Tryz.func80,Tryz.ntmps80
 go_wp2_with fail
 rw[← HW0.out]
 clear HW0
 have a0:w0.cell? ⟨w.heap.size,0,none⟩=some (.int .i64 kind):=bA.cell 0
 have z0:w0.cell? ⟨w.heap.size+1,0,none⟩=some (.int .i64 kind):=bC.cell 0
 refine(ady kind w0 (HNU.out)).mono ?_
 rintro e wn ⟨rfl,hwn⟩
 subst hwn
 rcases HCS.out with t1|⟨t1,t2⟩
 all_goals
  have a2:w0.cell? ⟨w.heap.size,2,none⟩=some (.slice jk gy je):=bA.cell 2
  go_wp2_with fail
  clear a0 z0 a2
  go_loopw [10] (fun i wr=>∃ k:Nat,k≤gy∧i=.int .i64 k∧Hid (aa0 (ahz rec 5 at_ labels kids dn jf) k=none)∧Below w0.heap.size w0 wr) (fun i _=>gy - (intOf i).toNat)
  case atStart=>exact⟨0,Nat.zero_le _,rfl,Lib.hid rfl,Below.refl _ _⟩
  case round=>
   obtain⟨k,hk,rfl,HP,hbr⟩:=hrel
   have hBr:=hB0.trans (hbr.mono (by omega))
   have hsr:=hbr.size
   have bRr:=bR.step hbr
   have bAr:=bA.step hbr
   have bCr:=bC.step hbr
   clear bA bC bR
   have i2:wr.cell? ⟨w.heap.size,2,none⟩=some (.slice jk gy je):=bAr.cell 2
   have o2:wr.cell? ⟨w.heap.size+1,2,none⟩=some (.slice jr jc jm):=bCr.cell 2
   by_cases hlt:k < gy
   case neg=>
    have hkn:k=gy:=by omega
    subst hkn
    have HF:Hid (R=none):=by show _=_;rw[HF0.out,HP.out]
    obtain⟨r0,r1,f0,f1⟩:=zr bRr
    go_wp2_with fail
    obtain⟨n0,n1,nB⟩:=aaz bRr hBr (by omega) (0) (⟨#[]⟩)
    exact bodyPost_ret (v:=.tuple #[.agg #[.int .i64 0,.string {data:=#[]}],.bool false]) (by simp[results,Tryz.results80,go_sem,n0,n1]) rfl ⟨qx (by rw[HF.out];rfl) (by rw[HF.out];rfl) (by rw[HF.out];rfl),nB⟩
   have av4:(k:Int) < (gy:Int):=by omega
   have hk0:(0:Int)≤(k:Int):=by omega
   obtain⟨gl,ae1,rfl,azq,aky⟩:=ala (by omega)
   obtain⟨l,alz,akx⟩:=xg aff.out hlt
   have cl:wr.cell? ⟨gl,ae1+k,none⟩=some (.string l):=gq hBr (by omega) (by have:=aky k 0 _ _ alz rfl;simpa using this)
   have aof:=Lib.hid alz
   have av5:=Lib.hid akx
   clear alz akx
   have l_l:l.size≤12:=SI.out.2 l av5.out
   have akt:(9223372036854775807 < at_.size+(⟨#[46]⟩:ByteArray).size)=False:=eq_false (by have z_:(⟨#[46]⟩:ByteArray).size=1:=rfl;omega)
   have aku:(9223372036854775807 < at_.size+1)=False:=eq_false (by omega)
   obtain⟨p1,adl⟩:∃ p,at_ ++(⟨#[46]⟩:ByteArray)=p:=⟨_,rfl⟩
   have akv:p1.size≤at_.size+1:=by rw[← adl,ByteArray.size_append];have z_:(⟨#[46]⟩:ByteArray).size=1:=rfl;omega
   have apq:(9223372036854775807 < p1.size+l.size)=False:=eq_false (by omega)
   obtain⟨p2,agb⟩:∃ p,p1 ++l=p:=⟨_,rfl⟩
   have apr:p2.size≤at_.size+13:=by rw[← agb,ByteArray.size_append];omega
   have HP2:Hid (aiy at_ l=p2):=by show _=_;rw[← agb,← adl];rfl
   have LB:=Lib.hid (fun(V:World) (hV:Keep (w.heap.size+1+1) (w.heap.size+1+1+1) wr V)=>am0 (t:=l) (xw.out.below ((hBr.trans (kb hV (by omega))).mono hB)))
   obtain⟨ix,hix⟩:∃ i,acg (strEq l) dn=i:=⟨_,rfl⟩
   rw[hix] at LB
   have HIX:=Lib.hid hix
   have hlo:=aoq (strEq l) dn
   rw[hix] at hlo
   clear hix
   have HS:Hid (∀ V,Keep (w.heap.size+1+1) (w.heap.size+1+1+1) wr V→V.cell? ⟨w.heap.size,2,none⟩=some (.slice (some ⟨gl,ae1,none⟩) gy je)∧V.cell? ⟨w.heap.size+1,2,none⟩=some (.slice jr jc jm)∧V.cell? ⟨gl,ae1+k,none⟩=some (.string l)):=Lib.hid fun V hV=>⟨(hV.cell (p:=⟨w.heap.size,2,none⟩) (by simp only;omega) (by simp only;omega)).trans i2,(hV.cell (p:=⟨w.heap.size+1,2,none⟩) (by simp only;omega) (by simp only;omega)).trans o2,(hV.cell (p:=⟨gl,ae1+k,none⟩) (by simp only;omega) (by simp only;omega)).trans cl⟩
   go_wp2_with fail
   go_region_held3 (fun w'=>w'.cell? ⟨w.heap.size,2,none⟩=some (.slice (some ⟨gl,ae1,none⟩) gy je)∧w'.cell? ⟨w.heap.size+1,2,none⟩=some (.slice jr jc jm)∧w'.cell? ⟨gl,ae1+k,none⟩=some (.string l))
    (first|exact HS.out _ (by repeat(first|exact hq1|exact hq2|exact Keep.refl _ _ _|refine Keep.drew ?_|refine Keep.alloc ?_ _|refine Keep.setAt ?_ _ _|refine Keep.newAt ?_ (Nat.le_refl _) _ _|refine Keep.newAt ?_ aam.size _ _|refine Keep.newAt ?_ hbW.size _ _)))
    (first|(go_at_call 57;refine(LB.out _ (by repeat(first|exact hq1|exact hq2|exact Keep.refl _ _ _|refine Keep.drew ?_|refine Keep.alloc ?_ _|refine Keep.setAt ?_ _ _|refine Keep.newAt ?_ (Nat.le_refl _) _ _|refine Keep.newAt ?_ aam.size _ _|refine Keep.newAt ?_ hbW.size _ _))).mono ?_;rintro e wl ⟨rfl,hwl⟩;subst hwl))
   obtain⟨w1,hw1⟩:∃ V,V=wr.drew:=⟨_,rfl⟩
   rw[← hw1]
   have hb1:Below wr.heap.size wr w1:=by rw[hw1];exact(Below.refl _ _).drew
   clear hw1 HS i2 o2 LB
   have hB1:=hBr.trans (hb1.mono (by omega))
   have ath:=hbr.trans (hb1.mono hsr)
   have hs1:=hb1.size
   have bA1:=bAr.step hb1
   have bC1:=bCr.step hb1
   have bR1:=bRr.step hb1
   have cl1:w1.cell? ⟨gl,ae1+k,none⟩=some (.string l):=(hb1.cell (p:=⟨gl,ae1+k,none⟩) (by simp only;omega)).trans cl
   clear cl bAr bCr bRr
   have i2:w1.cell? ⟨w.heap.size,2,none⟩=some (.slice (some ⟨gl,ae1,none⟩) gy je):=bA1.cell 2
   by_cases hneg:ix < 0
   case pos=>
    have HF:Hid (R=some (5,p2)):=by show _=_;rw[HF0.out,← HP2.out];exact ad1 HP.out (aph aof.out (by rw[HIX.out];exact hneg)) _ hlt
    go_wp2_with fail
    refine(ael 5 p2 _).mono ?_
    rintro e wz ⟨rfl,hbz⟩
    have hBz:=hB1.trans (hbz.mono (by omega))
    have bRz:=bR1.step hbz
    have hsz:=hbz.size
    obtain⟨r0,r1,f0,f1⟩:=zr bRz
    go_wp2_with fail
    obtain⟨n0,n1,nB⟩:=aaz bRz hBz (by omega) (5) (p2)
    exact bodyPost_ret (v:=.tuple #[.agg #[.int .i64 5,.string p2],.bool true]) (by simp[results,Tryz.results80,go_sem,n0,n1]) rfl ⟨qx (by rw[HF.out];rfl) (by rw[HF.out];rfl) (by rw[HF.out];rfl),nB⟩
   have HQ:Hid (aa0 (ahz rec 5 at_ labels kids dn jf) (k+1)=none):=by show _=_;exact ae2 HP.out (azd aof.out (by rw[HIX.out];exact hneg) HKZ.out)
   go_wp2_with fail
   go_roundw
   case rel=>exact⟨k+1,by omega,by go_num,HQ,ath⟩
   case measure=>simp[intOf];omega
set_option maxHeartbeats 12800000 in
theorem axn {rec:Ty→Ty→ByteArray→Why} {n M:Nat} (hM:M≤1000000) (hrec:af7 80 rec n M) {kind:Int} (hk:kind=20∨kind=21) {name dh at_:ByteArray} {labels dn:List ByteArray} {kids jf:List Ty} (hat:at_.size+32≤M) {B:Nat} {cs ds:List Value} {w:World} (hB:B≤w.heap.size) (hT:ae3 w) (hx:OkT (n+1) ⟨kind,name,labels,kids⟩) (hy:OkT (n+1) ⟨kind,dh,dn,jf⟩) (h:jy w B (Ty.pd ⟨kind,name,labels,kids⟩) cs) (k:jy w B (Ty.pd ⟨kind,dh,dn,jf⟩) ds):
  Calls Tryz.prog 80 #[.agg cs.toArray,.agg ds.toArray,.string at_] w fun e w'=>WQ (ad5 rec kind name labels kids dh dn jf at_) w e w':=by
 have HHX:=Lib.hid hx
 have HHY:=Lib.hid hy
 obtain⟨iq,qp,rfl,bf,eu⟩:=Ty.open_ h
 obtain⟨jk,gy,je,rfl⟩:=bf.form
 have pq:=Lib.hid bf
 clear bf
 obtain⟨qc,gu,lu,rfl⟩:=eu.form
 have qm:=Lib.hid eu
 clear eu
 obtain⟨ab1,adt,rfl,dw,jd⟩:=Ty.open_ k
 obtain⟨jr,jc,jm,rfl⟩:=dw.form
 have xw:=Lib.hid dw
 clear dw
 obtain⟨ni,ig,jq,rfl⟩:=jd.form
 have zu:=Lib.hid jd
 clear jd
 clear h k
 have afl:=Lib.hid (aal hx)
 have afm:=Lib.hid (aal hy)
 have SX:=Lib.hid (shF hx.2)
 have SY:=Lib.hid (shF hy.2)
 clear hx hy
 have ad7:=Lib.hid hrec
 clear hrec
 obtain⟨R,hR⟩:∃ R:Why,R=ad5 rec kind name labels kids dh dn jf at_:=⟨_,rfl⟩
 rw[← hR]
 have HR:=Lib.hid hR
 clear hR
 have HK:=Lib.hid hk
 have HNU:Hid (isNum kind=false):=by show _=_;rcases hk with rfl|rfl<;>rfl
 have hkk:(kind != kind)=false:=by simp
 have h12:(kind ==12)=false:=by rcases hk with rfl|rfl<;>rfl
 have h13:(kind ==13)=false:=by rcases hk with rfl|rfl<;>rfl
 have h14:(kind ==14)=false:=by rcases hk with rfl|rfl<;>rfl
 have h15:(kind ==15)=false:=by rcases hk with rfl|rfl<;>rfl
 have h16:(kind ==16)=false:=by rcases hk with rfl|rfl<;>rfl
 have h17:(kind ==17)=false:=by rcases hk with rfl|rfl<;>rfl
 have h18:(kind ==18)=false:=by rcases hk with rfl|rfl<;>rfl
 have h19:(kind ==19)=false:=by rcases hk with rfl|rfl<;>rfl
 have HCS:Hid ((kind ==20)=true∨((kind ==20)=false∧(kind ==21)=true)):=by show _∨_;rcases hk with rfl|rfl<;>simp
 clear hk
 by_cases hn:name=dh
 case neg=>
  have HF:Hid (R=some (6,at_)):=by show _=_;rw[HR.out,aq3 HK.out,if_neg hn]
  have hne:(name.toList ==dh.toList)=false:=ae0 hn
  have hne2:(name.toList != dh.toList)=true:=by simpa using hne
  obtain⟨w0,hw0,bA,bC,bR,hB0,hs0⟩:=aeu w 60 #[.int .i64 kind,.string name,.slice jk gy je,.slice qc gu lu] #[.int .i64 kind,.string dh,.slice jr jc jm,.slice ni ig jq]
  have HW0:=Lib.hid hw0
  clear hw0
  go_enter Tryz.func80,Tryz.ntmps80
  go_wp2_with fail
  rw[← HW0.out]
  clear HW0
  have a0:w0.cell? ⟨w.heap.size,0,none⟩=some (.int .i64 kind):=bA.cell 0
  have z0:w0.cell? ⟨w.heap.size+1,0,none⟩=some (.int .i64 kind):=bC.cell 0
  refine(ady kind w0 (HNU.out)).mono ?_
  rintro e wn ⟨rfl,hwn⟩
  subst hwn
  have a1:w0.cell? ⟨w.heap.size,1,none⟩=some (.string name):=bA.cell 1
  have z1:w0.cell? ⟨w.heap.size+1,1,none⟩=some (.string dh):=bC.cell 1
  clear hn
  rcases HCS.out with t1|⟨t1,t2⟩
  all_goals
   go_wp2_with fail
   refine(ael 6 at_ _).mono ?_
   rintro e wz ⟨rfl,hbz⟩
   have hBz:=hB0.trans (hbz.mono (by omega))
   have bRz:=bR.step hbz
   have hsz:=hbz.size
   obtain⟨r0,r1,f0,f1⟩:=zr bRz
   go_wp2_with fail
   obtain⟨n0,n1,nB⟩:=aaz bRz hBz (by omega) (6) (at_)
   exact bodyPost_ret (v:=.tuple #[.agg #[.int .i64 6,.string at_],.bool true]) (by simp[results,Tryz.results80,go_sem,n0,n1]) rfl ⟨qx (by rw[HF.out];rfl) (by rw[HF.out];rfl) (by rw[HF.out];rfl),nB⟩
 subst hn
 have HF:Hid (R=none):=by show _=_;rw[HR.out,aq3 HK.out,if_pos rfl]
 obtain⟨w0,hw0,bA,bC,bR,hB0,hs0⟩:=aeu w 60 #[.int .i64 kind,.string name,.slice jk gy je,.slice qc gu lu] #[.int .i64 kind,.string name,.slice jr jc jm,.slice ni ig jq]
 have HW0:=Lib.hid hw0
 clear hw0
 go_enter Tryz.func80,Tryz.ntmps80
 go_wp2_with fail
 rw[← HW0.out]
 clear HW0
 have a0:w0.cell? ⟨w.heap.size,0,none⟩=some (.int .i64 kind):=bA.cell 0
 have z0:w0.cell? ⟨w.heap.size+1,0,none⟩=some (.int .i64 kind):=bC.cell 0
 refine(ady kind w0 (HNU.out)).mono ?_
 rintro e wn ⟨rfl,hwn⟩
 subst hwn
 have a1:w0.cell? ⟨w.heap.size,1,none⟩=some (.string name):=bA.cell 1
 have z1:w0.cell? ⟨w.heap.size+1,1,none⟩=some (.string name):=bC.cell 1
 rcases HCS.out with t1|⟨t1,t2⟩
 all_goals
  obtain⟨r0,r1,f0,f1⟩:=zr bR
  go_wp2_with fail
  obtain⟨n0,n1,nB⟩:=aaz bR hB0 (by omega) (0) (⟨#[]⟩)
  exact bodyPost_ret (v:=.tuple #[.agg #[.int .i64 0,.string {data:=#[]}],.bool false]) (by simp[results,Tryz.results80,go_sem,n0,n1]) rfl ⟨qx (by rw[HF.out];rfl) (by rw[HF.out];rfl) (by rw[HF.out];rfl),nB⟩
set_option maxHeartbeats 12800000 in
theorem axo {rec:Ty→Ty→ByteArray→Why} {n M:Nat} (hM:M≤1000000) (hrec:af7 80 rec n M) {kind:Int} (hk:kind=22∨kind=23) {name dh at_:ByteArray} {labels dn:List ByteArray} {kids jf:List Ty} (hat:at_.size+32≤M) {B:Nat} {cs ds:List Value} {w:World} (hB:B≤w.heap.size) (hT:ae3 w) (hx:OkT (n+1) ⟨kind,name,labels,kids⟩) (hy:OkT (n+1) ⟨kind,dh,dn,jf⟩) (h:jy w B (Ty.pd ⟨kind,name,labels,kids⟩) cs) (k:jy w B (Ty.pd ⟨kind,dh,dn,jf⟩) ds):
  Calls Tryz.prog 80 #[.agg cs.toArray,.agg ds.toArray,.string at_] w fun e w'=>WQ (ad5 rec kind name labels kids dh dn jf at_) w e w':=by
 have HHX:=Lib.hid hx
 have HHY:=Lib.hid hy
 obtain⟨iq,qp,rfl,bf,eu⟩:=Ty.open_ h
 obtain⟨jk,gy,je,rfl⟩:=bf.form
 have pq:=Lib.hid bf
 clear bf
 obtain⟨qc,gu,lu,rfl⟩:=eu.form
 have qm:=Lib.hid eu
 clear eu
 obtain⟨ab1,adt,rfl,dw,jd⟩:=Ty.open_ k
 obtain⟨jr,jc,jm,rfl⟩:=dw.form
 have xw:=Lib.hid dw
 clear dw
 obtain⟨ni,ig,jq,rfl⟩:=jd.form
 have zu:=Lib.hid jd
 clear jd
 clear h k
 have afl:=Lib.hid (aal hx)
 have afm:=Lib.hid (aal hy)
 have SX:=Lib.hid (shF hx.2)
 have SY:=Lib.hid (shF hy.2)
 clear hx hy
 have ad7:=Lib.hid hrec
 clear hrec
 obtain⟨R,hR⟩:∃ R:Why,R=ad5 rec kind name labels kids dh dn jf at_:=⟨_,rfl⟩
 rw[← hR]
 have HR:=Lib.hid hR
 clear hR
 obtain⟨_,_,_,he,ab7,aed,adk⟩:=ny Ty.jw (by decide) qm.out
 injection he with e1 e2 e3
 subst e1 e2 e3
 unfold maxLen at aed
 have aax:=Lib.hid ab7
 clear ab7
 obtain⟨_,_,_,he,abe,adv,acv⟩:=ny Ty.jw (by decide) zu.out
 injection he with e1 e2 e3
 subst e1 e2 e3
 unfold maxLen at adv
 have aar:=Lib.hid abe
 clear abe
 have HK:=Lib.hid hk
 have HNU:Hid (isNum kind=false):=by show _=_;rcases hk with rfl|rfl<;>rfl
 have hkk:(kind != kind)=false:=by simp
 have h12:(kind ==12)=false:=by rcases hk with rfl|rfl<;>rfl
 have h13:(kind ==13)=false:=by rcases hk with rfl|rfl<;>rfl
 have h14:(kind ==14)=false:=by rcases hk with rfl|rfl<;>rfl
 have h15:(kind ==15)=false:=by rcases hk with rfl|rfl<;>rfl
 have h16:(kind ==16)=false:=by rcases hk with rfl|rfl<;>rfl
 have h17:(kind ==17)=false:=by rcases hk with rfl|rfl<;>rfl
 have h18:(kind ==18)=false:=by rcases hk with rfl|rfl<;>rfl
 have h19:(kind ==19)=false:=by rcases hk with rfl|rfl<;>rfl
 have h20:(kind ==20)=false:=by rcases hk with rfl|rfl<;>rfl
 have h21:(kind ==21)=false:=by rcases hk with rfl|rfl<;>rfl
 have HCS:Hid ((kind ==22)=true∨((kind ==22)=false∧(kind ==23)=true)):=by show _∨_;rcases hk with rfl|rfl<;>simp
 clear hk
 have hkn:gu=1:=by have:=aho (.inr (.inr HK.out)) SX.out.right;have:=aax.out;omega
 have hkz:ig=1:=by have:=aho (.inr (.inr HK.out)) SY.out.right;have:=aar.out;omega
 have hpos:0 < gu:=by omega
 have ajz:0 < ig:=by omega
 have ara:(0:Int) < (gu:Int):=by omega
 have ao7:(0:Int) < (ig:Int):=by omega
 clear hkn hkz
 obtain⟨w0,hw0,bA,bC,bR,hB0,hs0⟩:=aeu w 60 #[.int .i64 kind,.string name,.slice jk gy je,.slice qc gu lu] #[.int .i64 kind,.string dh,.slice jr jc jm,.slice ni ig jq]
 have HW0:=Lib.hid hw0
 clear hw0
 go_enter Tryz.func80,Tryz.ntmps80
 go_wp2_with fail
 rw[← HW0.out]
 clear HW0
 have a0:w0.cell? ⟨w.heap.size,0,none⟩=some (.int .i64 kind):=bA.cell 0
 have z0:w0.cell? ⟨w.heap.size+1,0,none⟩=some (.int .i64 kind):=bC.cell 0
 refine(ady kind w0 (HNU.out)).mono ?_
 rintro e wn ⟨rfl,hwn⟩
 subst hwn
 have a3:w0.cell? ⟨w.heap.size,3,none⟩=some (.slice qc gu lu):=bA.cell 3
 have z3:w0.cell? ⟨w.heap.size+1,3,none⟩=some (.slice ni ig jq):=bC.cell 3
 obtain⟨g,off,rfl,aeg,acf⟩:=adk (by omega)
 obtain⟨x,adb,aco⟩:=xg aax.out hpos
 obtain⟨uf,qj,aaj,aby⟩:=x
 obtain⟨uh,zf,acw,acu,abo,acz,qy,yw⟩:=agm (k:=0) (a0:=off) (a1:=off+1) (a2:=off+2) (a3:=off+3) (hB0.mono (Nat.le_refl _)) aeg hB acf adb ⟨rfl,rfl,rfl,rfl⟩
 replace qy:=Lib.hid qy
 replace yw:=Lib.hid yw
 have agf:=Lib.hid adb
 have ag8:=Lib.hid aco
 clear adb aco
 obtain⟨g2,off2,rfl,adw,abw⟩:=acv (by omega)
 obtain⟨y,ade,acp⟩:=xg aar.out ajz
 obtain⟨qw,qh,aak,abz⟩:=y
 obtain⟨uz,aae,ac4,acy,abq,ac5,qo,yu⟩:=agm (k:=0) (a0:=off2) (a1:=off2+1) (a2:=off2+2) (a3:=off2+3) (hB0.mono (Nat.le_refl _)) adw hB abw ade ⟨rfl,rfl,rfl,rfl⟩
 replace qo:=Lib.hid qo
 replace yu:=Lib.hid yu
 have agh:=Lib.hid ade
 have ag9:=Lib.hid acp
 clear ade acp
 have HF0:Hid (R=if afa 100 ⟨uf,qj,aaj,aby⟩ ⟨qw,qh,aak,abz⟩then none else some (3,at_)):=by show _=_;rw[HR.out,a1t HK.out agf.out agh.out]
 have HC:=fun(V:World) (hV:Keep (w.heap.size+1+1) (w.heap.size+1+1+1) w0 V)=>au1 ⟨uf,qj,aaj,aby⟩ ⟨qw,qh,aak,abz⟩ (B:=B) (cs:=[.int .i64 uf,.string qj,uh,zf]) (ds:=[.int .i64 qw,.string qh,uz,aae]) (w:=V) (Nat.le_trans (Nat.le_trans hB hB0.size) hV.size) ((Ty.close_ qy.out yw.out).below (kb hV (by omega))) ((Ty.close_ qo.out yu.out).below (kb hV (by omega)))
 obtain⟨EQ,hEQ⟩:∃ z:Bool,afa 100 ⟨uf,qj,aaj,aby⟩ ⟨qw,qh,aak,abz⟩=z:=⟨_,rfl⟩
 rw[hEQ] at HC
 have HEQ:=Lib.hid hEQ
 clear hEQ
 replace HC:=Lib.hid HC
 have HS:Hid (∀ V,Keep (w.heap.size+1+1) (w.heap.size+1+1+1) w0 V→V.cell? ⟨w.heap.size,3,none⟩=some (.slice (some ⟨g,off,none⟩) gu lu)∧V.cell? ⟨w.heap.size+1,3,none⟩=some (.slice (some ⟨g2,off2,none⟩) ig jq)∧V.cell? ⟨g,off,none⟩=some (.int .i64 uf)∧V.cell? ⟨g,off+1,none⟩=some (.string qj)∧V.cell? ⟨g,off+2,none⟩=some (uh)∧V.cell? ⟨g,off+3,none⟩=some (zf)∧V.cell? ⟨g2,off2,none⟩=some (.int .i64 qw)∧V.cell? ⟨g2,off2+1,none⟩=some (.string qh)∧V.cell? ⟨g2,off2+2,none⟩=some (uz)∧V.cell? ⟨g2,off2+3,none⟩=some (aae)):=Lib.hid fun V hV=>⟨(hV.cell (p:=⟨w.heap.size,3,none⟩) (by simp only;omega) (by simp only;omega)).trans a3,(hV.cell (p:=⟨w.heap.size+1,3,none⟩) (by simp only;omega) (by simp only;omega)).trans z3,(hV.cell (p:=⟨g,off,none⟩) (by simp only;omega) (by simp only;omega)).trans acw,(hV.cell (p:=⟨g,off+1,none⟩) (by simp only;omega) (by simp only;omega)).trans acu,(hV.cell (p:=⟨g,off+2,none⟩) (by simp only;omega) (by simp only;omega)).trans abo,(hV.cell (p:=⟨g,off+3,none⟩) (by simp only;omega) (by simp only;omega)).trans acz,(hV.cell (p:=⟨g2,off2,none⟩) (by simp only;omega) (by simp only;omega)).trans ac4,(hV.cell (p:=⟨g2,off2+1,none⟩) (by simp only;omega) (by simp only;omega)).trans acy,(hV.cell (p:=⟨g2,off2+2,none⟩) (by simp only;omega) (by simp only;omega)).trans abq,(hV.cell (p:=⟨g2,off2+3,none⟩) (by simp only;omega) (by simp only;omega)).trans ac5⟩
 clear bA bC
 rcases HCS.out with t1|⟨t1,t2⟩
 all_goals
  go_wp2_with fail
  go_region_held3 (fun w'=>w'.cell? ⟨w.heap.size,3,none⟩=some (.slice (some ⟨g,off,none⟩) gu lu)∧w'.cell? ⟨w.heap.size+1,3,none⟩=some (.slice (some ⟨g2,off2,none⟩) ig jq)∧w'.cell? ⟨g,off,none⟩=some (.int .i64 uf)∧w'.cell? ⟨g,off+1,none⟩=some (.string qj)∧w'.cell? ⟨g,off+2,none⟩=some (uh)∧w'.cell? ⟨g,off+3,none⟩=some (zf)∧w'.cell? ⟨g2,off2,none⟩=some (.int .i64 qw)∧w'.cell? ⟨g2,off2+1,none⟩=some (.string qh)∧w'.cell? ⟨g2,off2+2,none⟩=some (uz)∧w'.cell? ⟨g2,off2+3,none⟩=some (aae))
   (first|exact HS.out _ (by repeat(first|exact hq1|exact hq2|exact Keep.refl _ _ _|refine Keep.drew ?_|refine Keep.alloc ?_ _|refine Keep.setAt ?_ _ _|refine Keep.newAt ?_ (Nat.le_refl _) _ _|refine Keep.newAt ?_ aam.size _ _|refine Keep.newAt ?_ hbW.size _ _)))
   (first|(go_at_call 108;refine(HC.out _ (by repeat(first|exact hq1|exact hq2|exact Keep.refl _ _ _|refine Keep.drew ?_|refine Keep.alloc ?_ _|refine Keep.setAt ?_ _ _|refine Keep.newAt ?_ (Nat.le_refl _) _ _|refine Keep.newAt ?_ aam.size _ _|refine Keep.newAt ?_ hbW.size _ _))).mono ?_;rintro e wq ⟨rfl,hbq⟩;have hbW:=(Below.refl w0.heap.size w0).drew.trans hbq;have hq1:Keep (w.heap.size+1+1) (w.heap.size+1+1+1) w0 wq:=Keep.of_below hbW))
  all_goals
   have hBq:=hB0.trans (hbW.mono (by omega))
   have bRq:=bR.step hbW
   have hsq:=hbW.size
   cases EQ
   case false=>
    have HF:Hid (R=some (3,at_)):=by show _=_;rw[HF0.out,HEQ.out];rfl
    go_wp2_with fail
    refine(ael 3 at_ _).mono ?_
    rintro e wz ⟨rfl,hbz⟩
    have hBz:=hBq.trans (hbz.mono (by omega))
    have bRz:=bRq.step hbz
    have hsz:=hbz.size
    obtain⟨r0,r1,f0,f1⟩:=zr bRz
    go_wp2_with fail
    obtain⟨n0,n1,nB⟩:=aaz bRz hBz (by omega) (3) (at_)
    exact bodyPost_ret (v:=.tuple #[.agg #[.int .i64 3,.string at_],.bool true]) (by simp[results,Tryz.results80,go_sem,n0,n1]) rfl ⟨qx (by rw[HF.out];rfl) (by rw[HF.out];rfl) (by rw[HF.out];rfl),nB⟩
   case true=>
    have HF:Hid (R=none):=by show _=_;rw[HF0.out,HEQ.out];rfl
    obtain⟨r0,r1,f0,f1⟩:=zr bRq
    go_wp2_with fail
    obtain⟨n0,n1,nB⟩:=aaz bRq hBq (by omega) (0) (⟨#[]⟩)
    exact bodyPost_ret (v:=.tuple #[.agg #[.int .i64 0,.string {data:=#[]}],.bool false]) (by simp[results,Tryz.results80,go_sem,n0,n1]) rfl ⟨qx (by rw[HF.out];rfl) (by rw[HF.out];rfl) (by rw[HF.out];rfl),nB⟩
set_option maxHeartbeats 12800000 in
theorem a2z {rec:Ty→Ty→ByteArray→Why} {n M:Nat} (hM:M≤1000000) (hrec:af7 80 rec n M) {kind:Int} (hk:¬ (12≤kind∧kind≤23)) (hnum:isNum kind=false) {name dh at_:ByteArray} {labels dn:List ByteArray} {kids jf:List Ty} (hat:at_.size+32≤M) {B:Nat} {cs ds:List Value} {w:World} (hB:B≤w.heap.size) (hT:ae3 w) (hx:OkT (n+1) ⟨kind,name,labels,kids⟩) (hy:OkT (n+1) ⟨kind,dh,dn,jf⟩) (h:jy w B (Ty.pd ⟨kind,name,labels,kids⟩) cs) (k:jy w B (Ty.pd ⟨kind,dh,dn,jf⟩) ds):
  Calls Tryz.prog 80 #[.agg cs.toArray,.agg ds.toArray,.string at_] w fun e w'=>WQ (ad5 rec kind name labels kids dh dn jf at_) w e w':=by
 have HHX:=Lib.hid hx
 have HHY:=Lib.hid hy
 obtain⟨iq,qp,rfl,bf,eu⟩:=Ty.open_ h
 obtain⟨jk,gy,je,rfl⟩:=bf.form
 have pq:=Lib.hid bf
 clear bf
 obtain⟨qc,gu,lu,rfl⟩:=eu.form
 have qm:=Lib.hid eu
 clear eu
 obtain⟨ab1,adt,rfl,dw,jd⟩:=Ty.open_ k
 obtain⟨jr,jc,jm,rfl⟩:=dw.form
 have xw:=Lib.hid dw
 clear dw
 obtain⟨ni,ig,jq,rfl⟩:=jd.form
 have zu:=Lib.hid jd
 clear jd
 clear h k
 have afl:=Lib.hid (aal hx)
 have afm:=Lib.hid (aal hy)
 have SX:=Lib.hid (shF hx.2)
 have SY:=Lib.hid (shF hy.2)
 clear hx hy
 have ad7:=Lib.hid hrec
 clear hrec
 obtain⟨R,hR⟩:∃ R:Why,R=ad5 rec kind name labels kids dh dn jf at_:=⟨_,rfl⟩
 rw[← hR]
 have HR:=Lib.hid hR
 clear hR
 have HF:Hid (R=none):=by show _=_;rw[HR.out,azh hk]
 have HNU:=Lib.hid hnum
 have hkk:(kind != kind)=false:=by simp
 have h12:(kind ==12)=false:=by simp;omega
 have h13:(kind ==13)=false:=by simp;omega
 have h14:(kind ==14)=false:=by simp;omega
 have h15:(kind ==15)=false:=by simp;omega
 have h16:(kind ==16)=false:=by simp;omega
 have h17:(kind ==17)=false:=by simp;omega
 have h18:(kind ==18)=false:=by simp;omega
 have h19:(kind ==19)=false:=by simp;omega
 have h20:(kind ==20)=false:=by simp;omega
 have h21:(kind ==21)=false:=by simp;omega
 have h22:(kind ==22)=false:=by simp;omega
 have h23:(kind ==23)=false:=by simp;omega
 clear hk hnum
 obtain⟨w0,hw0,bA,bC,bR,hB0,hs0⟩:=aeu w 60 #[.int .i64 kind,.string name,.slice jk gy je,.slice qc gu lu] #[.int .i64 kind,.string dh,.slice jr jc jm,.slice ni ig jq]
 have HW0:=Lib.hid hw0
 clear hw0
 go_enter Tryz.func80,Tryz.ntmps80
 go_wp2_with fail
 rw[← HW0.out]
 clear HW0
 have a0:w0.cell? ⟨w.heap.size,0,none⟩=some (.int .i64 kind):=bA.cell 0
 have z0:w0.cell? ⟨w.heap.size+1,0,none⟩=some (.int .i64 kind):=bC.cell 0
 refine(ady kind w0 (HNU.out)).mono ?_
 rintro e wn ⟨rfl,hwn⟩
 subst hwn
 obtain⟨r0,r1,f0,f1⟩:=zr bR
 go_wp2_with fail
 obtain⟨n0,n1,nB⟩:=aaz bR hB0 (by omega) (0) (⟨#[]⟩)
 exact bodyPost_ret (v:=.tuple #[.agg #[.int .i64 0,.string {data:=#[]}],.bool false]) (by simp[results,Tryz.results80,go_sem,n0,n1]) rfl ⟨qx (by rw[HF.out];rfl) (by rw[HF.out];rfl) (by rw[HF.out];rfl),nB⟩
set_option maxHeartbeats 12800000 in
theorem avi {rec:Ty→Ty→ByteArray→Why} {n M:Nat} (hM:M≤1000000) (hrec:af7 80 rec n M) {kind wu:Int} (h1:isNum kind=true) (h2:isNum wu=true) {name dh at_:ByteArray} {labels dn:List ByteArray} {kids jf:List Ty} (hat:at_.size+32≤M) {B:Nat} {cs ds:List Value} {w:World} (hB:B≤w.heap.size) (hT:ae3 w) (hx:OkT (n+1) ⟨kind,name,labels,kids⟩) (hy:OkT (n+1) ⟨wu,dh,dn,jf⟩) (h:jy w B (Ty.pd ⟨kind,name,labels,kids⟩) cs) (k:jy w B (Ty.pd ⟨wu,dh,dn,jf⟩) ds):
  Calls Tryz.prog 80 #[.agg cs.toArray,.agg ds.toArray,.string at_] w fun e w'=>WQ (if ae6 wu≤ae6 kind∧ae7 kind≤ae7 wu then none else some (2,at_)) w e w':=by
 obtain⟨iq,qp,rfl,bf,eu⟩:=Ty.open_ h
 obtain⟨jk,gy,je,rfl⟩:=bf.form
 have pq:=Lib.hid bf
 clear bf
 obtain⟨qc,gu,lu,rfl⟩:=eu.form
 have qm:=Lib.hid eu
 clear eu
 obtain⟨ab1,adt,rfl,dw,jd⟩:=Ty.open_ k
 obtain⟨jr,jc,jm,rfl⟩:=dw.form
 have xw:=Lib.hid dw
 clear dw
 obtain⟨ni,ig,jq,rfl⟩:=jd.form
 have zu:=Lib.hid jd
 clear jd
 clear h k
 obtain⟨R,hR⟩:∃ R:Why,R=if ae6 wu≤ae6 kind∧ae7 kind≤ae7 wu then none else some (2,at_):=⟨_,rfl⟩
 rw[← hR]
 have HR:=Lib.hid hR
 clear hR
 have H1:=Lib.hid h1
 have H2:=Lib.hid h2
 clear h1 h2 hx hy
 obtain⟨V,hV⟩:∃ v:Bool,decide (ae6 wu≤ae6 kind∧ae7 kind≤ae7 wu)=v:=⟨_,rfl⟩
 have HV:=Lib.hid hV
 clear hV
 have HF0:Hid (R=if V=true then none else some (2,at_)):=by show _=_;rw[HR.out,← HV.out];simp only[decide_eq_true_eq]
 obtain⟨w0,hw0,bA,bC,bR,hB0,hs0⟩:=aeu w 60 #[.int .i64 kind,.string name,.slice jk gy je,.slice qc gu lu] #[.int .i64 wu,.string dh,.slice jr jc jm,.slice ni ig jq]
 have HW0:=Lib.hid hw0
 clear hw0
 go_enter Tryz.func80,Tryz.ntmps80
 go_wp2_with fail
 rw[← HW0.out]
 clear HW0
 have a0:w0.cell? ⟨w.heap.size,0,none⟩=some (.int .i64 kind):=bA.cell 0
 have z0:w0.cell? ⟨w.heap.size+1,0,none⟩=some (.int .i64 wu):=bC.cell 0
 refine(ady kind w0 (H1.out)).mono ?_
 rintro e wn ⟨rfl,hwn⟩
 subst hwn
 go_wp2_with fail
 refine(ady wu w0 (H2.out)).mono ?_
 rintro e wn ⟨rfl,hwn⟩
 subst hwn
 go_wp2_with fail
 refine(a0c kind wu w0 HV.out).mono ?_
 rintro e wn ⟨rfl,hwn⟩
 subst hwn
 cases V
 case true=>
  have HF:Hid (R=none):=HF0.out
  obtain⟨r0,r1,f0,f1⟩:=zr bR
  go_wp2_with fail
  obtain⟨n0,n1,nB⟩:=aaz bR hB0 (by omega) (0) (⟨#[]⟩)
  exact bodyPost_ret (v:=.tuple #[.agg #[.int .i64 0,.string {data:=#[]}],.bool false]) (by simp[results,Tryz.results80,go_sem,n0,n1]) rfl ⟨qx (by rw[HF.out];rfl) (by rw[HF.out];rfl) (by rw[HF.out];rfl),nB⟩
 case false=>
  have HF:Hid (R=some (2,at_)):=HF0.out
  go_wp2_with fail
  refine(ael 2 at_ _).mono ?_
  rintro e wz ⟨rfl,hbz⟩
  have hBz:=hB0.trans (hbz.mono (by omega))
  have bRz:=bR.step hbz
  have hsz:=hbz.size
  obtain⟨r0,r1,f0,f1⟩:=zr bRz
  go_wp2_with fail
  obtain⟨n0,n1,nB⟩:=aaz bRz hBz (by omega) (2) (at_)
  exact bodyPost_ret (v:=.tuple #[.agg #[.int .i64 2,.string at_],.bool true]) (by simp[results,Tryz.results80,go_sem,n0,n1]) rfl ⟨qx (by rw[HF.out];rfl) (by rw[HF.out];rfl) (by rw[HF.out];rfl),nB⟩
set_option maxHeartbeats 12800000 in
theorem a3a {rec:Ty→Ty→ByteArray→Why} {n M:Nat} (hM:M≤1000000) (hrec:af7 80 rec n M) {kind wu:Int} (hk:¬ kind=wu) (hn:(isNum kind && isNum wu)=false) {name dh at_:ByteArray} {labels dn:List ByteArray} {kids jf:List Ty} (hat:at_.size+32≤M) {B:Nat} {cs ds:List Value} {w:World} (hB:B≤w.heap.size) (hT:ae3 w) (hx:OkT (n+1) ⟨kind,name,labels,kids⟩) (hy:OkT (n+1) ⟨wu,dh,dn,jf⟩) (h:jy w B (Ty.pd ⟨kind,name,labels,kids⟩) cs) (k:jy w B (Ty.pd ⟨wu,dh,dn,jf⟩) ds):
  Calls Tryz.prog 80 #[.agg cs.toArray,.agg ds.toArray,.string at_] w fun e w'=>WQ (some (1,at_)) w e w':=by
 obtain⟨iq,qp,rfl,bf,eu⟩:=Ty.open_ h
 obtain⟨jk,gy,je,rfl⟩:=bf.form
 have pq:=Lib.hid bf
 clear bf
 obtain⟨qc,gu,lu,rfl⟩:=eu.form
 have qm:=Lib.hid eu
 clear eu
 obtain⟨ab1,adt,rfl,dw,jd⟩:=Ty.open_ k
 obtain⟨jr,jc,jm,rfl⟩:=dw.form
 have xw:=Lib.hid dw
 clear dw
 obtain⟨ni,ig,jq,rfl⟩:=jd.form
 have zu:=Lib.hid jd
 clear jd
 clear h k
 obtain⟨R,hR⟩:∃ R:Why,R=some (1,at_):=⟨_,rfl⟩
 rw[← hR]
 have HR:=Lib.hid hR
 clear hR
 have HF:Hid (R=some (1,at_)):=HR.out
 have hne:(kind ==wu)=false:=by simpa using hk
 have hne2:(kind != wu)=true:=by simpa using hk
 clear hk hx hy
 obtain⟨va,hva⟩:∃ v,isNum kind=v:=⟨_,rfl⟩
 obtain⟨vb,hvb⟩:∃ v,isNum wu=v:=⟨_,rfl⟩
 rw[hva,hvb] at hn
 have HVA:=Lib.hid hva
 have HVB:=Lib.hid hvb
 clear hva hvb
 cases va
 case false=>
  clear hn
  obtain⟨w0,hw0,bA,bC,bR,hB0,hs0⟩:=aeu w 60 #[.int .i64 kind,.string name,.slice jk gy je,.slice qc gu lu] #[.int .i64 wu,.string dh,.slice jr jc jm,.slice ni ig jq]
  have HW0:=Lib.hid hw0
  clear hw0
  go_enter Tryz.func80,Tryz.ntmps80
  go_wp2_with fail
  rw[← HW0.out]
  clear HW0
  have a0:w0.cell? ⟨w.heap.size,0,none⟩=some (.int .i64 kind):=bA.cell 0
  have z0:w0.cell? ⟨w.heap.size+1,0,none⟩=some (.int .i64 wu):=bC.cell 0
  refine(ady kind w0 (HVA.out)).mono ?_
  rintro e wn ⟨rfl,hwn⟩
  subst hwn
  go_wp2_with fail
  refine(ael 1 at_ _).mono ?_
  rintro e wz ⟨rfl,hbz⟩
  have hBz:=hB0.trans (hbz.mono (by omega))
  have bRz:=bR.step hbz
  have hsz:=hbz.size
  obtain⟨r0,r1,f0,f1⟩:=zr bRz
  go_wp2_with fail
  obtain⟨n0,n1,nB⟩:=aaz bRz hBz (by omega) (1) (at_)
  exact bodyPost_ret (v:=.tuple #[.agg #[.int .i64 1,.string at_],.bool true]) (by simp[results,Tryz.results80,go_sem,n0,n1]) rfl ⟨qx (by rw[HF.out];rfl) (by rw[HF.out];rfl) (by rw[HF.out];rfl),nB⟩
 case true=>
  have hvb:vb=false:=by simpa using hn
  subst hvb
  clear hn
  obtain⟨w0,hw0,bA,bC,bR,hB0,hs0⟩:=aeu w 60 #[.int .i64 kind,.string name,.slice jk gy je,.slice qc gu lu] #[.int .i64 wu,.string dh,.slice jr jc jm,.slice ni ig jq]
  have HW0:=Lib.hid hw0
  clear hw0
  go_enter Tryz.func80,Tryz.ntmps80
  go_wp2_with fail
  rw[← HW0.out]
  clear HW0
  have a0:w0.cell? ⟨w.heap.size,0,none⟩=some (.int .i64 kind):=bA.cell 0
  have z0:w0.cell? ⟨w.heap.size+1,0,none⟩=some (.int .i64 wu):=bC.cell 0
  refine(ady kind w0 (HVA.out)).mono ?_
  rintro e wn ⟨rfl,hwn⟩
  subst hwn
  go_wp2_with fail
  refine(ady wu w0 (HVB.out)).mono ?_
  rintro e wn ⟨rfl,hwn⟩
  subst hwn
  go_wp2_with fail
  refine(ael 1 at_ _).mono ?_
  rintro e wz ⟨rfl,hbz⟩
  have hBz:=hB0.trans (hbz.mono (by omega))
  have bRz:=bR.step hbz
  have hsz:=hbz.size
  obtain⟨r0,r1,f0,f1⟩:=zr bRz
  go_wp2_with fail
  obtain⟨n0,n1,nB⟩:=aaz bRz hBz (by omega) (1) (at_)
  exact bodyPost_ret (v:=.tuple #[.agg #[.int .i64 1,.string at_],.bool true]) (by simp[results,Tryz.results80,go_sem,n0,n1]) rfl ⟨qx (by rw[HF.out];rfl) (by rw[HF.out];rfl) (by rw[HF.out];rfl),nB⟩
theorem avj:∀ n,n≤10→af7 80 (agl n) n (1000000 - 32 * n)
 | 0,_=>fun x y at_ B cs ds w hB hT hx=>absurd hx.1 (by have:=aoj x;omega)
 | n+1,hn=>by
  have hrec:=avj n (by omega)
  have hM:1000000 - 32 * n≤1000000:=by omega
  intro x y at_ B cs ds w hB hT hx hy hat h k
  obtain⟨kind,name,labels,kids⟩:=x
  obtain⟨wu,dh,dn,jf⟩:=y
  have hat':at_.size+32≤1000000 - 32 * n:=by omega
  by_cases hk:kind=wu
  ·subst hk
   cases hnum:isNum kind
   ·rw[azg hnum]
    by_cases h12:12≤kind∧kind≤23
    ·have hc:kind=12∨kind=13∨kind=14∨kind=15∨kind=16∨kind=17∨kind=18∨kind=19∨kind=20∨kind=21∨kind=22∨kind=23:=by omega
     rcases hc with rfl|rfl|rfl|rfl|rfl|rfl|rfl|rfl|rfl|rfl|rfl|rfl
     ·exact a8l hM hrec hat' hB hT hx hy h k
     ·exact a8m hM hrec hat' hB hT hx hy h k
     ·exact a8n hM hrec hat' hB hT hx hy h k
     ·exact a8v hM hrec hat' hB hT hx hy h k
     ·exact a8w hM hrec hat' hB hT hx hy h k
     ·exact a8x hM hrec hat' hB hT hx hy h k
     ·exact axm hM hrec (.inl rfl) hat' hB hT hx hy h k
     ·exact axm hM hrec (.inr rfl) hat' hB hT hx hy h k
     ·exact axn hM hrec (.inl rfl) hat' hB hT hx hy h k
     ·exact axn hM hrec (.inr rfl) hat' hB hT hx hy h k
     ·exact axo hM hrec (.inl rfl) hat' hB hT hx hy h k
     ·exact axo hM hrec (.inr rfl) hat' hB hT hx hy h k
    ·exact a2z hM hrec h12 hnum hat' hB hT hx hy h k
   ·rw[aq1 hnum hnum];exact avi hM hrec hnum hnum hat' hB hT hx hy h k
  ·cases hn2:isNum kind && isNum wu
   ·rw[azf hn2 hk];exact a3a hM hrec hk hn2 hat' hB hT hx hy h k
   ·rw[Bool.and_eq_true] at hn2;rw[aq1 hn2.1 hn2.2];exact avi hM hrec hn2.1 hn2.2 hat' hB hT hx hy h k
end Go.Proofs.YtbafphecjijdmaaGreatDoor
