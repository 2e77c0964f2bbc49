/-
  Why one type cannot stand for another: impl.whyNot (by program: gen_why.py).
-/
import Derived.Test.YtbafphecjijdmaaGreatDoorFa41
import Derived.Deep.RegionHeld3
namespace Go.Proofs.YtbafphecjijdmaaGreatDoor
open Go.RowKit
set_option linter.unusedVariables false
set_option linter.unusedSimpArgs false
set_option linter.unnecessarySimpa false
set_option maxRecDepth 16000
set_option maxHeartbeats 12800000 in
theorem a6a {rec:Ty→Ty→ByteArray→Why} {n M:Nat} (hM:M≤1000000) (hrec:af0 86 rec n M) {name dh at_:ByteArray} {labels dn:List ByteArray} {kids jf:List Ty} (hat:at_.size+32≤M) {B:Nat} {cs ds:List Value} {w:World} (hB:B≤w.heap.size) (hT:aex w) (hx:OkT (n+1) ⟨12,name,labels,kids⟩) (hy:OkT (n+1) ⟨12,dh,dn,jf⟩) (h:ku w B (Ty.pd ⟨12,name,labels,kids⟩) cs) (k:ku w B (Ty.pd ⟨12,dh,dn,jf⟩) ds):
  Calls Tryz.prog 86 #[.agg cs.toArray,.agg ds.toArray,.string at_] w fun e w'=>WQ (adx rec 12 name labels kids dh dn jf at_) w e w':=by
 have HHX:=Lib.hid hx
 have HHY:=Lib.hid hy
 obtain⟨iq,qp,rfl,bf,eu⟩:=Ty.open_ h
 obtain⟨jk,gy,je,rfl⟩:=bf.form
 have oz:=Lib.hid bf
 clear bf
 obtain⟨pz,gu,lu,rfl⟩:=eu.form
 have qm:=Lib.hid eu
 clear eu
 obtain⟨abx,adl,rfl,dw,jd⟩:=Ty.open_ k
 obtain⟨jr,jc,jm,rfl⟩:=dw.form
 have wu:=Lib.hid dw
 clear dw
 obtain⟨ni,ig,jq,rfl⟩:=jd.form
 have zo:=Lib.hid jd
 clear jd
 clear h k
 have afh:=Lib.hid (aag hx)
 have afi:=Lib.hid (aag hy)
 have SX:=Lib.hid (shF hx.2)
 have SY:=Lib.hid (shF hy.2)
 clear hx hy
 have adz:=Lib.hid hrec
 clear hrec
 obtain⟨R,hR⟩:∃ R:Why,R=adx rec 12 name labels kids dh dn jf at_:=⟨_,rfl⟩
 rw[← hR]
 have HR:=Lib.hid hR
 clear hR
 obtain⟨_,_,_,he,abz,ad9,adf⟩:=ny Ty.jw (by decide) qm.out
 injection he with e1 e2 e3
 subst e1 e2 e3
 unfold maxLen at ad9
 have aav:=Lib.hid abz
 clear abz
 obtain⟨_,_,_,he,aa6,ado,acp⟩:=ny Ty.jw (by decide) zo.out
 injection he with e1 e2 e3
 subst e1 e2 e3
 unfold maxLen at ado
 have aao:=Lib.hid aa6
 clear aa6
 have hkn:gu=1:=by have:=ahn (by decide) SX.out.right;have:=aav.out;omega
 have hkz:ig=1:=by have:=ahn (by decide) SY.out.right;have:=aao.out;omega
 have hpos:0 < gu:=by omega
 have ajw:0 < ig:=by omega
 have aq0:(0:Int) < (gu:Int):=by omega
 have aoy:(0:Int) < (ig:Int):=by omega
 clear hkn hkz
 obtain⟨w0,hw0,bA,bC,bR,hB0,hs0⟩:=aey w 60 #[.int .i64 12,.string name,.slice jk gy je,.slice pz gu lu] #[.int .i64 12,.string dh,.slice jr jc jm,.slice ni ig jq]
 have HW0:=Lib.hid hw0
 clear hw0
 go_enter Tryz.func86,Tryz.ntmps86
 go_wp2_with fail
 rw[← HW0.out]
 clear HW0
 have a0:w0.cell? ⟨w.heap.size,0,none⟩=some (.int .i64 12):=bA.cell 0
 have z0:w0.cell? ⟨w.heap.size+1,0,none⟩=some (.int .i64 12):=bC.cell 0
 refine(zf 12 w0 (by rfl) (by rfl) (by rfl)).mono ?_
 rintro e wn ⟨rfl,hwn⟩
 subst hwn
 go_wp2_with fail
 refine(zf 12 w0 (by rfl) (by rfl) (by rfl)).mono ?_
 rintro e wn ⟨rfl,hwn⟩
 subst hwn
 have a3:w0.cell? ⟨w.heap.size,3,none⟩=some (.slice pz gu lu):=bA.cell 3
 have z3:w0.cell? ⟨w.heap.size+1,3,none⟩=some (.slice ni ig jq):=bC.cell 3
 obtain⟨g,off,rfl,aec,ab5⟩:=adf (by omega)
 obtain⟨x,ac7,acf⟩:=vw aav.out hpos
 obtain⟨tu,qj,aae,abv⟩:=x
 obtain⟨ug,y8,acr,aco,abh,acu,qx,yh⟩:=agh (k:=0) (a0:=off) (a1:=off+1) (a2:=off+2) (a3:=off+3) (hB0.mono (Nat.le_refl _)) aec hB ab5 ac7 ⟨rfl,rfl,rfl,rfl⟩
 replace qx:=Lib.hid qx
 replace yh:=Lib.hid yh
 have af9:=Lib.hid ac7
 have ag4:=Lib.hid acf
 clear ac7 acf
 obtain⟨g2,off2,rfl,adp,abt⟩:=acp (by omega)
 obtain⟨y,ac8,acg⟩:=vw aao.out ajw
 obtain⟨qw,qc,aaf,abw⟩:=y
 obtain⟨uz,zu,ac0,acs,abm,ac1,qo,x9⟩:=agh (k:=0) (a0:=off2) (a1:=off2+1) (a2:=off2+2) (a3:=off2+3) (hB0.mono (Nat.le_refl _)) adp hB abt ac8 ⟨rfl,rfl,rfl,rfl⟩
 replace qo:=Lib.hid qo
 replace x9:=Lib.hid x9
 have aga:=Lib.hid ac8
 have ag5:=Lib.hid acg
 clear ac8 acg
 have akp:(9223372036854775807 < at_.size+(⟨#[91,93]⟩:ByteArray).size)=False:=eq_false (by have z_:(⟨#[91,93]⟩:ByteArray).size=2:=rfl;omega)
 have akq:(9223372036854775807 < at_.size+2)=False:=eq_false (by omega)
 obtain⟨p1,adg⟩:∃ p,at_ ++(⟨#[91,93]⟩:ByteArray)=p:=⟨_,rfl⟩
 have akr:p1.size≤at_.size+2:=by rw[← adg,ByteArray.size_append];have z_:(⟨#[91,93]⟩:ByteArray).size=2:=rfl;omega
 obtain⟨R2,hR2⟩:∃ r,rec ⟨tu,qj,aae,abv⟩ ⟨qw,qc,aaf,abw⟩ p1=r:=⟨_,rfl⟩
 have HC:=fun(V:World) (hV:Keep (w.heap.size+1+1) (w.heap.size+1+1+1) w0 V)=>adz.out ⟨tu,qj,aae,abv⟩ ⟨qw,qc,aaf,abw⟩ p1 B [.int .i64 tu,.string qj,ug,y8] [.int .i64 qw,.string qc,uz,zu] V (Nat.le_trans (Nat.le_trans hB hB0.size) hV.size) (hT.below (hB0.trans (kb hV (by omega)))) (afh.out _ ag4.out) (afi.out _ ag5.out) (by omega) ((Ty.close_ qx.out yh.out).below (kb hV (by omega))) ((Ty.close_ qo.out x9.out).below (kb hV (by omega)))
 unfold WQ at HC
 rw[hR2] at HC
 obtain⟨RK,RS,RN,HRK,HRS,HRN⟩:=agi R2
 rw[HRK.out,HRS.out,HRN.out] at HC
 replace HC:=Lib.hid HC
 have HR2:=Lib.hid hR2
 clear hR2
 have HF:Hid (R=R2):=by show _=_;rw[HR.out,a4d,al4 af9.out aga.out,← HR2.out,← adg]
 have HS:Hid (∀ V,Keep (w.heap.size+1+1) (w.heap.size+1+1+1) w0 V→V.cell? ⟨w.heap.size,3,none⟩=some (.slice (some ⟨g,off,none⟩) gu lu)∧V.cell? ⟨w.heap.size+1,3,none⟩=some (.slice (some ⟨g2,off2,none⟩) ig jq)∧V.cell? ⟨g,off,none⟩=some (.int .i64 tu)∧V.cell? ⟨g,off+1,none⟩=some (.string qj)∧V.cell? ⟨g,off+2,none⟩=some (ug)∧V.cell? ⟨g,off+3,none⟩=some (y8)∧V.cell? ⟨g2,off2,none⟩=some (.int .i64 qw)∧V.cell? ⟨g2,off2+1,none⟩=some (.string qc)∧V.cell? ⟨g2,off2+2,none⟩=some (uz)∧V.cell? ⟨g2,off2+3,none⟩=some (zu)):=Lib.hid fun V hV=>⟨(hV.cell (p:=⟨w.heap.size,3,none⟩) (by simp only;omega) (by simp only;omega)).trans a3,(hV.cell (p:=⟨w.heap.size+1,3,none⟩) (by simp only;omega) (by simp only;omega)).trans z3,(hV.cell (p:=⟨g,off,none⟩) (by simp only;omega) (by simp only;omega)).trans acr,(hV.cell (p:=⟨g,off+1,none⟩) (by simp only;omega) (by simp only;omega)).trans aco,(hV.cell (p:=⟨g,off+2,none⟩) (by simp only;omega) (by simp only;omega)).trans abh,(hV.cell (p:=⟨g,off+3,none⟩) (by simp only;omega) (by simp only;omega)).trans acu,(hV.cell (p:=⟨g2,off2,none⟩) (by simp only;omega) (by simp only;omega)).trans ac0,(hV.cell (p:=⟨g2,off2+1,none⟩) (by simp only;omega) (by simp only;omega)).trans acs,(hV.cell (p:=⟨g2,off2+2,none⟩) (by simp only;omega) (by simp only;omega)).trans abm,(hV.cell (p:=⟨g2,off2+3,none⟩) (by simp only;omega) (by simp only;omega)).trans ac1⟩
 clear bA bC
 go_wp2_with fail
 go_region_held3 (fun w'=>w'.cell? ⟨w.heap.size,3,none⟩=some (.slice (some ⟨g,off,none⟩) gu lu)∧w'.cell? ⟨w.heap.size+1,3,none⟩=some (.slice (some ⟨g2,off2,none⟩) ig jq)∧w'.cell? ⟨g,off,none⟩=some (.int .i64 tu)∧w'.cell? ⟨g,off+1,none⟩=some (.string qj)∧w'.cell? ⟨g,off+2,none⟩=some (ug)∧w'.cell? ⟨g,off+3,none⟩=some (y8)∧w'.cell? ⟨g2,off2,none⟩=some (.int .i64 qw)∧w'.cell? ⟨g2,off2+1,none⟩=some (.string qc)∧w'.cell? ⟨g2,off2+2,none⟩=some (uz)∧w'.cell? ⟨g2,off2+3,none⟩=some (zu))
  (first|exact HS.out _ (by repeat(first|exact hq1|exact hq2|exact Keep.refl _ _ _|refine Keep.drew ?_|refine Keep.alloc ?_ _|refine Keep.setAt ?_ _ _|refine Keep.newAt ?_ (Nat.le_refl _) _ _|refine Keep.newAt ?_ aah.size _ _|refine Keep.newAt ?_ hbW.size _ _)))
  (first|(go_at_call 86;refine(HC.out _ (by repeat(first|exact hq1|exact hq2|exact Keep.refl _ _ _|refine Keep.drew ?_|refine Keep.alloc ?_ _|refine Keep.setAt ?_ _ _|refine Keep.newAt ?_ (Nat.le_refl _) _ _|refine Keep.newAt ?_ aah.size _ _|refine Keep.newAt ?_ hbW.size _ _))).mono ?_;rintro e wq ⟨rfl,hbq⟩;have hbW:=(Below.refl w0.heap.size w0).drew.trans hbq;have hq1:Keep (w.heap.size+1+1) (w.heap.size+1+1+1) w0 wq:=Keep.of_below hbW;have bRq:=bR.step hbW;have r0:wq.cell? ⟨w.heap.size+1+1,0,none⟩=some (.int .i64 0):=bRq.cell 0;have r1:wq.cell? ⟨w.heap.size+1+1,1,none⟩=some (.string {data:=#[]}):=bRq.cell 1;have f0:=bRq.frozen 0;have f1:=bRq.frozen 1))
 all_goals
  have hBq:=hB0.trans (hbW.mono (by omega))
  have hsq:=hbW.size
  try go_wp2_with fail
  obtain⟨n0,n1,nB⟩:=abf bRq hBq (by omega) (RK) (RS)
  exact bodyPost_ret (v:=.tuple #[.agg #[.int .i64 RK,.string RS],.bool RN]) (by simp[results,Tryz.results86,go_sem,n0,n1]) rfl ⟨um (by rw[HF.out,HRK.out]) (by rw[HF.out,HRS.out]) (by rw[HF.out,HRN.out]),nB⟩
set_option maxHeartbeats 12800000 in
theorem a6b {rec:Ty→Ty→ByteArray→Why} {n M:Nat} (hM:M≤1000000) (hrec:af0 86 rec n M) {name dh at_:ByteArray} {labels dn:List ByteArray} {kids jf:List Ty} (hat:at_.size+32≤M) {B:Nat} {cs ds:List Value} {w:World} (hB:B≤w.heap.size) (hT:aex w) (hx:OkT (n+1) ⟨13,name,labels,kids⟩) (hy:OkT (n+1) ⟨13,dh,dn,jf⟩) (h:ku w B (Ty.pd ⟨13,name,labels,kids⟩) cs) (k:ku w B (Ty.pd ⟨13,dh,dn,jf⟩) ds):
  Calls Tryz.prog 86 #[.agg cs.toArray,.agg ds.toArray,.string at_] w fun e w'=>WQ (adx rec 13 name labels kids dh dn jf at_) w e w':=by
 have HHX:=Lib.hid hx
 have HHY:=Lib.hid hy
 obtain⟨iq,qp,rfl,bf,eu⟩:=Ty.open_ h
 obtain⟨jk,gy,je,rfl⟩:=bf.form
 have oz:=Lib.hid bf
 clear bf
 obtain⟨pz,gu,lu,rfl⟩:=eu.form
 have qm:=Lib.hid eu
 clear eu
 obtain⟨abx,adl,rfl,dw,jd⟩:=Ty.open_ k
 obtain⟨jr,jc,jm,rfl⟩:=dw.form
 have wu:=Lib.hid dw
 clear dw
 obtain⟨ni,ig,jq,rfl⟩:=jd.form
 have zo:=Lib.hid jd
 clear jd
 clear h k
 have afh:=Lib.hid (aag hx)
 have afi:=Lib.hid (aag hy)
 have SX:=Lib.hid (shF hx.2)
 have SY:=Lib.hid (shF hy.2)
 clear hx hy
 have adz:=Lib.hid hrec
 clear hrec
 obtain⟨R,hR⟩:∃ R:Why,R=adx rec 13 name labels kids dh dn jf at_:=⟨_,rfl⟩
 rw[← hR]
 have HR:=Lib.hid hR
 clear hR
 obtain⟨_,_,_,he,abz,ad9,adf⟩:=ny Ty.jw (by decide) qm.out
 injection he with e1 e2 e3
 subst e1 e2 e3
 unfold maxLen at ad9
 have aav:=Lib.hid abz
 clear abz
 obtain⟨_,_,_,he,aa6,ado,acp⟩:=ny Ty.jw (by decide) zo.out
 injection he with e1 e2 e3
 subst e1 e2 e3
 unfold maxLen at ado
 have aao:=Lib.hid aa6
 clear aa6
 have hkn:gu=1:=by have:=ahn (by decide) SX.out.right;have:=aav.out;omega
 have hkz:ig=1:=by have:=ahn (by decide) SY.out.right;have:=aao.out;omega
 have hpos:0 < gu:=by omega
 have ajw:0 < ig:=by omega
 have aq0:(0:Int) < (gu:Int):=by omega
 have aoy:(0:Int) < (ig:Int):=by omega
 clear hkn hkz
 obtain⟨w0,hw0,bA,bC,bR,hB0,hs0⟩:=aey w 60 #[.int .i64 13,.string name,.slice jk gy je,.slice pz gu lu] #[.int .i64 13,.string dh,.slice jr jc jm,.slice ni ig jq]
 have HW0:=Lib.hid hw0
 clear hw0
 go_enter Tryz.func86,Tryz.ntmps86
 go_wp2_with fail
 rw[← HW0.out]
 clear HW0
 have a0:w0.cell? ⟨w.heap.size,0,none⟩=some (.int .i64 13):=bA.cell 0
 have z0:w0.cell? ⟨w.heap.size+1,0,none⟩=some (.int .i64 13):=bC.cell 0
 refine(zf 13 w0 (by rfl) (by rfl) (by rfl)).mono ?_
 rintro e wn ⟨rfl,hwn⟩
 subst hwn
 go_wp2_with fail
 refine(zf 13 w0 (by rfl) (by rfl) (by rfl)).mono ?_
 rintro e wn ⟨rfl,hwn⟩
 subst hwn
 have a3:w0.cell? ⟨w.heap.size,3,none⟩=some (.slice pz gu lu):=bA.cell 3
 have z3:w0.cell? ⟨w.heap.size+1,3,none⟩=some (.slice ni ig jq):=bC.cell 3
 obtain⟨g,off,rfl,aec,ab5⟩:=adf (by omega)
 obtain⟨x,ac7,acf⟩:=vw aav.out hpos
 obtain⟨tu,qj,aae,abv⟩:=x
 obtain⟨ug,y8,acr,aco,abh,acu,qx,yh⟩:=agh (k:=0) (a0:=off) (a1:=off+1) (a2:=off+2) (a3:=off+3) (hB0.mono (Nat.le_refl _)) aec hB ab5 ac7 ⟨rfl,rfl,rfl,rfl⟩
 replace qx:=Lib.hid qx
 replace yh:=Lib.hid yh
 have af9:=Lib.hid ac7
 have ag4:=Lib.hid acf
 clear ac7 acf
 obtain⟨g2,off2,rfl,adp,abt⟩:=acp (by omega)
 obtain⟨y,ac8,acg⟩:=vw aao.out ajw
 obtain⟨qw,qc,aaf,abw⟩:=y
 obtain⟨uz,zu,ac0,acs,abm,ac1,qo,x9⟩:=agh (k:=0) (a0:=off2) (a1:=off2+1) (a2:=off2+2) (a3:=off2+3) (hB0.mono (Nat.le_refl _)) adp hB abt ac8 ⟨rfl,rfl,rfl,rfl⟩
 replace qo:=Lib.hid qo
 replace x9:=Lib.hid x9
 have aga:=Lib.hid ac8
 have ag5:=Lib.hid acg
 clear ac8 acg
 have akp:(9223372036854775807 < at_.size+(⟨#[63]⟩:ByteArray).size)=False:=eq_false (by have z_:(⟨#[63]⟩:ByteArray).size=1:=rfl;omega)
 have akq:(9223372036854775807 < at_.size+1)=False:=eq_false (by omega)
 obtain⟨p1,adg⟩:∃ p,at_ ++(⟨#[63]⟩:ByteArray)=p:=⟨_,rfl⟩
 have akr:p1.size≤at_.size+1:=by rw[← adg,ByteArray.size_append];have z_:(⟨#[63]⟩:ByteArray).size=1:=rfl;omega
 obtain⟨R2,hR2⟩:∃ r,rec ⟨tu,qj,aae,abv⟩ ⟨qw,qc,aaf,abw⟩ p1=r:=⟨_,rfl⟩
 have HC:=fun(V:World) (hV:Keep (w.heap.size+1+1) (w.heap.size+1+1+1) w0 V)=>adz.out ⟨tu,qj,aae,abv⟩ ⟨qw,qc,aaf,abw⟩ p1 B [.int .i64 tu,.string qj,ug,y8] [.int .i64 qw,.string qc,uz,zu] V (Nat.le_trans (Nat.le_trans hB hB0.size) hV.size) (hT.below (hB0.trans (kb hV (by omega)))) (afh.out _ ag4.out) (afi.out _ ag5.out) (by omega) ((Ty.close_ qx.out yh.out).below (kb hV (by omega))) ((Ty.close_ qo.out x9.out).below (kb hV (by omega)))
 unfold WQ at HC
 rw[hR2] at HC
 obtain⟨RK,RS,RN,HRK,HRS,HRN⟩:=agi R2
 rw[HRK.out,HRS.out,HRN.out] at HC
 replace HC:=Lib.hid HC
 have HR2:=Lib.hid hR2
 clear hR2
 have HF:Hid (R=R2):=by show _=_;rw[HR.out,a4e,al4 af9.out aga.out,← HR2.out,← adg]
 have HS:Hid (∀ V,Keep (w.heap.size+1+1) (w.heap.size+1+1+1) w0 V→V.cell? ⟨w.heap.size,3,none⟩=some (.slice (some ⟨g,off,none⟩) gu lu)∧V.cell? ⟨w.heap.size+1,3,none⟩=some (.slice (some ⟨g2,off2,none⟩) ig jq)∧V.cell? ⟨g,off,none⟩=some (.int .i64 tu)∧V.cell? ⟨g,off+1,none⟩=some (.string qj)∧V.cell? ⟨g,off+2,none⟩=some (ug)∧V.cell? ⟨g,off+3,none⟩=some (y8)∧V.cell? ⟨g2,off2,none⟩=some (.int .i64 qw)∧V.cell? ⟨g2,off2+1,none⟩=some (.string qc)∧V.cell? ⟨g2,off2+2,none⟩=some (uz)∧V.cell? ⟨g2,off2+3,none⟩=some (zu)):=Lib.hid fun V hV=>⟨(hV.cell (p:=⟨w.heap.size,3,none⟩) (by simp only;omega) (by simp only;omega)).trans a3,(hV.cell (p:=⟨w.heap.size+1,3,none⟩) (by simp only;omega) (by simp only;omega)).trans z3,(hV.cell (p:=⟨g,off,none⟩) (by simp only;omega) (by simp only;omega)).trans acr,(hV.cell (p:=⟨g,off+1,none⟩) (by simp only;omega) (by simp only;omega)).trans aco,(hV.cell (p:=⟨g,off+2,none⟩) (by simp only;omega) (by simp only;omega)).trans abh,(hV.cell (p:=⟨g,off+3,none⟩) (by simp only;omega) (by simp only;omega)).trans acu,(hV.cell (p:=⟨g2,off2,none⟩) (by simp only;omega) (by simp only;omega)).trans ac0,(hV.cell (p:=⟨g2,off2+1,none⟩) (by simp only;omega) (by simp only;omega)).trans acs,(hV.cell (p:=⟨g2,off2+2,none⟩) (by simp only;omega) (by simp only;omega)).trans abm,(hV.cell (p:=⟨g2,off2+3,none⟩) (by simp only;omega) (by simp only;omega)).trans ac1⟩
 clear bA bC
 go_wp2_with fail
 go_region_held3 (fun w'=>w'.cell? ⟨w.heap.size,3,none⟩=some (.slice (some ⟨g,off,none⟩) gu lu)∧w'.cell? ⟨w.heap.size+1,3,none⟩=some (.slice (some ⟨g2,off2,none⟩) ig jq)∧w'.cell? ⟨g,off,none⟩=some (.int .i64 tu)∧w'.cell? ⟨g,off+1,none⟩=some (.string qj)∧w'.cell? ⟨g,off+2,none⟩=some (ug)∧w'.cell? ⟨g,off+3,none⟩=some (y8)∧w'.cell? ⟨g2,off2,none⟩=some (.int .i64 qw)∧w'.cell? ⟨g2,off2+1,none⟩=some (.string qc)∧w'.cell? ⟨g2,off2+2,none⟩=some (uz)∧w'.cell? ⟨g2,off2+3,none⟩=some (zu))
  (first|exact HS.out _ (by repeat(first|exact hq1|exact hq2|exact Keep.refl _ _ _|refine Keep.drew ?_|refine Keep.alloc ?_ _|refine Keep.setAt ?_ _ _|refine Keep.newAt ?_ (Nat.le_refl _) _ _|refine Keep.newAt ?_ aah.size _ _|refine Keep.newAt ?_ hbW.size _ _)))
  (first|(go_at_call 86;refine(HC.out _ (by repeat(first|exact hq1|exact hq2|exact Keep.refl _ _ _|refine Keep.drew ?_|refine Keep.alloc ?_ _|refine Keep.setAt ?_ _ _|refine Keep.newAt ?_ (Nat.le_refl _) _ _|refine Keep.newAt ?_ aah.size _ _|refine Keep.newAt ?_ hbW.size _ _))).mono ?_;rintro e wq ⟨rfl,hbq⟩;have hbW:=(Below.refl w0.heap.size w0).drew.trans hbq;have hq1:Keep (w.heap.size+1+1) (w.heap.size+1+1+1) w0 wq:=Keep.of_below hbW;have bRq:=bR.step hbW;have r0:wq.cell? ⟨w.heap.size+1+1,0,none⟩=some (.int .i64 0):=bRq.cell 0;have r1:wq.cell? ⟨w.heap.size+1+1,1,none⟩=some (.string {data:=#[]}):=bRq.cell 1;have f0:=bRq.frozen 0;have f1:=bRq.frozen 1))
 all_goals
  have hBq:=hB0.trans (hbW.mono (by omega))
  have hsq:=hbW.size
  try go_wp2_with fail
  obtain⟨n0,n1,nB⟩:=abf bRq hBq (by omega) (RK) (RS)
  exact bodyPost_ret (v:=.tuple #[.agg #[.int .i64 RK,.string RS],.bool RN]) (by simp[results,Tryz.results86,go_sem,n0,n1]) rfl ⟨um (by rw[HF.out,HRK.out]) (by rw[HF.out,HRS.out]) (by rw[HF.out,HRN.out]),nB⟩
set_option maxHeartbeats 12800000 in
theorem a6c {rec:Ty→Ty→ByteArray→Why} {n M:Nat} (hM:M≤1000000) (hrec:af0 86 rec n M) {name dh at_:ByteArray} {labels dn:List ByteArray} {kids jf:List Ty} (hat:at_.size+32≤M) {B:Nat} {cs ds:List Value} {w:World} (hB:B≤w.heap.size) (hT:aex w) (hx:OkT (n+1) ⟨14,name,labels,kids⟩) (hy:OkT (n+1) ⟨14,dh,dn,jf⟩) (h:ku w B (Ty.pd ⟨14,name,labels,kids⟩) cs) (k:ku w B (Ty.pd ⟨14,dh,dn,jf⟩) ds):
  Calls Tryz.prog 86 #[.agg cs.toArray,.agg ds.toArray,.string at_] w fun e w'=>WQ (adx rec 14 name labels kids dh dn jf at_) w e w':=by
 have HHX:=Lib.hid hx
 have HHY:=Lib.hid hy
 obtain⟨iq,qp,rfl,bf,eu⟩:=Ty.open_ h
 obtain⟨jk,gy,je,rfl⟩:=bf.form
 have oz:=Lib.hid bf
 clear bf
 obtain⟨pz,gu,lu,rfl⟩:=eu.form
 have qm:=Lib.hid eu
 clear eu
 obtain⟨abx,adl,rfl,dw,jd⟩:=Ty.open_ k
 obtain⟨jr,jc,jm,rfl⟩:=dw.form
 have wu:=Lib.hid dw
 clear dw
 obtain⟨ni,ig,jq,rfl⟩:=jd.form
 have zo:=Lib.hid jd
 clear jd
 clear h k
 have afh:=Lib.hid (aag hx)
 have afi:=Lib.hid (aag hy)
 have SX:=Lib.hid (shF hx.2)
 have SY:=Lib.hid (shF hy.2)
 clear hx hy
 have adz:=Lib.hid hrec
 clear hrec
 obtain⟨R,hR⟩:∃ R:Why,R=adx rec 14 name labels kids dh dn jf at_:=⟨_,rfl⟩
 rw[← hR]
 have HR:=Lib.hid hR
 clear hR
 obtain⟨_,_,_,he,abz,ad9,adf⟩:=ny Ty.jw (by decide) qm.out
 injection he with e1 e2 e3
 subst e1 e2 e3
 unfold maxLen at ad9
 have aav:=Lib.hid abz
 clear abz
 obtain⟨_,_,_,he,aa6,ado,acp⟩:=ny Ty.jw (by decide) zo.out
 injection he with e1 e2 e3
 subst e1 e2 e3
 unfold maxLen at ado
 have aao:=Lib.hid aa6
 clear aa6
 have hkn:gu=2:=by have:=aqp SX.out.right;have:=aav.out;omega
 have hkz:ig=2:=by have:=aqp SY.out.right;have:=aao.out;omega
 have hpos:0 < gu:=by omega
 have ajw:0 < ig:=by omega
 have aq0:(0:Int) < (gu:Int):=by omega
 have aoy:(0:Int) < (ig:Int):=by omega
 have hpos1:1 < gu:=by omega
 have a1q:1 < ig:=by omega
 have hpos1I:(1:Int) < (gu:Int):=by omega
 have hposz1I:(1:Int) < (ig:Int):=by omega
 clear hkn hkz
 obtain⟨w0,hw0,bA,bC,bR,hB0,hs0⟩:=aey w 60 #[.int .i64 14,.string name,.slice jk gy je,.slice pz gu lu] #[.int .i64 14,.string dh,.slice jr jc jm,.slice ni ig jq]
 have HW0:=Lib.hid hw0
 clear hw0
 go_enter Tryz.func86,Tryz.ntmps86
 go_wp2_with fail
 rw[← HW0.out]
 clear HW0
 have a0:w0.cell? ⟨w.heap.size,0,none⟩=some (.int .i64 14):=bA.cell 0
 have z0:w0.cell? ⟨w.heap.size+1,0,none⟩=some (.int .i64 14):=bC.cell 0
 refine(zf 14 w0 (by rfl) (by rfl) (by rfl)).mono ?_
 rintro e wn ⟨rfl,hwn⟩
 subst hwn
 go_wp2_with fail
 refine(zf 14 w0 (by rfl) (by rfl) (by rfl)).mono ?_
 rintro e wn ⟨rfl,hwn⟩
 subst hwn
 have a3:w0.cell? ⟨w.heap.size,3,none⟩=some (.slice pz gu lu):=bA.cell 3
 have z3:w0.cell? ⟨w.heap.size+1,3,none⟩=some (.slice ni ig jq):=bC.cell 3
 obtain⟨g,off,rfl,aec,ab5⟩:=adf (by omega)
 obtain⟨x,ac7,acf⟩:=vw aav.out hpos
 obtain⟨tu,qj,aae,abv⟩:=x
 obtain⟨ug,y8,acr,aco,abh,acu,qx,yh⟩:=agh (k:=0) (a0:=off) (a1:=off+1) (a2:=off+2) (a3:=off+3) (hB0.mono (Nat.le_refl _)) aec hB ab5 ac7 ⟨rfl,rfl,rfl,rfl⟩
 replace qx:=Lib.hid qx
 replace yh:=Lib.hid yh
 have af9:=Lib.hid ac7
 have ag4:=Lib.hid acf
 clear ac7 acf
 obtain⟨g2,off2,rfl,adp,abt⟩:=acp (by omega)
 obtain⟨y,ac8,acg⟩:=vw aao.out ajw
 obtain⟨qw,qc,aaf,abw⟩:=y
 obtain⟨uz,zu,ac0,acs,abm,ac1,qo,x9⟩:=agh (k:=0) (a0:=off2) (a1:=off2+1) (a2:=off2+2) (a3:=off2+3) (hB0.mono (Nat.le_refl _)) adp hB abt ac8 ⟨rfl,rfl,rfl,rfl⟩
 replace qo:=Lib.hid qo
 replace x9:=Lib.hid x9
 have aga:=Lib.hid ac8
 have ag5:=Lib.hid acg
 clear ac8 acg
 have akp:(9223372036854775807 < at_.size+(⟨#[46,111,107]⟩:ByteArray).size)=False:=eq_false (by have z_:(⟨#[46,111,107]⟩:ByteArray).size=3:=rfl;omega)
 have akq:(9223372036854775807 < at_.size+3)=False:=eq_false (by omega)
 obtain⟨p1,adg⟩:∃ p,at_ ++(⟨#[46,111,107]⟩:ByteArray)=p:=⟨_,rfl⟩
 have akr:p1.size≤at_.size+3:=by rw[← adg,ByteArray.size_append];have z_:(⟨#[46,111,107]⟩:ByteArray).size=3:=rfl;omega
 have apf:(9223372036854775807 < at_.size+(⟨#[46,101,114,114]⟩:ByteArray).size)=False:=eq_false (by have z_:(⟨#[46,101,114,114]⟩:ByteArray).size=4:=rfl;omega)
 have x_p2:(9223372036854775807 < at_.size+4)=False:=eq_false (by omega)
 obtain⟨p2,af6⟩:∃ p,at_ ++(⟨#[46,101,114,114]⟩:ByteArray)=p:=⟨_,rfl⟩
 have apg:p2.size≤at_.size+4:=by rw[← af6,ByteArray.size_append];have z_:(⟨#[46,101,114,114]⟩:ByteArray).size=4:=rfl;omega
 obtain⟨R2,hR2⟩:∃ r,rec ⟨tu,qj,aae,abv⟩ ⟨qw,qc,aaf,abw⟩ p1=r:=⟨_,rfl⟩
 have HC:=fun(V:World) (hV:Keep (w.heap.size+1+1) (w.heap.size+1+1+1) w0 V)=>adz.out ⟨tu,qj,aae,abv⟩ ⟨qw,qc,aaf,abw⟩ p1 B [.int .i64 tu,.string qj,ug,y8] [.int .i64 qw,.string qc,uz,zu] V (Nat.le_trans (Nat.le_trans hB hB0.size) hV.size) (hT.below (hB0.trans (kb hV (by omega)))) (afh.out _ ag4.out) (afi.out _ ag5.out) (by omega) ((Ty.close_ qx.out yh.out).below (kb hV (by omega))) ((Ty.close_ qo.out x9.out).below (kb hV (by omega)))
 unfold WQ at HC
 rw[hR2] at HC
 obtain⟨RK,RS,RN,HRK,HRS,HRN⟩:=agi R2
 rw[HRK.out,HRS.out,HRN.out] at HC
 replace HC:=Lib.hid HC
 have HR2:=Lib.hid hR2
 clear hR2
 have HK1:Hid (ami rec p1 kids jf 0=R2):=by show _=_;rw[al4 af9.out aga.out,← HR2.out]
 have HS:Hid (∀ V,Keep (w.heap.size+1+1) (w.heap.size+1+1+1) w0 V→V.cell? ⟨w.heap.size,3,none⟩=some (.slice (some ⟨g,off,none⟩) gu lu)∧V.cell? ⟨w.heap.size+1,3,none⟩=some (.slice (some ⟨g2,off2,none⟩) ig jq)∧V.cell? ⟨g,off,none⟩=some (.int .i64 tu)∧V.cell? ⟨g,off+1,none⟩=some (.string qj)∧V.cell? ⟨g,off+2,none⟩=some (ug)∧V.cell? ⟨g,off+3,none⟩=some (y8)∧V.cell? ⟨g2,off2,none⟩=some (.int .i64 qw)∧V.cell? ⟨g2,off2+1,none⟩=some (.string qc)∧V.cell? ⟨g2,off2+2,none⟩=some (uz)∧V.cell? ⟨g2,off2+3,none⟩=some (zu)):=Lib.hid fun V hV=>⟨(hV.cell (p:=⟨w.heap.size,3,none⟩) (by simp only;omega) (by simp only;omega)).trans a3,(hV.cell (p:=⟨w.heap.size+1,3,none⟩) (by simp only;omega) (by simp only;omega)).trans z3,(hV.cell (p:=⟨g,off,none⟩) (by simp only;omega) (by simp only;omega)).trans acr,(hV.cell (p:=⟨g,off+1,none⟩) (by simp only;omega) (by simp only;omega)).trans aco,(hV.cell (p:=⟨g,off+2,none⟩) (by simp only;omega) (by simp only;omega)).trans abh,(hV.cell (p:=⟨g,off+3,none⟩) (by simp only;omega) (by simp only;omega)).trans acu,(hV.cell (p:=⟨g2,off2,none⟩) (by simp only;omega) (by simp only;omega)).trans ac0,(hV.cell (p:=⟨g2,off2+1,none⟩) (by simp only;omega) (by simp only;omega)).trans acs,(hV.cell (p:=⟨g2,off2+2,none⟩) (by simp only;omega) (by simp only;omega)).trans abm,(hV.cell (p:=⟨g2,off2+3,none⟩) (by simp only;omega) (by simp only;omega)).trans ac1⟩
 go_wp2_with fail
 go_region_held3 (fun w'=>w'.cell? ⟨w.heap.size,3,none⟩=some (.slice (some ⟨g,off,none⟩) gu lu)∧w'.cell? ⟨w.heap.size+1,3,none⟩=some (.slice (some ⟨g2,off2,none⟩) ig jq)∧w'.cell? ⟨g,off,none⟩=some (.int .i64 tu)∧w'.cell? ⟨g,off+1,none⟩=some (.string qj)∧w'.cell? ⟨g,off+2,none⟩=some (ug)∧w'.cell? ⟨g,off+3,none⟩=some (y8)∧w'.cell? ⟨g2,off2,none⟩=some (.int .i64 qw)∧w'.cell? ⟨g2,off2+1,none⟩=some (.string qc)∧w'.cell? ⟨g2,off2+2,none⟩=some (uz)∧w'.cell? ⟨g2,off2+3,none⟩=some (zu))
  (first|exact HS.out _ (by repeat(first|exact hq1|exact hq2|exact Keep.refl _ _ _|refine Keep.drew ?_|refine Keep.alloc ?_ _|refine Keep.setAt ?_ _ _|refine Keep.newAt ?_ (Nat.le_refl _) _ _|refine Keep.newAt ?_ aah.size _ _|refine Keep.newAt ?_ hbW.size _ _)))
  (first|(go_at_call 86;refine(HC.out _ (by repeat(first|exact hq1|exact hq2|exact Keep.refl _ _ _|refine Keep.drew ?_|refine Keep.alloc ?_ _|refine Keep.setAt ?_ _ _|refine Keep.newAt ?_ (Nat.le_refl _) _ _|refine Keep.newAt ?_ aah.size _ _|refine Keep.newAt ?_ hbW.size _ _))).mono ?_;rintro e wq ⟨rfl,hbq⟩;have hbW:Below w0.heap.size w0 wq:=(by first|exact(Below.refl _ _).drew.trans hbq|exact((Below.refl _ _).drew.alloc (Nat.le_refl _) _).trans (hbq.mono (by simp)));have hq2:Keep (w.heap.size+1+1) (w.heap.size+1+1+1) w0 wq:=Keep.of_below hbW;(first|(have bP:Blk wq w0.heap.size 34 #[.int .i64 0,.string {data:=#[]}]:=(Blk.new w0.drew _ _).step hbq;have p0:wq.cell? ⟨w0.heap.size,0,none⟩=some (.int .i64 0):=bP.cell 0;have p1:wq.cell? ⟨w0.heap.size,1,none⟩=some (.string {data:=#[]}):=bP.cell 1;have g0:wq.frozen? ⟨w0.heap.size,0,none⟩=false:=bP.frozen 0;have g1:wq.frozen? ⟨w0.heap.size,1,none⟩=false:=bP.frozen 1)|skip)))
 all_goals
  first
   | (obtain⟨w6,hw6⟩:∃ V,V=wq.alloc (.cells #[.int .i64 RK,.string RS] 34):=⟨_,rfl⟩;rw[← hw6];have bX:Blk w6 wq.heap.size 34 #[.int .i64 RK,.string RS]:=(by rw[hw6];exact Blk.new wq _ _);have hb6:Below w0.heap.size w0 w6:=(by rw[hw6];exact hbW.alloc hbW.size _);obtain⟨rx,hrx⟩:∃ r,r=wq.heap.size:=⟨_,rfl⟩;have ahz:w0.heap.size≤rx:=(by rw[hrx];exact hbW.size);rw[← hrx] at bX ⊢;clear hw6 hrx)
   | (obtain⟨w6,hw6⟩:∃ V,V=(wq.setCell ⟨w0.heap.size,0,none⟩ (.int .i64 RK)).setCell ⟨w0.heap.size,1,none⟩ (.string RS):=⟨_,rfl⟩;rw[← hw6];have bX:Blk w6 (w0.heap.size) 34 #[.int .i64 RK,.string RS]:=(by rw[hw6];have:=(bP.abo 0 (.int .i64 RK)).abo 1 (.string RS);simpa using this);have hb6:Below w0.heap.size w0 w6:=(by rw[hw6];exact(hbW.setCell (p:=⟨w0.heap.size,0,none⟩) (by first|exact Nat.le_refl _|exact aah.size|exact hbW.size) _).setCell (p:=⟨w0.heap.size,1,none⟩) (by first|exact Nat.le_refl _|exact aah.size|exact hbW.size) _);obtain⟨rx,hrx⟩:∃ r,r=w0.heap.size:=⟨_,rfl⟩;have ahz:w0.heap.size≤rx:=(by rw[hrx];first|exact Nat.le_refl _|exact hbW.size|exact aah.size);rw[← hrx] at bX ⊢;clear hw6 hrx)
  have hB6:=hB0.trans (hb6.mono (by omega))
  have bR6:=bR.step hb6
  have hs6:=hb6.size
  cases RN
  case true=>
   have HF:Hid (R=some (RK,RS)):=by show _=_;rw[HR.out,atv,adg,HK1.out,agt HRN.out,HRK.out,HRS.out]
   obtain⟨q0,q1⟩:=rq bX
   obtain⟨r0,r1,f0,f1⟩:=zr bR6
   go_wp2_with fail
   obtain⟨n0,n1,nB⟩:=abf bR6 hB6 (by omega) (RK) (RS)
   exact bodyPost_ret (v:=.tuple #[.agg #[.int .i64 RK,.string RS],.bool true]) (by simp[results,Tryz.results86,go_sem,n0,n1]) rfl ⟨um (by rw[HF.out];rfl) (by rw[HF.out];rfl) (by rw[HF.out];rfl),nB⟩
  case false=>
   have HF1:Hid (R=ami rec p2 kids jf 1):=by show _=_;rw[HR.out,atv,adg,HK1.out,ags HRN.out,af6]
   clear a3 z3 HS HC HRK HRS HRN HR2
   have bA6:=bA.step hb6
   have bC6:=bC.step hb6
   have a3:w6.cell? ⟨w.heap.size,3,none⟩=some (.slice (some ⟨g,off,none⟩) gu lu):=bA6.cell 3
   have z3:w6.cell? ⟨w.heap.size+1,3,none⟩=some (.slice (some ⟨g2,off2,none⟩) ig jq):=bC6.cell 3
   clear bA bC
   have HOKx1:=afh
   have HOKy1:=afi
   obtain⟨x1,aq1,ap6⟩:=vw aav.out hpos1
   obtain⟨ajd,aje,anw,ap7⟩:=x1
   obtain⟨ajx,aly,as4,as5,aph,as6,aiw,akw⟩:=agh (k:=1) (a0:=off+4) (a1:=off+5) (a2:=off+6) (a3:=off+7) (hB6.mono (Nat.le_refl _)) aec hB ab5 aq1 ⟨rfl,rfl,rfl,rfl⟩
   replace aiw:=Lib.hid aiw
   replace akw:=Lib.hid akw
   have HX_x1:=Lib.hid aq1
   have HM_x1:=Lib.hid ap6
   clear aq1 ap6
   obtain⟨y1,aq2,ap8⟩:=vw aao.out a1q
   obtain⟨ajf,ajg,anx,ap9⟩:=y1
   obtain⟨ajy,alz,as7,as8,apj,as9,aix,akx⟩:=agh (k:=1) (a0:=off2+4) (a1:=off2+5) (a2:=off2+6) (a3:=off2+7) (hB6.mono (Nat.le_refl _)) adp hB abt aq2 ⟨rfl,rfl,rfl,rfl⟩
   replace aix:=Lib.hid aix
   replace akx:=Lib.hid akx
   have HX_y1:=Lib.hid aq2
   have HM_y1:=Lib.hid ap8
   clear aq2 ap8
   obtain⟨R2,hR2⟩:∃ r,rec ⟨ajd,aje,anw,ap7⟩ ⟨ajf,ajg,anx,ap9⟩ p2=r:=⟨_,rfl⟩
   have HC:=fun(V:World) (hV:Keep (w.heap.size+1+1) (w.heap.size+1+1+1) w6 V)=>adz.out ⟨ajd,aje,anw,ap7⟩ ⟨ajf,ajg,anx,ap9⟩ p2 B [.int .i64 ajd,.string aje,ajx,aly] [.int .i64 ajf,.string ajg,ajy,alz] V (Nat.le_trans (Nat.le_trans hB hB6.size) hV.size) (hT.below (hB6.trans (kb hV (by omega)))) (HOKx1.out _ HM_x1.out) (HOKy1.out _ HM_y1.out) (by omega) ((Ty.close_ aiw.out akw.out).below (kb hV (by omega))) ((Ty.close_ aix.out akx.out).below (kb hV (by omega)))
   unfold WQ at HC
   rw[hR2] at HC
   obtain⟨RK,RS,RN,HRK,HRS,HRN⟩:=agi R2
   rw[HRK.out,HRS.out,HRN.out] at HC
   replace HC:=Lib.hid HC
   have HR2:=Lib.hid hR2
   clear hR2
   have HF:Hid (R=R2):=by show _=_;rw[HF1.out,al4 HX_x1.out HX_y1.out,← HR2.out]
   have HS:Hid (∀ V,Keep (w.heap.size+1+1) (w.heap.size+1+1+1) w6 V→V.cell? ⟨w.heap.size,3,none⟩=some (.slice (some ⟨g,off,none⟩) gu lu)∧V.cell? ⟨w.heap.size+1,3,none⟩=some (.slice (some ⟨g2,off2,none⟩) ig jq)∧V.cell? ⟨g,off+4,none⟩=some (.int .i64 ajd)∧V.cell? ⟨g,off+5,none⟩=some (.string aje)∧V.cell? ⟨g,off+6,none⟩=some (ajx)∧V.cell? ⟨g,off+7,none⟩=some (aly)∧V.cell? ⟨g2,off2+4,none⟩=some (.int .i64 ajf)∧V.cell? ⟨g2,off2+5,none⟩=some (.string ajg)∧V.cell? ⟨g2,off2+6,none⟩=some (ajy)∧V.cell? ⟨g2,off2+7,none⟩=some (alz)):=Lib.hid fun V hV=>⟨(hV.cell (p:=⟨w.heap.size,3,none⟩) (by simp only;omega) (by simp only;omega)).trans a3,(hV.cell (p:=⟨w.heap.size+1,3,none⟩) (by simp only;omega) (by simp only;omega)).trans z3,(hV.cell (p:=⟨g,off+4,none⟩) (by simp only;omega) (by simp only;omega)).trans as4,(hV.cell (p:=⟨g,off+5,none⟩) (by simp only;omega) (by simp only;omega)).trans as5,(hV.cell (p:=⟨g,off+6,none⟩) (by simp only;omega) (by simp only;omega)).trans aph,(hV.cell (p:=⟨g,off+7,none⟩) (by simp only;omega) (by simp only;omega)).trans as6,(hV.cell (p:=⟨g2,off2+4,none⟩) (by simp only;omega) (by simp only;omega)).trans as7,(hV.cell (p:=⟨g2,off2+5,none⟩) (by simp only;omega) (by simp only;omega)).trans as8,(hV.cell (p:=⟨g2,off2+6,none⟩) (by simp only;omega) (by simp only;omega)).trans apj,(hV.cell (p:=⟨g2,off2+7,none⟩) (by simp only;omega) (by simp only;omega)).trans as9⟩
   clear bA6 bC6
   go_wp2_with fail
   go_region_held3 (fun w'=>w'.cell? ⟨w.heap.size,3,none⟩=some (.slice (some ⟨g,off,none⟩) gu lu)∧w'.cell? ⟨w.heap.size+1,3,none⟩=some (.slice (some ⟨g2,off2,none⟩) ig jq)∧w'.cell? ⟨g,off+4,none⟩=some (.int .i64 ajd)∧w'.cell? ⟨g,off+5,none⟩=some (.string aje)∧w'.cell? ⟨g,off+6,none⟩=some (ajx)∧w'.cell? ⟨g,off+7,none⟩=some (aly)∧w'.cell? ⟨g2,off2+4,none⟩=some (.int .i64 ajf)∧w'.cell? ⟨g2,off2+5,none⟩=some (.string ajg)∧w'.cell? ⟨g2,off2+6,none⟩=some (ajy)∧w'.cell? ⟨g2,off2+7,none⟩=some (alz))
    (first|exact HS.out _ (by repeat(first|exact hq1|exact hq2|exact Keep.refl _ _ _|refine Keep.drew ?_|refine Keep.alloc ?_ _|refine Keep.setAt ?_ _ _|refine Keep.newAt ?_ (Nat.le_refl _) _ _|refine Keep.newAt ?_ aah.size _ _|refine Keep.newAt ?_ hbW.size _ _)))
    (first|(go_at_call 86;refine(HC.out _ (by repeat(first|exact hq1|exact hq2|exact Keep.refl _ _ _|refine Keep.drew ?_|refine Keep.alloc ?_ _|refine Keep.setAt ?_ _ _|refine Keep.newAt ?_ (Nat.le_refl _) _ _|refine Keep.newAt ?_ aah.size _ _|refine Keep.newAt ?_ hbW.size _ _))).mono ?_;rintro e wq ⟨rfl,hbq⟩;have hbW:=(Below.refl w6.heap.size w6).drew.trans hbq;have hq1:Keep (w.heap.size+1+1) (w.heap.size+1+1+1) w6 wq:=Keep.of_below hbW;have bRq:=bR6.step hbW;have r0:wq.cell? ⟨w.heap.size+1+1,0,none⟩=some (.int .i64 0):=bRq.cell 0;have r1:wq.cell? ⟨w.heap.size+1+1,1,none⟩=some (.string {data:=#[]}):=bRq.cell 1;have f0:=bRq.frozen 0;have f1:=bRq.frozen 1))
   all_goals
    have hBq:=hB6.trans (hbW.mono (by omega))
    have hsq:=hbW.size
    try go_wp2_with fail
    obtain⟨n0,n1,nB⟩:=abf bRq hBq (by omega) (RK) (RS)
    exact bodyPost_ret (v:=.tuple #[.agg #[.int .i64 RK,.string RS],.bool RN]) (by simp[results,Tryz.results86,go_sem,n0,n1]) rfl ⟨um (by rw[HF.out,HRK.out]) (by rw[HF.out,HRS.out]) (by rw[HF.out,HRN.out]),nB⟩
set_option maxHeartbeats 12800000 in
theorem a6d {rec:Ty→Ty→ByteArray→Why} {n M:Nat} (hM:M≤1000000) (hrec:af0 86 rec n M) {name dh at_:ByteArray} {labels dn:List ByteArray} {kids jf:List Ty} (hat:at_.size+32≤M) {B:Nat} {cs ds:List Value} {w:World} (hB:B≤w.heap.size) (hT:aex w) (hx:OkT (n+1) ⟨15,name,labels,kids⟩) (hy:OkT (n+1) ⟨15,dh,dn,jf⟩) (h:ku w B (Ty.pd ⟨15,name,labels,kids⟩) cs) (k:ku w B (Ty.pd ⟨15,dh,dn,jf⟩) ds):
  Calls Tryz.prog 86 #[.agg cs.toArray,.agg ds.toArray,.string at_] w fun e w'=>WQ (adx rec 15 name labels kids dh dn jf at_) w e w':=by
 have HHX:=Lib.hid hx
 have HHY:=Lib.hid hy
 obtain⟨iq,qp,rfl,bf,eu⟩:=Ty.open_ h
 obtain⟨jk,gy,je,rfl⟩:=bf.form
 have oz:=Lib.hid bf
 clear bf
 obtain⟨pz,gu,lu,rfl⟩:=eu.form
 have qm:=Lib.hid eu
 clear eu
 obtain⟨abx,adl,rfl,dw,jd⟩:=Ty.open_ k
 obtain⟨jr,jc,jm,rfl⟩:=dw.form
 have wu:=Lib.hid dw
 clear dw
 obtain⟨ni,ig,jq,rfl⟩:=jd.form
 have zo:=Lib.hid jd
 clear jd
 clear h k
 have afh:=Lib.hid (aag hx)
 have afi:=Lib.hid (aag hy)
 have SX:=Lib.hid (shF hx.2)
 have SY:=Lib.hid (shF hy.2)
 clear hx hy
 have adz:=Lib.hid hrec
 clear hrec
 obtain⟨R,hR⟩:∃ R:Why,R=adx rec 15 name labels kids dh dn jf at_:=⟨_,rfl⟩
 rw[← hR]
 have HR:=Lib.hid hR
 clear hR
 obtain⟨w0,hw0,bA,bC,bR,hB0,hs0⟩:=aey w 60 #[.int .i64 15,.string name,.slice jk gy je,.slice pz gu lu] #[.int .i64 15,.string dh,.slice jr jc jm,.slice ni ig jq]
 have HW0:=Lib.hid hw0
 clear hw0
 go_enter Tryz.func86,Tryz.ntmps86
 go_wp2_with fail
 rw[← HW0.out]
 clear HW0
 have a0:w0.cell? ⟨w.heap.size,0,none⟩=some (.int .i64 15):=bA.cell 0
 have z0:w0.cell? ⟨w.heap.size+1,0,none⟩=some (.int .i64 15):=bC.cell 0
 refine(zf 15 w0 (by rfl) (by rfl) (by rfl)).mono ?_
 rintro e wn ⟨rfl,hwn⟩
 subst hwn
 go_wp2_with fail
 refine(zf 15 w0 (by rfl) (by rfl) (by rfl)).mono ?_
 rintro e wn ⟨rfl,hwn⟩
 subst hwn
 have a1:w0.cell? ⟨w.heap.size,1,none⟩=some (.string name):=bA.cell 1
 have a2:w0.cell? ⟨w.heap.size,2,none⟩=some (.slice jk gy je):=bA.cell 2
 have a3:w0.cell? ⟨w.heap.size,3,none⟩=some (.slice pz gu lu):=bA.cell 3
 have z1:w0.cell? ⟨w.heap.size+1,1,none⟩=some (.string dh):=bC.cell 1
 have z2:w0.cell? ⟨w.heap.size+1,2,none⟩=some (.slice jr jc jm):=bC.cell 2
 have z3:w0.cell? ⟨w.heap.size+1,3,none⟩=some (.slice ni ig jq):=bC.cell 3
 have HCW:=azq hM adz.out (at_:=at_) hat (B:=B) (cs:=[.int .i64 15,.string name,.slice jk gy je,.slice pz gu lu]) (ds:=[.int .i64 15,.string dh,.slice jr jc jm,.slice ni ig jq]) (w:=w0) (Nat.le_trans hB hB0.size) (hT.below hB0) HHX.out HHY.out (Ty.close_ (oz.out.below (hB0.mono hB)) (qm.out.below (hB0.mono hB))) (Ty.close_ (wu.out.below (hB0.mono hB)) (zo.out.below (hB0.mono hB)))
 obtain⟨R2,hR2⟩:∃ r,aon rec at_ kids jf=r:=⟨_,rfl⟩
 unfold WQ at HCW
 rw[hR2] at HCW
 obtain⟨RK,RS,RN,HRK,HRS,HRN⟩:=agi R2
 rw[HRK.out,HRS.out,HRN.out] at HCW
 replace HCW:=Lib.hid HCW
 have HF:Hid (R=R2):=by show _=_;rw[HR.out,← hR2];exact a4f
 clear hR2
 go_wp2_with fail
 refine HCW.out.mono ?_
 rintro e wq ⟨rfl,hbq⟩
 have hBq:=hB0.trans (hbq.mono (by omega))
 have hsq:=hbq.size
 have bRq:=bR.step hbq
 obtain⟨r0,r1,f0,f1⟩:=zr bRq
 go_wp2_with fail
 obtain⟨n0,n1,nB⟩:=abf bRq hBq (by omega) (RK) (RS)
 exact bodyPost_ret (v:=.tuple #[.agg #[.int .i64 RK,.string RS],.bool RN]) (by simp[results,Tryz.results86,go_sem,n0,n1]) rfl ⟨um (by rw[HF.out,HRK.out]) (by rw[HF.out,HRS.out]) (by rw[HF.out,HRN.out]),nB⟩
set_option maxHeartbeats 12800000 in
theorem a6e {rec:Ty→Ty→ByteArray→Why} {n M:Nat} (hM:M≤1000000) (hrec:af0 86 rec n M) {name dh at_:ByteArray} {labels dn:List ByteArray} {kids jf:List Ty} (hat:at_.size+32≤M) {B:Nat} {cs ds:List Value} {w:World} (hB:B≤w.heap.size) (hT:aex w) (hx:OkT (n+1) ⟨16,name,labels,kids⟩) (hy:OkT (n+1) ⟨16,dh,dn,jf⟩) (h:ku w B (Ty.pd ⟨16,name,labels,kids⟩) cs) (k:ku w B (Ty.pd ⟨16,dh,dn,jf⟩) ds):
  Calls Tryz.prog 86 #[.agg cs.toArray,.agg ds.toArray,.string at_] w fun e w'=>WQ (adx rec 16 name labels kids dh dn jf at_) w e w':=by
 have HHX:=Lib.hid hx
 have HHY:=Lib.hid hy
 obtain⟨iq,qp,rfl,bf,eu⟩:=Ty.open_ h
 obtain⟨jk,gy,je,rfl⟩:=bf.form
 have oz:=Lib.hid bf
 clear bf
 obtain⟨pz,gu,lu,rfl⟩:=eu.form
 have qm:=Lib.hid eu
 clear eu
 obtain⟨abx,adl,rfl,dw,jd⟩:=Ty.open_ k
 obtain⟨jr,jc,jm,rfl⟩:=dw.form
 have wu:=Lib.hid dw
 clear dw
 obtain⟨ni,ig,jq,rfl⟩:=jd.form
 have zo:=Lib.hid jd
 clear jd
 clear h k
 have afh:=Lib.hid (aag hx)
 have afi:=Lib.hid (aag hy)
 have SX:=Lib.hid (shF hx.2)
 have SY:=Lib.hid (shF hy.2)
 clear hx hy
 have adz:=Lib.hid hrec
 clear hrec
 obtain⟨R,hR⟩:∃ R:Why,R=adx rec 16 name labels kids dh dn jf at_:=⟨_,rfl⟩
 rw[← hR]
 have HR:=Lib.hid hR
 clear hR
 obtain⟨w0,hw0,bA,bC,bR,hB0,hs0⟩:=aey w 60 #[.int .i64 16,.string name,.slice jk gy je,.slice pz gu lu] #[.int .i64 16,.string dh,.slice jr jc jm,.slice ni ig jq]
 have HW0:=Lib.hid hw0
 clear hw0
 go_enter Tryz.func86,Tryz.ntmps86
 go_wp2_with fail
 rw[← HW0.out]
 clear HW0
 have a0:w0.cell? ⟨w.heap.size,0,none⟩=some (.int .i64 16):=bA.cell 0
 have z0:w0.cell? ⟨w.heap.size+1,0,none⟩=some (.int .i64 16):=bC.cell 0
 refine(zf 16 w0 (by rfl) (by rfl) (by rfl)).mono ?_
 rintro e wn ⟨rfl,hwn⟩
 subst hwn
 go_wp2_with fail
 refine(zf 16 w0 (by rfl) (by rfl) (by rfl)).mono ?_
 rintro e wn ⟨rfl,hwn⟩
 subst hwn
 have a1:w0.cell? ⟨w.heap.size,1,none⟩=some (.string name):=bA.cell 1
 have a2:w0.cell? ⟨w.heap.size,2,none⟩=some (.slice jk gy je):=bA.cell 2
 have a3:w0.cell? ⟨w.heap.size,3,none⟩=some (.slice pz gu lu):=bA.cell 3
 have z1:w0.cell? ⟨w.heap.size+1,1,none⟩=some (.string dh):=bC.cell 1
 have z2:w0.cell? ⟨w.heap.size+1,2,none⟩=some (.slice jr jc jm):=bC.cell 2
 have z3:w0.cell? ⟨w.heap.size+1,3,none⟩=some (.slice ni ig jq):=bC.cell 3
 have HCW:=ao3 120 (rec:=fun x y=>rec y x) hM (a7i adz.out) azr (kind:=4) (at_:=at_) hat (B:=B) (cs:=[.int .i64 16,.string dh,.slice jr jc jm,.slice ni ig jq]) (ds:=[.int .i64 16,.string name,.slice jk gy je,.slice pz gu lu]) (w:=w0) (Nat.le_trans hB hB0.size) (hT.below hB0) (SY.out.labs (by decide)) (.inr ⟨akk (by decide) SY.out.right,akk (by decide) SX.out.right⟩) HHY.out HHX.out (Ty.close_ (wu.out.below (hB0.mono hB)) (zo.out.below (hB0.mono hB))) (Ty.close_ (oz.out.below (hB0.mono hB)) (qm.out.below (hB0.mono hB)))
 obtain⟨R2,hR2⟩:∃ r,ajq (fun x y=>rec y x) 4 at_ dn jf labels kids=r:=⟨_,rfl⟩
 unfold WQ at HCW
 rw[hR2] at HCW
 obtain⟨RK,RS,RN,HRK,HRS,HRN⟩:=agi R2
 rw[HRK.out,HRS.out,HRN.out] at HCW
 replace HCW:=Lib.hid HCW
 have HF:Hid (R=R2):=by show _=_;rw[HR.out,← hR2];exact a4g
 clear hR2
 go_wp2_with fail
 refine HCW.out.mono ?_
 rintro e wq ⟨rfl,hbq⟩
 have hBq:=hB0.trans (hbq.mono (by omega))
 have hsq:=hbq.size
 have bRq:=bR.step hbq
 obtain⟨r0,r1,f0,f1⟩:=zr bRq
 go_wp2_with fail
 obtain⟨n0,n1,nB⟩:=abf bRq hBq (by omega) (RK) (RS)
 exact bodyPost_ret (v:=.tuple #[.agg #[.int .i64 RK,.string RS],.bool RN]) (by simp[results,Tryz.results86,go_sem,n0,n1]) rfl ⟨um (by rw[HF.out,HRK.out]) (by rw[HF.out,HRS.out]) (by rw[HF.out,HRN.out]),nB⟩
set_option maxHeartbeats 12800000 in
theorem a6f {rec:Ty→Ty→ByteArray→Why} {n M:Nat} (hM:M≤1000000) (hrec:af0 86 rec n M) {name dh at_:ByteArray} {labels dn:List ByteArray} {kids jf:List Ty} (hat:at_.size+32≤M) {B:Nat} {cs ds:List Value} {w:World} (hB:B≤w.heap.size) (hT:aex w) (hx:OkT (n+1) ⟨17,name,labels,kids⟩) (hy:OkT (n+1) ⟨17,dh,dn,jf⟩) (h:ku w B (Ty.pd ⟨17,name,labels,kids⟩) cs) (k:ku w B (Ty.pd ⟨17,dh,dn,jf⟩) ds):
  Calls Tryz.prog 86 #[.agg cs.toArray,.agg ds.toArray,.string at_] w fun e w'=>WQ (adx rec 17 name labels kids dh dn jf at_) w e w':=by
 have HHX:=Lib.hid hx
 have HHY:=Lib.hid hy
 obtain⟨iq,qp,rfl,bf,eu⟩:=Ty.open_ h
 obtain⟨jk,gy,je,rfl⟩:=bf.form
 have oz:=Lib.hid bf
 clear bf
 obtain⟨pz,gu,lu,rfl⟩:=eu.form
 have qm:=Lib.hid eu
 clear eu
 obtain⟨abx,adl,rfl,dw,jd⟩:=Ty.open_ k
 obtain⟨jr,jc,jm,rfl⟩:=dw.form
 have wu:=Lib.hid dw
 clear dw
 obtain⟨ni,ig,jq,rfl⟩:=jd.form
 have zo:=Lib.hid jd
 clear jd
 clear h k
 have afh:=Lib.hid (aag hx)
 have afi:=Lib.hid (aag hy)
 have SX:=Lib.hid (shF hx.2)
 have SY:=Lib.hid (shF hy.2)
 clear hx hy
 have adz:=Lib.hid hrec
 clear hrec
 obtain⟨R,hR⟩:∃ R:Why,R=adx rec 17 name labels kids dh dn jf at_:=⟨_,rfl⟩
 rw[← hR]
 have HR:=Lib.hid hR
 clear hR
 obtain⟨w0,hw0,bA,bC,bR,hB0,hs0⟩:=aey w 60 #[.int .i64 17,.string name,.slice jk gy je,.slice pz gu lu] #[.int .i64 17,.string dh,.slice jr jc jm,.slice ni ig jq]
 have HW0:=Lib.hid hw0
 clear hw0
 go_enter Tryz.func86,Tryz.ntmps86
 go_wp2_with fail
 rw[← HW0.out]
 clear HW0
 have a0:w0.cell? ⟨w.heap.size,0,none⟩=some (.int .i64 17):=bA.cell 0
 have z0:w0.cell? ⟨w.heap.size+1,0,none⟩=some (.int .i64 17):=bC.cell 0
 refine(zf 17 w0 (by rfl) (by rfl) (by rfl)).mono ?_
 rintro e wn ⟨rfl,hwn⟩
 subst hwn
 go_wp2_with fail
 refine(zf 17 w0 (by rfl) (by rfl) (by rfl)).mono ?_
 rintro e wn ⟨rfl,hwn⟩
 subst hwn
 have a1:w0.cell? ⟨w.heap.size,1,none⟩=some (.string name):=bA.cell 1
 have a2:w0.cell? ⟨w.heap.size,2,none⟩=some (.slice jk gy je):=bA.cell 2
 have a3:w0.cell? ⟨w.heap.size,3,none⟩=some (.slice pz gu lu):=bA.cell 3
 have z1:w0.cell? ⟨w.heap.size+1,1,none⟩=some (.string dh):=bC.cell 1
 have z2:w0.cell? ⟨w.heap.size+1,2,none⟩=some (.slice jr jc jm):=bC.cell 2
 have z3:w0.cell? ⟨w.heap.size+1,3,none⟩=some (.slice ni ig jq):=bC.cell 3
 have HCW:=ao3 86 (rec:=rec) hM adz.out ate (kind:=5) (at_:=at_) hat (B:=B) (cs:=[.int .i64 17,.string name,.slice jk gy je,.slice pz gu lu]) (ds:=[.int .i64 17,.string dh,.slice jr jc jm,.slice ni ig jq]) (w:=w0) (Nat.le_trans hB hB0.size) (hT.below hB0) (SX.out.labs (by decide)) (.inr ⟨akk (by decide) SX.out.right,akk (by decide) SY.out.right⟩) HHX.out HHY.out (Ty.close_ (oz.out.below (hB0.mono hB)) (qm.out.below (hB0.mono hB))) (Ty.close_ (wu.out.below (hB0.mono hB)) (zo.out.below (hB0.mono hB)))
 obtain⟨R2,hR2⟩:∃ r,ajq rec 5 at_ labels kids dn jf=r:=⟨_,rfl⟩
 unfold WQ at HCW
 rw[hR2] at HCW
 obtain⟨RK,RS,RN,HRK,HRS,HRN⟩:=agi R2
 rw[HRK.out,HRS.out,HRN.out] at HCW
 replace HCW:=Lib.hid HCW
 have HF:Hid (R=R2):=by show _=_;rw[HR.out,← hR2];exact aqs (by decide)
 clear hR2
 go_wp2_with fail
 refine HCW.out.mono ?_
 rintro e wq ⟨rfl,hbq⟩
 have hBq:=hB0.trans (hbq.mono (by omega))
 have hsq:=hbq.size
 have bRq:=bR.step hbq
 obtain⟨r0,r1,f0,f1⟩:=zr bRq
 go_wp2_with fail
 obtain⟨n0,n1,nB⟩:=abf bRq hBq (by omega) (RK) (RS)
 exact bodyPost_ret (v:=.tuple #[.agg #[.int .i64 RK,.string RS],.bool RN]) (by simp[results,Tryz.results86,go_sem,n0,n1]) rfl ⟨um (by rw[HF.out,HRK.out]) (by rw[HF.out,HRS.out]) (by rw[HF.out,HRN.out]),nB⟩
set_option maxHeartbeats 12800000 in
theorem axk {rec:Ty→Ty→ByteArray→Why} {n M:Nat} (hM:M≤1000000) (hrec:af0 86 rec n M) {kind:Int} (hk:kind=18∨kind=19) {name dh at_:ByteArray} {labels dn:List ByteArray} {kids jf:List Ty} (hat:at_.size+32≤M) {B:Nat} {cs ds:List Value} {w:World} (hB:B≤w.heap.size) (hT:aex w) (hx:OkT (n+1) ⟨kind,name,labels,kids⟩) (hy:OkT (n+1) ⟨kind,dh,dn,jf⟩) (h:ku w B (Ty.pd ⟨kind,name,labels,kids⟩) cs) (k:ku w B (Ty.pd ⟨kind,dh,dn,jf⟩) ds):
  Calls Tryz.prog 86 #[.agg cs.toArray,.agg ds.toArray,.string at_] w fun e w'=>WQ (adx rec kind name labels kids dh dn jf at_) w e w':=by
 have HHX:=Lib.hid hx
 have HHY:=Lib.hid hy
 obtain⟨iq,qp,rfl,bf,eu⟩:=Ty.open_ h
 obtain⟨jk,gy,je,rfl⟩:=bf.form
 have oz:=Lib.hid bf
 clear bf
 obtain⟨pz,gu,lu,rfl⟩:=eu.form
 have qm:=Lib.hid eu
 clear eu
 obtain⟨abx,adl,rfl,dw,jd⟩:=Ty.open_ k
 obtain⟨jr,jc,jm,rfl⟩:=dw.form
 have wu:=Lib.hid dw
 clear dw
 obtain⟨ni,ig,jq,rfl⟩:=jd.form
 have zo:=Lib.hid jd
 clear jd
 clear h k
 have afh:=Lib.hid (aag hx)
 have afi:=Lib.hid (aag hy)
 have SX:=Lib.hid (shF hx.2)
 have SY:=Lib.hid (shF hy.2)
 clear hx hy
 have adz:=Lib.hid hrec
 clear hrec
 obtain⟨R,hR⟩:∃ R:Why,R=adx rec kind name labels kids dh dn jf at_:=⟨_,rfl⟩
 rw[← hR]
 have HR:=Lib.hid hR
 clear hR
 have HK:=Lib.hid hk
 have HNU:Hid (isNum kind=false):=by show _=_;rcases hk with rfl|rfl<;>rfl
 have hkk:(kind != kind)=false:=by simp
 have h12:(kind ==12)=false:=by rcases hk with rfl|rfl<;>rfl
 have h13:(kind ==13)=false:=by rcases hk with rfl|rfl<;>rfl
 have h14:(kind ==14)=false:=by rcases hk with rfl|rfl<;>rfl
 have h15:(kind ==15)=false:=by rcases hk with rfl|rfl<;>rfl
 have h16:(kind ==16)=false:=by rcases hk with rfl|rfl<;>rfl
 have h17:(kind ==17)=false:=by rcases hk with rfl|rfl<;>rfl
 have HCS:Hid ((kind ==18)=true∨((kind ==18)=false∧(kind ==19)=true)):=by show _∨_;rcases hk with rfl|rfl<;>simp
 clear hk
 obtain⟨w0,hw0,bA,bC,bR,hB0,hs0⟩:=aey w 60 #[.int .i64 kind,.string name,.slice jk gy je,.slice pz gu lu] #[.int .i64 kind,.string dh,.slice jr jc jm,.slice ni ig jq]
 have HW0:=Lib.hid hw0
 clear hw0
 go_enter Tryz.func86,Tryz.ntmps86
 go_wp2_with fail
 rw[← HW0.out]
 clear HW0
 have a0:w0.cell? ⟨w.heap.size,0,none⟩=some (.int .i64 kind):=bA.cell 0
 have z0:w0.cell? ⟨w.heap.size+1,0,none⟩=some (.int .i64 kind):=bC.cell 0
 refine(zf kind w0 (air HNU.out) (ais HNU.out) HNU.out).mono ?_
 rintro e wn ⟨rfl,hwn⟩
 subst hwn
 go_wp2_with fail
 refine(zf kind w0 (air HNU.out) (ais HNU.out) HNU.out).mono ?_
 rintro e wn ⟨rfl,hwn⟩
 subst hwn
 have a1:w0.cell? ⟨w.heap.size,1,none⟩=some (.string name):=bA.cell 1
 have a2:w0.cell? ⟨w.heap.size,2,none⟩=some (.slice jk gy je):=bA.cell 2
 have a3:w0.cell? ⟨w.heap.size,3,none⟩=some (.slice pz gu lu):=bA.cell 3
 have z1:w0.cell? ⟨w.heap.size+1,1,none⟩=some (.string dh):=bC.cell 1
 have z2:w0.cell? ⟨w.heap.size+1,2,none⟩=some (.slice jr jc jm):=bC.cell 2
 have z3:w0.cell? ⟨w.heap.size+1,3,none⟩=some (.slice ni ig jq):=bC.cell 3
 have HCW:=ao3 86 (rec:=rec) hM adz.out ate (kind:=5) (at_:=at_) hat (B:=B) (cs:=[.int .i64 kind,.string name,.slice jk gy je,.slice pz gu lu]) (ds:=[.int .i64 kind,.string dh,.slice jr jc jm,.slice ni ig jq]) (w:=w0) (Nat.le_trans hB hB0.size) (hT.below hB0) (SX.out.labs (in_lab HK.out)) (.inl (ays HK.out SX.out.right)) HHX.out HHY.out (Ty.close_ (oz.out.below (hB0.mono hB)) (qm.out.below (hB0.mono hB))) (Ty.close_ (wu.out.below (hB0.mono hB)) (zo.out.below (hB0.mono hB)))
 obtain⟨R2,hR2⟩:∃ r,ajq rec 5 at_ labels kids dn jf=r:=⟨_,rfl⟩
 unfold WQ at HCW
 rw[hR2] at HCW
 obtain⟨RK,RS,RN,HRK,HRS,HRN⟩:=agi R2
 rw[HRK.out,HRS.out,HRN.out] at HCW
 replace HCW:=Lib.hid HCW
 have HF:Hid (R=R2):=by show _=_;rw[HR.out,← hR2];exact aqs (.inr HK.out)
 clear hR2
 rcases HCS.out with t1|⟨t1,t2⟩
 all_goals
  go_wp2_with fail
  refine HCW.out.mono ?_
  rintro e wq ⟨rfl,hbq⟩
  have hBq:=hB0.trans (hbq.mono (by omega))
  have hsq:=hbq.size
  have bRq:=bR.step hbq
  obtain⟨r0,r1,f0,f1⟩:=zr bRq
  go_wp2_with fail
  obtain⟨n0,n1,nB⟩:=abf bRq hBq (by omega) (RK) (RS)
  exact bodyPost_ret (v:=.tuple #[.agg #[.int .i64 RK,.string RS],.bool RN]) (by simp[results,Tryz.results86,go_sem,n0,n1]) rfl ⟨um (by rw[HF.out,HRK.out]) (by rw[HF.out,HRS.out]) (by rw[HF.out,HRN.out]),nB⟩
set_option maxHeartbeats 12800000 in
theorem axl {rec:Ty→Ty→ByteArray→Why} {n M:Nat} (hM:M≤1000000) (hrec:af0 86 rec n M) {kind:Int} (hk:kind=20∨kind=21) {name dh at_:ByteArray} {labels dn:List ByteArray} {kids jf:List Ty} (hat:at_.size+32≤M) {B:Nat} {cs ds:List Value} {w:World} (hB:B≤w.heap.size) (hT:aex w) (hx:OkT (n+1) ⟨kind,name,labels,kids⟩) (hy:OkT (n+1) ⟨kind,dh,dn,jf⟩) (h:ku w B (Ty.pd ⟨kind,name,labels,kids⟩) cs) (k:ku w B (Ty.pd ⟨kind,dh,dn,jf⟩) ds):
  Calls Tryz.prog 86 #[.agg cs.toArray,.agg ds.toArray,.string at_] w fun e w'=>WQ (adx rec kind name labels kids dh dn jf at_) w e w':=by
 have HHX:=Lib.hid hx
 have HHY:=Lib.hid hy
 obtain⟨iq,qp,rfl,bf,eu⟩:=Ty.open_ h
 obtain⟨jk,gy,je,rfl⟩:=bf.form
 have oz:=Lib.hid bf
 clear bf
 obtain⟨pz,gu,lu,rfl⟩:=eu.form
 have qm:=Lib.hid eu
 clear eu
 obtain⟨abx,adl,rfl,dw,jd⟩:=Ty.open_ k
 obtain⟨jr,jc,jm,rfl⟩:=dw.form
 have wu:=Lib.hid dw
 clear dw
 obtain⟨ni,ig,jq,rfl⟩:=jd.form
 have zo:=Lib.hid jd
 clear jd
 clear h k
 have afh:=Lib.hid (aag hx)
 have afi:=Lib.hid (aag hy)
 have SX:=Lib.hid (shF hx.2)
 have SY:=Lib.hid (shF hy.2)
 clear hx hy
 have adz:=Lib.hid hrec
 clear hrec
 obtain⟨R,hR⟩:∃ R:Why,R=adx rec kind name labels kids dh dn jf at_:=⟨_,rfl⟩
 rw[← hR]
 have HR:=Lib.hid hR
 clear hR
 have HK:=Lib.hid hk
 have HNU:Hid (isNum kind=false):=by show _=_;rcases hk with rfl|rfl<;>rfl
 have hkk:(kind != kind)=false:=by simp
 have h12:(kind ==12)=false:=by rcases hk with rfl|rfl<;>rfl
 have h13:(kind ==13)=false:=by rcases hk with rfl|rfl<;>rfl
 have h14:(kind ==14)=false:=by rcases hk with rfl|rfl<;>rfl
 have h15:(kind ==15)=false:=by rcases hk with rfl|rfl<;>rfl
 have h16:(kind ==16)=false:=by rcases hk with rfl|rfl<;>rfl
 have h17:(kind ==17)=false:=by rcases hk with rfl|rfl<;>rfl
 have h18:(kind ==18)=false:=by rcases hk with rfl|rfl<;>rfl
 have h19:(kind ==19)=false:=by rcases hk with rfl|rfl<;>rfl
 have HCS:Hid ((kind ==20)=true∨((kind ==20)=false∧(kind ==21)=true)):=by show _∨_;rcases hk with rfl|rfl<;>simp
 clear hk
 by_cases hn:name=dh
 case neg=>
  have HF:Hid (R=some (6,at_)):=by show _=_;rw[HR.out,aqt HK.out,if_neg hn]
  have hne:(name.toList ==dh.toList)=false:=aes hn
  have hne2:(name.toList != dh.toList)=true:=by simpa using hne
  obtain⟨w0,hw0,bA,bC,bR,hB0,hs0⟩:=aey w 60 #[.int .i64 kind,.string name,.slice jk gy je,.slice pz gu lu] #[.int .i64 kind,.string dh,.slice jr jc jm,.slice ni ig jq]
  have HW0:=Lib.hid hw0
  clear hw0
  go_enter Tryz.func86,Tryz.ntmps86
  go_wp2_with fail
  rw[← HW0.out]
  clear HW0
  have a0:w0.cell? ⟨w.heap.size,0,none⟩=some (.int .i64 kind):=bA.cell 0
  have z0:w0.cell? ⟨w.heap.size+1,0,none⟩=some (.int .i64 kind):=bC.cell 0
  refine(zf kind w0 (air HNU.out) (ais HNU.out) HNU.out).mono ?_
  rintro e wn ⟨rfl,hwn⟩
  subst hwn
  go_wp2_with fail
  refine(zf kind w0 (air HNU.out) (ais HNU.out) HNU.out).mono ?_
  rintro e wn ⟨rfl,hwn⟩
  subst hwn
  have a1:w0.cell? ⟨w.heap.size,1,none⟩=some (.string name):=bA.cell 1
  have z1:w0.cell? ⟨w.heap.size+1,1,none⟩=some (.string dh):=bC.cell 1
  clear hn
  rcases HCS.out with t1|⟨t1,t2⟩
  all_goals
   go_wp2_with fail
   refine(ae3 6 at_ _).mono ?_
   rintro e wz ⟨rfl,hbz⟩
   have hBz:=hB0.trans (hbz.mono (by omega))
   have bRz:=bR.step hbz
   have hsz:=hbz.size
   obtain⟨r0,r1,f0,f1⟩:=zr bRz
   go_wp2_with fail
   obtain⟨n0,n1,nB⟩:=abf bRz hBz (by omega) (6) (at_)
   exact bodyPost_ret (v:=.tuple #[.agg #[.int .i64 6,.string at_],.bool true]) (by simp[results,Tryz.results86,go_sem,n0,n1]) rfl ⟨um (by rw[HF.out];rfl) (by rw[HF.out];rfl) (by rw[HF.out];rfl),nB⟩
 subst hn
 have HF:Hid (R=none):=by show _=_;rw[HR.out,aqt HK.out,if_pos rfl]
 obtain⟨w0,hw0,bA,bC,bR,hB0,hs0⟩:=aey w 60 #[.int .i64 kind,.string name,.slice jk gy je,.slice pz gu lu] #[.int .i64 kind,.string name,.slice jr jc jm,.slice ni ig jq]
 have HW0:=Lib.hid hw0
 clear hw0
 go_enter Tryz.func86,Tryz.ntmps86
 go_wp2_with fail
 rw[← HW0.out]
 clear HW0
 have a0:w0.cell? ⟨w.heap.size,0,none⟩=some (.int .i64 kind):=bA.cell 0
 have z0:w0.cell? ⟨w.heap.size+1,0,none⟩=some (.int .i64 kind):=bC.cell 0
 refine(zf kind w0 (air HNU.out) (ais HNU.out) HNU.out).mono ?_
 rintro e wn ⟨rfl,hwn⟩
 subst hwn
 go_wp2_with fail
 refine(zf kind w0 (air HNU.out) (ais HNU.out) HNU.out).mono ?_
 rintro e wn ⟨rfl,hwn⟩
 subst hwn
 have a1:w0.cell? ⟨w.heap.size,1,none⟩=some (.string name):=bA.cell 1
 have z1:w0.cell? ⟨w.heap.size+1,1,none⟩=some (.string name):=bC.cell 1
 rcases HCS.out with t1|⟨t1,t2⟩
 all_goals
  go_wp2_with fail
  refine(agy _).mono ?_
  rintro e wz ⟨rfl,hbz⟩
  have hBz:=hB0.trans (hbz.mono (by omega))
  have bRz:=bR.step hbz
  have hsz:=hbz.size
  obtain⟨r0,r1,f0,f1⟩:=zr bRz
  go_wp2_with fail
  obtain⟨n0,n1,nB⟩:=abf bRz hBz (by omega) (0) (⟨#[]⟩)
  exact bodyPost_ret (v:=.tuple #[.agg #[.int .i64 0,.string {data:=#[]}],.bool false]) (by simp[results,Tryz.results86,go_sem,n0,n1]) rfl ⟨um (by rw[HF.out];rfl) (by rw[HF.out];rfl) (by rw[HF.out];rfl),nB⟩
set_option maxHeartbeats 12800000 in
theorem axm {rec:Ty→Ty→ByteArray→Why} {n M:Nat} (hM:M≤1000000) (hrec:af0 86 rec n M) {kind:Int} (hk:kind=22∨kind=23) {name dh at_:ByteArray} {labels dn:List ByteArray} {kids jf:List Ty} (hat:at_.size+32≤M) {B:Nat} {cs ds:List Value} {w:World} (hB:B≤w.heap.size) (hT:aex w) (hx:OkT (n+1) ⟨kind,name,labels,kids⟩) (hy:OkT (n+1) ⟨kind,dh,dn,jf⟩) (h:ku w B (Ty.pd ⟨kind,name,labels,kids⟩) cs) (k:ku w B (Ty.pd ⟨kind,dh,dn,jf⟩) ds):
  Calls Tryz.prog 86 #[.agg cs.toArray,.agg ds.toArray,.string at_] w fun e w'=>WQ (adx rec kind name labels kids dh dn jf at_) w e w':=by
 have HHX:=Lib.hid hx
 have HHY:=Lib.hid hy
 obtain⟨iq,qp,rfl,bf,eu⟩:=Ty.open_ h
 obtain⟨jk,gy,je,rfl⟩:=bf.form
 have oz:=Lib.hid bf
 clear bf
 obtain⟨pz,gu,lu,rfl⟩:=eu.form
 have qm:=Lib.hid eu
 clear eu
 obtain⟨abx,adl,rfl,dw,jd⟩:=Ty.open_ k
 obtain⟨jr,jc,jm,rfl⟩:=dw.form
 have wu:=Lib.hid dw
 clear dw
 obtain⟨ni,ig,jq,rfl⟩:=jd.form
 have zo:=Lib.hid jd
 clear jd
 clear h k
 have afh:=Lib.hid (aag hx)
 have afi:=Lib.hid (aag hy)
 have SX:=Lib.hid (shF hx.2)
 have SY:=Lib.hid (shF hy.2)
 clear hx hy
 have adz:=Lib.hid hrec
 clear hrec
 obtain⟨R,hR⟩:∃ R:Why,R=adx rec kind name labels kids dh dn jf at_:=⟨_,rfl⟩
 rw[← hR]
 have HR:=Lib.hid hR
 clear hR
 obtain⟨_,_,_,he,abz,ad9,adf⟩:=ny Ty.jw (by decide) qm.out
 injection he with e1 e2 e3
 subst e1 e2 e3
 unfold maxLen at ad9
 have aav:=Lib.hid abz
 clear abz
 obtain⟨_,_,_,he,aa6,ado,acp⟩:=ny Ty.jw (by decide) zo.out
 injection he with e1 e2 e3
 subst e1 e2 e3
 unfold maxLen at ado
 have aao:=Lib.hid aa6
 clear aa6
 have HK:=Lib.hid hk
 have HNU:Hid (isNum kind=false):=by show _=_;rcases hk with rfl|rfl<;>rfl
 have hkk:(kind != kind)=false:=by simp
 have h12:(kind ==12)=false:=by rcases hk with rfl|rfl<;>rfl
 have h13:(kind ==13)=false:=by rcases hk with rfl|rfl<;>rfl
 have h14:(kind ==14)=false:=by rcases hk with rfl|rfl<;>rfl
 have h15:(kind ==15)=false:=by rcases hk with rfl|rfl<;>rfl
 have h16:(kind ==16)=false:=by rcases hk with rfl|rfl<;>rfl
 have h17:(kind ==17)=false:=by rcases hk with rfl|rfl<;>rfl
 have h18:(kind ==18)=false:=by rcases hk with rfl|rfl<;>rfl
 have h19:(kind ==19)=false:=by rcases hk with rfl|rfl<;>rfl
 have h20:(kind ==20)=false:=by rcases hk with rfl|rfl<;>rfl
 have h21:(kind ==21)=false:=by rcases hk with rfl|rfl<;>rfl
 have HCS:Hid ((kind ==22)=true∨((kind ==22)=false∧(kind ==23)=true)):=by show _∨_;rcases hk with rfl|rfl<;>simp
 clear hk
 have hkn:gu=1:=by have:=ahn (.inr (.inr HK.out)) SX.out.right;have:=aav.out;omega
 have hkz:ig=1:=by have:=ahn (.inr (.inr HK.out)) SY.out.right;have:=aao.out;omega
 have hpos:0 < gu:=by omega
 have ajw:0 < ig:=by omega
 have aq0:(0:Int) < (gu:Int):=by omega
 have aoy:(0:Int) < (ig:Int):=by omega
 clear hkn hkz
 obtain⟨w0,hw0,bA,bC,bR,hB0,hs0⟩:=aey w 60 #[.int .i64 kind,.string name,.slice jk gy je,.slice pz gu lu] #[.int .i64 kind,.string dh,.slice jr jc jm,.slice ni ig jq]
 have HW0:=Lib.hid hw0
 clear hw0
 go_enter Tryz.func86,Tryz.ntmps86
 go_wp2_with fail
 rw[← HW0.out]
 clear HW0
 have a0:w0.cell? ⟨w.heap.size,0,none⟩=some (.int .i64 kind):=bA.cell 0
 have z0:w0.cell? ⟨w.heap.size+1,0,none⟩=some (.int .i64 kind):=bC.cell 0
 refine(zf kind w0 (air HNU.out) (ais HNU.out) HNU.out).mono ?_
 rintro e wn ⟨rfl,hwn⟩
 subst hwn
 go_wp2_with fail
 refine(zf kind w0 (air HNU.out) (ais HNU.out) HNU.out).mono ?_
 rintro e wn ⟨rfl,hwn⟩
 subst hwn
 have a3:w0.cell? ⟨w.heap.size,3,none⟩=some (.slice pz gu lu):=bA.cell 3
 have z3:w0.cell? ⟨w.heap.size+1,3,none⟩=some (.slice ni ig jq):=bC.cell 3
 obtain⟨g,off,rfl,aec,ab5⟩:=adf (by omega)
 obtain⟨x,ac7,acf⟩:=vw aav.out hpos
 obtain⟨tu,qj,aae,abv⟩:=x
 obtain⟨ug,y8,acr,aco,abh,acu,qx,yh⟩:=agh (k:=0) (a0:=off) (a1:=off+1) (a2:=off+2) (a3:=off+3) (hB0.mono (Nat.le_refl _)) aec hB ab5 ac7 ⟨rfl,rfl,rfl,rfl⟩
 replace qx:=Lib.hid qx
 replace yh:=Lib.hid yh
 have af9:=Lib.hid ac7
 have ag4:=Lib.hid acf
 clear ac7 acf
 obtain⟨g2,off2,rfl,adp,abt⟩:=acp (by omega)
 obtain⟨y,ac8,acg⟩:=vw aao.out ajw
 obtain⟨qw,qc,aaf,abw⟩:=y
 obtain⟨uz,zu,ac0,acs,abm,ac1,qo,x9⟩:=agh (k:=0) (a0:=off2) (a1:=off2+1) (a2:=off2+2) (a3:=off2+3) (hB0.mono (Nat.le_refl _)) adp hB abt ac8 ⟨rfl,rfl,rfl,rfl⟩
 replace qo:=Lib.hid qo
 replace x9:=Lib.hid x9
 have aga:=Lib.hid ac8
 have ag5:=Lib.hid acg
 clear ac8 acg
 have HF0:Hid (R=if ae6 100 ⟨tu,qj,aae,abv⟩ ⟨qw,qc,aaf,abw⟩then none else some (3,at_)):=by show _=_;rw[HR.out,a0v HK.out af9.out aga.out]
 have HC:=fun(V:World) (hV:Keep (w.heap.size+1+1) (w.heap.size+1+1+1) w0 V)=>auq ⟨tu,qj,aae,abv⟩ ⟨qw,qc,aaf,abw⟩ (B:=B) (cs:=[.int .i64 tu,.string qj,ug,y8]) (ds:=[.int .i64 qw,.string qc,uz,zu]) (w:=V) (Nat.le_trans (Nat.le_trans hB hB0.size) hV.size) ((Ty.close_ qx.out yh.out).below (kb hV (by omega))) ((Ty.close_ qo.out x9.out).below (kb hV (by omega)))
 obtain⟨EQ,hEQ⟩:∃ z:Bool,ae6 100 ⟨tu,qj,aae,abv⟩ ⟨qw,qc,aaf,abw⟩=z:=⟨_,rfl⟩
 rw[hEQ] at HC
 have HEQ:=Lib.hid hEQ
 clear hEQ
 replace HC:=Lib.hid HC
 have HS:Hid (∀ V,Keep (w.heap.size+1+1) (w.heap.size+1+1+1) w0 V→V.cell? ⟨w.heap.size,3,none⟩=some (.slice (some ⟨g,off,none⟩) gu lu)∧V.cell? ⟨w.heap.size+1,3,none⟩=some (.slice (some ⟨g2,off2,none⟩) ig jq)∧V.cell? ⟨g,off,none⟩=some (.int .i64 tu)∧V.cell? ⟨g,off+1,none⟩=some (.string qj)∧V.cell? ⟨g,off+2,none⟩=some (ug)∧V.cell? ⟨g,off+3,none⟩=some (y8)∧V.cell? ⟨g2,off2,none⟩=some (.int .i64 qw)∧V.cell? ⟨g2,off2+1,none⟩=some (.string qc)∧V.cell? ⟨g2,off2+2,none⟩=some (uz)∧V.cell? ⟨g2,off2+3,none⟩=some (zu)):=Lib.hid fun V hV=>⟨(hV.cell (p:=⟨w.heap.size,3,none⟩) (by simp only;omega) (by simp only;omega)).trans a3,(hV.cell (p:=⟨w.heap.size+1,3,none⟩) (by simp only;omega) (by simp only;omega)).trans z3,(hV.cell (p:=⟨g,off,none⟩) (by simp only;omega) (by simp only;omega)).trans acr,(hV.cell (p:=⟨g,off+1,none⟩) (by simp only;omega) (by simp only;omega)).trans aco,(hV.cell (p:=⟨g,off+2,none⟩) (by simp only;omega) (by simp only;omega)).trans abh,(hV.cell (p:=⟨g,off+3,none⟩) (by simp only;omega) (by simp only;omega)).trans acu,(hV.cell (p:=⟨g2,off2,none⟩) (by simp only;omega) (by simp only;omega)).trans ac0,(hV.cell (p:=⟨g2,off2+1,none⟩) (by simp only;omega) (by simp only;omega)).trans acs,(hV.cell (p:=⟨g2,off2+2,none⟩) (by simp only;omega) (by simp only;omega)).trans abm,(hV.cell (p:=⟨g2,off2+3,none⟩) (by simp only;omega) (by simp only;omega)).trans ac1⟩
 clear bA bC
 rcases HCS.out with t1|⟨t1,t2⟩
 all_goals
  go_wp2_with fail
  go_region_held3 (fun w'=>w'.cell? ⟨w.heap.size,3,none⟩=some (.slice (some ⟨g,off,none⟩) gu lu)∧w'.cell? ⟨w.heap.size+1,3,none⟩=some (.slice (some ⟨g2,off2,none⟩) ig jq)∧w'.cell? ⟨g,off,none⟩=some (.int .i64 tu)∧w'.cell? ⟨g,off+1,none⟩=some (.string qj)∧w'.cell? ⟨g,off+2,none⟩=some (ug)∧w'.cell? ⟨g,off+3,none⟩=some (y8)∧w'.cell? ⟨g2,off2,none⟩=some (.int .i64 qw)∧w'.cell? ⟨g2,off2+1,none⟩=some (.string qc)∧w'.cell? ⟨g2,off2+2,none⟩=some (uz)∧w'.cell? ⟨g2,off2+3,none⟩=some (zu))
   (first|exact HS.out _ (by repeat(first|exact hq1|exact hq2|exact Keep.refl _ _ _|refine Keep.drew ?_|refine Keep.alloc ?_ _|refine Keep.setAt ?_ _ _|refine Keep.newAt ?_ (Nat.le_refl _) _ _|refine Keep.newAt ?_ aah.size _ _|refine Keep.newAt ?_ hbW.size _ _)))
   (first|(go_at_call 121;refine(HC.out _ (by repeat(first|exact hq1|exact hq2|exact Keep.refl _ _ _|refine Keep.drew ?_|refine Keep.alloc ?_ _|refine Keep.setAt ?_ _ _|refine Keep.newAt ?_ (Nat.le_refl _) _ _|refine Keep.newAt ?_ aah.size _ _|refine Keep.newAt ?_ hbW.size _ _))).mono ?_;rintro e wq ⟨rfl,hbq⟩;have hbW:=(Below.refl w0.heap.size w0).drew.trans hbq;have hq1:Keep (w.heap.size+1+1) (w.heap.size+1+1+1) w0 wq:=Keep.of_below hbW))
  all_goals
   have hBq:=hB0.trans (hbW.mono (by omega))
   have bRq:=bR.step hbW
   have hsq:=hbW.size
   cases EQ
   case false=>
    have HF:Hid (R=some (3,at_)):=by show _=_;rw[HF0.out,HEQ.out];rfl
    go_wp2_with fail
    refine(ae3 3 at_ _).mono ?_
    rintro e wz ⟨rfl,hbz⟩
    have hBz:=hBq.trans (hbz.mono (by omega))
    have bRz:=bRq.step hbz
    have hsz:=hbz.size
    obtain⟨r0,r1,f0,f1⟩:=zr bRz
    go_wp2_with fail
    obtain⟨n0,n1,nB⟩:=abf bRz hBz (by omega) (3) (at_)
    exact bodyPost_ret (v:=.tuple #[.agg #[.int .i64 3,.string at_],.bool true]) (by simp[results,Tryz.results86,go_sem,n0,n1]) rfl ⟨um (by rw[HF.out];rfl) (by rw[HF.out];rfl) (by rw[HF.out];rfl),nB⟩
   case true=>
    have HF:Hid (R=none):=by show _=_;rw[HF0.out,HEQ.out];rfl
    go_wp2_with fail
    refine(agy _).mono ?_
    rintro e wz ⟨rfl,hbz⟩
    have hBz:=hBq.trans (hbz.mono (by omega))
    have bRz:=bRq.step hbz
    have hsz:=hbz.size
    obtain⟨r0,r1,f0,f1⟩:=zr bRz
    go_wp2_with fail
    obtain⟨n0,n1,nB⟩:=abf bRz hBz (by omega) (0) (⟨#[]⟩)
    exact bodyPost_ret (v:=.tuple #[.agg #[.int .i64 0,.string {data:=#[]}],.bool false]) (by simp[results,Tryz.results86,go_sem,n0,n1]) rfl ⟨um (by rw[HF.out];rfl) (by rw[HF.out];rfl) (by rw[HF.out];rfl),nB⟩
set_option maxHeartbeats 12800000 in
theorem a13 {rec:Ty→Ty→ByteArray→Why} {n M:Nat} (hM:M≤1000000) (hrec:af0 86 rec n M) {kind:Int} (hk:¬ (12≤kind∧kind≤23)) (hnum:isNum kind=false) {name dh at_:ByteArray} {labels dn:List ByteArray} {kids jf:List Ty} (hat:at_.size+32≤M) {B:Nat} {cs ds:List Value} {w:World} (hB:B≤w.heap.size) (hT:aex w) (hx:OkT (n+1) ⟨kind,name,labels,kids⟩) (hy:OkT (n+1) ⟨kind,dh,dn,jf⟩) (h:ku w B (Ty.pd ⟨kind,name,labels,kids⟩) cs) (k:ku w B (Ty.pd ⟨kind,dh,dn,jf⟩) ds):
  Calls Tryz.prog 86 #[.agg cs.toArray,.agg ds.toArray,.string at_] w fun e w'=>WQ (adx rec kind name labels kids dh dn jf at_) w e w':=by
 have HHX:=Lib.hid hx
 have HHY:=Lib.hid hy
 obtain⟨iq,qp,rfl,bf,eu⟩:=Ty.open_ h
 obtain⟨jk,gy,je,rfl⟩:=bf.form
 have oz:=Lib.hid bf
 clear bf
 obtain⟨pz,gu,lu,rfl⟩:=eu.form
 have qm:=Lib.hid eu
 clear eu
 obtain⟨abx,adl,rfl,dw,jd⟩:=Ty.open_ k
 obtain⟨jr,jc,jm,rfl⟩:=dw.form
 have wu:=Lib.hid dw
 clear dw
 obtain⟨ni,ig,jq,rfl⟩:=jd.form
 have zo:=Lib.hid jd
 clear jd
 clear h k
 have afh:=Lib.hid (aag hx)
 have afi:=Lib.hid (aag hy)
 have SX:=Lib.hid (shF hx.2)
 have SY:=Lib.hid (shF hy.2)
 clear hx hy
 have adz:=Lib.hid hrec
 clear hrec
 obtain⟨R,hR⟩:∃ R:Why,R=adx rec kind name labels kids dh dn jf at_:=⟨_,rfl⟩
 rw[← hR]
 have HR:=Lib.hid hR
 clear hR
 have HF:Hid (R=none):=by show _=_;rw[HR.out,ayv hk]
 have HNU:=Lib.hid hnum
 have hkk:(kind != kind)=false:=by simp
 have h12:(kind ==12)=false:=by simp;omega
 have h13:(kind ==13)=false:=by simp;omega
 have h14:(kind ==14)=false:=by simp;omega
 have h15:(kind ==15)=false:=by simp;omega
 have h16:(kind ==16)=false:=by simp;omega
 have h17:(kind ==17)=false:=by simp;omega
 have h18:(kind ==18)=false:=by simp;omega
 have h19:(kind ==19)=false:=by simp;omega
 have h20:(kind ==20)=false:=by simp;omega
 have h21:(kind ==21)=false:=by simp;omega
 have h22:(kind ==22)=false:=by simp;omega
 have h23:(kind ==23)=false:=by simp;omega
 clear hk hnum
 obtain⟨w0,hw0,bA,bC,bR,hB0,hs0⟩:=aey w 60 #[.int .i64 kind,.string name,.slice jk gy je,.slice pz gu lu] #[.int .i64 kind,.string dh,.slice jr jc jm,.slice ni ig jq]
 have HW0:=Lib.hid hw0
 clear hw0
 go_enter Tryz.func86,Tryz.ntmps86
 go_wp2_with fail
 rw[← HW0.out]
 clear HW0
 have a0:w0.cell? ⟨w.heap.size,0,none⟩=some (.int .i64 kind):=bA.cell 0
 have z0:w0.cell? ⟨w.heap.size+1,0,none⟩=some (.int .i64 kind):=bC.cell 0
 refine(zf kind w0 (air HNU.out) (ais HNU.out) HNU.out).mono ?_
 rintro e wn ⟨rfl,hwn⟩
 subst hwn
 go_wp2_with fail
 refine(zf kind w0 (air HNU.out) (ais HNU.out) HNU.out).mono ?_
 rintro e wn ⟨rfl,hwn⟩
 subst hwn
 go_wp2_with fail
 refine(agy _).mono ?_
 rintro e wz ⟨rfl,hbz⟩
 have hBz:=hB0.trans (hbz.mono (by omega))
 have bRz:=bR.step hbz
 have hsz:=hbz.size
 obtain⟨r0,r1,f0,f1⟩:=zr bRz
 go_wp2_with fail
 obtain⟨n0,n1,nB⟩:=abf bRz hBz (by omega) (0) (⟨#[]⟩)
 exact bodyPost_ret (v:=.tuple #[.agg #[.int .i64 0,.string {data:=#[]}],.bool false]) (by simp[results,Tryz.results86,go_sem,n0,n1]) rfl ⟨um (by rw[HF.out];rfl) (by rw[HF.out];rfl) (by rw[HF.out];rfl),nB⟩
set_option maxHeartbeats 12800000 in
theorem avb {rec:Ty→Ty→ByteArray→Why} {n M:Nat} (hM:M≤1000000) (hrec:af0 86 rec n M) {kind vk:Int} (h1:isNum kind=true) (h2:isNum vk=true) {name dh at_:ByteArray} {labels dn:List ByteArray} {kids jf:List Ty} (hat:at_.size+32≤M) {B:Nat} {cs ds:List Value} {w:World} (hB:B≤w.heap.size) (hT:aex w) (hx:OkT (n+1) ⟨kind,name,labels,kids⟩) (hy:OkT (n+1) ⟨vk,dh,dn,jf⟩) (h:ku w B (Ty.pd ⟨kind,name,labels,kids⟩) cs) (k:ku w B (Ty.pd ⟨vk,dh,dn,jf⟩) ds):
  Calls Tryz.prog 86 #[.agg cs.toArray,.agg ds.toArray,.string at_] w fun e w'=>WQ (if ae1 vk≤ae1 kind∧ae2 kind≤ae2 vk then none else some (2,at_)) w e w':=by
 obtain⟨iq,qp,rfl,bf,eu⟩:=Ty.open_ h
 obtain⟨jk,gy,je,rfl⟩:=bf.form
 have oz:=Lib.hid bf
 clear bf
 obtain⟨pz,gu,lu,rfl⟩:=eu.form
 have qm:=Lib.hid eu
 clear eu
 obtain⟨abx,adl,rfl,dw,jd⟩:=Ty.open_ k
 obtain⟨jr,jc,jm,rfl⟩:=dw.form
 have wu:=Lib.hid dw
 clear dw
 obtain⟨ni,ig,jq,rfl⟩:=jd.form
 have zo:=Lib.hid jd
 clear jd
 clear h k
 obtain⟨R,hR⟩:∃ R:Why,R=if ae1 vk≤ae1 kind∧ae2 kind≤ae2 vk then none else some (2,at_):=⟨_,rfl⟩
 rw[← hR]
 have HR:=Lib.hid hR
 clear hR
 have H1:=Lib.hid h1
 have H2:=Lib.hid h2
 clear h1 h2 hx hy
 obtain⟨lo,hlo⟩:∃ z,ae1 kind=z:=⟨_,rfl⟩
 obtain⟨hi,hhi⟩:∃ z,ae2 kind=z:=⟨_,rfl⟩
 obtain⟨Zlo,hZlo⟩:∃ z,ae1 vk=z:=⟨_,rfl⟩
 obtain⟨Zhi,hZhi⟩:∃ z,ae2 vk=z:=⟨_,rfl⟩
 rw[hlo,hhi,hZlo,hZhi] at HR
 have HLO:=Lib.hid hlo
 have HHI:=Lib.hid hhi
 have HZLO:=Lib.hid hZlo
 have HZHI:=Lib.hid hZhi
 clear hlo hhi hZlo hZhi
 by_cases c1:lo < Zlo
 case pos=>
  have HF:Hid (R=some (2,at_)):=by show _=_;rw[HR.out,if_neg (by omega)]
  obtain⟨w0,hw0,bA,bC,bR,hB0,hs0⟩:=aey w 60 #[.int .i64 kind,.string name,.slice jk gy je,.slice pz gu lu] #[.int .i64 vk,.string dh,.slice jr jc jm,.slice ni ig jq]
  have HW0:=Lib.hid hw0
  clear hw0
  go_enter Tryz.func86,Tryz.ntmps86
  go_wp2_with fail
  rw[← HW0.out]
  clear HW0
  have a0:w0.cell? ⟨w.heap.size,0,none⟩=some (.int .i64 kind):=bA.cell 0
  have z0:w0.cell? ⟨w.heap.size+1,0,none⟩=some (.int .i64 vk):=bC.cell 0
  refine(zf kind w0 HLO.out HHI.out H1.out).mono ?_
  rintro e wn ⟨rfl,hwn⟩
  subst hwn
  go_wp2_with fail
  refine(zf vk w0 HZLO.out HZHI.out H2.out).mono ?_
  rintro e wn ⟨rfl,hwn⟩
  subst hwn
  go_wp2_with fail
  refine(ae3 2 at_ _).mono ?_
  rintro e wz ⟨rfl,hbz⟩
  have hBz:=hB0.trans (hbz.mono (by omega))
  have bRz:=bR.step hbz
  have hsz:=hbz.size
  obtain⟨r0,r1,f0,f1⟩:=zr bRz
  go_wp2_with fail
  obtain⟨n0,n1,nB⟩:=abf bRz hBz (by omega) (2) (at_)
  exact bodyPost_ret (v:=.tuple #[.agg #[.int .i64 2,.string at_],.bool true]) (by simp[results,Tryz.results86,go_sem,n0,n1]) rfl ⟨um (by rw[HF.out];rfl) (by rw[HF.out];rfl) (by rw[HF.out];rfl),nB⟩
 by_cases c2:Zhi < hi
 case pos=>
  have HF:Hid (R=some (2,at_)):=by show _=_;rw[HR.out,if_neg (by omega)]
  obtain⟨w0,hw0,bA,bC,bR,hB0,hs0⟩:=aey w 60 #[.int .i64 kind,.string name,.slice jk gy je,.slice pz gu lu] #[.int .i64 vk,.string dh,.slice jr jc jm,.slice ni ig jq]
  have HW0:=Lib.hid hw0
  clear hw0
  go_enter Tryz.func86,Tryz.ntmps86
  go_wp2_with fail
  rw[← HW0.out]
  clear HW0
  have a0:w0.cell? ⟨w.heap.size,0,none⟩=some (.int .i64 kind):=bA.cell 0
  have z0:w0.cell? ⟨w.heap.size+1,0,none⟩=some (.int .i64 vk):=bC.cell 0
  refine(zf kind w0 HLO.out HHI.out H1.out).mono ?_
  rintro e wn ⟨rfl,hwn⟩
  subst hwn
  go_wp2_with fail
  refine(zf vk w0 HZLO.out HZHI.out H2.out).mono ?_
  rintro e wn ⟨rfl,hwn⟩
  subst hwn
  go_wp2_with fail
  refine(ae3 2 at_ _).mono ?_
  rintro e wz ⟨rfl,hbz⟩
  have hBz:=hB0.trans (hbz.mono (by omega))
  have bRz:=bR.step hbz
  have hsz:=hbz.size
  obtain⟨r0,r1,f0,f1⟩:=zr bRz
  go_wp2_with fail
  obtain⟨n0,n1,nB⟩:=abf bRz hBz (by omega) (2) (at_)
  exact bodyPost_ret (v:=.tuple #[.agg #[.int .i64 2,.string at_],.bool true]) (by simp[results,Tryz.results86,go_sem,n0,n1]) rfl ⟨um (by rw[HF.out];rfl) (by rw[HF.out];rfl) (by rw[HF.out];rfl),nB⟩
 have HF:Hid (R=none):=by show _=_;rw[HR.out,if_pos ⟨by omega,by omega⟩]
 obtain⟨w0,hw0,bA,bC,bR,hB0,hs0⟩:=aey w 60 #[.int .i64 kind,.string name,.slice jk gy je,.slice pz gu lu] #[.int .i64 vk,.string dh,.slice jr jc jm,.slice ni ig jq]
 have HW0:=Lib.hid hw0
 clear hw0
 go_enter Tryz.func86,Tryz.ntmps86
 go_wp2_with fail
 rw[← HW0.out]
 clear HW0
 have a0:w0.cell? ⟨w.heap.size,0,none⟩=some (.int .i64 kind):=bA.cell 0
 have z0:w0.cell? ⟨w.heap.size+1,0,none⟩=some (.int .i64 vk):=bC.cell 0
 refine(zf kind w0 HLO.out HHI.out H1.out).mono ?_
 rintro e wn ⟨rfl,hwn⟩
 subst hwn
 go_wp2_with fail
 refine(zf vk w0 HZLO.out HZHI.out H2.out).mono ?_
 rintro e wn ⟨rfl,hwn⟩
 subst hwn
 go_wp2_with fail
 refine(agy _).mono ?_
 rintro e wz ⟨rfl,hbz⟩
 have hBz:=hB0.trans (hbz.mono (by omega))
 have bRz:=bR.step hbz
 have hsz:=hbz.size
 obtain⟨r0,r1,f0,f1⟩:=zr bRz
 go_wp2_with fail
 obtain⟨n0,n1,nB⟩:=abf bRz hBz (by omega) (0) (⟨#[]⟩)
 exact bodyPost_ret (v:=.tuple #[.agg #[.int .i64 0,.string {data:=#[]}],.bool false]) (by simp[results,Tryz.results86,go_sem,n0,n1]) rfl ⟨um (by rw[HF.out];rfl) (by rw[HF.out];rfl) (by rw[HF.out];rfl),nB⟩
set_option maxHeartbeats 12800000 in
theorem a14 {rec:Ty→Ty→ByteArray→Why} {n M:Nat} (hM:M≤1000000) (hrec:af0 86 rec n M) {kind vk:Int} (hk:¬ kind=vk) (hn:(isNum kind && isNum vk)=false) {name dh at_:ByteArray} {labels dn:List ByteArray} {kids jf:List Ty} (hat:at_.size+32≤M) {B:Nat} {cs ds:List Value} {w:World} (hB:B≤w.heap.size) (hT:aex w) (hx:OkT (n+1) ⟨kind,name,labels,kids⟩) (hy:OkT (n+1) ⟨vk,dh,dn,jf⟩) (h:ku w B (Ty.pd ⟨kind,name,labels,kids⟩) cs) (k:ku w B (Ty.pd ⟨vk,dh,dn,jf⟩) ds):
  Calls Tryz.prog 86 #[.agg cs.toArray,.agg ds.toArray,.string at_] w fun e w'=>WQ (some (1,at_)) w e w':=by
 obtain⟨iq,qp,rfl,bf,eu⟩:=Ty.open_ h
 obtain⟨jk,gy,je,rfl⟩:=bf.form
 have oz:=Lib.hid bf
 clear bf
 obtain⟨pz,gu,lu,rfl⟩:=eu.form
 have qm:=Lib.hid eu
 clear eu
 obtain⟨abx,adl,rfl,dw,jd⟩:=Ty.open_ k
 obtain⟨jr,jc,jm,rfl⟩:=dw.form
 have wu:=Lib.hid dw
 clear dw
 obtain⟨ni,ig,jq,rfl⟩:=jd.form
 have zo:=Lib.hid jd
 clear jd
 clear h k
 obtain⟨R,hR⟩:∃ R:Why,R=some (1,at_):=⟨_,rfl⟩
 rw[← hR]
 have HR:=Lib.hid hR
 clear hR
 have HF:Hid (R=some (1,at_)):=HR.out
 have hne:(kind ==vk)=false:=by simpa using hk
 have hne2:(kind != vk)=true:=by simpa using hk
 clear hk hx hy
 obtain⟨va,hva⟩:∃ v,isNum kind=v:=⟨_,rfl⟩
 obtain⟨vb,hvb⟩:∃ v,isNum vk=v:=⟨_,rfl⟩
 rw[hva,hvb] at hn
 have HVA:=Lib.hid hva
 have HVB:=Lib.hid hvb
 clear hva hvb
 obtain⟨lo,hlo⟩:∃ z,ae1 kind=z:=⟨_,rfl⟩
 obtain⟨hi,hhi⟩:∃ z,ae2 kind=z:=⟨_,rfl⟩
 obtain⟨Zlo,hZlo⟩:∃ z,ae1 vk=z:=⟨_,rfl⟩
 obtain⟨Zhi,hZhi⟩:∃ z,ae2 vk=z:=⟨_,rfl⟩
 have HLO:=Lib.hid hlo
 have HHI:=Lib.hid hhi
 have HZLO:=Lib.hid hZlo
 have HZHI:=Lib.hid hZhi
 clear hlo hhi hZlo hZhi
 cases va
 case false=>
  clear hn
  obtain⟨w0,hw0,bA,bC,bR,hB0,hs0⟩:=aey w 60 #[.int .i64 kind,.string name,.slice jk gy je,.slice pz gu lu] #[.int .i64 vk,.string dh,.slice jr jc jm,.slice ni ig jq]
  have HW0:=Lib.hid hw0
  clear hw0
  go_enter Tryz.func86,Tryz.ntmps86
  go_wp2_with fail
  rw[← HW0.out]
  clear HW0
  have a0:w0.cell? ⟨w.heap.size,0,none⟩=some (.int .i64 kind):=bA.cell 0
  have z0:w0.cell? ⟨w.heap.size+1,0,none⟩=some (.int .i64 vk):=bC.cell 0
  refine(zf kind w0 HLO.out HHI.out HVA.out).mono ?_
  rintro e wn ⟨rfl,hwn⟩
  subst hwn
  go_wp2_with fail
  refine(zf vk w0 HZLO.out HZHI.out HVB.out).mono ?_
  rintro e wn ⟨rfl,hwn⟩
  subst hwn
  go_wp2_with fail
  refine(ae3 1 at_ _).mono ?_
  rintro e wz ⟨rfl,hbz⟩
  have hBz:=hB0.trans (hbz.mono (by omega))
  have bRz:=bR.step hbz
  have hsz:=hbz.size
  obtain⟨r0,r1,f0,f1⟩:=zr bRz
  go_wp2_with fail
  obtain⟨n0,n1,nB⟩:=abf bRz hBz (by omega) (1) (at_)
  exact bodyPost_ret (v:=.tuple #[.agg #[.int .i64 1,.string at_],.bool true]) (by simp[results,Tryz.results86,go_sem,n0,n1]) rfl ⟨um (by rw[HF.out];rfl) (by rw[HF.out];rfl) (by rw[HF.out];rfl),nB⟩
 case true=>
  have hvb:vb=false:=by simpa using hn
  subst hvb
  clear hn
  obtain⟨w0,hw0,bA,bC,bR,hB0,hs0⟩:=aey w 60 #[.int .i64 kind,.string name,.slice jk gy je,.slice pz gu lu] #[.int .i64 vk,.string dh,.slice jr jc jm,.slice ni ig jq]
  have HW0:=Lib.hid hw0
  clear hw0
  go_enter Tryz.func86,Tryz.ntmps86
  go_wp2_with fail
  rw[← HW0.out]
  clear HW0
  have a0:w0.cell? ⟨w.heap.size,0,none⟩=some (.int .i64 kind):=bA.cell 0
  have z0:w0.cell? ⟨w.heap.size+1,0,none⟩=some (.int .i64 vk):=bC.cell 0
  refine(zf kind w0 HLO.out HHI.out HVA.out).mono ?_
  rintro e wn ⟨rfl,hwn⟩
  subst hwn
  go_wp2_with fail
  refine(zf vk w0 HZLO.out HZHI.out HVB.out).mono ?_
  rintro e wn ⟨rfl,hwn⟩
  subst hwn
  go_wp2_with fail
  refine(ae3 1 at_ _).mono ?_
  rintro e wz ⟨rfl,hbz⟩
  have hBz:=hB0.trans (hbz.mono (by omega))
  have bRz:=bR.step hbz
  have hsz:=hbz.size
  obtain⟨r0,r1,f0,f1⟩:=zr bRz
  go_wp2_with fail
  obtain⟨n0,n1,nB⟩:=abf bRz hBz (by omega) (1) (at_)
  exact bodyPost_ret (v:=.tuple #[.agg #[.int .i64 1,.string at_],.bool true]) (by simp[results,Tryz.results86,go_sem,n0,n1]) rfl ⟨um (by rw[HF.out];rfl) (by rw[HF.out];rfl) (by rw[HF.out];rfl),nB⟩
theorem avc:∀ n,n≤10→af0 86 (agf n) n (1000000 - 32 * n)
 | 0,_=>fun x y at_ B cs ds w hB hT hx=>absurd hx.1 (by have:=aoa x;omega)
 | n+1,hn=>by
  have hrec:=avc n (by omega)
  have hM:1000000 - 32 * n≤1000000:=by omega
  intro x y at_ B cs ds w hB hT hx hy hat h k
  obtain⟨kind,name,labels,kids⟩:=x
  obtain⟨vk,dh,dn,jf⟩:=y
  have hat':at_.size+32≤1000000 - 32 * n:=by omega
  by_cases hk:kind=vk
  ·subst hk
   cases hnum:isNum kind
   ·rw[ayu hnum]
    by_cases h12:12≤kind∧kind≤23
    ·have hc:kind=12∨kind=13∨kind=14∨kind=15∨kind=16∨kind=17∨kind=18∨kind=19∨kind=20∨kind=21∨kind=22∨kind=23:=by omega
     rcases hc with rfl|rfl|rfl|rfl|rfl|rfl|rfl|rfl|rfl|rfl|rfl|rfl
     ·exact a6a hM hrec hat' hB hT hx hy h k
     ·exact a6b hM hrec hat' hB hT hx hy h k
     ·exact a6c hM hrec hat' hB hT hx hy h k
     ·exact a6d hM hrec hat' hB hT hx hy h k
     ·exact a6e hM hrec hat' hB hT hx hy h k
     ·exact a6f hM hrec hat' hB hT hx hy h k
     ·exact axk hM hrec (.inl rfl) hat' hB hT hx hy h k
     ·exact axk hM hrec (.inr rfl) hat' hB hT hx hy h k
     ·exact axl hM hrec (.inl rfl) hat' hB hT hx hy h k
     ·exact axl hM hrec (.inr rfl) hat' hB hT hx hy h k
     ·exact axm hM hrec (.inl rfl) hat' hB hT hx hy h k
     ·exact axm hM hrec (.inr rfl) hat' hB hT hx hy h k
    ·exact a13 hM hrec h12 hnum hat' hB hT hx hy h k
   ·rw[aqr hnum hnum];exact avb hM hrec hnum hnum hat' hB hT hx hy h k
  ·cases hn2:isNum kind && isNum vk
   ·rw[ayt hn2 hk];exact a14 hM hrec hk hn2 hat' hB hT hx hy h k
   ·rw[Bool.and_eq_true] at hn2;rw[aqr hn2.1 hn2.2];exact avb hM hrec hn2.1 hn2.2 hat' hB hT hx hy h k
end Go.Proofs.YtbafphecjijdmaaGreatDoor
