/-
  Why one function type cannot stand for another: spec.l08Func (by program: gen_why.py).
-/
import Derived.Test.YtbafphecjijdmaaGreatDoorUb35
import Derived.Test.YtbafphecjijdmaaGreatDoorUb23
import Derived.Deep.RegionHeld3
namespace Go.Proofs.YtbafphecjijdmaaGreatDoor
open Go.RowKit
set_option linter.all false
set_option maxRecDepth 16000
set_option maxHeartbeats 12800000 in
theorem aus:bmm 46:=by
 intro a b at_ B cs ds w hB hT ha hb hat h k
 obtain⟨am4,⟨ark,arn,arl,art⟩,aas⟩:=a
 obtain⟨btp,bwi,bwj,rfl,aqv,atj,atl⟩:=jh.open_ h
 obtain⟨a02,ad7,aij,rfl⟩:=aqv.form
 have a8x:=zqd aqv
 clear aqv
 obtain⟨atm,atn,ato,rfl⟩:=atj.form
 have bes:=zqd atj
 clear atj
 obtain⟨atp,atq,atr,rfl⟩:=atl.form
 have bet:=zqd atl
 clear atl
 obtain⟨aop,⟨brk,brn,brl,brt⟩,bas⟩:=b
 obtain⟨btq,bwk,bwl,rfl,aqw,att,atu⟩:=jh.open_ k
 obtain⟨a03,atv,amn,rfl⟩:=aqw.form
 have a8y:=zqd aqw
 clear aqw
 obtain⟨atw,atx,aty,rfl⟩:=att.form
 have beu:=zqd att
 clear att
 obtain⟨atz,at1,at6,rfl⟩:=atu.form
 have bev:=zqd atu
 clear atu
 clear h k
 have ael:=zqd (ax7 4 (by omega))
 have OA:=zqd ha
 have OB:=zqd hb
 clear ha hb
 obtain⟨R,hR⟩:∃ R:Why,R=ah3 (agf 4) ⟨am4,⟨ark,arn,arl,art⟩,aas⟩ ⟨aop,⟨brk,brn,brl,brt⟩,bas⟩ at_:=⟨_,rfl⟩
 rw[← hR]
 have HR:=zqd hR
 clear hR
 obtain⟨_,_,_,he,asf,a2l,ayx⟩:=ni Param.jd (by decide) a8x.out
 injection he with e1 e2 e3
 subst e1 e2 e3
 unfold maxLen at a2l
 have ah1:=zqd asf
 clear asf
 obtain⟨_,_,_,he,asg,a2m,ayy⟩:=ni Param.jd (by decide) a8y.out
 injection he with e1 e2 e3
 subst e1 e2 e3
 unfold maxLen at a2m
 have aoq:=zqd asg
 clear asg
 have h6:ad7≤6:=by have:=OA.out.len;have:=ah1.out;simp only at *;omega
 obtain⟨w0,hw0,bA,bC,bR,hB0,hs0⟩:=afb w 62 #[.slice a02 ad7 aij,.int .i64 ark,.string arn,.slice atm atn ato,.slice atp atq atr,.bool aas] #[.slice a03 atv amn,.int .i64 brk,.string brn,.slice atw atx aty,.slice atz at1 at6,.bool bas]
 have HW0:=zqd hw0
 clear hw0
 by_cases hl:ad7=atv
 case neg=>
  have HF:Hid (R=some (7,at_)):=by show _=_;rw[HR.out,a3q (by have:=ah1.out;have:=aoq.out;simp only;omega)]
  have hne:((ad7:Int) != (atv:Int))=true:=by simp;omega
  go_enter Tryz.func46,Tryz.ntmps46
  go_wp2_with fail
  try rw[← HW0.out]
  refine(aen 7 at_ _).mono ?_
  rintro e wz ⟨rfl,hbz⟩
  have hBz:=hB0.trans (hbz.mono (by omega))
  have bRz:=bR.step hbz
  have hsz:=hbz.size
  obtain⟨r0,r1,f0,f1⟩:=zr bRz
  go_wp2_with fail
  obtain⟨n0,n1,nB⟩:=aaw bRz hBz (by omega) (7) (at_)
  exact bodyPost_ret (v:=.tuple #[.agg #[.int .i64 7,.string at_],.bool true]) (by simp[results,Tryz.results46,go_sem,n0,n1]) rfl ⟨qc (by rw[HF.out];rfl) (by rw[HF.out];rfl) (by rw[HF.out];rfl),nB⟩
 subst hl
 have HLEN:Hid (am4.length=aop.length):=by show _=_;rw[← ah1.out,aoq.out]
 go_enter Tryz.func46,Tryz.ntmps46
 go_wp2_with fail
 rw[← HW0.out]
 clear HW0
 go_loopw [8] (fun i wr=>∃ k:Nat,k≤ad7∧i=.int .i64 k∧Hid (zq (funcF (agf 4) at_ am4 aop) k=none)∧Below w0.heap.size w0 wr) (fun i _=>ad7 - (intOf i).toNat)
 case atStart=>exact⟨0,Nat.zero_le _,rfl,zqd rfl,zqf _ _⟩
 case round=>
  obtain⟨k,hk,rfl,HP,hbr⟩:=hrel
  have hBr:=hB0.trans (hbr.mono (by omega))
  have hsr:=hbr.size
  have bRr:=bR.step hbr
  have bAr:=bA.step hbr
  have bCr:=bC.step hbr
  clear bA bC bR
  have a0:wr.cell? ⟨w.heap.size,0,none⟩=some (.slice a02 ad7 aij):=bAr.cell 0
  have z0:wr.cell? ⟨w.heap.size+1,0,none⟩=some (.slice a03 ad7 amn):=bCr.cell 0
  by_cases hlt:k < ad7
  case pos=>
   have ayv:(k:Int) < (ad7:Int):=by omega
   have hk0:(0:Int)≤(k:Int):=by omega
   obtain⟨g,off,rfl,a2n,at7⟩:=ayx (by omega)
   obtain⟨x,adt,ac4⟩:=um ah1.out hlt
   obtain⟨ql,⟨tu,aik,aat,ab8⟩⟩:=x
   obtain⟨ug,zo,ac8,adb,av1,abx,adf,qy,y8⟩:=a5g (k:=k) (hBr.mono (zql _)) a2n hB at7 adt
   replace qy:=zqd qy
   replace y8:=zqd y8
   have ag4:=zqd adt
   have ahz:=zqd ac4
   clear adt ac4
   obtain⟨g2,off2,rfl,a2o,aua⟩:=ayy (by omega)
   obtain⟨y,adu,ac5⟩:=um aoq.out hlt
   obtain⟨qh,⟨qx,ag8,aau,ab9⟩⟩:=y
   obtain⟨xq,aal,ade,adl,a4a,ab2,adn,qp,y5⟩:=a5g (k:=k) (hBr.mono (zql _)) a2o hB aua adu
   replace qp:=zqd qp
   replace y5:=zqd y5
   have ag5:=zqd adu
   have ah0:=zqd ac5
   clear adu ac5
   have OX:=zqd (OA.out.par _ ahz.out)
   have OY:=zqd (OB.out.par _ ah0.out)
   have bwm:qh.size≤12:=OY.out.2
   have als:(9223372036854775807 < at_.size+(⟨#[40]⟩:ByteArray).size)=False:=eq_false (by have z_:(⟨#[40]⟩:ByteArray).size=1:=rfl;omega)
   have alu:(9223372036854775807 < at_.size+1)=False:=eq_false (by omega)
   obtain⟨p1,ad3⟩:∃ p,at_ ++(⟨#[40]⟩:ByteArray)=p:=⟨_,rfl⟩
   have alv:p1.size≤900001:=by rw[← ad3,ByteArray.size_append];have z_:(⟨#[40]⟩:ByteArray).size=1:=rfl;omega
   have ari:(9223372036854775807 < p1.size+qh.size)=False:=eq_false (by omega)
   obtain⟨p2,agz⟩:∃ p,p1 ++qh=p:=⟨_,rfl⟩
   have aps:p2.size≤900013:=by rw[← agz,ByteArray.size_append];omega
   have bwn:(9223372036854775807 < p2.size+(⟨#[41]⟩:ByteArray).size)=False:=eq_false (by have z_:(⟨#[41]⟩:ByteArray).size=1:=rfl;omega)
   have bwo:(9223372036854775807 < p2.size+1)=False:=eq_false (by omega)
   obtain⟨p3,a8z⟩:∃ p,p2 ++(⟨#[41]⟩:ByteArray)=p:=⟨_,rfl⟩
   have bwq:p3.size≤900014:=by rw[← a8z,ByteArray.size_append];have z_:(⟨#[41]⟩:ByteArray).size=1:=rfl;omega
   have HP3:Hid (aqn at_ qh=p3):=by show _=_;rw[← a8z,← agz,← ad3];rfl
   by_cases hnm:ql=qh
   case neg=>
    have HF:Hid (R=some (7,p3)):=by show _=_;rw[HR.out,← HP3.out];exact aq9 HLEN.out (ada HP.out (a7u ag4.out ag5.out hnm) _ (by have:=ah1.out;simp only;omega))
    have hs1:(ql.toList ==qh.toList)=false:=aeu hnm
    have hs2:(ql.toList != qh.toList)=true:=by simpa using hs1
    clear hnm
    have HS:Hid (∀ V,Keep (w.heap.size+1+1) (w.heap.size+1+1+1) wr V→V.cell? ⟨w.heap.size,0,none⟩=some (.slice (some ⟨g,off,none⟩) ad7 aij)∧V.cell? ⟨w.heap.size+1,0,none⟩=some (.slice (some ⟨g2,off2,none⟩) ad7 amn)∧V.cell? ⟨g,off+k * 5,none⟩=some (.string ql)∧V.cell? ⟨g2,off2+k * 5,none⟩=some (.string qh)):=zqd fun V hV=>⟨(hV.cell (p:=⟨w.heap.size,0,none⟩) (by simp only;omega) (by simp only;omega)).trans a0,(hV.cell (p:=⟨w.heap.size+1,0,none⟩) (by simp only;omega) (by simp only;omega)).trans z0,(hV.cell (p:=⟨g,off+k * 5,none⟩) (by simp only;omega) (by simp only;omega)).trans ac8,(hV.cell (p:=⟨g2,off2+k * 5,none⟩) (by simp only;omega) (by simp only;omega)).trans ade⟩
    go_wp2_with fail
    go_region_held3 (fun w'=>w'.cell? ⟨w.heap.size,0,none⟩=some (.slice (some ⟨g,off,none⟩) ad7 aij)∧w'.cell? ⟨w.heap.size+1,0,none⟩=some (.slice (some ⟨g2,off2,none⟩) ad7 amn)∧w'.cell? ⟨g,off+k * 5,none⟩=some (.string ql)∧w'.cell? ⟨g2,off2+k * 5,none⟩=some (.string qh))
     (first|exact HS.out _ (by repeat(first|exact hq1|exact hq2|exact Keep.refl _ _ _|refine Keep.drew ?_|refine Keep.alloc ?_ _|refine Keep.setAt ?_ _ _|refine Keep.newAt ?_ (zql _) _ _|refine Keep.newAt ?_ aak.size _ _|refine Keep.newAt ?_ hbW.size _ _)))
     (fail)
    obtain⟨w7,hq7⟩:∃ V,V=wr.drew:=⟨_,rfl⟩
    rw[← hq7]
    have hb7:Below wr.heap.size wr w7:=by rw[hq7];exact(zqf _ _).drew
    have hs7:=hb7.size
    clear hq7 HS
    have hB7:=hBr.trans (hb7.mono (by omega))
    have bR7:=bRr.step hb7
    go_wp2_with fail
    refine(aen 7 p3 _).mono ?_
    rintro e wz ⟨rfl,hbz⟩
    have hBz:=hB7.trans (hbz.mono (by omega))
    have bRz:=bR7.step hbz
    have hsz:=hbz.size
    obtain⟨r0,r1,f0,f1⟩:=zr bRz
    go_wp2_with fail
    obtain⟨n0,n1,nB⟩:=aaw bRz hBz (by omega) (7) (p3)
    exact bodyPost_ret (v:=.tuple #[.agg #[.int .i64 7,.string p3],.bool true]) (by simp[results,Tryz.results46,go_sem,n0,n1]) rfl ⟨qc (by rw[HF.out];rfl) (by rw[HF.out];rfl) (by rw[HF.out];rfl),nB⟩
   subst hnm
   have HS:Hid (∀ V,Keep (w.heap.size+1+1) (w.heap.size+1+1+1) wr V→V.cell? ⟨w.heap.size,0,none⟩=some (.slice (some ⟨g,off,none⟩) ad7 aij)∧V.cell? ⟨w.heap.size+1,0,none⟩=some (.slice (some ⟨g2,off2,none⟩) ad7 amn)∧V.cell? ⟨g,off+k * 5,none⟩=some (.string ql)∧V.cell? ⟨g2,off2+k * 5,none⟩=some (.string ql)):=zqd fun V hV=>⟨(hV.cell (p:=⟨w.heap.size,0,none⟩) (by simp only;omega) (by simp only;omega)).trans a0,(hV.cell (p:=⟨w.heap.size+1,0,none⟩) (by simp only;omega) (by simp only;omega)).trans z0,(hV.cell (p:=⟨g,off+k * 5,none⟩) (by simp only;omega) (by simp only;omega)).trans ac8,(hV.cell (p:=⟨g2,off2+k * 5,none⟩) (by simp only;omega) (by simp only;omega)).trans ade⟩
   go_wp2_with fail
   go_region_held3 (fun w'=>w'.cell? ⟨w.heap.size,0,none⟩=some (.slice (some ⟨g,off,none⟩) ad7 aij)∧w'.cell? ⟨w.heap.size+1,0,none⟩=some (.slice (some ⟨g2,off2,none⟩) ad7 amn)∧w'.cell? ⟨g,off+k * 5,none⟩=some (.string ql)∧w'.cell? ⟨g2,off2+k * 5,none⟩=some (.string ql))
    (first|exact HS.out _ (by repeat(first|exact hq1|exact hq2|exact Keep.refl _ _ _|refine Keep.drew ?_|refine Keep.alloc ?_ _|refine Keep.setAt ?_ _ _|refine Keep.newAt ?_ (zql _) _ _|refine Keep.newAt ?_ aak.size _ _|refine Keep.newAt ?_ hbW.size _ _)))
    (fail)
   obtain⟨w7,hq7⟩:∃ V,V=wr.drew:=⟨_,rfl⟩
   rw[← hq7]
   have hb7:Below wr.heap.size wr w7:=by rw[hq7];exact(zqf _ _).drew
   have hs7:=hb7.size
   clear hq7 HS
   have hB7:=hBr.trans (hb7.mono (by omega))
   have bR7:=bRr.step hb7
   have s0:w7.cell? ⟨w.heap.size,0,none⟩=some (.slice (some ⟨g,off,none⟩) ad7 aij):=(hb7.cell (p:=⟨w.heap.size,0,none⟩) (by simp only;omega)).trans a0
   have s1:w7.cell? ⟨w.heap.size+1,0,none⟩=some (.slice (some ⟨g2,off2,none⟩) ad7 amn):=(hb7.cell (p:=⟨w.heap.size+1,0,none⟩) (by simp only;omega)).trans z0
   have s2:w7.cell? ⟨g,off+k * 5+1,none⟩=some (.int .i64 tu):=(hb7.cell (p:=⟨g,off+k * 5+1,none⟩) (by simp only;omega)).trans adb
   have s3:w7.cell? ⟨g,off+k * 5+2,none⟩=some (.string aik):=(hb7.cell (p:=⟨g,off+k * 5+2,none⟩) (by simp only;omega)).trans av1
   have s4:w7.cell? ⟨g,off+k * 5+3,none⟩=some (ug):=(hb7.cell (p:=⟨g,off+k * 5+3,none⟩) (by simp only;omega)).trans abx
   have s5:w7.cell? ⟨g,off+k * 5+4,none⟩=some (zo):=(hb7.cell (p:=⟨g,off+k * 5+4,none⟩) (by simp only;omega)).trans adf
   have s6:w7.cell? ⟨g2,off2+k * 5+1,none⟩=some (.int .i64 qx):=(hb7.cell (p:=⟨g2,off2+k * 5+1,none⟩) (by simp only;omega)).trans adl
   have s7:w7.cell? ⟨g2,off2+k * 5+2,none⟩=some (.string ag8):=(hb7.cell (p:=⟨g2,off2+k * 5+2,none⟩) (by simp only;omega)).trans a4a
   have s8:w7.cell? ⟨g2,off2+k * 5+3,none⟩=some (xq):=(hb7.cell (p:=⟨g2,off2+k * 5+3,none⟩) (by simp only;omega)).trans ab2
   have s9:w7.cell? ⟨g2,off2+k * 5+4,none⟩=some (aal):=(hb7.cell (p:=⟨g2,off2+k * 5+4,none⟩) (by simp only;omega)).trans adn
   obtain⟨R2,hR2⟩:∃ r,agf 4 ⟨qx,ag8,aau,ab9⟩ ⟨tu,aik,aat,ab8⟩ p3=r:=⟨_,rfl⟩
   have HC:=fun(V:World) (hV:Keep (w.heap.size+1+1) (w.heap.size+1+1+1) w7 V)=>ael.out ⟨qx,ag8,aau,ab9⟩ ⟨tu,aik,aat,ab8⟩ p3 B [.int .i64 qx,.string ag8,xq,aal] [.int .i64 tu,.string aik,ug,zo] V (Nat.le_trans (Nat.le_trans hB hB7.size) hV.size) (hT.below (hB7.trans (kb hV (by omega)))) OY.out.1 OX.out.1 (by omega) (((Ty.close_ qp.out y5.out).below (hb7.mono (by omega))).below (kb hV (by omega))) (((Ty.close_ qy.out y8.out).below (hb7.mono (by omega))).below (kb hV (by omega)))
   unfold WQ at HC
   rw[hR2] at HC
   obtain⟨RK,RS,RN,HRK,HRS,HRN⟩:=agp R2
   rw[HRK.out,HRS.out,HRN.out] at HC
   replace HC:=zqd HC
   have HR2:=zqd hR2
   clear hR2
   have HK2:Hid (funcF (agf 4) at_ am4 aop k=R2):=by show _=_;rw[funcF_eq ag4.out ag5.out rfl];simp only;rw[HP3.out,← HR2.out]
   have HS:Hid (∀ V,Keep (w.heap.size+1+1) (w.heap.size+1+1+1) w7 V→V.cell? ⟨w.heap.size,0,none⟩=some (.slice (some ⟨g,off,none⟩) ad7 aij)∧V.cell? ⟨w.heap.size+1,0,none⟩=some (.slice (some ⟨g2,off2,none⟩) ad7 amn)∧V.cell? ⟨g,off+k * 5+1,none⟩=some (.int .i64 tu)∧V.cell? ⟨g,off+k * 5+2,none⟩=some (.string aik)∧V.cell? ⟨g,off+k * 5+3,none⟩=some (ug)∧V.cell? ⟨g,off+k * 5+4,none⟩=some (zo)∧V.cell? ⟨g2,off2+k * 5+1,none⟩=some (.int .i64 qx)∧V.cell? ⟨g2,off2+k * 5+2,none⟩=some (.string ag8)∧V.cell? ⟨g2,off2+k * 5+3,none⟩=some (xq)∧V.cell? ⟨g2,off2+k * 5+4,none⟩=some (aal)):=zqd fun V hV=>⟨(hV.cell (p:=⟨w.heap.size,0,none⟩) (by simp only;omega) (by simp only;omega)).trans s0,(hV.cell (p:=⟨w.heap.size+1,0,none⟩) (by simp only;omega) (by simp only;omega)).trans s1,(hV.cell (p:=⟨g,off+k * 5+1,none⟩) (by simp only;omega) (by simp only;omega)).trans s2,(hV.cell (p:=⟨g,off+k * 5+2,none⟩) (by simp only;omega) (by simp only;omega)).trans s3,(hV.cell (p:=⟨g,off+k * 5+3,none⟩) (by simp only;omega) (by simp only;omega)).trans s4,(hV.cell (p:=⟨g,off+k * 5+4,none⟩) (by simp only;omega) (by simp only;omega)).trans s5,(hV.cell (p:=⟨g2,off2+k * 5+1,none⟩) (by simp only;omega) (by simp only;omega)).trans s6,(hV.cell (p:=⟨g2,off2+k * 5+2,none⟩) (by simp only;omega) (by simp only;omega)).trans s7,(hV.cell (p:=⟨g2,off2+k * 5+3,none⟩) (by simp only;omega) (by simp only;omega)).trans s8,(hV.cell (p:=⟨g2,off2+k * 5+4,none⟩) (by simp only;omega) (by simp only;omega)).trans s9⟩
   go_wp2_with fail
   go_region_held3 (fun w'=>w'.cell? ⟨w.heap.size,0,none⟩=some (.slice (some ⟨g,off,none⟩) ad7 aij)∧w'.cell? ⟨w.heap.size+1,0,none⟩=some (.slice (some ⟨g2,off2,none⟩) ad7 amn)∧w'.cell? ⟨g,off+k * 5+1,none⟩=some (.int .i64 tu)∧w'.cell? ⟨g,off+k * 5+2,none⟩=some (.string aik)∧w'.cell? ⟨g,off+k * 5+3,none⟩=some (ug)∧w'.cell? ⟨g,off+k * 5+4,none⟩=some (zo)∧w'.cell? ⟨g2,off2+k * 5+1,none⟩=some (.int .i64 qx)∧w'.cell? ⟨g2,off2+k * 5+2,none⟩=some (.string ag8)∧w'.cell? ⟨g2,off2+k * 5+3,none⟩=some (xq)∧w'.cell? ⟨g2,off2+k * 5+4,none⟩=some (aal))
    (first|exact HS.out _ (by repeat(first|exact hq1|exact hq2|exact Keep.refl _ _ _|refine Keep.drew ?_|refine Keep.alloc ?_ _|refine Keep.setAt ?_ _ _|refine Keep.newAt ?_ (zql _) _ _|refine Keep.newAt ?_ aak.size _ _|refine Keep.newAt ?_ hbW.size _ _)))
    (first|(go_at_call 80;refine(HC.out _ (by repeat(first|exact hq1|exact hq2|exact Keep.refl _ _ _|refine Keep.drew ?_|refine Keep.alloc ?_ _|refine Keep.setAt ?_ _ _|refine Keep.newAt ?_ (zql _) _ _|refine Keep.newAt ?_ aak.size _ _|refine Keep.newAt ?_ hbW.size _ _))).mono ?_;rintro e wq ⟨rfl,hbq⟩;have hbW:Below w7.heap.size w7 wq:=(by first|exact(zqf _ _).drew.trans hbq|exact((zqf _ _).drew.alloc (zql _) _).trans (hbq.mono (by simp)));have hq2:Keep (w.heap.size+1+1) (w.heap.size+1+1+1) w7 wq:=Keep.of_below hbW;(first|(have bP:Blk wq w7.heap.size 34 #[.int .i64 0,.string {data:=#[]}]:=(Blk.new w7.drew _ _).step hbq;have p0:wq.cell? ⟨w7.heap.size,0,none⟩=some (.int .i64 0):=bP.cell 0;have p1:wq.cell? ⟨w7.heap.size,1,none⟩=some (.string {data:=#[]}):=bP.cell 1;have g0:wq.frozen? ⟨w7.heap.size,0,none⟩=false:=bP.frozen 0;have g1:wq.frozen? ⟨w7.heap.size,1,none⟩=false:=bP.frozen 1)|skip)))
   all_goals
    first
     | (obtain⟨w6,hw6⟩:=zqe wq 34 #[.int .i64 RK,.string RS];rw[← hw6];have bX:Blk w6 wq.heap.size 34 #[.int .i64 RK,.string RS]:=(by rw[hw6];exact Blk.new wq _ _);have hb6:Below w7.heap.size w7 w6:=(by rw[hw6];exact hbW.alloc hbW.size _);obtain⟨rx,hrx⟩:∃ r,r=wq.heap.size:=⟨_,rfl⟩;have aiq:w7.heap.size≤rx:=(by rw[hrx];exact hbW.size);rw[← hrx] at bX ⊢;clear hw6 hrx)
     | (obtain⟨w6,hw6⟩:∃ V,V=(wq.setCell ⟨w7.heap.size,0,none⟩ (.int .i64 RK)).setCell ⟨w7.heap.size,1,none⟩ (.string RS):=⟨_,rfl⟩;rw[← hw6];have bX:Blk w6 (w7.heap.size) 34 #[.int .i64 RK,.string RS]:=(by rw[hw6];have:=(bP.aam 0 (.int .i64 RK)).aam 1 (.string RS);simpa using this);have hb6:Below w7.heap.size w7 w6:=(by rw[hw6];exact(hbW.setCell (p:=⟨w7.heap.size,0,none⟩) (by first|exact zql _|exact aak.size|exact hbW.size) _).setCell (p:=⟨w7.heap.size,1,none⟩) (by first|exact zql _|exact aak.size|exact hbW.size) _);obtain⟨rx,hrx⟩:∃ r,r=w7.heap.size:=⟨_,rfl⟩;have aiq:w7.heap.size≤rx:=(by rw[hrx];first|exact zql _|exact hbW.size|exact aak.size);rw[← hrx] at bX ⊢;clear hw6 hrx)
    have hB6:=hB7.trans (hb6.mono (by omega))
    have bR6:=bR7.step hb6
    have hs6:=hb6.size
    cases RN
    case false=>
     have HQ:Hid (zq (funcF (agf 4) at_ am4 aop) (k+1)=none):=by show _=_;exact ae4 HP.out (by rw[HK2.out];exact af0 HRN.out)
     go_wp2_with fail
     go_roundw
     case rel=>exact⟨k+1,by omega,by go_num,HQ,(hbr.trans (hb7.mono (by omega))).trans (hb6.mono (by omega))⟩
     case measure=>simp[intOf];omega
    case true=>
     have HF:Hid (R=some (RK,RS)):=by show _=_;rw[HR.out,← HRK.out,← HRS.out];exact aq9 HLEN.out (ada HP.out (by rw[HK2.out];exact af2 HRN.out) _ (by have:=ah1.out;simp only;omega))
     obtain⟨q0,q1⟩:=rq bX
     obtain⟨r0,r1,f0,f1⟩:=zr bR6
     go_wp2_with fail
     obtain⟨n0,n1,nB⟩:=aaw bR6 hB6 (by omega) (RK) (RS)
     exact bodyPost_ret (v:=.tuple #[.agg #[.int .i64 RK,.string RS],.bool true]) (by simp[results,Tryz.results46,go_sem,n0,n1]) rfl ⟨qc (by rw[HF.out];rfl) (by rw[HF.out];rfl) (by rw[HF.out];rfl),nB⟩
  case neg=>
   have hkn:k=ad7:=by omega
   subst hkn
   have HPA:Hid (zq (funcF (agf 4) at_ am4 aop) am4.length=none):=by show _=_;rw[← ah1.out];exact HP.out
   have als:(9223372036854775807 < at_.size+(⟨#[45,62]⟩:ByteArray).size)=False:=eq_false (by have z_:(⟨#[45,62]⟩:ByteArray).size=2:=rfl;omega)
   have alu:(9223372036854775807 < at_.size+2)=False:=eq_false (by omega)
   obtain⟨p1,ad3⟩:∃ p,at_ ++(⟨#[45,62]⟩:ByteArray)=p:=⟨_,rfl⟩
   have alv:p1.size≤900002:=by rw[← ad3,ByteArray.size_append];have z_:(⟨#[45,62]⟩:ByteArray).size=2:=rfl;omega
   have ra1:wr.cell? ⟨w.heap.size,1,none⟩=some (.int .i64 ark):=bAr.cell 1
   have ra2:wr.cell? ⟨w.heap.size,2,none⟩=some (.string arn):=bAr.cell 2
   have ra3:wr.cell? ⟨w.heap.size,3,none⟩=some (.slice atm atn ato):=bAr.cell 3
   have ra4:wr.cell? ⟨w.heap.size,4,none⟩=some (.slice atp atq atr):=bAr.cell 4
   have ra5:wr.cell? ⟨w.heap.size,5,none⟩=some (.bool aas):=bAr.cell 5
   have rb1:wr.cell? ⟨w.heap.size+1,1,none⟩=some (.int .i64 brk):=bCr.cell 1
   have rb2:wr.cell? ⟨w.heap.size+1,2,none⟩=some (.string brn):=bCr.cell 2
   have rb3:wr.cell? ⟨w.heap.size+1,3,none⟩=some (.slice atw atx aty):=bCr.cell 3
   have rb4:wr.cell? ⟨w.heap.size+1,4,none⟩=some (.slice atz at1 at6):=bCr.cell 4
   have rb5:wr.cell? ⟨w.heap.size+1,5,none⟩=some (.bool bas):=bCr.cell 5
   have RA:Hid (lq wr B (Ty.pd ⟨ark,arn,arl,art⟩) [.int .i64 ark,.string arn,.slice atm atn ato,.slice atp atq atr]):=(Ty.close_ bes.out bet.out).below (hBr.mono hB)
   have RBB:Hid (lq wr B (Ty.pd ⟨brk,brn,brl,brt⟩) [.int .i64 brk,.string brn,.slice atw atx aty,.slice atz at1 at6]):=(Ty.close_ beu.out bev.out).below (hBr.mono hB)
   obtain⟨R2,hR2⟩:∃ r,agf 4 ⟨ark,arn,arl,art⟩ ⟨brk,brn,brl,brt⟩ p1=r:=⟨_,rfl⟩
   have HC:=fun(V:World) (hV:Keep (w.heap.size+1+1) (w.heap.size+1+1+1) wr V)=>ael.out ⟨ark,arn,arl,art⟩ ⟨brk,brn,brl,brt⟩ p1 B [.int .i64 ark,.string arn,.slice atm atn ato,.slice atp atq atr] [.int .i64 brk,.string brn,.slice atw atx aty,.slice atz at1 at6] V (Nat.le_trans (Nat.le_trans hB hBr.size) hV.size) (hT.below (hBr.trans (kb hV (by omega)))) OA.out.res OB.out.res (by omega) (RA.out.below (kb hV (by omega))) (RBB.out.below (kb hV (by omega)))
   unfold WQ at HC
   rw[hR2] at HC
   obtain⟨RK,RS,RN,HRK,HRS,HRN⟩:=agp R2
   rw[HRK.out,HRS.out,HRN.out] at HC
   replace HC:=zqd HC
   have HR2:=zqd hR2
   clear hR2
   go_wp2_with fail
   refine(HC.out wr (Keep.refl _ _ _)).mono ?_
   rintro e wq ⟨rfl,hbq⟩
   have hBq:=hBr.trans (hbq.mono (by omega))
   have hsq:=hbq.size
   have hB6:Below w.heap.size w (wq.alloc (.cells #[.int .i64 RK,.string RS] 34)):=hBq.alloc hBq.size _
   have bR6:Blk (wq.alloc (.cells #[.int .i64 RK,.string RS] 34)) (w.heap.size+1+1) 34 #[.int .i64 0,.string {data:=#[]}]:=(bRr.step hbq).alloc _
   have hs6:w.heap.size+1+1 < (wq.alloc (.cells #[.int .i64 RK,.string RS] 34)).heap.size:=bR6.lt
   cases RN
   case true=>
    have HF:Hid (R=some (RK,RS)):=by show _=_;rw[HR.out,← HRK.out,← HRS.out];exact a3r HLEN.out HPA.out (by simp only;rw[ad3,HR2.out];exact af2 HRN.out)
    have bX:Blk (wq.alloc (.cells #[.int .i64 RK,.string RS] 34)) wq.heap.size 34 #[.int .i64 RK,.string RS]:=Blk.new wq _ _
    have q0:(wq.alloc (.cells #[.int .i64 RK,.string RS] 34)).cell? ⟨wq.heap.size,0,none⟩=some (.int .i64 RK):=bX.cell 0
    have q1:(wq.alloc (.cells #[.int .i64 RK,.string RS] 34)).cell? ⟨wq.heap.size,1,none⟩=some (.string RS):=bX.cell 1
    obtain⟨r0,r1,f0,f1⟩:=zr bR6
    go_wp2_with fail
    obtain⟨n0,n1,nB⟩:=aaw bR6 hB6 (by omega) (RK) (RS)
    exact bodyPost_ret (v:=.tuple #[.agg #[.int .i64 RK,.string RS],.bool true]) (by simp[results,Tryz.results46,go_sem,n0,n1]) rfl ⟨qc (by rw[HF.out];rfl) (by rw[HF.out];rfl) (by rw[HF.out];rfl),nB⟩
   case false=>
    have HFE:Hid (R=if aas=true∧bas=false then some (8,at_)else none):=by show _=_;rw[HR.out];exact a3s HLEN.out HPA.out (by simp only;rw[ad3,HR2.out];exact af0 HRN.out)
    have bA6:=(bAr.step hbq).alloc (.cells #[.int .i64 RK,.string RS] 34)
    have bC6:=(bCr.step hbq).alloc (.cells #[.int .i64 RK,.string RS] 34)
    have u5:(wq.alloc (.cells #[.int .i64 RK,.string RS] 34)).cell? ⟨w.heap.size,5,none⟩=some (.bool aas):=bA6.cell 5
    have v5:(wq.alloc (.cells #[.int .i64 RK,.string RS] 34)).cell? ⟨w.heap.size+1,5,none⟩=some (.bool bas):=bC6.cell 5
    cases aas
    case false=>
     have HF:Hid (R=none):=by show _=_;rw[HFE.out];rfl
     obtain⟨r0,r1,f0,f1⟩:=zr bR6
     go_wp2_with fail
     obtain⟨n0,n1,nB⟩:=aaw bR6 hB6 (by omega) (0) (⟨#[]⟩)
     exact bodyPost_ret (v:=.tuple #[.agg #[.int .i64 0,.string {data:=#[]}],.bool false]) (by simp[results,Tryz.results46,go_sem,n0,n1]) rfl ⟨qc (by rw[HF.out];rfl) (by rw[HF.out];rfl) (by rw[HF.out];rfl),nB⟩
    cases bas
    case true=>
     have HF:Hid (R=none):=by show _=_;rw[HFE.out];rfl
     obtain⟨r0,r1,f0,f1⟩:=zr bR6
     go_wp2_with fail
     obtain⟨n0,n1,nB⟩:=aaw bR6 hB6 (by omega) (0) (⟨#[]⟩)
     exact bodyPost_ret (v:=.tuple #[.agg #[.int .i64 0,.string {data:=#[]}],.bool false]) (by simp[results,Tryz.results46,go_sem,n0,n1]) rfl ⟨qc (by rw[HF.out];rfl) (by rw[HF.out];rfl) (by rw[HF.out];rfl),nB⟩
    case false=>
     have HF:Hid (R=some (8,at_)):=by show _=_;rw[HFE.out];rfl
     go_wp2_with fail
     refine(aen 8 at_ _).mono ?_
     rintro e wz ⟨rfl,hbz⟩
     have hBz:=hB6.trans (hbz.mono (by omega))
     have bRz:=bR6.step hbz
     have hsz:=hbz.size
     obtain⟨r0,r1,f0,f1⟩:=zr bRz
     go_wp2_with fail
     obtain⟨n0,n1,nB⟩:=aaw bRz hBz (by omega) (8) (at_)
     exact bodyPost_ret (v:=.tuple #[.agg #[.int .i64 8,.string at_],.bool true]) (by simp[results,Tryz.results46,go_sem,n0,n1]) rfl ⟨qc (by rw[HF.out];rfl) (by rw[HF.out];rfl) (by rw[HF.out];rfl),nB⟩
end Go.Proofs.YtbafphecjijdmaaGreatDoor
