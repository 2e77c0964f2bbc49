/-
  Why one function type cannot stand for another: spec.l08Func (by program: gen_why.py).
-/
import Derived.Test.YtbafphecjijdmaaGreatDoorFa36
import Derived.Test.YtbafphecjijdmaaGreatDoorFa25
import Derived.Deep.RegionHeld3
namespace Go.Proofs.YtbafphecjijdmaaGreatDoor
open Go.RowKit
set_option linter.unusedVariables false
set_option linter.unusedSimpArgs false
set_option linter.unnecessarySimpa false
set_option maxRecDepth 16000
set_option maxHeartbeats 12800000 in
theorem ar6:FuncC 46:=by
 intro a b at_ B cs ds w hB hT ha hb hat h k
 obtain⟨al0,⟨ark,arn,arl,art⟩,aas⟩:=a
 obtain⟨aparV,arlV,artV,rfl,aoz,aq3,aq4⟩:=jh.open_ h
 obtain⟨axc,adk,ahl,rfl⟩:=aoz.form
 have a1t:=Lib.hid aoz
 clear aoz
 obtain⟨aq5,aq6,aq7,rfl⟩:=aq3.form
 have R_arl:=Lib.hid aq3
 clear aq3
 obtain⟨aq8,aq9,ara,rfl⟩:=aq4.form
 have R_art:=Lib.hid aq4
 clear aq4
 obtain⟨ana,⟨brk,brn,brl,brt⟩,bas⟩:=b
 obtain⟨bparV,brlV,brtV,rfl,ao0,arb,ard⟩:=jh.open_ k
 obtain⟨axd,arf,alm,rfl⟩:=ao0.form
 have a1u:=Lib.hid ao0
 clear ao0
 obtain⟨arh,ari,arj,rfl⟩:=arb.form
 have R_brl:=Lib.hid arb
 clear arb
 obtain⟨aro,arp,arq,rfl⟩:=ard.form
 have R_brt:=Lib.hid ard
 clear ard
 clear h k
 have adz:=Lib.hid (ava 4 (by omega))
 have OA:=Lib.hid ha
 have OB:=Lib.hid hb
 clear ha hb
 obtain⟨R,hR⟩:∃ R:Why,R=ajs (agf 4) ⟨al0,⟨ark,arn,arl,art⟩,aas⟩ ⟨ana,⟨brk,brn,brl,brt⟩,bas⟩ at_:=⟨_,rfl⟩
 rw[← hR]
 have HR:=Lib.hid hR
 clear hR
 obtain⟨_,_,_,he,aqa,ayf,avt⟩:=ny Param.jw (by decide) a1t.out
 injection he with e1 e2 e3
 subst e1 e2 e3
 unfold maxLen at ayf
 have ag6:=Lib.hid aqa
 clear aqa
 obtain⟨_,_,_,he,aqb,ayg,avu⟩:=ny Param.jw (by decide) a1u.out
 injection he with e1 e2 e3
 subst e1 e2 e3
 unfold maxLen at ayg
 have anb:=Lib.hid aqb
 clear aqb
 have h6:adk≤6:=by have:=OA.out.len;have:=ag6.out;simp only at *;omega
 obtain⟨w0,hw0,bA,bC,bR,hB0,hs0⟩:=aey w 62 #[.slice axc adk ahl,.int .i64 ark,.string arn,.slice aq5 aq6 aq7,.slice aq8 aq9 ara,.bool aas] #[.slice axd arf alm,.int .i64 brk,.string brn,.slice arh ari arj,.slice aro arp arq,.bool bas]
 have HW0:=Lib.hid hw0
 clear hw0
 by_cases hl:adk=arf
 case neg=>
  have HF:Hid (R=some (7,at_)):=by show _=_;rw[HR.out,ayw (by have:=ag6.out;have:=anb.out;simp only;omega)]
  have hne:((adk:Int) != (arf:Int))=true:=by simp;omega
  go_enter Tryz.func46,Tryz.ntmps46
  go_wp2_with fail
  try rw[← HW0.out]
  refine(aej 7 at_ _).mono ?_
  rintro e wz ⟨rfl,hbz⟩
  have hBz:=hB0.trans (hbz.mono (by omega))
  have bRz:=bR.step hbz
  have hsz:=hbz.size
  obtain⟨r0,r1,f0,f1⟩:=zr bRz
  go_wp2_with fail
  obtain⟨n0,n1,nB⟩:=abf bRz hBz (by omega) (7) (at_)
  exact bodyPost_ret (v:=.tuple #[.agg #[.int .i64 7,.string at_],.bool true]) (by simp[results,Tryz.results46,go_sem,n0,n1]) rfl ⟨um (by rw[HF.out];rfl) (by rw[HF.out];rfl) (by rw[HF.out];rfl),nB⟩
 subst hl
 have HLEN:Hid (al0.length=ana.length):=by show _=_;rw[← ag6.out,anb.out]
 go_enter Tryz.func46,Tryz.ntmps46
 go_wp2_with fail
 rw[← HW0.out]
 clear HW0
 go_loopw [8] (fun i wr=>∃ k:Nat,k≤adk∧i=.int .i64 k∧Hid (aax (funcF (agf 4) at_ al0 ana) k=none)∧Below w0.heap.size w0 wr) (fun i _=>adk - (intOf i).toNat)
 case atStart=>exact⟨0,Nat.zero_le _,rfl,Lib.hid rfl,Below.refl _ _⟩
 case round=>
  obtain⟨k,hk,rfl,HP,hbr⟩:=hrel
  have hBr:=hB0.trans (hbr.mono (by omega))
  have hsr:=hbr.size
  have bRr:=bR.step hbr
  have bAr:=bA.step hbr
  have bCr:=bC.step hbr
  clear bA bC bR
  have a0:wr.cell? ⟨w.heap.size,0,none⟩=some (.slice axc adk ahl):=bAr.cell 0
  have z0:wr.cell? ⟨w.heap.size+1,0,none⟩=some (.slice axd adk alm):=bCr.cell 0
  by_cases hlt:k < adk
  case pos=>
   have hlti:(k:Int) < (adk:Int):=by omega
   have hk0:(0:Int)≤(k:Int):=by omega
   obtain⟨g,off,rfl,ayh,ars⟩:=avt (by omega)
   obtain⟨x,ac7,acf⟩:=vw ag6.out hlt
   obtain⟨qj,⟨tu,ahm,aae,abv⟩⟩:=x
   obtain⟨ug,y8,aco,acr,ata,abh,acu,qx,yh⟩:=azy (k:=k) (hBr.mono (Nat.le_refl _)) ayh hB ars ac7
   replace qx:=Lib.hid qx
   replace yh:=Lib.hid yh
   have af9:=Lib.hid ac7
   have ag4:=Lib.hid acf
   clear ac7 acf
   obtain⟨g2,off2,rfl,ayi,aru⟩:=avu (by omega)
   obtain⟨y,ac8,acg⟩:=vw anb.out hlt
   obtain⟨qc,⟨qw,agc,aaf,abw⟩⟩:=y
   obtain⟨uz,zu,acs,ac0,ay4,abm,ac1,qo,x9⟩:=azy (k:=k) (hBr.mono (Nat.le_refl _)) ayi hB aru ac8
   replace qo:=Lib.hid qo
   replace x9:=Lib.hid x9
   have aga:=Lib.hid ac8
   have ag5:=Lib.hid acg
   clear ac8 acg
   have OX:=Lib.hid (OA.out.par _ ag4.out)
   have OY:=Lib.hid (OB.out.par _ ag5.out)
   have l_yn:qc.size≤12:=OY.out.2
   have akp:(9223372036854775807 < at_.size+(⟨#[40]⟩:ByteArray).size)=False:=eq_false (by have z_:(⟨#[40]⟩:ByteArray).size=1:=rfl;omega)
   have akq:(9223372036854775807 < at_.size+1)=False:=eq_false (by omega)
   obtain⟨p1,adg⟩:∃ p,at_ ++(⟨#[40]⟩:ByteArray)=p:=⟨_,rfl⟩
   have akr:p1.size≤900001:=by rw[← adg,ByteArray.size_append];have z_:(⟨#[40]⟩:ByteArray).size=1:=rfl;omega
   have apf:(9223372036854775807 < p1.size+qc.size)=False:=eq_false (by omega)
   obtain⟨p2,af6⟩:∃ p,p1 ++qc=p:=⟨_,rfl⟩
   have apg:p2.size≤900013:=by rw[← af6,ByteArray.size_append];omega
   have y_p3:(9223372036854775807 < p2.size+(⟨#[41]⟩:ByteArray).size)=False:=eq_false (by have z_:(⟨#[41]⟩:ByteArray).size=1:=rfl;omega)
   have x_p3:(9223372036854775807 < p2.size+1)=False:=eq_false (by omega)
   obtain⟨p3,e_p3⟩:∃ p,p2 ++(⟨#[41]⟩:ByteArray)=p:=⟨_,rfl⟩
   have l_p3:p3.size≤900014:=by rw[← e_p3,ByteArray.size_append];have z_:(⟨#[41]⟩:ByteArray).size=1:=rfl;omega
   have HP3:Hid (parL at_ qc=p3):=by show _=_;rw[← e_p3,← af6,← adg];rfl
   by_cases hnm:qj=qc
   case neg=>
    have HF:Hid (R=some (7,p3)):=by show _=_;rw[HR.out,← HP3.out];exact ao9 HLEN.out (adt HP.out (a1b af9.out aga.out hnm) _ (by have:=ag6.out;simp only;omega))
    have hs1:(qj.toList ==qc.toList)=false:=aes hnm
    have hs2:(qj.toList != qc.toList)=true:=by simpa using hs1
    clear hnm
    have HS:Hid (∀ V,Keep (w.heap.size+1+1) (w.heap.size+1+1+1) wr V→V.cell? ⟨w.heap.size,0,none⟩=some (.slice (some ⟨g,off,none⟩) adk ahl)∧V.cell? ⟨w.heap.size+1,0,none⟩=some (.slice (some ⟨g2,off2,none⟩) adk alm)∧V.cell? ⟨g,off+k * 5,none⟩=some (.string qj)∧V.cell? ⟨g2,off2+k * 5,none⟩=some (.string qc)):=Lib.hid fun V hV=>⟨(hV.cell (p:=⟨w.heap.size,0,none⟩) (by simp only;omega) (by simp only;omega)).trans a0,(hV.cell (p:=⟨w.heap.size+1,0,none⟩) (by simp only;omega) (by simp only;omega)).trans z0,(hV.cell (p:=⟨g,off+k * 5,none⟩) (by simp only;omega) (by simp only;omega)).trans aco,(hV.cell (p:=⟨g2,off2+k * 5,none⟩) (by simp only;omega) (by simp only;omega)).trans acs⟩
    go_wp2_with fail
    go_region_held3 (fun w'=>w'.cell? ⟨w.heap.size,0,none⟩=some (.slice (some ⟨g,off,none⟩) adk ahl)∧w'.cell? ⟨w.heap.size+1,0,none⟩=some (.slice (some ⟨g2,off2,none⟩) adk alm)∧w'.cell? ⟨g,off+k * 5,none⟩=some (.string qj)∧w'.cell? ⟨g2,off2+k * 5,none⟩=some (.string qc))
     (first|exact HS.out _ (by repeat(first|exact hq1|exact hq2|exact Keep.refl _ _ _|refine Keep.drew ?_|refine Keep.alloc ?_ _|refine Keep.setAt ?_ _ _|refine Keep.newAt ?_ (Nat.le_refl _) _ _|refine Keep.newAt ?_ aah.size _ _|refine Keep.newAt ?_ hbW.size _ _)))
     (fail)
    obtain⟨w7,hq7⟩:∃ V,V=wr.drew:=⟨_,rfl⟩
    rw[← hq7]
    have hb7:Below wr.heap.size wr w7:=by rw[hq7];exact(Below.refl _ _).drew
    have hs7:=hb7.size
    clear hq7 HS
    have hB7:=hBr.trans (hb7.mono (by omega))
    have bR7:=bRr.step hb7
    go_wp2_with fail
    refine(aej 7 p3 _).mono ?_
    rintro e wz ⟨rfl,hbz⟩
    have hBz:=hB7.trans (hbz.mono (by omega))
    have bRz:=bR7.step hbz
    have hsz:=hbz.size
    obtain⟨r0,r1,f0,f1⟩:=zr bRz
    go_wp2_with fail
    obtain⟨n0,n1,nB⟩:=abf bRz hBz (by omega) (7) (p3)
    exact bodyPost_ret (v:=.tuple #[.agg #[.int .i64 7,.string p3],.bool true]) (by simp[results,Tryz.results46,go_sem,n0,n1]) rfl ⟨um (by rw[HF.out];rfl) (by rw[HF.out];rfl) (by rw[HF.out];rfl),nB⟩
   subst hnm
   have HS:Hid (∀ V,Keep (w.heap.size+1+1) (w.heap.size+1+1+1) wr V→V.cell? ⟨w.heap.size,0,none⟩=some (.slice (some ⟨g,off,none⟩) adk ahl)∧V.cell? ⟨w.heap.size+1,0,none⟩=some (.slice (some ⟨g2,off2,none⟩) adk alm)∧V.cell? ⟨g,off+k * 5,none⟩=some (.string qj)∧V.cell? ⟨g2,off2+k * 5,none⟩=some (.string qj)):=Lib.hid fun V hV=>⟨(hV.cell (p:=⟨w.heap.size,0,none⟩) (by simp only;omega) (by simp only;omega)).trans a0,(hV.cell (p:=⟨w.heap.size+1,0,none⟩) (by simp only;omega) (by simp only;omega)).trans z0,(hV.cell (p:=⟨g,off+k * 5,none⟩) (by simp only;omega) (by simp only;omega)).trans aco,(hV.cell (p:=⟨g2,off2+k * 5,none⟩) (by simp only;omega) (by simp only;omega)).trans acs⟩
   go_wp2_with fail
   go_region_held3 (fun w'=>w'.cell? ⟨w.heap.size,0,none⟩=some (.slice (some ⟨g,off,none⟩) adk ahl)∧w'.cell? ⟨w.heap.size+1,0,none⟩=some (.slice (some ⟨g2,off2,none⟩) adk alm)∧w'.cell? ⟨g,off+k * 5,none⟩=some (.string qj)∧w'.cell? ⟨g2,off2+k * 5,none⟩=some (.string qj))
    (first|exact HS.out _ (by repeat(first|exact hq1|exact hq2|exact Keep.refl _ _ _|refine Keep.drew ?_|refine Keep.alloc ?_ _|refine Keep.setAt ?_ _ _|refine Keep.newAt ?_ (Nat.le_refl _) _ _|refine Keep.newAt ?_ aah.size _ _|refine Keep.newAt ?_ hbW.size _ _)))
    (fail)
   obtain⟨w7,hq7⟩:∃ V,V=wr.drew:=⟨_,rfl⟩
   rw[← hq7]
   have hb7:Below wr.heap.size wr w7:=by rw[hq7];exact(Below.refl _ _).drew
   have hs7:=hb7.size
   clear hq7 HS
   have hB7:=hBr.trans (hb7.mono (by omega))
   have bR7:=bRr.step hb7
   have s0:w7.cell? ⟨w.heap.size,0,none⟩=some (.slice (some ⟨g,off,none⟩) adk ahl):=(hb7.cell (p:=⟨w.heap.size,0,none⟩) (by simp only;omega)).trans a0
   have s1:w7.cell? ⟨w.heap.size+1,0,none⟩=some (.slice (some ⟨g2,off2,none⟩) adk alm):=(hb7.cell (p:=⟨w.heap.size+1,0,none⟩) (by simp only;omega)).trans z0
   have s2:w7.cell? ⟨g,off+k * 5+1,none⟩=some (.int .i64 tu):=(hb7.cell (p:=⟨g,off+k * 5+1,none⟩) (by simp only;omega)).trans acr
   have s3:w7.cell? ⟨g,off+k * 5+2,none⟩=some (.string ahm):=(hb7.cell (p:=⟨g,off+k * 5+2,none⟩) (by simp only;omega)).trans ata
   have s4:w7.cell? ⟨g,off+k * 5+3,none⟩=some (ug):=(hb7.cell (p:=⟨g,off+k * 5+3,none⟩) (by simp only;omega)).trans abh
   have s5:w7.cell? ⟨g,off+k * 5+4,none⟩=some (y8):=(hb7.cell (p:=⟨g,off+k * 5+4,none⟩) (by simp only;omega)).trans acu
   have s6:w7.cell? ⟨g2,off2+k * 5+1,none⟩=some (.int .i64 qw):=(hb7.cell (p:=⟨g2,off2+k * 5+1,none⟩) (by simp only;omega)).trans ac0
   have s7:w7.cell? ⟨g2,off2+k * 5+2,none⟩=some (.string agc):=(hb7.cell (p:=⟨g2,off2+k * 5+2,none⟩) (by simp only;omega)).trans ay4
   have s8:w7.cell? ⟨g2,off2+k * 5+3,none⟩=some (uz):=(hb7.cell (p:=⟨g2,off2+k * 5+3,none⟩) (by simp only;omega)).trans abm
   have s9:w7.cell? ⟨g2,off2+k * 5+4,none⟩=some (zu):=(hb7.cell (p:=⟨g2,off2+k * 5+4,none⟩) (by simp only;omega)).trans ac1
   obtain⟨R2,hR2⟩:∃ r,agf 4 ⟨qw,agc,aaf,abw⟩ ⟨tu,ahm,aae,abv⟩ p3=r:=⟨_,rfl⟩
   have HC:=fun(V:World) (hV:Keep (w.heap.size+1+1) (w.heap.size+1+1+1) w7 V)=>adz.out ⟨qw,agc,aaf,abw⟩ ⟨tu,ahm,aae,abv⟩ p3 B [.int .i64 qw,.string agc,uz,zu] [.int .i64 tu,.string ahm,ug,y8] V (Nat.le_trans (Nat.le_trans hB hB7.size) hV.size) (hT.below (hB7.trans (kb hV (by omega)))) OY.out.1 OX.out.1 (by omega) (((Ty.close_ qo.out x9.out).below (hb7.mono (by omega))).below (kb hV (by omega))) (((Ty.close_ qx.out yh.out).below (hb7.mono (by omega))).below (kb hV (by omega)))
   unfold WQ at HC
   rw[hR2] at HC
   obtain⟨RK,RS,RN,HRK,HRS,HRN⟩:=agi R2
   rw[HRK.out,HRS.out,HRN.out] at HC
   replace HC:=Lib.hid HC
   have HR2:=Lib.hid hR2
   clear hR2
   have HK2:Hid (funcF (agf 4) at_ al0 ana k=R2):=by show _=_;rw[funcF_eq af9.out aga.out rfl];simp only;rw[HP3.out,← HR2.out]
   have HS:Hid (∀ V,Keep (w.heap.size+1+1) (w.heap.size+1+1+1) w7 V→V.cell? ⟨w.heap.size,0,none⟩=some (.slice (some ⟨g,off,none⟩) adk ahl)∧V.cell? ⟨w.heap.size+1,0,none⟩=some (.slice (some ⟨g2,off2,none⟩) adk alm)∧V.cell? ⟨g,off+k * 5+1,none⟩=some (.int .i64 tu)∧V.cell? ⟨g,off+k * 5+2,none⟩=some (.string ahm)∧V.cell? ⟨g,off+k * 5+3,none⟩=some (ug)∧V.cell? ⟨g,off+k * 5+4,none⟩=some (y8)∧V.cell? ⟨g2,off2+k * 5+1,none⟩=some (.int .i64 qw)∧V.cell? ⟨g2,off2+k * 5+2,none⟩=some (.string agc)∧V.cell? ⟨g2,off2+k * 5+3,none⟩=some (uz)∧V.cell? ⟨g2,off2+k * 5+4,none⟩=some (zu)):=Lib.hid fun V hV=>⟨(hV.cell (p:=⟨w.heap.size,0,none⟩) (by simp only;omega) (by simp only;omega)).trans s0,(hV.cell (p:=⟨w.heap.size+1,0,none⟩) (by simp only;omega) (by simp only;omega)).trans s1,(hV.cell (p:=⟨g,off+k * 5+1,none⟩) (by simp only;omega) (by simp only;omega)).trans s2,(hV.cell (p:=⟨g,off+k * 5+2,none⟩) (by simp only;omega) (by simp only;omega)).trans s3,(hV.cell (p:=⟨g,off+k * 5+3,none⟩) (by simp only;omega) (by simp only;omega)).trans s4,(hV.cell (p:=⟨g,off+k * 5+4,none⟩) (by simp only;omega) (by simp only;omega)).trans s5,(hV.cell (p:=⟨g2,off2+k * 5+1,none⟩) (by simp only;omega) (by simp only;omega)).trans s6,(hV.cell (p:=⟨g2,off2+k * 5+2,none⟩) (by simp only;omega) (by simp only;omega)).trans s7,(hV.cell (p:=⟨g2,off2+k * 5+3,none⟩) (by simp only;omega) (by simp only;omega)).trans s8,(hV.cell (p:=⟨g2,off2+k * 5+4,none⟩) (by simp only;omega) (by simp only;omega)).trans s9⟩
   go_wp2_with fail
   go_region_held3 (fun w'=>w'.cell? ⟨w.heap.size,0,none⟩=some (.slice (some ⟨g,off,none⟩) adk ahl)∧w'.cell? ⟨w.heap.size+1,0,none⟩=some (.slice (some ⟨g2,off2,none⟩) adk alm)∧w'.cell? ⟨g,off+k * 5+1,none⟩=some (.int .i64 tu)∧w'.cell? ⟨g,off+k * 5+2,none⟩=some (.string ahm)∧w'.cell? ⟨g,off+k * 5+3,none⟩=some (ug)∧w'.cell? ⟨g,off+k * 5+4,none⟩=some (y8)∧w'.cell? ⟨g2,off2+k * 5+1,none⟩=some (.int .i64 qw)∧w'.cell? ⟨g2,off2+k * 5+2,none⟩=some (.string agc)∧w'.cell? ⟨g2,off2+k * 5+3,none⟩=some (uz)∧w'.cell? ⟨g2,off2+k * 5+4,none⟩=some (zu))
    (first|exact HS.out _ (by repeat(first|exact hq1|exact hq2|exact Keep.refl _ _ _|refine Keep.drew ?_|refine Keep.alloc ?_ _|refine Keep.setAt ?_ _ _|refine Keep.newAt ?_ (Nat.le_refl _) _ _|refine Keep.newAt ?_ aah.size _ _|refine Keep.newAt ?_ hbW.size _ _)))
    (first|(go_at_call 80;refine(HC.out _ (by repeat(first|exact hq1|exact hq2|exact Keep.refl _ _ _|refine Keep.drew ?_|refine Keep.alloc ?_ _|refine Keep.setAt ?_ _ _|refine Keep.newAt ?_ (Nat.le_refl _) _ _|refine Keep.newAt ?_ aah.size _ _|refine Keep.newAt ?_ hbW.size _ _))).mono ?_;rintro e wq ⟨rfl,hbq⟩;have hbW:Below w7.heap.size w7 wq:=(by first|exact(Below.refl _ _).drew.trans hbq|exact((Below.refl _ _).drew.alloc (Nat.le_refl _) _).trans (hbq.mono (by simp)));have hq2:Keep (w.heap.size+1+1) (w.heap.size+1+1+1) w7 wq:=Keep.of_below hbW;(first|(have bP:Blk wq w7.heap.size 34 #[.int .i64 0,.string {data:=#[]}]:=(Blk.new w7.drew _ _).step hbq;have p0:wq.cell? ⟨w7.heap.size,0,none⟩=some (.int .i64 0):=bP.cell 0;have p1:wq.cell? ⟨w7.heap.size,1,none⟩=some (.string {data:=#[]}):=bP.cell 1;have g0:wq.frozen? ⟨w7.heap.size,0,none⟩=false:=bP.frozen 0;have g1:wq.frozen? ⟨w7.heap.size,1,none⟩=false:=bP.frozen 1)|skip)))
   all_goals
    first
     | (obtain⟨w6,hw6⟩:∃ V,V=wq.alloc (.cells #[.int .i64 RK,.string RS] 34):=⟨_,rfl⟩;rw[← hw6];have bX:Blk w6 wq.heap.size 34 #[.int .i64 RK,.string RS]:=(by rw[hw6];exact Blk.new wq _ _);have hb6:Below w7.heap.size w7 w6:=(by rw[hw6];exact hbW.alloc hbW.size _);obtain⟨rx,hrx⟩:∃ r,r=wq.heap.size:=⟨_,rfl⟩;have ahz:w7.heap.size≤rx:=(by rw[hrx];exact hbW.size);rw[← hrx] at bX ⊢;clear hw6 hrx)
     | (obtain⟨w6,hw6⟩:∃ V,V=(wq.setCell ⟨w7.heap.size,0,none⟩ (.int .i64 RK)).setCell ⟨w7.heap.size,1,none⟩ (.string RS):=⟨_,rfl⟩;rw[← hw6];have bX:Blk w6 (w7.heap.size) 34 #[.int .i64 RK,.string RS]:=(by rw[hw6];have:=(bP.abo 0 (.int .i64 RK)).abo 1 (.string RS);simpa using this);have hb6:Below w7.heap.size w7 w6:=(by rw[hw6];exact(hbW.setCell (p:=⟨w7.heap.size,0,none⟩) (by first|exact Nat.le_refl _|exact aah.size|exact hbW.size) _).setCell (p:=⟨w7.heap.size,1,none⟩) (by first|exact Nat.le_refl _|exact aah.size|exact hbW.size) _);obtain⟨rx,hrx⟩:∃ r,r=w7.heap.size:=⟨_,rfl⟩;have ahz:w7.heap.size≤rx:=(by rw[hrx];first|exact Nat.le_refl _|exact hbW.size|exact aah.size);rw[← hrx] at bX ⊢;clear hw6 hrx)
    have hB6:=hB7.trans (hb6.mono (by omega))
    have bR6:=bR7.step hb6
    have hs6:=hb6.size
    cases RN
    case false=>
     have HQ:Hid (aax (funcF (agf 4) at_ al0 ana) (k+1)=none):=by show _=_;exact aew HP.out (by rw[HK2.out];exact ags HRN.out)
     go_wp2_with fail
     go_roundw
     case rel=>exact⟨k+1,by omega,by go_num,HQ,(hbr.trans (hb7.mono (by omega))).trans (hb6.mono (by omega))⟩
     case measure=>simp[intOf];omega
    case true=>
     have HF:Hid (R=some (RK,RS)):=by show _=_;rw[HR.out,← HRK.out,← HRS.out];exact ao9 HLEN.out (adt HP.out (by rw[HK2.out];exact agt HRN.out) _ (by have:=ag6.out;simp only;omega))
     obtain⟨q0,q1⟩:=rq bX
     obtain⟨r0,r1,f0,f1⟩:=zr bR6
     go_wp2_with fail
     obtain⟨n0,n1,nB⟩:=abf bR6 hB6 (by omega) (RK) (RS)
     exact bodyPost_ret (v:=.tuple #[.agg #[.int .i64 RK,.string RS],.bool true]) (by simp[results,Tryz.results46,go_sem,n0,n1]) rfl ⟨um (by rw[HF.out];rfl) (by rw[HF.out];rfl) (by rw[HF.out];rfl),nB⟩
  case neg=>
   have hkn:k=adk:=by omega
   subst hkn
   have HPA:Hid (aax (funcF (agf 4) at_ al0 ana) al0.length=none):=by show _=_;rw[← ag6.out];exact HP.out
   have akp:(9223372036854775807 < at_.size+(⟨#[45,62]⟩:ByteArray).size)=False:=eq_false (by have z_:(⟨#[45,62]⟩:ByteArray).size=2:=rfl;omega)
   have akq:(9223372036854775807 < at_.size+2)=False:=eq_false (by omega)
   obtain⟨p1,adg⟩:∃ p,at_ ++(⟨#[45,62]⟩:ByteArray)=p:=⟨_,rfl⟩
   have akr:p1.size≤900002:=by rw[← adg,ByteArray.size_append];have z_:(⟨#[45,62]⟩:ByteArray).size=2:=rfl;omega
   have ra1:wr.cell? ⟨w.heap.size,1,none⟩=some (.int .i64 ark):=bAr.cell 1
   have ra2:wr.cell? ⟨w.heap.size,2,none⟩=some (.string arn):=bAr.cell 2
   have ra3:wr.cell? ⟨w.heap.size,3,none⟩=some (.slice aq5 aq6 aq7):=bAr.cell 3
   have ra4:wr.cell? ⟨w.heap.size,4,none⟩=some (.slice aq8 aq9 ara):=bAr.cell 4
   have ra5:wr.cell? ⟨w.heap.size,5,none⟩=some (.bool aas):=bAr.cell 5
   have rb1:wr.cell? ⟨w.heap.size+1,1,none⟩=some (.int .i64 brk):=bCr.cell 1
   have rb2:wr.cell? ⟨w.heap.size+1,2,none⟩=some (.string brn):=bCr.cell 2
   have rb3:wr.cell? ⟨w.heap.size+1,3,none⟩=some (.slice arh ari arj):=bCr.cell 3
   have rb4:wr.cell? ⟨w.heap.size+1,4,none⟩=some (.slice aro arp arq):=bCr.cell 4
   have rb5:wr.cell? ⟨w.heap.size+1,5,none⟩=some (.bool bas):=bCr.cell 5
   have RA:Hid (ku wr B (Ty.pd ⟨ark,arn,arl,art⟩) [.int .i64 ark,.string arn,.slice aq5 aq6 aq7,.slice aq8 aq9 ara]):=(Ty.close_ R_arl.out R_art.out).below (hBr.mono hB)
   have RBB:Hid (ku wr B (Ty.pd ⟨brk,brn,brl,brt⟩) [.int .i64 brk,.string brn,.slice arh ari arj,.slice aro arp arq]):=(Ty.close_ R_brl.out R_brt.out).below (hBr.mono hB)
   obtain⟨R2,hR2⟩:∃ r,agf 4 ⟨ark,arn,arl,art⟩ ⟨brk,brn,brl,brt⟩ p1=r:=⟨_,rfl⟩
   have HC:=fun(V:World) (hV:Keep (w.heap.size+1+1) (w.heap.size+1+1+1) wr V)=>adz.out ⟨ark,arn,arl,art⟩ ⟨brk,brn,brl,brt⟩ p1 B [.int .i64 ark,.string arn,.slice aq5 aq6 aq7,.slice aq8 aq9 ara] [.int .i64 brk,.string brn,.slice arh ari arj,.slice aro arp arq] V (Nat.le_trans (Nat.le_trans hB hBr.size) hV.size) (hT.below (hBr.trans (kb hV (by omega)))) OA.out.res OB.out.res (by omega) (RA.out.below (kb hV (by omega))) (RBB.out.below (kb hV (by omega)))
   unfold WQ at HC
   rw[hR2] at HC
   obtain⟨RK,RS,RN,HRK,HRS,HRN⟩:=agi R2
   rw[HRK.out,HRS.out,HRN.out] at HC
   replace HC:=Lib.hid HC
   have HR2:=Lib.hid hR2
   clear hR2
   go_wp2_with fail
   refine(HC.out wr (Keep.refl _ _ _)).mono ?_
   rintro e wq ⟨rfl,hbq⟩
   have hBq:=hBr.trans (hbq.mono (by omega))
   have hsq:=hbq.size
   have hB6:Below w.heap.size w (wq.alloc (.cells #[.int .i64 RK,.string RS] 34)):=hBq.alloc hBq.size _
   have bR6:Blk (wq.alloc (.cells #[.int .i64 RK,.string RS] 34)) (w.heap.size+1+1) 34 #[.int .i64 0,.string {data:=#[]}]:=(bRr.step hbq).alloc _
   have hs6:w.heap.size+1+1 < (wq.alloc (.cells #[.int .i64 RK,.string RS] 34)).heap.size:=bR6.lt
   cases RN
   case true=>
    have HF:Hid (R=some (RK,RS)):=by show _=_;rw[HR.out,← HRK.out,← HRS.out];exact ayx HLEN.out HPA.out (by simp only;rw[adg,HR2.out];exact agt HRN.out)
    have bX:Blk (wq.alloc (.cells #[.int .i64 RK,.string RS] 34)) wq.heap.size 34 #[.int .i64 RK,.string RS]:=Blk.new wq _ _
    have q0:(wq.alloc (.cells #[.int .i64 RK,.string RS] 34)).cell? ⟨wq.heap.size,0,none⟩=some (.int .i64 RK):=bX.cell 0
    have q1:(wq.alloc (.cells #[.int .i64 RK,.string RS] 34)).cell? ⟨wq.heap.size,1,none⟩=some (.string RS):=bX.cell 1
    obtain⟨r0,r1,f0,f1⟩:=zr bR6
    go_wp2_with fail
    obtain⟨n0,n1,nB⟩:=abf bR6 hB6 (by omega) (RK) (RS)
    exact bodyPost_ret (v:=.tuple #[.agg #[.int .i64 RK,.string RS],.bool true]) (by simp[results,Tryz.results46,go_sem,n0,n1]) rfl ⟨um (by rw[HF.out];rfl) (by rw[HF.out];rfl) (by rw[HF.out];rfl),nB⟩
   case false=>
    have HFE:Hid (R=if aas=true∧bas=false then some (8,at_)else none):=by show _=_;rw[HR.out];exact ayy HLEN.out HPA.out (by simp only;rw[adg,HR2.out];exact ags HRN.out)
    have bA6:=(bAr.step hbq).alloc (.cells #[.int .i64 RK,.string RS] 34)
    have bC6:=(bCr.step hbq).alloc (.cells #[.int .i64 RK,.string RS] 34)
    have u5:(wq.alloc (.cells #[.int .i64 RK,.string RS] 34)).cell? ⟨w.heap.size,5,none⟩=some (.bool aas):=bA6.cell 5
    have v5:(wq.alloc (.cells #[.int .i64 RK,.string RS] 34)).cell? ⟨w.heap.size+1,5,none⟩=some (.bool bas):=bC6.cell 5
    cases aas
    case false=>
     have HF:Hid (R=none):=by show _=_;rw[HFE.out];rfl
     obtain⟨r0,r1,f0,f1⟩:=zr bR6
     go_wp2_with fail
     obtain⟨n0,n1,nB⟩:=abf bR6 hB6 (by omega) (0) (⟨#[]⟩)
     exact bodyPost_ret (v:=.tuple #[.agg #[.int .i64 0,.string {data:=#[]}],.bool false]) (by simp[results,Tryz.results46,go_sem,n0,n1]) rfl ⟨um (by rw[HF.out];rfl) (by rw[HF.out];rfl) (by rw[HF.out];rfl),nB⟩
    cases bas
    case true=>
     have HF:Hid (R=none):=by show _=_;rw[HFE.out];rfl
     obtain⟨r0,r1,f0,f1⟩:=zr bR6
     go_wp2_with fail
     obtain⟨n0,n1,nB⟩:=abf bR6 hB6 (by omega) (0) (⟨#[]⟩)
     exact bodyPost_ret (v:=.tuple #[.agg #[.int .i64 0,.string {data:=#[]}],.bool false]) (by simp[results,Tryz.results46,go_sem,n0,n1]) rfl ⟨um (by rw[HF.out];rfl) (by rw[HF.out];rfl) (by rw[HF.out];rfl),nB⟩
    case false=>
     have HF:Hid (R=some (8,at_)):=by show _=_;rw[HFE.out];rfl
     go_wp2_with fail
     refine(aej 8 at_ _).mono ?_
     rintro e wz ⟨rfl,hbz⟩
     have hBz:=hB6.trans (hbz.mono (by omega))
     have bRz:=bR6.step hbz
     have hsz:=hbz.size
     obtain⟨r0,r1,f0,f1⟩:=zr bRz
     go_wp2_with fail
     obtain⟨n0,n1,nB⟩:=abf bRz hBz (by omega) (8) (at_)
     exact bodyPost_ret (v:=.tuple #[.agg #[.int .i64 8,.string at_],.bool true]) (by simp[results,Tryz.results46,go_sem,n0,n1]) rfl ⟨um (by rw[HF.out];rfl) (by rw[HF.out];rfl) (by rw[HF.out];rfl),nB⟩
end Go.Proofs.YtbafphecjijdmaaGreatDoor
