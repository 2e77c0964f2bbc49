/-
  Why one function type cannot stand for another: spec.l08Func (by program: gen_why.py).
-/
import Derived.Test.YtbafphecjijdmaaGreatDoorWa36
import Derived.Test.YtbafphecjijdmaaGreatDoorWa25
import Derived.Deep.RegionHeld3
namespace Go.Proofs.YtbafphecjijdmaaGreatDoor
open Go.RowKit
set_option linter.unusedVariables false
set_option linter.unusedSimpArgs false
set_option linter.unnecessarySimpa false
set_option maxRecDepth 16000
set_option maxHeartbeats 12800000 in
theorem ash:bgh 46:=by
 intro a b at_ B cs ds w hB hT ha hb hat h k
 obtain⟨al2,⟨ark,arn,arl,art⟩,aas⟩:=a
 obtain⟨bnb,bpx,bpy,rfl,ao8,arf,arh⟩:=jh.open_ h
 obtain⟨axp,ads,ahm,rfl⟩:=ao8.form
 have a3b:=Lib.hid ao8
 clear ao8
 obtain⟨ari,arj,aro,rfl⟩:=arf.form
 have a8y:=Lib.hid arf
 clear arf
 obtain⟨arp,arq,ars,rfl⟩:=arh.form
 have a8z:=Lib.hid arh
 clear arh
 obtain⟨ani,⟨brk,brn,brl,brt⟩,bas⟩:=b
 obtain⟨bnc,bpz,bp3,rfl,ao9,aru,arv⟩:=jh.open_ k
 obtain⟨axq,arw,alo,rfl⟩:=ao9.form
 have a3c:=Lib.hid ao9
 clear ao9
 obtain⟨arx,arz,ar0,rfl⟩:=aru.form
 have a81:=Lib.hid aru
 clear aru
 obtain⟨ar1,ar2,ar4,rfl⟩:=arv.form
 have a88:=Lib.hid arv
 clear arv
 clear h k
 have ad7:=Lib.hid (avj 4 (by omega))
 have OA:=Lib.hid ha
 have OB:=Lib.hid hb
 clear ha hb
 obtain⟨R,hR⟩:∃ R:Why,R=ajv (agl 4) ⟨al2,⟨ark,arn,arl,art⟩,aas⟩ ⟨ani,⟨brk,brn,brl,brt⟩,bas⟩ at_:=⟨_,rfl⟩
 rw[← hR]
 have HR:=Lib.hid hR
 clear hR
 obtain⟨_,_,_,he,aqk,ayv,av6⟩:=ny Param.jw (by decide) a3b.out
 injection he with e1 e2 e3
 subst e1 e2 e3
 unfold maxLen at ayv
 have aha:=Lib.hid aqk
 clear aqk
 obtain⟨_,_,_,he,aql,ayw,av7⟩:=ny Param.jw (by decide) a3c.out
 injection he with e1 e2 e3
 subst e1 e2 e3
 unfold maxLen at ayw
 have anj:=Lib.hid aql
 clear aql
 have h6:ads≤6:=by have:=OA.out.len;have:=aha.out;simp only at *;omega
 obtain⟨w0,hw0,bA,bC,bR,hB0,hs0⟩:=aeu w 62 #[.slice axp ads ahm,.int .i64 ark,.string arn,.slice ari arj aro,.slice arp arq ars,.bool aas] #[.slice axq arw alo,.int .i64 brk,.string brn,.slice arx arz ar0,.slice ar1 ar2 ar4,.bool bas]
 have HW0:=Lib.hid hw0
 clear hw0
 by_cases hl:ads=arw
 case neg=>
  have HF:Hid (R=some (7,at_)):=by show _=_;rw[HR.out,azi (by have:=aha.out;have:=anj.out;simp only;omega)]
  have hne:((ads:Int) != (arw:Int))=true:=by simp;omega
  go_enter Tryz.func46,Tryz.ntmps46
  go_wp2_with fail
  try rw[← HW0.out]
  refine(ael 7 at_ _).mono ?_
  rintro e wz ⟨rfl,hbz⟩
  have hBz:=hB0.trans (hbz.mono (by omega))
  have bRz:=bR.step hbz
  have hsz:=hbz.size
  obtain⟨r0,r1,f0,f1⟩:=zr bRz
  go_wp2_with fail
  obtain⟨n0,n1,nB⟩:=aaz bRz hBz (by omega) (7) (at_)
  exact bodyPost_ret (v:=.tuple #[.agg #[.int .i64 7,.string at_],.bool true]) (by simp[results,Tryz.results46,go_sem,n0,n1]) rfl ⟨qx (by rw[HF.out];rfl) (by rw[HF.out];rfl) (by rw[HF.out];rfl),nB⟩
 subst hl
 have HLEN:Hid (al2.length=ani.length):=by show _=_;rw[← aha.out,anj.out]
 go_enter Tryz.func46,Tryz.ntmps46
 go_wp2_with fail
 rw[← HW0.out]
 clear HW0
 go_loopw [8] (fun i wr=>∃ k:Nat,k≤ads∧i=.int .i64 k∧Hid (aa0 (funcF (agl 4) at_ al2 ani) k=none)∧Below w0.heap.size w0 wr) (fun i _=>ads - (intOf i).toNat)
 case atStart=>exact⟨0,Nat.zero_le _,rfl,Lib.hid rfl,Below.refl _ _⟩
 case round=>
  obtain⟨k,hk,rfl,HP,hbr⟩:=hrel
  have hBr:=hB0.trans (hbr.mono (by omega))
  have hsr:=hbr.size
  have bRr:=bR.step hbr
  have bAr:=bA.step hbr
  have bCr:=bC.step hbr
  clear bA bC bR
  have a0:wr.cell? ⟨w.heap.size,0,none⟩=some (.slice axp ads ahm):=bAr.cell 0
  have z0:wr.cell? ⟨w.heap.size+1,0,none⟩=some (.slice axq ads alo):=bCr.cell 0
  by_cases hlt:k < ads
  case pos=>
   have av4:(k:Int) < (ads:Int):=by omega
   have hk0:(0:Int)≤(k:Int):=by omega
   obtain⟨g,off,rfl,ayx,ar5⟩:=av6 (by omega)
   obtain⟨x,adb,aco⟩:=xg aha.out hlt
   obtain⟨qj,⟨uf,ahn,aaj,aby⟩⟩:=x
   obtain⟨uh,zf,acu,acw,atp,abo,acz,qy,yw⟩:=a0o (k:=k) (hBr.mono (Nat.le_refl _)) ayx hB ar5 adb
   replace qy:=Lib.hid qy
   replace yw:=Lib.hid yw
   have agf:=Lib.hid adb
   have ag8:=Lib.hid aco
   clear adb aco
   obtain⟨g2,off2,rfl,ayy,ar6⟩:=av7 (by omega)
   obtain⟨y,ade,acp⟩:=xg anj.out hlt
   obtain⟨qh,⟨qw,agj,aak,abz⟩⟩:=y
   obtain⟨uz,aae,acy,ac4,azr,abq,ac5,qo,yu⟩:=a0o (k:=k) (hBr.mono (Nat.le_refl _)) ayy hB ar6 ade
   replace qo:=Lib.hid qo
   replace yu:=Lib.hid yu
   have agh:=Lib.hid ade
   have ag9:=Lib.hid acp
   clear ade acp
   have OX:=Lib.hid (OA.out.par _ ag8.out)
   have OY:=Lib.hid (OB.out.par _ ag9.out)
   have bp4:qh.size≤12:=OY.out.2
   have akt:(9223372036854775807 < at_.size+(⟨#[40]⟩:ByteArray).size)=False:=eq_false (by have z_:(⟨#[40]⟩:ByteArray).size=1:=rfl;omega)
   have aku:(9223372036854775807 < at_.size+1)=False:=eq_false (by omega)
   obtain⟨p1,adl⟩:∃ p,at_ ++(⟨#[40]⟩:ByteArray)=p:=⟨_,rfl⟩
   have akv:p1.size≤900001:=by rw[← adl,ByteArray.size_append];have z_:(⟨#[40]⟩:ByteArray).size=1:=rfl;omega
   have apq:(9223372036854775807 < p1.size+qh.size)=False:=eq_false (by omega)
   obtain⟨p2,agb⟩:∃ p,p1 ++qh=p:=⟨_,rfl⟩
   have apr:p2.size≤900013:=by rw[← agb,ByteArray.size_append];omega
   have bp5:(9223372036854775807 < p2.size+(⟨#[41]⟩:ByteArray).size)=False:=eq_false (by have z_:(⟨#[41]⟩:ByteArray).size=1:=rfl;omega)
   have bp6:(9223372036854775807 < p2.size+1)=False:=eq_false (by omega)
   obtain⟨p3,a3d⟩:∃ p,p2 ++(⟨#[41]⟩:ByteArray)=p:=⟨_,rfl⟩
   have bp7:p3.size≤900014:=by rw[← a3d,ByteArray.size_append];have z_:(⟨#[41]⟩:ByteArray).size=1:=rfl;omega
   have HP3:Hid (ayj at_ qh=p3):=by show _=_;rw[← a3d,← agb,← adl];rfl
   by_cases hnm:qj=qh
   case neg=>
    have HF:Hid (R=some (7,p3)):=by show _=_;rw[HR.out,← HP3.out];exact apj HLEN.out (ad1 HP.out (a2e agf.out agh.out hnm) _ (by have:=aha.out;simp only;omega))
    have hs1:(qj.toList ==qh.toList)=false:=ae0 hnm
    have hs2:(qj.toList != qh.toList)=true:=by simpa using hs1
    clear hnm
    have HS:Hid (∀ V,Keep (w.heap.size+1+1) (w.heap.size+1+1+1) wr V→V.cell? ⟨w.heap.size,0,none⟩=some (.slice (some ⟨g,off,none⟩) ads ahm)∧V.cell? ⟨w.heap.size+1,0,none⟩=some (.slice (some ⟨g2,off2,none⟩) ads alo)∧V.cell? ⟨g,off+k * 5,none⟩=some (.string qj)∧V.cell? ⟨g2,off2+k * 5,none⟩=some (.string qh)):=Lib.hid fun V hV=>⟨(hV.cell (p:=⟨w.heap.size,0,none⟩) (by simp only;omega) (by simp only;omega)).trans a0,(hV.cell (p:=⟨w.heap.size+1,0,none⟩) (by simp only;omega) (by simp only;omega)).trans z0,(hV.cell (p:=⟨g,off+k * 5,none⟩) (by simp only;omega) (by simp only;omega)).trans acu,(hV.cell (p:=⟨g2,off2+k * 5,none⟩) (by simp only;omega) (by simp only;omega)).trans acy⟩
    go_wp2_with fail
    go_region_held3 (fun w'=>w'.cell? ⟨w.heap.size,0,none⟩=some (.slice (some ⟨g,off,none⟩) ads ahm)∧w'.cell? ⟨w.heap.size+1,0,none⟩=some (.slice (some ⟨g2,off2,none⟩) ads alo)∧w'.cell? ⟨g,off+k * 5,none⟩=some (.string qj)∧w'.cell? ⟨g2,off2+k * 5,none⟩=some (.string qh))
     (first|exact HS.out _ (by repeat(first|exact hq1|exact hq2|exact Keep.refl _ _ _|refine Keep.drew ?_|refine Keep.alloc ?_ _|refine Keep.setAt ?_ _ _|refine Keep.newAt ?_ (Nat.le_refl _) _ _|refine Keep.newAt ?_ aam.size _ _|refine Keep.newAt ?_ hbW.size _ _)))
     (fail)
    obtain⟨w7,hq7⟩:∃ V,V=wr.drew:=⟨_,rfl⟩
    rw[← hq7]
    have hb7:Below wr.heap.size wr w7:=by rw[hq7];exact(Below.refl _ _).drew
    have hs7:=hb7.size
    clear hq7 HS
    have hB7:=hBr.trans (hb7.mono (by omega))
    have bR7:=bRr.step hb7
    go_wp2_with fail
    refine(ael 7 p3 _).mono ?_
    rintro e wz ⟨rfl,hbz⟩
    have hBz:=hB7.trans (hbz.mono (by omega))
    have bRz:=bR7.step hbz
    have hsz:=hbz.size
    obtain⟨r0,r1,f0,f1⟩:=zr bRz
    go_wp2_with fail
    obtain⟨n0,n1,nB⟩:=aaz bRz hBz (by omega) (7) (p3)
    exact bodyPost_ret (v:=.tuple #[.agg #[.int .i64 7,.string p3],.bool true]) (by simp[results,Tryz.results46,go_sem,n0,n1]) rfl ⟨qx (by rw[HF.out];rfl) (by rw[HF.out];rfl) (by rw[HF.out];rfl),nB⟩
   subst hnm
   have HS:Hid (∀ V,Keep (w.heap.size+1+1) (w.heap.size+1+1+1) wr V→V.cell? ⟨w.heap.size,0,none⟩=some (.slice (some ⟨g,off,none⟩) ads ahm)∧V.cell? ⟨w.heap.size+1,0,none⟩=some (.slice (some ⟨g2,off2,none⟩) ads alo)∧V.cell? ⟨g,off+k * 5,none⟩=some (.string qj)∧V.cell? ⟨g2,off2+k * 5,none⟩=some (.string qj)):=Lib.hid fun V hV=>⟨(hV.cell (p:=⟨w.heap.size,0,none⟩) (by simp only;omega) (by simp only;omega)).trans a0,(hV.cell (p:=⟨w.heap.size+1,0,none⟩) (by simp only;omega) (by simp only;omega)).trans z0,(hV.cell (p:=⟨g,off+k * 5,none⟩) (by simp only;omega) (by simp only;omega)).trans acu,(hV.cell (p:=⟨g2,off2+k * 5,none⟩) (by simp only;omega) (by simp only;omega)).trans acy⟩
   go_wp2_with fail
   go_region_held3 (fun w'=>w'.cell? ⟨w.heap.size,0,none⟩=some (.slice (some ⟨g,off,none⟩) ads ahm)∧w'.cell? ⟨w.heap.size+1,0,none⟩=some (.slice (some ⟨g2,off2,none⟩) ads alo)∧w'.cell? ⟨g,off+k * 5,none⟩=some (.string qj)∧w'.cell? ⟨g2,off2+k * 5,none⟩=some (.string qj))
    (first|exact HS.out _ (by repeat(first|exact hq1|exact hq2|exact Keep.refl _ _ _|refine Keep.drew ?_|refine Keep.alloc ?_ _|refine Keep.setAt ?_ _ _|refine Keep.newAt ?_ (Nat.le_refl _) _ _|refine Keep.newAt ?_ aam.size _ _|refine Keep.newAt ?_ hbW.size _ _)))
    (fail)
   obtain⟨w7,hq7⟩:∃ V,V=wr.drew:=⟨_,rfl⟩
   rw[← hq7]
   have hb7:Below wr.heap.size wr w7:=by rw[hq7];exact(Below.refl _ _).drew
   have hs7:=hb7.size
   clear hq7 HS
   have hB7:=hBr.trans (hb7.mono (by omega))
   have bR7:=bRr.step hb7
   have s0:w7.cell? ⟨w.heap.size,0,none⟩=some (.slice (some ⟨g,off,none⟩) ads ahm):=(hb7.cell (p:=⟨w.heap.size,0,none⟩) (by simp only;omega)).trans a0
   have s1:w7.cell? ⟨w.heap.size+1,0,none⟩=some (.slice (some ⟨g2,off2,none⟩) ads alo):=(hb7.cell (p:=⟨w.heap.size+1,0,none⟩) (by simp only;omega)).trans z0
   have s2:w7.cell? ⟨g,off+k * 5+1,none⟩=some (.int .i64 uf):=(hb7.cell (p:=⟨g,off+k * 5+1,none⟩) (by simp only;omega)).trans acw
   have s3:w7.cell? ⟨g,off+k * 5+2,none⟩=some (.string ahn):=(hb7.cell (p:=⟨g,off+k * 5+2,none⟩) (by simp only;omega)).trans atp
   have s4:w7.cell? ⟨g,off+k * 5+3,none⟩=some (uh):=(hb7.cell (p:=⟨g,off+k * 5+3,none⟩) (by simp only;omega)).trans abo
   have s5:w7.cell? ⟨g,off+k * 5+4,none⟩=some (zf):=(hb7.cell (p:=⟨g,off+k * 5+4,none⟩) (by simp only;omega)).trans acz
   have s6:w7.cell? ⟨g2,off2+k * 5+1,none⟩=some (.int .i64 qw):=(hb7.cell (p:=⟨g2,off2+k * 5+1,none⟩) (by simp only;omega)).trans ac4
   have s7:w7.cell? ⟨g2,off2+k * 5+2,none⟩=some (.string agj):=(hb7.cell (p:=⟨g2,off2+k * 5+2,none⟩) (by simp only;omega)).trans azr
   have s8:w7.cell? ⟨g2,off2+k * 5+3,none⟩=some (uz):=(hb7.cell (p:=⟨g2,off2+k * 5+3,none⟩) (by simp only;omega)).trans abq
   have s9:w7.cell? ⟨g2,off2+k * 5+4,none⟩=some (aae):=(hb7.cell (p:=⟨g2,off2+k * 5+4,none⟩) (by simp only;omega)).trans ac5
   obtain⟨R2,hR2⟩:∃ r,agl 4 ⟨qw,agj,aak,abz⟩ ⟨uf,ahn,aaj,aby⟩ p3=r:=⟨_,rfl⟩
   have HC:=fun(V:World) (hV:Keep (w.heap.size+1+1) (w.heap.size+1+1+1) w7 V)=>ad7.out ⟨qw,agj,aak,abz⟩ ⟨uf,ahn,aaj,aby⟩ p3 B [.int .i64 qw,.string agj,uz,aae] [.int .i64 uf,.string ahn,uh,zf] V (Nat.le_trans (Nat.le_trans hB hB7.size) hV.size) (hT.below (hB7.trans (kb hV (by omega)))) OY.out.1 OX.out.1 (by omega) (((Ty.close_ qo.out yu.out).below (hb7.mono (by omega))).below (kb hV (by omega))) (((Ty.close_ qy.out yw.out).below (hb7.mono (by omega))).below (kb hV (by omega)))
   unfold WQ at HC
   rw[hR2] at HC
   obtain⟨RK,RS,RN,HRK,HRS,HRN⟩:=agn R2
   rw[HRK.out,HRS.out,HRN.out] at HC
   replace HC:=Lib.hid HC
   have HR2:=Lib.hid hR2
   clear hR2
   have HK2:Hid (funcF (agl 4) at_ al2 ani k=R2):=by show _=_;rw[funcF_eq agf.out agh.out rfl];simp only;rw[HP3.out,← HR2.out]
   have HS:Hid (∀ V,Keep (w.heap.size+1+1) (w.heap.size+1+1+1) w7 V→V.cell? ⟨w.heap.size,0,none⟩=some (.slice (some ⟨g,off,none⟩) ads ahm)∧V.cell? ⟨w.heap.size+1,0,none⟩=some (.slice (some ⟨g2,off2,none⟩) ads alo)∧V.cell? ⟨g,off+k * 5+1,none⟩=some (.int .i64 uf)∧V.cell? ⟨g,off+k * 5+2,none⟩=some (.string ahn)∧V.cell? ⟨g,off+k * 5+3,none⟩=some (uh)∧V.cell? ⟨g,off+k * 5+4,none⟩=some (zf)∧V.cell? ⟨g2,off2+k * 5+1,none⟩=some (.int .i64 qw)∧V.cell? ⟨g2,off2+k * 5+2,none⟩=some (.string agj)∧V.cell? ⟨g2,off2+k * 5+3,none⟩=some (uz)∧V.cell? ⟨g2,off2+k * 5+4,none⟩=some (aae)):=Lib.hid fun V hV=>⟨(hV.cell (p:=⟨w.heap.size,0,none⟩) (by simp only;omega) (by simp only;omega)).trans s0,(hV.cell (p:=⟨w.heap.size+1,0,none⟩) (by simp only;omega) (by simp only;omega)).trans s1,(hV.cell (p:=⟨g,off+k * 5+1,none⟩) (by simp only;omega) (by simp only;omega)).trans s2,(hV.cell (p:=⟨g,off+k * 5+2,none⟩) (by simp only;omega) (by simp only;omega)).trans s3,(hV.cell (p:=⟨g,off+k * 5+3,none⟩) (by simp only;omega) (by simp only;omega)).trans s4,(hV.cell (p:=⟨g,off+k * 5+4,none⟩) (by simp only;omega) (by simp only;omega)).trans s5,(hV.cell (p:=⟨g2,off2+k * 5+1,none⟩) (by simp only;omega) (by simp only;omega)).trans s6,(hV.cell (p:=⟨g2,off2+k * 5+2,none⟩) (by simp only;omega) (by simp only;omega)).trans s7,(hV.cell (p:=⟨g2,off2+k * 5+3,none⟩) (by simp only;omega) (by simp only;omega)).trans s8,(hV.cell (p:=⟨g2,off2+k * 5+4,none⟩) (by simp only;omega) (by simp only;omega)).trans s9⟩
   go_wp2_with fail
   go_region_held3 (fun w'=>w'.cell? ⟨w.heap.size,0,none⟩=some (.slice (some ⟨g,off,none⟩) ads ahm)∧w'.cell? ⟨w.heap.size+1,0,none⟩=some (.slice (some ⟨g2,off2,none⟩) ads alo)∧w'.cell? ⟨g,off+k * 5+1,none⟩=some (.int .i64 uf)∧w'.cell? ⟨g,off+k * 5+2,none⟩=some (.string ahn)∧w'.cell? ⟨g,off+k * 5+3,none⟩=some (uh)∧w'.cell? ⟨g,off+k * 5+4,none⟩=some (zf)∧w'.cell? ⟨g2,off2+k * 5+1,none⟩=some (.int .i64 qw)∧w'.cell? ⟨g2,off2+k * 5+2,none⟩=some (.string agj)∧w'.cell? ⟨g2,off2+k * 5+3,none⟩=some (uz)∧w'.cell? ⟨g2,off2+k * 5+4,none⟩=some (aae))
    (first|exact HS.out _ (by repeat(first|exact hq1|exact hq2|exact Keep.refl _ _ _|refine Keep.drew ?_|refine Keep.alloc ?_ _|refine Keep.setAt ?_ _ _|refine Keep.newAt ?_ (Nat.le_refl _) _ _|refine Keep.newAt ?_ aam.size _ _|refine Keep.newAt ?_ hbW.size _ _)))
    (first|(go_at_call 80;refine(HC.out _ (by repeat(first|exact hq1|exact hq2|exact Keep.refl _ _ _|refine Keep.drew ?_|refine Keep.alloc ?_ _|refine Keep.setAt ?_ _ _|refine Keep.newAt ?_ (Nat.le_refl _) _ _|refine Keep.newAt ?_ aam.size _ _|refine Keep.newAt ?_ hbW.size _ _))).mono ?_;rintro e wq ⟨rfl,hbq⟩;have hbW:Below w7.heap.size w7 wq:=(by first|exact(Below.refl _ _).drew.trans hbq|exact((Below.refl _ _).drew.alloc (Nat.le_refl _) _).trans (hbq.mono (by simp)));have hq2:Keep (w.heap.size+1+1) (w.heap.size+1+1+1) w7 wq:=Keep.of_below hbW;(first|(have bP:Blk wq w7.heap.size 34 #[.int .i64 0,.string {data:=#[]}]:=(Blk.new w7.drew _ _).step hbq;have p0:wq.cell? ⟨w7.heap.size,0,none⟩=some (.int .i64 0):=bP.cell 0;have p1:wq.cell? ⟨w7.heap.size,1,none⟩=some (.string {data:=#[]}):=bP.cell 1;have g0:wq.frozen? ⟨w7.heap.size,0,none⟩=false:=bP.frozen 0;have g1:wq.frozen? ⟨w7.heap.size,1,none⟩=false:=bP.frozen 1)|skip)))
   all_goals
    first
     | (obtain⟨w6,hw6⟩:∃ V,V=wq.alloc (.cells #[.int .i64 RK,.string RS] 34):=⟨_,rfl⟩;rw[← hw6];have bX:Blk w6 wq.heap.size 34 #[.int .i64 RK,.string RS]:=(by rw[hw6];exact Blk.new wq _ _);have hb6:Below w7.heap.size w7 w6:=(by rw[hw6];exact hbW.alloc hbW.size _);obtain⟨rx,hrx⟩:∃ r,r=wq.heap.size:=⟨_,rfl⟩;have ah0:w7.heap.size≤rx:=(by rw[hrx];exact hbW.size);rw[← hrx] at bX ⊢;clear hw6 hrx)
     | (obtain⟨w6,hw6⟩:∃ V,V=(wq.setCell ⟨w7.heap.size,0,none⟩ (.int .i64 RK)).setCell ⟨w7.heap.size,1,none⟩ (.string RS):=⟨_,rfl⟩;rw[← hw6];have bX:Blk w6 (w7.heap.size) 34 #[.int .i64 RK,.string RS]:=(by rw[hw6];have:=(bP.abf 0 (.int .i64 RK)).abf 1 (.string RS);simpa using this);have hb6:Below w7.heap.size w7 w6:=(by rw[hw6];exact(hbW.setCell (p:=⟨w7.heap.size,0,none⟩) (by first|exact Nat.le_refl _|exact aam.size|exact hbW.size) _).setCell (p:=⟨w7.heap.size,1,none⟩) (by first|exact Nat.le_refl _|exact aam.size|exact hbW.size) _);obtain⟨rx,hrx⟩:∃ r,r=w7.heap.size:=⟨_,rfl⟩;have ah0:w7.heap.size≤rx:=(by rw[hrx];first|exact Nat.le_refl _|exact hbW.size|exact aam.size);rw[← hrx] at bX ⊢;clear hw6 hrx)
    have hB6:=hB7.trans (hb6.mono (by omega))
    have bR6:=bR7.step hb6
    have hs6:=hb6.size
    cases RN
    case false=>
     have HQ:Hid (aa0 (funcF (agl 4) at_ al2 ani) (k+1)=none):=by show _=_;exact ae2 HP.out (by rw[HK2.out];exact agx HRN.out)
     go_wp2_with fail
     go_roundw
     case rel=>exact⟨k+1,by omega,by go_num,HQ,(hbr.trans (hb7.mono (by omega))).trans (hb6.mono (by omega))⟩
     case measure=>simp[intOf];omega
    case true=>
     have HF:Hid (R=some (RK,RS)):=by show _=_;rw[HR.out,← HRK.out,← HRS.out];exact apj HLEN.out (ad1 HP.out (by rw[HK2.out];exact agy HRN.out) _ (by have:=aha.out;simp only;omega))
     obtain⟨q0,q1⟩:=rq bX
     obtain⟨r0,r1,f0,f1⟩:=zr bR6
     go_wp2_with fail
     obtain⟨n0,n1,nB⟩:=aaz bR6 hB6 (by omega) (RK) (RS)
     exact bodyPost_ret (v:=.tuple #[.agg #[.int .i64 RK,.string RS],.bool true]) (by simp[results,Tryz.results46,go_sem,n0,n1]) rfl ⟨qx (by rw[HF.out];rfl) (by rw[HF.out];rfl) (by rw[HF.out];rfl),nB⟩
  case neg=>
   have hkn:k=ads:=by omega
   subst hkn
   have HPA:Hid (aa0 (funcF (agl 4) at_ al2 ani) al2.length=none):=by show _=_;rw[← aha.out];exact HP.out
   have akt:(9223372036854775807 < at_.size+(⟨#[45,62]⟩:ByteArray).size)=False:=eq_false (by have z_:(⟨#[45,62]⟩:ByteArray).size=2:=rfl;omega)
   have aku:(9223372036854775807 < at_.size+2)=False:=eq_false (by omega)
   obtain⟨p1,adl⟩:∃ p,at_ ++(⟨#[45,62]⟩:ByteArray)=p:=⟨_,rfl⟩
   have akv:p1.size≤900002:=by rw[← adl,ByteArray.size_append];have z_:(⟨#[45,62]⟩:ByteArray).size=2:=rfl;omega
   have ra1:wr.cell? ⟨w.heap.size,1,none⟩=some (.int .i64 ark):=bAr.cell 1
   have ra2:wr.cell? ⟨w.heap.size,2,none⟩=some (.string arn):=bAr.cell 2
   have ra3:wr.cell? ⟨w.heap.size,3,none⟩=some (.slice ari arj aro):=bAr.cell 3
   have ra4:wr.cell? ⟨w.heap.size,4,none⟩=some (.slice arp arq ars):=bAr.cell 4
   have ra5:wr.cell? ⟨w.heap.size,5,none⟩=some (.bool aas):=bAr.cell 5
   have rb1:wr.cell? ⟨w.heap.size+1,1,none⟩=some (.int .i64 brk):=bCr.cell 1
   have rb2:wr.cell? ⟨w.heap.size+1,2,none⟩=some (.string brn):=bCr.cell 2
   have rb3:wr.cell? ⟨w.heap.size+1,3,none⟩=some (.slice arx arz ar0):=bCr.cell 3
   have rb4:wr.cell? ⟨w.heap.size+1,4,none⟩=some (.slice ar1 ar2 ar4):=bCr.cell 4
   have rb5:wr.cell? ⟨w.heap.size+1,5,none⟩=some (.bool bas):=bCr.cell 5
   have RA:Hid (jy wr B (Ty.pd ⟨ark,arn,arl,art⟩) [.int .i64 ark,.string arn,.slice ari arj aro,.slice arp arq ars]):=(Ty.close_ a8y.out a8z.out).below (hBr.mono hB)
   have RBB:Hid (jy wr B (Ty.pd ⟨brk,brn,brl,brt⟩) [.int .i64 brk,.string brn,.slice arx arz ar0,.slice ar1 ar2 ar4]):=(Ty.close_ a81.out a88.out).below (hBr.mono hB)
   obtain⟨R2,hR2⟩:∃ r,agl 4 ⟨ark,arn,arl,art⟩ ⟨brk,brn,brl,brt⟩ p1=r:=⟨_,rfl⟩
   have HC:=fun(V:World) (hV:Keep (w.heap.size+1+1) (w.heap.size+1+1+1) wr V)=>ad7.out ⟨ark,arn,arl,art⟩ ⟨brk,brn,brl,brt⟩ p1 B [.int .i64 ark,.string arn,.slice ari arj aro,.slice arp arq ars] [.int .i64 brk,.string brn,.slice arx arz ar0,.slice ar1 ar2 ar4] V (Nat.le_trans (Nat.le_trans hB hBr.size) hV.size) (hT.below (hBr.trans (kb hV (by omega)))) OA.out.res OB.out.res (by omega) (RA.out.below (kb hV (by omega))) (RBB.out.below (kb hV (by omega)))
   unfold WQ at HC
   rw[hR2] at HC
   obtain⟨RK,RS,RN,HRK,HRS,HRN⟩:=agn R2
   rw[HRK.out,HRS.out,HRN.out] at HC
   replace HC:=Lib.hid HC
   have HR2:=Lib.hid hR2
   clear hR2
   go_wp2_with fail
   refine(HC.out wr (Keep.refl _ _ _)).mono ?_
   rintro e wq ⟨rfl,hbq⟩
   have hBq:=hBr.trans (hbq.mono (by omega))
   have hsq:=hbq.size
   have hB6:Below w.heap.size w (wq.alloc (.cells #[.int .i64 RK,.string RS] 34)):=hBq.alloc hBq.size _
   have bR6:Blk (wq.alloc (.cells #[.int .i64 RK,.string RS] 34)) (w.heap.size+1+1) 34 #[.int .i64 0,.string {data:=#[]}]:=(bRr.step hbq).alloc _
   have hs6:w.heap.size+1+1 < (wq.alloc (.cells #[.int .i64 RK,.string RS] 34)).heap.size:=bR6.lt
   cases RN
   case true=>
    have HF:Hid (R=some (RK,RS)):=by show _=_;rw[HR.out,← HRK.out,← HRS.out];exact azj HLEN.out HPA.out (by simp only;rw[adl,HR2.out];exact agy HRN.out)
    have bX:Blk (wq.alloc (.cells #[.int .i64 RK,.string RS] 34)) wq.heap.size 34 #[.int .i64 RK,.string RS]:=Blk.new wq _ _
    have q0:(wq.alloc (.cells #[.int .i64 RK,.string RS] 34)).cell? ⟨wq.heap.size,0,none⟩=some (.int .i64 RK):=bX.cell 0
    have q1:(wq.alloc (.cells #[.int .i64 RK,.string RS] 34)).cell? ⟨wq.heap.size,1,none⟩=some (.string RS):=bX.cell 1
    obtain⟨r0,r1,f0,f1⟩:=zr bR6
    go_wp2_with fail
    obtain⟨n0,n1,nB⟩:=aaz bR6 hB6 (by omega) (RK) (RS)
    exact bodyPost_ret (v:=.tuple #[.agg #[.int .i64 RK,.string RS],.bool true]) (by simp[results,Tryz.results46,go_sem,n0,n1]) rfl ⟨qx (by rw[HF.out];rfl) (by rw[HF.out];rfl) (by rw[HF.out];rfl),nB⟩
   case false=>
    have HFE:Hid (R=if aas=true∧bas=false then some (8,at_)else none):=by show _=_;rw[HR.out];exact azk HLEN.out HPA.out (by simp only;rw[adl,HR2.out];exact agx HRN.out)
    have bA6:=(bAr.step hbq).alloc (.cells #[.int .i64 RK,.string RS] 34)
    have bC6:=(bCr.step hbq).alloc (.cells #[.int .i64 RK,.string RS] 34)
    have u5:(wq.alloc (.cells #[.int .i64 RK,.string RS] 34)).cell? ⟨w.heap.size,5,none⟩=some (.bool aas):=bA6.cell 5
    have v5:(wq.alloc (.cells #[.int .i64 RK,.string RS] 34)).cell? ⟨w.heap.size+1,5,none⟩=some (.bool bas):=bC6.cell 5
    cases aas
    case false=>
     have HF:Hid (R=none):=by show _=_;rw[HFE.out];rfl
     obtain⟨r0,r1,f0,f1⟩:=zr bR6
     go_wp2_with fail
     obtain⟨n0,n1,nB⟩:=aaz bR6 hB6 (by omega) (0) (⟨#[]⟩)
     exact bodyPost_ret (v:=.tuple #[.agg #[.int .i64 0,.string {data:=#[]}],.bool false]) (by simp[results,Tryz.results46,go_sem,n0,n1]) rfl ⟨qx (by rw[HF.out];rfl) (by rw[HF.out];rfl) (by rw[HF.out];rfl),nB⟩
    cases bas
    case true=>
     have HF:Hid (R=none):=by show _=_;rw[HFE.out];rfl
     obtain⟨r0,r1,f0,f1⟩:=zr bR6
     go_wp2_with fail
     obtain⟨n0,n1,nB⟩:=aaz bR6 hB6 (by omega) (0) (⟨#[]⟩)
     exact bodyPost_ret (v:=.tuple #[.agg #[.int .i64 0,.string {data:=#[]}],.bool false]) (by simp[results,Tryz.results46,go_sem,n0,n1]) rfl ⟨qx (by rw[HF.out];rfl) (by rw[HF.out];rfl) (by rw[HF.out];rfl),nB⟩
    case false=>
     have HF:Hid (R=some (8,at_)):=by show _=_;rw[HFE.out];rfl
     go_wp2_with fail
     refine(ael 8 at_ _).mono ?_
     rintro e wz ⟨rfl,hbz⟩
     have hBz:=hB6.trans (hbz.mono (by omega))
     have bRz:=bR6.step hbz
     have hsz:=hbz.size
     obtain⟨r0,r1,f0,f1⟩:=zr bRz
     go_wp2_with fail
     obtain⟨n0,n1,nB⟩:=aaz bRz hBz (by omega) (8) (at_)
     exact bodyPost_ret (v:=.tuple #[.agg #[.int .i64 8,.string at_],.bool true]) (by simp[results,Tryz.results46,go_sem,n0,n1]) rfl ⟨qx (by rw[HF.out];rfl) (by rw[HF.out];rfl) (by rw[HF.out];rfl),nB⟩
end Go.Proofs.YtbafphecjijdmaaGreatDoor
