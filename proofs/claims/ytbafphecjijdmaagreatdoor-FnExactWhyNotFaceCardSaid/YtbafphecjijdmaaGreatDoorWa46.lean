/-
  WhyNotFunc of both packages (by program: gen_why.py).
  WhyNotFace of both packages (by program: gen_fcy.py) (by program: gen_why.py).
-/
import Derived.Test.YtbafphecjijdmaaGreatDoorWa37
import Derived.Test.YtbafphecjijdmaaGreatDoorWa43
import Derived.Test.YtbafphecjijdmaaGreatDoorWa27
import Derived.Deep.RegionHeld3
import Derived.Test.YtbafphecjijdmaaGreatDoorWa38
import Derived.Test.YtbafphecjijdmaaGreatDoorWa44
import Derived.Test.YtbafphecjijdmaaGreatDoorWa45
namespace Go.Proofs.YtbafphecjijdmaaGreatDoor
open Go.RowKit
set_option linter.unusedVariables false
set_option linter.unusedSimpArgs false
set_option linter.unnecessarySimpa false
set_option maxRecDepth 16000
def a0q (R:Why):Reason:=⟨a1p R,a1q R⟩
theorem bgm {R:Why} {w w':World} {e:Ending} (h:WQ R w e w'):∃ us,e=.returned (.tuple #[.agg us.toArray,.bool (as2 R)])∧LvC w' w.heap.size w'.heap.size (Reason.pd (a0q R)) us∧Below w.heap.size w w':=
 ⟨[.int .i64 (a1p R),.string (a1q R)],h.1,((LvC.nil w' _ _ (Nat.le_refl _)).lit _).lit _,h.2⟩
theorem a3p {α:Type} {f:α→List PD}:∀ {ts:List α} {t:α},t ∈ ts→PD.szL (f t)≤PD.szL (ts.flatMap f)
 | [],t,h=>absurd h (by simp)
 | x ::ts,t,h=>by
  rw[List.flatMap_cons,aib]
  rcases List.mem_cons.1 h with rfl|h
  ·omega
  ·have:=a3p (f:=f) h;omega
theorem awc {f:jh} (h:PD.szL (jh.pd f)≤1048576):f.params.length≤1048576∧(∀ p ∈ f.params,p.typ.parts≤4194304)∧f.result.parts≤4194304:=by
 obtain⟨params,⟨bg,cu,jv,mg⟩,async⟩:=f
 have hp:=avq ⟨bg,cu,jv,mg⟩
 rw[jh.ay] at h
 rw[Ty.ay] at hp
 simp only[PD.szL] at h hp
 rw[aic Param.jw (by decide)] at h
 refine⟨by simp only;omega,fun p hpm=>?_,by simp only;omega⟩
 have h1:=a3p (f:=Param.pd) hpm
 obtain⟨name,⟨a,b,c,d⟩⟩:=p
 have h2:=avq ⟨a,b,c,d⟩
 rw[Param.ay] at h1
 rw[Ty.ay] at h2
 simp only[PD.szL] at h1 h2
 simp only
 omega
theorem bl6 {f:jh} (h:PD.szL (jh.pd f)≤1048576):SzF f:=⟨(awc h).1,(awc h).2.1,(awc h).2.2⟩
theorem ar8 {f:qg} (h:PD.szL (qg.pd f)≤1048576):(∀ x ∈ f.funcs,SzF x.typ)∧f.version.size≤1048576:=⟨fun x hx=>bl6 ((ake h).2 x hx),(ake h).1⟩
theorem bem (b:qg):a8b ⟨#[]⟩ b.package b.name=av2 b:=by
 apply ByteArray.ext
 simp[a8b,av2]
def ahp (a b:qg):Why:=if agc a && agc b then aki a b (av2 b) true else none
set_option maxHeartbeats 6400000 in
theorem atw (a b:qg) (hwa:PD.wfL (qg.pd a)) (hza:PD.szL (qg.pd a)≤1048576) (hwb:PD.wfL (qg.pd b)) (hzb:PD.szL (qg.pd b)≤1048576) (B:Nat) (cs ds:List Value) (w:World) (hB:B≤w.heap.size) (hT:ali w) (h:jy w B (qg.pd a) cs) (k:jy w B (qg.pd b) ds):
  Calls Tryz.prog 12 #[.agg cs.toArray,.agg ds.toArray] w fun e w'=>WQ (ahp a b) w e w':=by
 have HKa:=Lib.hid (fun(V:World) (hV:Below w.heap.size w V) us (q:jy V B (qg.pd a) us)=>avh a (w:=V) (Nat.le_trans hB hV.size) hwa q)
 have HKb:=Lib.hid (fun(V:World) (hV:Below w.heap.size w V) us (q:jy V B (qg.pd b) us)=>avh b (w:=V) (Nat.le_trans hB hV.size) hwb q)
 have HCW:=Lib.hid (fun(ha:agc a=true) (hb:agc b=true) (V:World) (hV:Below w.heap.size w V) us vs (p:jy V B (qg.pd a) us) (q:jy V B (qg.pd b) vs)=>a9a a b ha hb hwa hwb hza hzb (w:=V) (Nat.le_trans hB hV.size) (hT.1.below hV) p q)
 clear hT hwa hza hwb hzb
 obtain⟨R,hR⟩:∃ R:Why,R=ahp a b:=⟨_,rfl⟩
 rw[← hR]
 rw[ahp] at hR
 have HR:=Lib.hid hR
 clear hR
 obtain⟨va,hva⟩:∃ v:Bool,agc a=v:=⟨_,rfl⟩
 obtain⟨vb,hvb⟩:∃ v:Bool,agc b=v:=⟨_,rfl⟩
 rw[hva,hvb] at HR HCW
 rw[hva] at HKa
 rw[hvb] at HKb
 obtain⟨R2,hR2⟩:∃ r,aki a b (av2 b) true=r:=⟨_,rfl⟩
 rw[hR2] at HR HCW
 obtain⟨RK,RS,RN,HRK,HRS,HRN⟩:=agn R2
 unfold WQ at HCW
 rw[HRK.out,HRS.out,HRN.out] at HCW
 clear hva hvb hR2
 obtain⟨hpk,hnm,ahb,hres,hfs⟩:=a
 obtain⟨wpk,wnm,ah8,alh,wfs⟩:=b
 obtain⟨a9b,bd3,rfl,ah1,aj2⟩:=qg.open_ h
 obtain⟨aip,aiq,air,rfl⟩:=ah1.form
 obtain⟨al3,al4,al5,rfl⟩:=aj2.form
 have am1:=Lib.hid ah1
 have ar7:=Lib.hid aj2
 clear ah1 aj2
 obtain⟨a9c,bd4,rfl,ah2,aj3⟩:=qg.open_ k
 obtain⟨akj,agd,aj6,rfl⟩:=ah2.form
 obtain⟨am2,af2,ah3,rfl⟩:=aj3.form
 have att:=Lib.hid ah2
 have axr:=Lib.hid aj3
 clear ah2 aj3
 have HPa:=Lib.hid (fun(V:World) (hV:Below w.heap.size w V)=>qg.close_ (package:=hpk) (name:=hnm) (version:=ahb) (am1.out.below (hV.mono hB)) (ar7.out.below (hV.mono hB)))
 have HPb:=Lib.hid (fun(V:World) (hV:Below w.heap.size w V)=>qg.close_ (package:=wpk) (name:=wnm) (version:=ah8) (att.out.below (hV.mono hB)) (axr.out.below (hV.mono hB)))
 clear h k
 obtain⟨w0,hw0,bA,bC,bR,hB0,hs0⟩:=aeu w 30 #[.string hpk,.string hnm,.string ahb,.slice aip aiq air,.slice al3 al4 al5] #[.string wpk,.string wnm,.string ah8,.slice akj agd aj6,.slice am2 af2 ah3]
 have HW0:=Lib.hid hw0
 clear hw0
 go_enter Tryz.func12,Tryz.ntmps12
 go_wp2_with fail
 rw[← HW0.out]
 clear HW0
 refine(HKa.out w0 hB0 _ (HPa.out w0 hB0)).mono ?_
 rintro e w1 ⟨rfl,hb1⟩
 have hB1:=hB0.trans (hb1.mono hB0.size)
 have hs1:=hb1.size
 have bA1:=bA.step hb1
 have bC1:=bC.step hb1
 have bR1:=bR.step hb1
 cases va
 case false=>
  have HF:Hid (R=none):=by show _=_;rw[HR.out];rfl
  obtain⟨r0,r1,f0,f1⟩:=zr bR1
  go_wp2_with fail
  obtain⟨n0,n1,nB⟩:=aaz bR1 hB1 (by omega) (0) (⟨#[]⟩)
  exact bodyPost_ret (v:=.tuple #[.agg #[.int .i64 0,.string {data:=#[]}],.bool false]) (by simp[results,Tryz.results12,go_sem,n0,n1]) rfl ⟨qx (by rw[HF.out];rfl) (by rw[HF.out];rfl) (by rw[HF.out];rfl),nB⟩
 have pa0:w1.cell? ⟨w.heap.size,0,none⟩=some (.string hpk):=bA1.cell 0
 have pa1:w1.cell? ⟨w.heap.size,1,none⟩=some (.string hnm):=bA1.cell 1
 have pa2:w1.cell? ⟨w.heap.size,2,none⟩=some (.string ahb):=bA1.cell 2
 have pa3:w1.cell? ⟨w.heap.size,3,none⟩=some (.slice aip aiq air):=bA1.cell 3
 have pa4:w1.cell? ⟨w.heap.size,4,none⟩=some (.slice al3 al4 al5):=bA1.cell 4
 have pb0:w1.cell? ⟨w.heap.size+1,0,none⟩=some (.string wpk):=bC1.cell 0
 have pb1:w1.cell? ⟨w.heap.size+1,1,none⟩=some (.string wnm):=bC1.cell 1
 have pb2:w1.cell? ⟨w.heap.size+1,2,none⟩=some (.string ah8):=bC1.cell 2
 have pb3:w1.cell? ⟨w.heap.size+1,3,none⟩=some (.slice akj agd aj6):=bC1.cell 3
 have pb4:w1.cell? ⟨w.heap.size+1,4,none⟩=some (.slice am2 af2 ah3):=bC1.cell 4
 go_wp2_with fail
 refine(HKb.out w1 hB1 _ (HPb.out w1 hB1)).mono ?_
 rintro e w2 ⟨rfl,hb2⟩
 have hB2:=hB1.trans (hb2.mono hB1.size)
 have hs2:=hb2.size
 have bA2:=bA1.step hb2
 have bC2:=bC1.step hb2
 have bR2:=bR1.step hb2
 clear pa0 pa1 pa2 pa3 pa4 pb0 pb1 pb2 pb3 pb4
 cases vb
 case false=>
  have HF:Hid (R=none):=by show _=_;rw[HR.out];rfl
  obtain⟨r0,r1,f0,f1⟩:=zr bR2
  go_wp2_with fail
  obtain⟨n0,n1,nB⟩:=aaz bR2 hB2 (by omega) (0) (⟨#[]⟩)
  exact bodyPost_ret (v:=.tuple #[.agg #[.int .i64 0,.string {data:=#[]}],.bool false]) (by simp[results,Tryz.results12,go_sem,n0,n1]) rfl ⟨qx (by rw[HF.out];rfl) (by rw[HF.out];rfl) (by rw[HF.out];rfl),nB⟩
 have qa0:w2.cell? ⟨w.heap.size,0,none⟩=some (.string hpk):=bA2.cell 0
 have qa1:w2.cell? ⟨w.heap.size,1,none⟩=some (.string hnm):=bA2.cell 1
 have qa2:w2.cell? ⟨w.heap.size,2,none⟩=some (.string ahb):=bA2.cell 2
 have qa3:w2.cell? ⟨w.heap.size,3,none⟩=some (.slice aip aiq air):=bA2.cell 3
 have qa4:w2.cell? ⟨w.heap.size,4,none⟩=some (.slice al3 al4 al5):=bA2.cell 4
 have qb0:w2.cell? ⟨w.heap.size+1,0,none⟩=some (.string wpk):=bC2.cell 0
 have qb1:w2.cell? ⟨w.heap.size+1,1,none⟩=some (.string wnm):=bC2.cell 1
 have qb2:w2.cell? ⟨w.heap.size+1,2,none⟩=some (.string ah8):=bC2.cell 2
 have qb3:w2.cell? ⟨w.heap.size+1,3,none⟩=some (.slice akj agd aj6):=bC2.cell 3
 have qb4:w2.cell? ⟨w.heap.size+1,4,none⟩=some (.slice am2 af2 ah3):=bC2.cell 4
 have HC:=Lib.hid (HCW.out (by first|rfl|trivial) (by first|rfl|trivial) w2 hB2 _ _ (HPa.out w2 hB2) (HPb.out w2 hB2))
 go_wp2_with fail
 refine HC.out.mono ?_
 rintro e wq ⟨rfl,hbq⟩
 have hBq:=hB2.trans (hbq.mono hB2.size)
 have HF:Hid (R=R2):=by show _=_;rw[HR.out];rfl
 have bRq:=bR2.step hbq
 have hsq:=hbq.size
 obtain⟨r0,r1,f0,f1⟩:=zr bRq
 go_wp2_with fail
 obtain⟨n0,n1,nB⟩:=aaz bRq hBq (by omega) (RK) (RS)
 exact bodyPost_ret (v:=.tuple #[.agg #[.int .i64 RK,.string RS],.bool RN]) (by simp[results,Tryz.results12,go_sem,n0,n1]) rfl ⟨qx (by rw[HF.out,HRK.out]) (by rw[HF.out,HRS.out]) (by rw[HF.out,HRN.out]),nB⟩
theorem au2 (a b:qg) (hwa:PD.wfL (qg.pd a)) (hza:PD.szL (qg.pd a)≤1048576) (hwb:PD.wfL (qg.pd b)) (hzb:PD.szL (qg.pd b)≤1048576):∀ (B:Nat) (cs ds:List Value) (w:World),B≤w.heap.size→ali w→jy w B (qg.pd a) cs→jy w B (qg.pd b) ds→
  Calls Tryz.prog 12 #[.agg cs.toArray,.agg ds.toArray] w fun e w'=>∃ us,e=.returned (.tuple #[.agg us.toArray,.bool (as2 (ahp a b))])∧LvC w' w.heap.size w'.heap.size (Reason.pd (a0q (ahp a b))) us∧Below w.heap.size w w':=fun B cs ds w hB hT h k=>(atw a b hwa hza hwb hzb B cs ds w hB hT h k).mono fun _ _ he=>bgm he
set_option maxHeartbeats 6400000 in
theorem atx (a b:qg) (hwa:PD.wfL (qg.pd a)) (hza:PD.szL (qg.pd a)≤1048576) (hwb:PD.wfL (qg.pd b)) (hzb:PD.szL (qg.pd b)≤1048576) (B:Nat) (cs ds:List Value) (w:World) (hB:B≤w.heap.size) (hT:ali w) (h:jy w B (qg.pd a) cs) (k:jy w B (qg.pd b) ds):
  Calls Tryz.prog 13 #[.agg cs.toArray,.agg ds.toArray] w fun e w'=>WQ (ahp a b) w e w':=by
 have HKa:=Lib.hid (fun(V:World) (hV:Below w.heap.size w V) us (q:jy V B (qg.pd a) us)=>avm a (ar8 hza).1 (ar8 hza).2 (w:=V) (Nat.le_trans hB hV.size) (hT.below hV) hwa q)
 have HKb:=Lib.hid (fun(V:World) (hV:Below w.heap.size w V) us (q:jy V B (qg.pd b) us)=>avm b (ar8 hzb).1 (ar8 hzb).2 (w:=V) (Nat.le_trans hB hV.size) (hT.below hV) hwb q)
 have HCW:=Lib.hid (fun(ha:agc a=true) (hb:agc b=true) (V:World) (hV:Below w.heap.size w V) us vs (p:jy V B (qg.pd a) us) (q:jy V B (qg.pd b) vs)=>a9l a b ha hb hwa hwb hza hzb ⟨#[]⟩ (by decide) (w:=V) (Nat.le_trans hB hV.size) (hT.below hV) p q)
 rw[bem] at HCW
 clear hT hwa hza hwb hzb
 obtain⟨R,hR⟩:∃ R:Why,R=ahp a b:=⟨_,rfl⟩
 rw[← hR]
 rw[ahp] at hR
 have HR:=Lib.hid hR
 clear hR
 obtain⟨va,hva⟩:∃ v:Bool,agc a=v:=⟨_,rfl⟩
 obtain⟨vb,hvb⟩:∃ v:Bool,agc b=v:=⟨_,rfl⟩
 rw[hva,hvb] at HR HCW
 rw[hva] at HKa
 rw[hvb] at HKb
 obtain⟨R2,hR2⟩:∃ r,aki a b (av2 b) true=r:=⟨_,rfl⟩
 rw[hR2] at HR HCW
 obtain⟨RK,RS,RN,HRK,HRS,HRN⟩:=agn R2
 unfold WQ at HCW
 rw[HRK.out,HRS.out,HRN.out] at HCW
 clear hva hvb hR2
 obtain⟨hpk,hnm,ahb,hres,hfs⟩:=a
 obtain⟨wpk,wnm,ah8,alh,wfs⟩:=b
 obtain⟨a9b,bd3,rfl,ah1,aj2⟩:=qg.open_ h
 obtain⟨aip,aiq,air,rfl⟩:=ah1.form
 obtain⟨al3,al4,al5,rfl⟩:=aj2.form
 have am1:=Lib.hid ah1
 have ar7:=Lib.hid aj2
 clear ah1 aj2
 obtain⟨a9c,bd4,rfl,ah2,aj3⟩:=qg.open_ k
 obtain⟨akj,agd,aj6,rfl⟩:=ah2.form
 obtain⟨am2,af2,ah3,rfl⟩:=aj3.form
 have att:=Lib.hid ah2
 have axr:=Lib.hid aj3
 clear ah2 aj3
 have HPa:=Lib.hid (fun(V:World) (hV:Below w.heap.size w V)=>qg.close_ (package:=hpk) (name:=hnm) (version:=ahb) (am1.out.below (hV.mono hB)) (ar7.out.below (hV.mono hB)))
 have HPb:=Lib.hid (fun(V:World) (hV:Below w.heap.size w V)=>qg.close_ (package:=wpk) (name:=wnm) (version:=ah8) (att.out.below (hV.mono hB)) (axr.out.below (hV.mono hB)))
 clear h k
 obtain⟨w0,hw0,bA,bC,bR,hB0,hs0⟩:=aeu w 30 #[.string hpk,.string hnm,.string ahb,.slice aip aiq air,.slice al3 al4 al5] #[.string wpk,.string wnm,.string ah8,.slice akj agd aj6,.slice am2 af2 ah3]
 have HW0:=Lib.hid hw0
 clear hw0
 go_enter Tryz.func13,Tryz.ntmps13
 go_wp2_with fail
 rw[← HW0.out]
 clear HW0
 refine(HKa.out w0 hB0 _ (HPa.out w0 hB0)).mono ?_
 rintro e w1 ⟨rfl,hb1⟩
 have hB1:=hB0.trans (hb1.mono hB0.size)
 have hs1:=hb1.size
 have bA1:=bA.step hb1
 have bC1:=bC.step hb1
 have bR1:=bR.step hb1
 cases va
 case false=>
  have HF:Hid (R=none):=by show _=_;rw[HR.out];rfl
  go_wp2_with fail
  refine(afw _).mono ?_
  rintro e wz ⟨rfl,hbz⟩
  have hBz:=hB1.trans (hbz.mono (by omega))
  have bRz:=bR1.step hbz
  have hsz:=hbz.size
  obtain⟨r0,r1,f0,f1⟩:=zr bRz
  go_wp2_with fail
  obtain⟨n0,n1,nB⟩:=aaz bRz hBz (by omega) (0) (⟨#[]⟩)
  exact bodyPost_ret (v:=.tuple #[.agg #[.int .i64 0,.string {data:=#[]}],.bool false]) (by simp[results,Tryz.results13,go_sem,n0,n1]) rfl ⟨qx (by rw[HF.out];rfl) (by rw[HF.out];rfl) (by rw[HF.out];rfl),nB⟩
 have pa0:w1.cell? ⟨w.heap.size,0,none⟩=some (.string hpk):=bA1.cell 0
 have pa1:w1.cell? ⟨w.heap.size,1,none⟩=some (.string hnm):=bA1.cell 1
 have pa2:w1.cell? ⟨w.heap.size,2,none⟩=some (.string ahb):=bA1.cell 2
 have pa3:w1.cell? ⟨w.heap.size,3,none⟩=some (.slice aip aiq air):=bA1.cell 3
 have pa4:w1.cell? ⟨w.heap.size,4,none⟩=some (.slice al3 al4 al5):=bA1.cell 4
 have pb0:w1.cell? ⟨w.heap.size+1,0,none⟩=some (.string wpk):=bC1.cell 0
 have pb1:w1.cell? ⟨w.heap.size+1,1,none⟩=some (.string wnm):=bC1.cell 1
 have pb2:w1.cell? ⟨w.heap.size+1,2,none⟩=some (.string ah8):=bC1.cell 2
 have pb3:w1.cell? ⟨w.heap.size+1,3,none⟩=some (.slice akj agd aj6):=bC1.cell 3
 have pb4:w1.cell? ⟨w.heap.size+1,4,none⟩=some (.slice am2 af2 ah3):=bC1.cell 4
 go_wp2_with fail
 refine(HKb.out w1 hB1 _ (HPb.out w1 hB1)).mono ?_
 rintro e w2 ⟨rfl,hb2⟩
 have hB2:=hB1.trans (hb2.mono hB1.size)
 have hs2:=hb2.size
 have bA2:=bA1.step hb2
 have bC2:=bC1.step hb2
 have bR2:=bR1.step hb2
 clear pa0 pa1 pa2 pa3 pa4 pb0 pb1 pb2 pb3 pb4
 cases vb
 case false=>
  have HF:Hid (R=none):=by show _=_;rw[HR.out];rfl
  go_wp2_with fail
  refine(afw _).mono ?_
  rintro e wz ⟨rfl,hbz⟩
  have hBz:=hB2.trans (hbz.mono (by omega))
  have bRz:=bR2.step hbz
  have hsz:=hbz.size
  obtain⟨r0,r1,f0,f1⟩:=zr bRz
  go_wp2_with fail
  obtain⟨n0,n1,nB⟩:=aaz bRz hBz (by omega) (0) (⟨#[]⟩)
  exact bodyPost_ret (v:=.tuple #[.agg #[.int .i64 0,.string {data:=#[]}],.bool false]) (by simp[results,Tryz.results13,go_sem,n0,n1]) rfl ⟨qx (by rw[HF.out];rfl) (by rw[HF.out];rfl) (by rw[HF.out];rfl),nB⟩
 have qa0:w2.cell? ⟨w.heap.size,0,none⟩=some (.string hpk):=bA2.cell 0
 have qa1:w2.cell? ⟨w.heap.size,1,none⟩=some (.string hnm):=bA2.cell 1
 have qa2:w2.cell? ⟨w.heap.size,2,none⟩=some (.string ahb):=bA2.cell 2
 have qa3:w2.cell? ⟨w.heap.size,3,none⟩=some (.slice aip aiq air):=bA2.cell 3
 have qa4:w2.cell? ⟨w.heap.size,4,none⟩=some (.slice al3 al4 al5):=bA2.cell 4
 have qb0:w2.cell? ⟨w.heap.size+1,0,none⟩=some (.string wpk):=bC2.cell 0
 have qb1:w2.cell? ⟨w.heap.size+1,1,none⟩=some (.string wnm):=bC2.cell 1
 have qb2:w2.cell? ⟨w.heap.size+1,2,none⟩=some (.string ah8):=bC2.cell 2
 have qb3:w2.cell? ⟨w.heap.size+1,3,none⟩=some (.slice akj agd aj6):=bC2.cell 3
 have qb4:w2.cell? ⟨w.heap.size+1,4,none⟩=some (.slice am2 af2 ah3):=bC2.cell 4
 have HC:=Lib.hid (HCW.out (by first|rfl|trivial) (by first|rfl|trivial) w2 hB2 _ _ (HPa.out w2 hB2) (HPb.out w2 hB2))
 go_wp2_with fail
 refine HC.out.mono ?_
 rintro e wq ⟨rfl,hbq⟩
 have hBq:=hB2.trans (hbq.mono hB2.size)
 have HF:Hid (R=R2):=by show _=_;rw[HR.out];rfl
 have bRq:=bR2.step hbq
 have hsq:=hbq.size
 obtain⟨r0,r1,f0,f1⟩:=zr bRq
 go_wp2_with fail
 obtain⟨n0,n1,nB⟩:=aaz bRq hBq (by omega) (RK) (RS)
 exact bodyPost_ret (v:=.tuple #[.agg #[.int .i64 RK,.string RS],.bool RN]) (by simp[results,Tryz.results13,go_sem,n0,n1]) rfl ⟨qx (by rw[HF.out,HRK.out]) (by rw[HF.out,HRS.out]) (by rw[HF.out,HRN.out]),nB⟩
theorem au3 (a b:qg) (hwa:PD.wfL (qg.pd a)) (hza:PD.szL (qg.pd a)≤1048576) (hwb:PD.wfL (qg.pd b)) (hzb:PD.szL (qg.pd b)≤1048576):∀ (B:Nat) (cs ds:List Value) (w:World),B≤w.heap.size→ali w→jy w B (qg.pd a) cs→jy w B (qg.pd b) ds→
  Calls Tryz.prog 13 #[.agg cs.toArray,.agg ds.toArray] w fun e w'=>∃ us,e=.returned (.tuple #[.agg us.toArray,.bool (as2 (ahp a b))])∧LvC w' w.heap.size w'.heap.size (Reason.pd (a0q (ahp a b))) us∧Below w.heap.size w w':=fun B cs ds w hB hT h k=>(atx a b hwa hza hwb hzb B cs ds w hB hT h k).mono fun _ _ he=>bgm he
end Go.Proofs.YtbafphecjijdmaaGreatDoor
