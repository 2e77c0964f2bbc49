/-
  WhyNotFunc of both packages (by program: gen_why.py).
  FaceServes of both packages (by program: gen_fcy.py) (by program: gen_why.py).
-/
import Derived.Test.YtbafphecjijdmaaGreatDoorFa37
import Derived.Test.YtbafphecjijdmaaGreatDoorFa43
import Derived.Test.YtbafphecjijdmaaGreatDoorFa27
import Derived.Deep.RegionHeld3
import Derived.Test.YtbafphecjijdmaaGreatDoorFa38
import Derived.Test.YtbafphecjijdmaaGreatDoorFa44
import Derived.Test.YtbafphecjijdmaaGreatDoorFa45
namespace Go.Proofs.YtbafphecjijdmaaGreatDoor
open Go.RowKit
set_option linter.unusedVariables false
set_option linter.unusedSimpArgs false
set_option linter.unnecessarySimpa false
set_option maxRecDepth 16000
theorem a19 {α:Type} {f:α→List PD}:∀ {ts:List α} {t:α},t ∈ ts→PD.szL (f t)≤PD.szL (ts.flatMap f)
 | [],t,h=>absurd h (by simp)
 | x ::ts,t,h=>by
  rw[List.flatMap_cons,ah9]
  rcases List.mem_cons.1 h with rfl|h
  ·omega
  ·have:=a19 (f:=f) h;omega
theorem avx {f:jh} (h:PD.szL (jh.pd f)≤1048576):f.params.length≤1048576∧(∀ p ∈ f.params,p.typ.parts≤4194304)∧f.result.parts≤4194304:=by
 obtain⟨params,⟨bg,cu,jv,mg⟩,async⟩:=f
 have hp:=avh ⟨bg,cu,jv,mg⟩
 rw[jh.ay] at h
 rw[Ty.ay] at hp
 simp only[PD.szL] at h hp
 rw[aia Param.jw (by decide)] at h
 refine⟨by simp only;omega,fun p hpm=>?_,by simp only;omega⟩
 have h1:=a19 (f:=Param.pd) hpm
 obtain⟨name,⟨a,b,c,d⟩⟩:=p
 have h2:=avh ⟨a,b,c,d⟩
 rw[Param.ay] at h1
 rw[Ty.ay] at h2
 simp only[PD.szL] at h1 h2
 simp only
 omega
theorem szF_of {f:jh} (h:PD.szL (jh.pd f)≤1048576):SzF f:=⟨(avx h).1,(avx h).2.1,(avx h).2.2⟩
theorem arw {f:qg} (h:PD.szL (qg.pd f)≤1048576):(∀ x ∈ f.funcs,SzF x.typ)∧f.version.size≤1048576:=⟨fun x hx=>szF_of ((akd h).2 x hx),(akd h).1⟩
theorem a9r (b:qg):facL ⟨#[]⟩ b.package b.name=fcAt b:=by
 apply ByteArray.ext
 simp[facL,fcAt]
def ala (a b:qg):Bool:=af8 a && (af8 b && !whyB (alk a b (fcAt b) false))
set_option maxHeartbeats 6400000 in
theorem atf (a b:qg) (hwa:PD.wfL (qg.pd a)) (hza:PD.szL (qg.pd a)≤1048576) (hwb:PD.wfL (qg.pd b)) (hzb:PD.szL (qg.pd b)≤1048576) (B:Nat) (cs ds:List Value) (w:World) (hB:B≤w.heap.size) (hT:al2 w) (h:ku w B (qg.pd a) cs) (k:ku w B (qg.pd b) ds):
  Calls Tryz.prog 8 #[.agg cs.toArray,.agg ds.toArray] w fun e w'=>e=.returned (.bool (ala a b))∧Below w.heap.size w w':=by
 have HKa:=Lib.hid (fun(V:World) (hV:Below w.heap.size w V) us (q:ku V B (qg.pd a) us)=>au8 a (w:=V) (Nat.le_trans hB hV.size) hwa q)
 have HKb:=Lib.hid (fun(V:World) (hV:Below w.heap.size w V) us (q:ku V B (qg.pd b) us)=>au8 b (w:=V) (Nat.le_trans hB hV.size) hwb q)
 have HCW:=Lib.hid (fun(ha:af8 a=true) (hb:af8 b=true) (V:World) (hV:Below w.heap.size w V) us vs (p:ku V B (qg.pd a) us) (q:ku V B (qg.pd b) vs)=>a5y a b ha hb hwa hwb hza hzb (w:=V) (Nat.le_trans hB hV.size) (hT.1.below hV) p q)
 clear hT hwa hza hwb hzb
 obtain⟨R,hR⟩:∃ R:Bool,R=ala a b:=⟨_,rfl⟩
 rw[← hR]
 rw[ala] at hR
 have HR:=Lib.hid hR
 clear hR
 obtain⟨va,hva⟩:∃ v:Bool,af8 a=v:=⟨_,rfl⟩
 obtain⟨vb,hvb⟩:∃ v:Bool,af8 b=v:=⟨_,rfl⟩
 rw[hva,hvb] at HR HCW
 rw[hva] at HKa
 rw[hvb] at HKb
 obtain⟨R2,hR2⟩:∃ r,alk a b (fcAt b) false=r:=⟨_,rfl⟩
 rw[hR2] at HR HCW
 obtain⟨RK,RS,RN,HRK,HRS,HRN⟩:=agi R2
 unfold WQ at HCW
 rw[HRK.out,HRS.out,HRN.out] at HCW
 clear hva hvb hR2
 obtain⟨hpk,hnm,ag7,hres,hfs⟩:=a
 obtain⟨wpk,wnm,ah6,alf,wfs⟩:=b
 obtain⟨hresV,hfsV,rfl,ah0,ajz⟩:=qg.open_ h
 obtain⟨ahb,ahc,ahd,rfl⟩:=ah0.form
 obtain⟨aj0,aj1,aj2,rfl⟩:=ajz.form
 have amw:=Lib.hid ah0
 have arv:=Lib.hid ajz
 clear ah0 ajz
 obtain⟨wresV,wfsV,rfl,ah1,aj3⟩:=qg.open_ k
 obtain⟨ai2,afw,ail,rfl⟩:=ah1.form
 obtain⟨akh,ae9,ag8,rfl⟩:=aj3.form
 have atd:=Lib.hid ah1
 have axe:=Lib.hid aj3
 clear ah1 aj3
 have HPa:=Lib.hid (fun(V:World) (hV:Below w.heap.size w V)=>qg.close_ (package:=hpk) (name:=hnm) (version:=ag7) (amw.out.below (hV.mono hB)) (arv.out.below (hV.mono hB)))
 have HPb:=Lib.hid (fun(V:World) (hV:Below w.heap.size w V)=>qg.close_ (package:=wpk) (name:=wnm) (version:=ah6) (atd.out.below (hV.mono hB)) (axe.out.below (hV.mono hB)))
 clear h k
 obtain⟨w0,hw0⟩:∃ V,V=(w.alloc (.cells #[.string hpk,.string hnm,.string ag7,.slice ahb ahc ahd,.slice aj0 aj1 aj2] 30)).alloc (.cells #[.string wpk,.string wnm,.string ah6,.slice ai2 afw ail,.slice akh ae9 ag8] 30):=⟨_,rfl⟩
 have bA:Blk w0 w.heap.size 30 #[.string hpk,.string hnm,.string ag7,.slice ahb ahc ahd,.slice aj0 aj1 aj2]:=by rw[hw0];exact(Blk.new w _ _).alloc _
 have bC:Blk w0 (w.heap.size+1) 30 #[.string wpk,.string wnm,.string ah6,.slice ai2 afw ail,.slice akh ae9 ag8]:=by rw[hw0];have:=Blk.new (w.alloc (.cells #[.string hpk,.string hnm,.string ag7,.slice ahb ahc ahd,.slice aj0 aj1 aj2] 30)) 30 #[.string wpk,.string wnm,.string ah6,.slice ai2 afw ail,.slice akh ae9 ag8];simpa using this
 have hB0:Below w.heap.size w w0:=by rw[hw0];exact((Below.refl _ _).alloc (Nat.le_refl _) _).alloc (by simp) _
 have HW0:=Lib.hid hw0
 clear hw0
 go_enter Tryz.func8,Tryz.ntmps8
 go_wp2_with fail
 rw[← HW0.out]
 clear HW0
 refine(HKa.out w0 hB0 _ (HPa.out w0 hB0)).mono ?_
 rintro e w1 ⟨rfl,hb1⟩
 have hB1:=hB0.trans (hb1.mono hB0.size)
 have hs1:=hb1.size
 have bA1:=bA.step hb1
 have bC1:=bC.step hb1
 cases va
 case false=>
  have HF:Hid (R=false):=by show _=_;rw[HR.out];rfl
  go_wp2_with fail
  go_ret
  exact⟨ah HF.out.symm,hB1⟩
 have pa0:w1.cell? ⟨w.heap.size,0,none⟩=some (.string hpk):=bA1.cell 0
 have pa1:w1.cell? ⟨w.heap.size,1,none⟩=some (.string hnm):=bA1.cell 1
 have pa2:w1.cell? ⟨w.heap.size,2,none⟩=some (.string ag7):=bA1.cell 2
 have pa3:w1.cell? ⟨w.heap.size,3,none⟩=some (.slice ahb ahc ahd):=bA1.cell 3
 have pa4:w1.cell? ⟨w.heap.size,4,none⟩=some (.slice aj0 aj1 aj2):=bA1.cell 4
 have pb0:w1.cell? ⟨w.heap.size+1,0,none⟩=some (.string wpk):=bC1.cell 0
 have pb1:w1.cell? ⟨w.heap.size+1,1,none⟩=some (.string wnm):=bC1.cell 1
 have pb2:w1.cell? ⟨w.heap.size+1,2,none⟩=some (.string ah6):=bC1.cell 2
 have pb3:w1.cell? ⟨w.heap.size+1,3,none⟩=some (.slice ai2 afw ail):=bC1.cell 3
 have pb4:w1.cell? ⟨w.heap.size+1,4,none⟩=some (.slice akh ae9 ag8):=bC1.cell 4
 go_wp2_with fail
 refine(HKb.out w1 hB1 _ (HPb.out w1 hB1)).mono ?_
 rintro e w2 ⟨rfl,hb2⟩
 have hB2:=hB1.trans (hb2.mono hB1.size)
 have hs2:=hb2.size
 have bA2:=bA1.step hb2
 have bC2:=bC1.step hb2
 clear pa0 pa1 pa2 pa3 pa4 pb0 pb1 pb2 pb3 pb4
 cases vb
 case false=>
  have HF:Hid (R=false):=by show _=_;rw[HR.out];rfl
  go_wp2_with fail
  go_ret
  exact⟨ah HF.out.symm,hB2⟩
 have qa0:w2.cell? ⟨w.heap.size,0,none⟩=some (.string hpk):=bA2.cell 0
 have qa1:w2.cell? ⟨w.heap.size,1,none⟩=some (.string hnm):=bA2.cell 1
 have qa2:w2.cell? ⟨w.heap.size,2,none⟩=some (.string ag7):=bA2.cell 2
 have qa3:w2.cell? ⟨w.heap.size,3,none⟩=some (.slice ahb ahc ahd):=bA2.cell 3
 have qa4:w2.cell? ⟨w.heap.size,4,none⟩=some (.slice aj0 aj1 aj2):=bA2.cell 4
 have qb0:w2.cell? ⟨w.heap.size+1,0,none⟩=some (.string wpk):=bC2.cell 0
 have qb1:w2.cell? ⟨w.heap.size+1,1,none⟩=some (.string wnm):=bC2.cell 1
 have qb2:w2.cell? ⟨w.heap.size+1,2,none⟩=some (.string ah6):=bC2.cell 2
 have qb3:w2.cell? ⟨w.heap.size+1,3,none⟩=some (.slice ai2 afw ail):=bC2.cell 3
 have qb4:w2.cell? ⟨w.heap.size+1,4,none⟩=some (.slice akh ae9 ag8):=bC2.cell 4
 have HC:=Lib.hid (HCW.out (by first|rfl|trivial) (by first|rfl|trivial) w2 hB2 _ _ (HPa.out w2 hB2) (HPb.out w2 hB2))
 go_wp2_with fail
 refine HC.out.mono ?_
 rintro e wq ⟨rfl,hbq⟩
 have hBq:=hB2.trans (hbq.mono hB2.size)
 have HF:Hid (R=!RN):=by show _=_;rw[HR.out,HRN.out];rfl
 cases RN
 case false=>
  go_wp2_with fail
  go_ret
  exact⟨ah HF.out.symm,hBq.alloc hBq.size _⟩
 case true=>
  go_wp2_with fail
  go_ret
  exact⟨ah HF.out.symm,hBq.alloc hBq.size _⟩
theorem aus (a b:qg) (hwa:PD.wfL (qg.pd a)) (hza:PD.szL (qg.pd a)≤1048576) (hwb:PD.wfL (qg.pd b)) (hzb:PD.szL (qg.pd b)≤1048576):∀ (B:Nat) (cs ds:List Value) (w:World),B≤w.heap.size→al2 w→ku w B (qg.pd a) cs→ku w B (qg.pd b) ds→
  Calls Tryz.prog 8 #[.agg cs.toArray,.agg ds.toArray] w fun e w'=>e=.returned (.bool (ala a b))∧Below w.heap.size w w':=fun B cs ds w hB hT h k=>atf a b hwa hza hwb hzb B cs ds w hB hT h k
set_option maxHeartbeats 6400000 in
theorem atg (a b:qg) (hwa:PD.wfL (qg.pd a)) (hza:PD.szL (qg.pd a)≤1048576) (hwb:PD.wfL (qg.pd b)) (hzb:PD.szL (qg.pd b)≤1048576) (B:Nat) (cs ds:List Value) (w:World) (hB:B≤w.heap.size) (hT:al2 w) (h:ku w B (qg.pd a) cs) (k:ku w B (qg.pd b) ds):
  Calls Tryz.prog 10 #[.agg cs.toArray,.agg ds.toArray] w fun e w'=>e=.returned (.bool (ala a b))∧Below w.heap.size w w':=by
 have HKa:=Lib.hid (fun(V:World) (hV:Below w.heap.size w V) us (q:ku V B (qg.pd a) us)=>avd a (arw hza).1 (arw hza).2 (w:=V) (Nat.le_trans hB hV.size) (hT.below hV) hwa q)
 have HKb:=Lib.hid (fun(V:World) (hV:Below w.heap.size w V) us (q:ku V B (qg.pd b) us)=>avd b (arw hzb).1 (arw hzb).2 (w:=V) (Nat.le_trans hB hV.size) (hT.below hV) hwb q)
 have HCW:=Lib.hid (fun(ha:af8 a=true) (hb:af8 b=true) (V:World) (hV:Below w.heap.size w V) us vs (p:ku V B (qg.pd a) us) (q:ku V B (qg.pd b) vs)=>a6h a b ha hb hwa hwb hza hzb ⟨#[]⟩ (by decide) (w:=V) (Nat.le_trans hB hV.size) (hT.below hV) p q)
 rw[a9r] at HCW
 clear hT hwa hza hwb hzb
 obtain⟨R,hR⟩:∃ R:Bool,R=ala a b:=⟨_,rfl⟩
 rw[← hR]
 rw[ala] at hR
 have HR:=Lib.hid hR
 clear hR
 obtain⟨va,hva⟩:∃ v:Bool,af8 a=v:=⟨_,rfl⟩
 obtain⟨vb,hvb⟩:∃ v:Bool,af8 b=v:=⟨_,rfl⟩
 rw[hva,hvb] at HR HCW
 rw[hva] at HKa
 rw[hvb] at HKb
 obtain⟨R2,hR2⟩:∃ r,alk a b (fcAt b) false=r:=⟨_,rfl⟩
 rw[hR2] at HR HCW
 obtain⟨RK,RS,RN,HRK,HRS,HRN⟩:=agi R2
 unfold WQ at HCW
 rw[HRK.out,HRS.out,HRN.out] at HCW
 clear hva hvb hR2
 obtain⟨hpk,hnm,ag7,hres,hfs⟩:=a
 obtain⟨wpk,wnm,ah6,alf,wfs⟩:=b
 obtain⟨hresV,hfsV,rfl,ah0,ajz⟩:=qg.open_ h
 obtain⟨ahb,ahc,ahd,rfl⟩:=ah0.form
 obtain⟨aj0,aj1,aj2,rfl⟩:=ajz.form
 have amw:=Lib.hid ah0
 have arv:=Lib.hid ajz
 clear ah0 ajz
 obtain⟨wresV,wfsV,rfl,ah1,aj3⟩:=qg.open_ k
 obtain⟨ai2,afw,ail,rfl⟩:=ah1.form
 obtain⟨akh,ae9,ag8,rfl⟩:=aj3.form
 have atd:=Lib.hid ah1
 have axe:=Lib.hid aj3
 clear ah1 aj3
 have HPa:=Lib.hid (fun(V:World) (hV:Below w.heap.size w V)=>qg.close_ (package:=hpk) (name:=hnm) (version:=ag7) (amw.out.below (hV.mono hB)) (arv.out.below (hV.mono hB)))
 have HPb:=Lib.hid (fun(V:World) (hV:Below w.heap.size w V)=>qg.close_ (package:=wpk) (name:=wnm) (version:=ah6) (atd.out.below (hV.mono hB)) (axe.out.below (hV.mono hB)))
 clear h k
 obtain⟨w0,hw0⟩:∃ V,V=(w.alloc (.cells #[.string hpk,.string hnm,.string ag7,.slice ahb ahc ahd,.slice aj0 aj1 aj2] 30)).alloc (.cells #[.string wpk,.string wnm,.string ah6,.slice ai2 afw ail,.slice akh ae9 ag8] 30):=⟨_,rfl⟩
 have bA:Blk w0 w.heap.size 30 #[.string hpk,.string hnm,.string ag7,.slice ahb ahc ahd,.slice aj0 aj1 aj2]:=by rw[hw0];exact(Blk.new w _ _).alloc _
 have bC:Blk w0 (w.heap.size+1) 30 #[.string wpk,.string wnm,.string ah6,.slice ai2 afw ail,.slice akh ae9 ag8]:=by rw[hw0];have:=Blk.new (w.alloc (.cells #[.string hpk,.string hnm,.string ag7,.slice ahb ahc ahd,.slice aj0 aj1 aj2] 30)) 30 #[.string wpk,.string wnm,.string ah6,.slice ai2 afw ail,.slice akh ae9 ag8];simpa using this
 have hB0:Below w.heap.size w w0:=by rw[hw0];exact((Below.refl _ _).alloc (Nat.le_refl _) _).alloc (by simp) _
 have HW0:=Lib.hid hw0
 clear hw0
 go_enter Tryz.func10,Tryz.ntmps10
 go_wp2_with fail
 rw[← HW0.out]
 clear HW0
 refine(HKa.out w0 hB0 _ (HPa.out w0 hB0)).mono ?_
 rintro e w1 ⟨rfl,hb1⟩
 have hB1:=hB0.trans (hb1.mono hB0.size)
 have hs1:=hb1.size
 have bA1:=bA.step hb1
 have bC1:=bC.step hb1
 cases va
 case false=>
  have HF:Hid (R=false):=by show _=_;rw[HR.out];rfl
  go_wp2_with fail
  go_ret
  exact⟨ah HF.out.symm,hB1⟩
 have pa0:w1.cell? ⟨w.heap.size,0,none⟩=some (.string hpk):=bA1.cell 0
 have pa1:w1.cell? ⟨w.heap.size,1,none⟩=some (.string hnm):=bA1.cell 1
 have pa2:w1.cell? ⟨w.heap.size,2,none⟩=some (.string ag7):=bA1.cell 2
 have pa3:w1.cell? ⟨w.heap.size,3,none⟩=some (.slice ahb ahc ahd):=bA1.cell 3
 have pa4:w1.cell? ⟨w.heap.size,4,none⟩=some (.slice aj0 aj1 aj2):=bA1.cell 4
 have pb0:w1.cell? ⟨w.heap.size+1,0,none⟩=some (.string wpk):=bC1.cell 0
 have pb1:w1.cell? ⟨w.heap.size+1,1,none⟩=some (.string wnm):=bC1.cell 1
 have pb2:w1.cell? ⟨w.heap.size+1,2,none⟩=some (.string ah6):=bC1.cell 2
 have pb3:w1.cell? ⟨w.heap.size+1,3,none⟩=some (.slice ai2 afw ail):=bC1.cell 3
 have pb4:w1.cell? ⟨w.heap.size+1,4,none⟩=some (.slice akh ae9 ag8):=bC1.cell 4
 go_wp2_with fail
 refine(HKb.out w1 hB1 _ (HPb.out w1 hB1)).mono ?_
 rintro e w2 ⟨rfl,hb2⟩
 have hB2:=hB1.trans (hb2.mono hB1.size)
 have hs2:=hb2.size
 have bA2:=bA1.step hb2
 have bC2:=bC1.step hb2
 clear pa0 pa1 pa2 pa3 pa4 pb0 pb1 pb2 pb3 pb4
 cases vb
 case false=>
  have HF:Hid (R=false):=by show _=_;rw[HR.out];rfl
  go_wp2_with fail
  go_ret
  exact⟨ah HF.out.symm,hB2⟩
 have qa0:w2.cell? ⟨w.heap.size,0,none⟩=some (.string hpk):=bA2.cell 0
 have qa1:w2.cell? ⟨w.heap.size,1,none⟩=some (.string hnm):=bA2.cell 1
 have qa2:w2.cell? ⟨w.heap.size,2,none⟩=some (.string ag7):=bA2.cell 2
 have qa3:w2.cell? ⟨w.heap.size,3,none⟩=some (.slice ahb ahc ahd):=bA2.cell 3
 have qa4:w2.cell? ⟨w.heap.size,4,none⟩=some (.slice aj0 aj1 aj2):=bA2.cell 4
 have qb0:w2.cell? ⟨w.heap.size+1,0,none⟩=some (.string wpk):=bC2.cell 0
 have qb1:w2.cell? ⟨w.heap.size+1,1,none⟩=some (.string wnm):=bC2.cell 1
 have qb2:w2.cell? ⟨w.heap.size+1,2,none⟩=some (.string ah6):=bC2.cell 2
 have qb3:w2.cell? ⟨w.heap.size+1,3,none⟩=some (.slice ai2 afw ail):=bC2.cell 3
 have qb4:w2.cell? ⟨w.heap.size+1,4,none⟩=some (.slice akh ae9 ag8):=bC2.cell 4
 have HC:=Lib.hid (HCW.out (by first|rfl|trivial) (by first|rfl|trivial) w2 hB2 _ _ (HPa.out w2 hB2) (HPb.out w2 hB2))
 go_wp2_with fail
 refine HC.out.mono ?_
 rintro e wq ⟨rfl,hbq⟩
 have hBq:=hB2.trans (hbq.mono hB2.size)
 have HF:Hid (R=!RN):=by show _=_;rw[HR.out,HRN.out];rfl
 cases RN
 case false=>
  go_wp2_with fail
  go_ret
  exact⟨ah HF.out.symm,hBq.alloc hBq.size _⟩
 case true=>
  go_wp2_with fail
  go_ret
  exact⟨ah HF.out.symm,hBq.alloc hBq.size _⟩
theorem aut (a b:qg) (hwa:PD.wfL (qg.pd a)) (hza:PD.szL (qg.pd a)≤1048576) (hwb:PD.wfL (qg.pd b)) (hzb:PD.szL (qg.pd b)≤1048576):∀ (B:Nat) (cs ds:List Value) (w:World),B≤w.heap.size→al2 w→ku w B (qg.pd a) cs→ku w B (qg.pd b) ds→
  Calls Tryz.prog 10 #[.agg cs.toArray,.agg ds.toArray] w fun e w'=>e=.returned (.bool (ala a b))∧Below w.heap.size w w':=fun B cs ds w hB hT h k=>atg a b hwa hza hwb hzb B cs ds w hB hT h k
end Go.Proofs.YtbafphecjijdmaaGreatDoor
