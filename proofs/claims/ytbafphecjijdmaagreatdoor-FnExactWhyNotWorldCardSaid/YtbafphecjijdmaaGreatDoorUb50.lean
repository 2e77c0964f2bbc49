/-
  WhyNotWorld of both packages (by program: gen_wdz.py) (by program: gen_why.py).
-/
import Derived.Test.YtbafphecjijdmaaGreatDoorUb49
import Derived.Test.YtbafphecjijdmaaGreatDoorUb45
namespace Go.Proofs.YtbafphecjijdmaaGreatDoor
open Go.RowKit
set_option linter.all false
set_option maxRecDepth 16000
theorem al5 {t:Wld} (h:agr t=true):afa t.imports=true∧afa t.exports=true:=by
 simp only[agr,Bool.and_eq_true] at h
 exact h.2.2.2
set_option maxHeartbeats 6400000 in
theorem auy (a b:Wld) (hwa:PD.wfL (Wld.pd a)) (hza:PD.szL (Wld.pd a)≤1048576) (hwb:PD.wfL (Wld.pd b)) (hzb:PD.szL (Wld.pd b)≤1048576) (B:Nat) (cs ds:List Value) (w:World) (hB:B≤w.heap.size) (hT:akm w) (h:lq w B (Wld.pd a) cs) (k:lq w B (Wld.pd b) ds):
  Calls Tryz.prog 16 #[.agg cs.toArray,.agg ds.toArray] w fun e w'=>WQ (ahu a b) w e w':=by
 have HKa:=zqd (fun(V:World) (hV:Below w.heap.size w V) us (q:lq V B (Wld.pd a) us)=>a1e a hwa hza (w:=V) (Nat.le_trans hB hV.size) (hT.below hV) q)
 have HKb:=zqd (fun(V:World) (hV:Below w.heap.size w V) us (q:lq V B (Wld.pd b) us)=>a1e b hwb hzb (w:=V) (Nat.le_trans hB hV.size) (hT.below hV) q)
 have HZa:=a2y hza
 have HZb:=a2y hzb
 obtain⟨hpk,hnm,agv,him,hex⟩:=a
 obtain⟨wpk,wnm,ahv,wim,wex⟩:=b
 have HWa:=aw7 hwa
 have HWb:=aw7 hwb
 have HCI:=zqd (fun(ha:agr ⟨hpk,hnm,agv,him,hex⟩=true) (hb:agr ⟨wpk,wnm,ahv,wim,wex⟩=true) (V:World) (hV:Below w.heap.size w V) u v (p:Rep V B (.row 5 (wim.flatMap cu.pd)) u) (q:Rep V B (.row 5 (him.flatMap cu.pd)) v)=>a9p wim him (al5 hb).1 (al5 ha).1 HWb.1 HWa.1 HZb.imp HZa.imp aon (by decide) (w:=V) (Nat.le_trans hB hV.size) (hT.1.below hV) p q)
 have HCE:=zqd (fun(ha:agr ⟨hpk,hnm,agv,him,hex⟩=true) (hb:agr ⟨wpk,wnm,ahv,wim,wex⟩=true) (V:World) (hV:Below w.heap.size w V) u v (p:Rep V B (.row 5 (hex.flatMap cu.pd)) u) (q:Rep V B (.row 5 (wex.flatMap cu.pd)) v)=>a9p hex wex (al5 ha).2 (al5 hb).2 HWa.2 HWb.2 HZa.exp HZb.exp aoo (by decide) (w:=V) (Nat.le_trans hB hV.size) (hT.1.below hV) p q)
 clear hT hwa hza hwb hzb HZa HZb HWa HWb
 obtain⟨R,hR⟩:∃ R:Why,R=ahu ⟨hpk,hnm,agv,him,hex⟩ ⟨wpk,wnm,ahv,wim,wex⟩:=⟨_,rfl⟩
 rw[← hR]
 rw[ahu] at hR
 obtain⟨va,hva⟩:∃ v:Bool,agr ⟨hpk,hnm,agv,him,hex⟩=v:=⟨_,rfl⟩
 obtain⟨vb,hvb⟩:∃ v:Bool,agr ⟨wpk,wnm,ahv,wim,wex⟩=v:=⟨_,rfl⟩
 rw[hva,hvb] at hR HCI HCE
 rw[hva] at HKa
 rw[hvb] at HKb
 have HR:Hid (R=if va && vb then (match an5 aon wim him with|some r=>some r|none=>an5 aoo hex wex)else none):=hR
 clear hR
 obtain⟨R1,hR1⟩:∃ r,an5 aon wim him=r:=⟨_,rfl⟩
 obtain⟨R2,hR2⟩:∃ r,an5 aoo hex wex=r:=⟨_,rfl⟩
 rw[hR1] at HR HCI
 rw[hR2] at HR HCE
 unfold WQ at HCI HCE
 obtain⟨K1,S1,N1,HK1,HS1,HN1⟩:=agp R1
 obtain⟨K2,S2,N2,HK2,HS2,HN2⟩:=agp R2
 rw[HK1.out,HS1.out,HN1.out] at HCI
 rw[HK2.out,HS2.out,HN2.out] at HCE
 clear hva hvb hR1 hR2
 unfold WQ
 obtain⟨bxc,hexV,rfl,auh,aui⟩:=Wld.open_ h
 obtain⟨ay7,ay8,ay9,rfl⟩:=auh.form
 obtain⟨aza,hexN,azb,rfl⟩:=aui.form
 have a1j:=zqd auh
 have a1k:=zqd aui
 clear auh aui
 obtain⟨bxd,bxe,rfl,auj,auk⟩:=Wld.open_ k
 obtain⟨azc,azd,aze,rfl⟩:=auj.form
 obtain⟨azf,azg,azh,rfl⟩:=auk.form
 have a1l:=zqd auj
 have a1m:=zqd auk
 clear auj auk
 have HPa:=zqd (fun(V:World) (hV:Below w.heap.size w V)=>Wld.close_ (package:=hpk) (name:=hnm) (version:=agv) (a1j.out.below (hV.mono hB)) (a1k.out.below (hV.mono hB)))
 have HPb:=zqd (fun(V:World) (hV:Below w.heap.size w V)=>Wld.close_ (package:=wpk) (name:=wnm) (version:=ahv) (a1l.out.below (hV.mono hB)) (a1m.out.below (hV.mono hB)))
 clear h k
 obtain⟨w0,hw0,bA,bC,bR,hB0,hs0⟩:=afb w 45 #[.string hpk,.string hnm,.string agv,.slice ay7 ay8 ay9,.slice aza hexN azb] #[.string wpk,.string wnm,.string ahv,.slice azc azd aze,.slice azf azg azh]
 have HW0:=zqd hw0
 clear hw0
 go_enter Tryz.func16,Tryz.ntmps16
 go_wp2_with fail
 rw[← HW0.out]
 clear HW0
 refine(HKa.out w0 hB0 _ (HPa.out w0 hB0)).mono ?_
 rintro e w1 ⟨rfl,hb1⟩
 have hB1:=hB0.trans (hb1.mono hB0.size)
 have hs1:=hb1.size
 have bA1:=bA.step hb1
 have bC1:=bC.step hb1
 have bR1:=bR.step hb1
 cases va
 case false=>
  have HF:Hid (R=none):=by show _=_;rw[HR.out];rfl
  obtain⟨r0,r1,f0,f1⟩:=zr bR1
  go_wp2_with fail
  obtain⟨n0,n1,nB⟩:=aaw bR1 hB1 (by omega) (0) (⟨#[]⟩)
  exact bodyPost_ret (v:=.tuple #[.agg #[.int .i64 0,.string {data:=#[]}],.bool false]) (by simp[results,Tryz.results16,go_sem,n0,n1]) rfl ⟨qc (by rw[HF.out];rfl) (by rw[HF.out];rfl) (by rw[HF.out];rfl),nB⟩
 obtain⟨pa0,pa1,pa2,pa3,pa4⟩:=zc5 bA1
 obtain⟨pb0,pb1,pb2,pb3,pb4⟩:=zc5 bC1
 go_wp2_with fail
 refine(HKb.out w1 hB1 _ (HPb.out w1 hB1)).mono ?_
 rintro e w2 ⟨rfl,hb2⟩
 have hB2:=hB1.trans (hb2.mono hB1.size)
 have hs2:=hb2.size
 have bA2:=bA1.step hb2
 have bC2:=bC1.step hb2
 have bR2:=bR1.step hb2
 clear pa0 pa1 pa2 pa3 pa4 pb0 pb1 pb2 pb3 pb4
 cases vb
 case false=>
  have HF:Hid (R=none):=by show _=_;rw[HR.out];rfl
  obtain⟨r0,r1,f0,f1⟩:=zr bR2
  go_wp2_with fail
  obtain⟨n0,n1,nB⟩:=aaw bR2 hB2 (by omega) (0) (⟨#[]⟩)
  exact bodyPost_ret (v:=.tuple #[.agg #[.int .i64 0,.string {data:=#[]}],.bool false]) (by simp[results,Tryz.results16,go_sem,n0,n1]) rfl ⟨qc (by rw[HF.out];rfl) (by rw[HF.out];rfl) (by rw[HF.out];rfl),nB⟩
 have qa3:w2.cell? ⟨w.heap.size,3,none⟩=some (.slice ay7 ay8 ay9):=bA2.cell 3
 have qb3:w2.cell? ⟨w.heap.size+1,3,none⟩=some (.slice azc azd aze):=bC2.cell 3
 have HC:=zqd (HCI.out (by first|rfl|trivial) (by first|rfl|trivial) w2 hB2 _ _ (a1l.out.below (hB2.mono hB)) (a1j.out.below (hB2.mono hB)))
 go_wp2_with fail
 refine HC.out.mono ?_
 rintro e wq ⟨rfl,hbq⟩
 have hBq:=hB2.trans (hbq.mono hB2.size)
 have hsq:=hbq.size
 clear qa3 qb3 HC
 obtain⟨w6,hw6⟩:=zqe wq 34 #[.int .i64 K1,.string S1]
 have bX:=zqn hw6
 have hb6:=zqb hw6
 have hB6:=hBq.trans (hb6.mono hBq.size)
 have bR6:=(bR2.step hbq).step hb6
 have bA6:=(bA2.step hbq).step hb6
 have bC6:=(bC2.step hbq).step hb6
 have hs6:=hb6.size
 cases N1
 case true=>
  have HF:Hid (R=some (K1,S1)):=by show _=_;rw[HR.out,af2 HN1.out,HK1.out,HS1.out];rfl
  obtain⟨q0,q1⟩:=rq bX
  obtain⟨r0,r1,f0,f1⟩:=zr bR6
  have HB6:=zqd hB6
  have HR6:=zqd bR6
  clear bX hb6 bA6 bC6 hB6 bR6
  subst hw6
  go_wp2_with fail
  obtain⟨n0,n1,nB⟩:=aaw HR6.out HB6.out (by omega) (K1) (S1)
  exact bodyPost_ret (v:=.tuple #[.agg #[.int .i64 K1,.string S1],.bool true]) (by simp[results,Tryz.results16,go_sem,n0,n1]) rfl ⟨qc (by rw[HF.out];rfl) (by rw[HF.out];rfl) (by rw[HF.out];rfl),nB⟩
 case false=>
  have HF:Hid (R=R2):=by show _=_;rw[HR.out,af0 HN1.out];rfl
  have qa4:w6.cell? ⟨w.heap.size,4,none⟩=some (.slice aza hexN azb):=bA6.cell 4
  have qb4:w6.cell? ⟨w.heap.size+1,4,none⟩=some (.slice azf azg azh):=bC6.cell 4
  have HC:=zqd (HCE.out (by first|rfl|trivial) (by first|rfl|trivial) w6 hB6 _ _ (a1k.out.below (hB6.mono hB)) (a1m.out.below (hB6.mono hB)))
  have HB6:=zqd hB6
  have HR6:=zqd bR6
  clear bX hb6 bA6 bC6 hB6 bR6
  subst hw6
  go_wp2_with fail
  refine HC.out.mono ?_
  rintro e wy ⟨rfl,hby⟩
  have hBy:=HB6.out.trans (hby.mono HB6.out.size)
  have bRy:=HR6.out.step hby
  have hsy:=hby.size
  obtain⟨r0,r1,f0,f1⟩:=zr bRy
  go_wp2_with fail
  obtain⟨n0,n1,nB⟩:=aaw bRy hBy (by omega) (K2) (S2)
  exact bodyPost_ret (v:=.tuple #[.agg #[.int .i64 K2,.string S2],.bool N2]) (by simp[results,Tryz.results16,go_sem,n0,n1]) rfl ⟨qc (by rw[HF.out,HK2.out]) (by rw[HF.out,HS2.out]) (by rw[HF.out,HN2.out]),nB⟩
theorem awg (a b:Wld) (hwa:PD.wfL (Wld.pd a)) (hza:PD.szL (Wld.pd a)≤1048576) (hwb:PD.wfL (Wld.pd b)) (hzb:PD.szL (Wld.pd b)≤1048576):∀ (B:Nat) (cs ds:List Value) (w:World),B≤w.heap.size→akm w→lq w B (Wld.pd a) cs→lq w B (Wld.pd b) ds→
  Calls Tryz.prog 16 #[.agg cs.toArray,.agg ds.toArray] w fun e w'=>∃ us,e=.returned (.tuple #[.agg us.toArray,.bool (avc (ahu a b))])∧LvC w' w.heap.size w'.heap.size (Reason.pd (a5i (ahu a b))) us∧Below w.heap.size w w':=fun B cs ds w hB hT h k=>(auy a b hwa hza hwb hzb B cs ds w hB hT h k).mono fun _ _ he=>bmr he
set_option maxHeartbeats 6400000 in
theorem auz (a b:Wld) (hwa:PD.wfL (Wld.pd a)) (hza:PD.szL (Wld.pd a)≤1048576) (hwb:PD.wfL (Wld.pd b)) (hzb:PD.szL (Wld.pd b)≤1048576) (B:Nat) (cs ds:List Value) (w:World) (hB:B≤w.heap.size) (hT:akm w) (h:lq w B (Wld.pd a) cs) (k:lq w B (Wld.pd b) ds):
  Calls Tryz.prog 18 #[.agg cs.toArray,.agg ds.toArray] w fun e w'=>WQ (ahu a b) w e w':=by
 have HKa:=zqd (fun(V:World) (hV:Below w.heap.size w V) us (q:lq V B (Wld.pd a) us)=>a1f a hwa hza (w:=V) (Nat.le_trans hB hV.size) (hT.below hV) q)
 have HKb:=zqd (fun(V:World) (hV:Below w.heap.size w V) us (q:lq V B (Wld.pd b) us)=>a1f b hwb hzb (w:=V) (Nat.le_trans hB hV.size) (hT.below hV) q)
 have HZa:=a2y hza
 have HZb:=a2y hzb
 obtain⟨hpk,hnm,agv,him,hex⟩:=a
 obtain⟨wpk,wnm,ahv,wim,wex⟩:=b
 have HWa:=aw7 hwa
 have HWb:=aw7 hwb
 have HCI:=zqd (fun(ha:agr ⟨hpk,hnm,agv,him,hex⟩=true) (hb:agr ⟨wpk,wnm,ahv,wim,wex⟩=true) (V:World) (hV:Below w.heap.size w V) u v (p:Rep V B (.row 5 (wim.flatMap cu.pd)) u) (q:Rep V B (.row 5 (him.flatMap cu.pd)) v)=>a9y wim him (al5 hb).1 (al5 ha).1 HWb.1 HWa.1 HZb.imp HZa.imp aon (by decide) (w:=V) (Nat.le_trans hB hV.size) (hT.below hV) p q)
 have HCE:=zqd (fun(ha:agr ⟨hpk,hnm,agv,him,hex⟩=true) (hb:agr ⟨wpk,wnm,ahv,wim,wex⟩=true) (V:World) (hV:Below w.heap.size w V) u v (p:Rep V B (.row 5 (hex.flatMap cu.pd)) u) (q:Rep V B (.row 5 (wex.flatMap cu.pd)) v)=>a9y hex wex (al5 ha).2 (al5 hb).2 HWa.2 HWb.2 HZa.exp HZb.exp aoo (by decide) (w:=V) (Nat.le_trans hB hV.size) (hT.below hV) p q)
 clear hT hwa hza hwb hzb HZa HZb HWa HWb
 obtain⟨R,hR⟩:∃ R:Why,R=ahu ⟨hpk,hnm,agv,him,hex⟩ ⟨wpk,wnm,ahv,wim,wex⟩:=⟨_,rfl⟩
 rw[← hR]
 rw[ahu] at hR
 obtain⟨va,hva⟩:∃ v:Bool,agr ⟨hpk,hnm,agv,him,hex⟩=v:=⟨_,rfl⟩
 obtain⟨vb,hvb⟩:∃ v:Bool,agr ⟨wpk,wnm,ahv,wim,wex⟩=v:=⟨_,rfl⟩
 rw[hva,hvb] at hR HCI HCE
 rw[hva] at HKa
 rw[hvb] at HKb
 have HR:Hid (R=if va && vb then (match an5 aon wim him with|some r=>some r|none=>an5 aoo hex wex)else none):=hR
 clear hR
 obtain⟨R1,hR1⟩:∃ r,an5 aon wim him=r:=⟨_,rfl⟩
 obtain⟨R2,hR2⟩:∃ r,an5 aoo hex wex=r:=⟨_,rfl⟩
 rw[hR1] at HR HCI
 rw[hR2] at HR HCE
 unfold WQ at HCI HCE
 obtain⟨K1,S1,N1,HK1,HS1,HN1⟩:=agp R1
 obtain⟨K2,S2,N2,HK2,HS2,HN2⟩:=agp R2
 rw[HK1.out,HS1.out,HN1.out] at HCI
 rw[HK2.out,HS2.out,HN2.out] at HCE
 clear hva hvb hR1 hR2
 unfold WQ
 obtain⟨bxc,hexV,rfl,auh,aui⟩:=Wld.open_ h
 obtain⟨ay7,ay8,ay9,rfl⟩:=auh.form
 obtain⟨aza,hexN,azb,rfl⟩:=aui.form
 have a1j:=zqd auh
 have a1k:=zqd aui
 clear auh aui
 obtain⟨bxd,bxe,rfl,auj,auk⟩:=Wld.open_ k
 obtain⟨azc,azd,aze,rfl⟩:=auj.form
 obtain⟨azf,azg,azh,rfl⟩:=auk.form
 have a1l:=zqd auj
 have a1m:=zqd auk
 clear auj auk
 have HPa:=zqd (fun(V:World) (hV:Below w.heap.size w V)=>Wld.close_ (package:=hpk) (name:=hnm) (version:=agv) (a1j.out.below (hV.mono hB)) (a1k.out.below (hV.mono hB)))
 have HPb:=zqd (fun(V:World) (hV:Below w.heap.size w V)=>Wld.close_ (package:=wpk) (name:=wnm) (version:=ahv) (a1l.out.below (hV.mono hB)) (a1m.out.below (hV.mono hB)))
 clear h k
 obtain⟨w0,hw0,bA,bC,bR,hB0,hs0⟩:=afb w 45 #[.string hpk,.string hnm,.string agv,.slice ay7 ay8 ay9,.slice aza hexN azb] #[.string wpk,.string wnm,.string ahv,.slice azc azd aze,.slice azf azg azh]
 have HW0:=zqd hw0
 clear hw0
 go_enter Tryz.func18,Tryz.ntmps18
 go_wp2_with fail
 rw[← HW0.out]
 clear HW0
 refine(HKa.out w0 hB0 _ (HPa.out w0 hB0)).mono ?_
 rintro e w1 ⟨rfl,hb1⟩
 have hB1:=hB0.trans (hb1.mono hB0.size)
 have hs1:=hb1.size
 have bA1:=bA.step hb1
 have bC1:=bC.step hb1
 have bR1:=bR.step hb1
 cases va
 case false=>
  have HF:Hid (R=none):=by show _=_;rw[HR.out];rfl
  go_wp2_with fail
  refine(afu _).mono ?_
  rintro e wz ⟨rfl,hbz⟩
  have hBz:=hB1.trans (hbz.mono (by omega))
  have bRz:=bR1.step hbz
  have hsz:=hbz.size
  obtain⟨r0,r1,f0,f1⟩:=zr bRz
  go_wp2_with fail
  obtain⟨n0,n1,nB⟩:=aaw bRz hBz (by omega) (0) (⟨#[]⟩)
  exact bodyPost_ret (v:=.tuple #[.agg #[.int .i64 0,.string {data:=#[]}],.bool false]) (by simp[results,Tryz.results18,go_sem,n0,n1]) rfl ⟨qc (by rw[HF.out];rfl) (by rw[HF.out];rfl) (by rw[HF.out];rfl),nB⟩
 obtain⟨pa0,pa1,pa2,pa3,pa4⟩:=zc5 bA1
 obtain⟨pb0,pb1,pb2,pb3,pb4⟩:=zc5 bC1
 go_wp2_with fail
 refine(HKb.out w1 hB1 _ (HPb.out w1 hB1)).mono ?_
 rintro e w2 ⟨rfl,hb2⟩
 have hB2:=hB1.trans (hb2.mono hB1.size)
 have hs2:=hb2.size
 have bA2:=bA1.step hb2
 have bC2:=bC1.step hb2
 have bR2:=bR1.step hb2
 clear pa0 pa1 pa2 pa3 pa4 pb0 pb1 pb2 pb3 pb4
 cases vb
 case false=>
  have HF:Hid (R=none):=by show _=_;rw[HR.out];rfl
  go_wp2_with fail
  refine(afu _).mono ?_
  rintro e wz ⟨rfl,hbz⟩
  have hBz:=hB2.trans (hbz.mono (by omega))
  have bRz:=bR2.step hbz
  have hsz:=hbz.size
  obtain⟨r0,r1,f0,f1⟩:=zr bRz
  go_wp2_with fail
  obtain⟨n0,n1,nB⟩:=aaw bRz hBz (by omega) (0) (⟨#[]⟩)
  exact bodyPost_ret (v:=.tuple #[.agg #[.int .i64 0,.string {data:=#[]}],.bool false]) (by simp[results,Tryz.results18,go_sem,n0,n1]) rfl ⟨qc (by rw[HF.out];rfl) (by rw[HF.out];rfl) (by rw[HF.out];rfl),nB⟩
 have qa3:w2.cell? ⟨w.heap.size,3,none⟩=some (.slice ay7 ay8 ay9):=bA2.cell 3
 have qb3:w2.cell? ⟨w.heap.size+1,3,none⟩=some (.slice azc azd aze):=bC2.cell 3
 have HC:=zqd (HCI.out (by first|rfl|trivial) (by first|rfl|trivial) w2 hB2 _ _ (a1l.out.below (hB2.mono hB)) (a1j.out.below (hB2.mono hB)))
 go_wp2_with fail
 refine HC.out.mono ?_
 rintro e wq ⟨rfl,hbq⟩
 have hBq:=hB2.trans (hbq.mono hB2.size)
 have hsq:=hbq.size
 clear qa3 qb3 HC
 obtain⟨w6,hw6⟩:=zqe wq 34 #[.int .i64 K1,.string S1]
 have bX:=zqn hw6
 have hb6:=zqb hw6
 have hB6:=hBq.trans (hb6.mono hBq.size)
 have bR6:=(bR2.step hbq).step hb6
 have bA6:=(bA2.step hbq).step hb6
 have bC6:=(bC2.step hbq).step hb6
 have hs6:=hb6.size
 cases N1
 case true=>
  have HF:Hid (R=some (K1,S1)):=by show _=_;rw[HR.out,af2 HN1.out,HK1.out,HS1.out];rfl
  obtain⟨q0,q1⟩:=rq bX
  obtain⟨r0,r1,f0,f1⟩:=zr bR6
  have HB6:=zqd hB6
  have HR6:=zqd bR6
  clear bX hb6 bA6 bC6 hB6 bR6
  subst hw6
  go_wp2_with fail
  obtain⟨n0,n1,nB⟩:=aaw HR6.out HB6.out (by omega) (K1) (S1)
  exact bodyPost_ret (v:=.tuple #[.agg #[.int .i64 K1,.string S1],.bool true]) (by simp[results,Tryz.results18,go_sem,n0,n1]) rfl ⟨qc (by rw[HF.out];rfl) (by rw[HF.out];rfl) (by rw[HF.out];rfl),nB⟩
 case false=>
  have HF:Hid (R=R2):=by show _=_;rw[HR.out,af0 HN1.out];rfl
  have qa4:w6.cell? ⟨w.heap.size,4,none⟩=some (.slice aza hexN azb):=bA6.cell 4
  have qb4:w6.cell? ⟨w.heap.size+1,4,none⟩=some (.slice azf azg azh):=bC6.cell 4
  have HC:=zqd (HCE.out (by first|rfl|trivial) (by first|rfl|trivial) w6 hB6 _ _ (a1k.out.below (hB6.mono hB)) (a1m.out.below (hB6.mono hB)))
  have HB6:=zqd hB6
  have HR6:=zqd bR6
  clear bX hb6 bA6 bC6 hB6 bR6
  subst hw6
  go_wp2_with fail
  refine HC.out.mono ?_
  rintro e wy ⟨rfl,hby⟩
  have hBy:=HB6.out.trans (hby.mono HB6.out.size)
  have bRy:=HR6.out.step hby
  have hsy:=hby.size
  obtain⟨r0,r1,f0,f1⟩:=zr bRy
  go_wp2_with fail
  obtain⟨n0,n1,nB⟩:=aaw bRy hBy (by omega) (K2) (S2)
  exact bodyPost_ret (v:=.tuple #[.agg #[.int .i64 K2,.string S2],.bool N2]) (by simp[results,Tryz.results18,go_sem,n0,n1]) rfl ⟨qc (by rw[HF.out,HK2.out]) (by rw[HF.out,HS2.out]) (by rw[HF.out,HN2.out]),nB⟩
theorem awi (a b:Wld) (hwa:PD.wfL (Wld.pd a)) (hza:PD.szL (Wld.pd a)≤1048576) (hwb:PD.wfL (Wld.pd b)) (hzb:PD.szL (Wld.pd b)≤1048576):∀ (B:Nat) (cs ds:List Value) (w:World),B≤w.heap.size→akm w→lq w B (Wld.pd a) cs→lq w B (Wld.pd b) ds→
  Calls Tryz.prog 18 #[.agg cs.toArray,.agg ds.toArray] w fun e w'=>∃ us,e=.returned (.tuple #[.agg us.toArray,.bool (avc (ahu a b))])∧LvC w' w.heap.size w'.heap.size (Reason.pd (a5i (ahu a b))) us∧Below w.heap.size w w':=fun B cs ds w hB hT h k=>(auz a b hwa hza hwb hzb B cs ds w hB hT h k).mono fun _ _ he=>bmr he
end Go.Proofs.YtbafphecjijdmaaGreatDoor
