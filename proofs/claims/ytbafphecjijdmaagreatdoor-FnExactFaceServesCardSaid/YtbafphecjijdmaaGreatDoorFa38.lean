/-
  Why one interface cannot stand for another: spec.l08Face (versions: false; by program: gen_fcu.py) (by program: gen_why.py).
-/
import Derived.Test.YtbafphecjijdmaaGreatDoorFa31
import Derived.Test.YtbafphecjijdmaaGreatDoorFa34
import Derived.Test.YtbafphecjijdmaaGreatDoorFa37
import Derived.Deep.RegionHeld3
namespace Go.Proofs.YtbafphecjijdmaaGreatDoor
open Go.RowKit
set_option linter.unusedVariables false
set_option linter.unusedSimpArgs false
set_option linter.unnecessarySimpa false
set_option maxRecDepth 16000
set_option maxHeartbeats 12800000 in
theorem a5y (a b:qg) (ha:af8 a=true) (hb:af8 b=true) (hwa:PD.wfL (qg.pd a)) (hwb:PD.wfL (qg.pd b)) (hsa:PD.szL (qg.pd a)≤1048576) (hsb:PD.szL (qg.pd b)≤1048576) {B:Nat} {cs ds:List Value} {w:World} (hB:B≤w.heap.size) (hT:aex w) (h:ku w B (qg.pd a) cs) (k:ku w B (qg.pd b) ds):
  Calls Tryz.prog 28 #[.agg cs.toArray,.agg ds.toArray,.bool false] w fun e w'=>WQ (alk a b (fcAt b) false) w e w':=by
 have HFI:=Lib.hid (fun nm (V:World) (hV:B≤V.heap.size) us (k:ku V B (qg.pd a) us)=>a3l a nm ha hwa hsa (w:=V) hV k)
 have HWB:=Lib.hid (akd hsb).2
 have HFO:=Lib.hid (at7 ha)
 have HWO:=Lib.hid (at7 hb)
 obtain⟨hpk,hnm,ag7,hres,hfs⟩:=a
 obtain⟨wpk,wnm,ah6,alf,wfs⟩:=b
 obtain⟨hresV,hfsV,rfl,ah0,ajz⟩:=qg.open_ h
 obtain⟨ahb,ahc,ahd,rfl,aqc,hm_hres,avv⟩:=ajb ah0
 obtain⟨aj0,aj1,aj2,rfl,atb,a1v,hat_hfs⟩:=ny Fun.jw (by decide) ajz
 unfold maxLen at a1v
 have amw:=Lib.hid ah0
 have arv:=Lib.hid ajz
 have HN_hres:=Lib.hid aqc
 have HN_hfs:=Lib.hid atb
 clear ah0 ajz aqc atb
 obtain⟨wresV,wfsV,rfl,ah1,aj3⟩:=qg.open_ k
 obtain⟨ai2,afw,ail,rfl,aqd,hm_wres,al1⟩:=ajb ah1
 obtain⟨akh,ae9,ag8,rfl,atc,a1w,ayj⟩:=ny Fun.jw (by decide) aj3
 unfold maxLen at a1w
 have atd:=Lib.hid ah1
 have axe:=Lib.hid aj3
 have ak9:=Lib.hid aqd
 have akc:=Lib.hid atc
 clear ah1 aj3 aqd atc
 have l_wpk:wpk.size≤12:=HWO.out.pk
 have l_wnm:wnm.size≤12:=HWO.out.nm
 have h4:afw≤4:=by have h1:alf.length≤4:=HWO.out.res4;have:=ak9.out;omega
 have h8:ae9≤8:=by have h1:wfs.length≤8:=HWO.out.fs8;have:=akc.out;omega
 clear h k ha hb hwa hwb hsa hsb
 have amu:=Lib.hid (fun(V:World) (hV:Below w.heap.size w V)=>qg.close_ (package:=hpk) (name:=hnm) (version:=ag7) (amw.out.below (hV.mono hB)) (arv.out.below (hV.mono hB)))
 have akp:(9223372036854775807 < wpk.size+(⟨#[47]⟩:ByteArray).size)=False:=eq_false (by have z_:(⟨#[47]⟩:ByteArray).size=1:=rfl;omega)
 have akq:(9223372036854775807 < wpk.size+1)=False:=eq_false (by omega)
 obtain⟨p1,adg⟩:∃ p,wpk ++(⟨#[47]⟩:ByteArray)=p:=⟨_,rfl⟩
 have akr:p1.size≤13:=by rw[← adg,ByteArray.size_append];have z_:(⟨#[47]⟩:ByteArray).size=1:=rfl;omega
 have y_at_:(9223372036854775807 < p1.size+wnm.size)=False:=eq_false (by omega)
 obtain⟨at_,axf⟩:∃ p,p1 ++wnm=p:=⟨_,rfl⟩
 have l_at_:at_.size≤25:=by rw[← axf,ByteArray.size_append];omega
 obtain⟨R,hR⟩:∃ R:Why,R=alk ⟨hpk,hnm,ag7,hres,hfs⟩ ⟨wpk,wnm,ah6,alf,wfs⟩ at_ false:=⟨_,rfl⟩
 have HRR:Hid (R=alk ⟨hpk,hnm,ag7,hres,hfs⟩ ⟨wpk,wnm,ah6,alf,wfs⟩ (fcAt ⟨wpk,wnm,ah6,alf,wfs⟩) false):=by show _=_;rw[hR,← axf,← adg];rfl
 rw[← HRR.out]
 have HR:=Lib.hid hR
 clear hR HRR
 obtain⟨w0,hw0,bA,bC,bR,hB0,hs0⟩:=aey w 30 #[.string hpk,.string hnm,.string ag7,.slice ahb ahc ahd,.slice aj0 aj1 aj2] #[.string wpk,.string wnm,.string ah6,.slice ai2 afw ail,.slice akh ae9 ag8]
 have HW0:=Lib.hid hw0
 clear hw0
 by_cases hpe:hpk=wpk
 case neg=>
  have HF:Hid (R=some (11,at_)):=by show _=_;rw[HR.out];exact anf (fun hh=>hpe hh.1)
  have hs1:(hpk.toList ==wpk.toList)=false:=aes hpe
  clear hpe
  go_enter Tryz.func28,Tryz.ntmps28
  go_wp2_with fail
  try rw[← HW0.out]
  refine(aej 11 at_ _).mono ?_
  rintro e wz ⟨rfl,hbz⟩
  have hBz:=hB0.trans (hbz.mono (by omega))
  have bRz:=bR.step hbz
  have hsz:=hbz.size
  obtain⟨r0,r1,f0,f1⟩:=zr bRz
  go_wp2_with fail
  obtain⟨n0,n1,nB⟩:=abf bRz hBz (by omega) (11) (at_)
  exact bodyPost_ret (v:=.tuple #[.agg #[.int .i64 11,.string at_],.bool true]) (by simp[results,Tryz.results28,go_sem,n0,n1]) rfl ⟨um (by rw[HF.out];rfl) (by rw[HF.out];rfl) (by rw[HF.out];rfl),nB⟩
 have hs1:(hpk.toList ==wpk.toList)=true:=by rw[hpe];simp
 by_cases hne:hnm=wnm
 case neg=>
  have HF:Hid (R=some (11,at_)):=by show _=_;rw[HR.out];exact anf (fun hh=>hne hh.2)
  have hs2:(hnm.toList ==wnm.toList)=false:=aes hne
  clear hne hpe
  go_enter Tryz.func28,Tryz.ntmps28
  go_wp2_with fail
  try rw[← HW0.out]
  refine(aej 11 at_ _).mono ?_
  rintro e wz ⟨rfl,hbz⟩
  have hBz:=hB0.trans (hbz.mono (by omega))
  have bRz:=bR.step hbz
  have hsz:=hbz.size
  obtain⟨r0,r1,f0,f1⟩:=zr bRz
  go_wp2_with fail
  obtain⟨n0,n1,nB⟩:=abf bRz hBz (by omega) (11) (at_)
  exact bodyPost_ret (v:=.tuple #[.agg #[.int .i64 11,.string at_],.bool true]) (by simp[results,Tryz.results28,go_sem,n0,n1]) rfl ⟨um (by rw[HF.out];rfl) (by rw[HF.out];rfl) (by rw[HF.out];rfl),nB⟩
 have hs2:(hnm.toList ==wnm.toList)=true:=by rw[hne];simp
 have HEQ:Hid (hpk=wpk∧hnm=wnm):=⟨hpe,hne⟩
 clear hne hpe
 have HG:Hid (R=match aax (aou at_ hres alf) alf.length with|some r=>some r|none=>aax (akf at_ hfs wfs) wfs.length):=by show _=_;rw[HR.out];exact a1o HEQ.out (fun hh=>by cases hh)
 go_enter Tryz.func28,Tryz.ntmps28
 go_wp2_with fail
 rw[← HW0.out]
 clear HW0
 obtain⟨wv,hwv⟩:∃ V,V=w0:=⟨_,rfl⟩
 rw[← hwv] at bA bC bR hB0 hs0 ⊢
 have hBv:=hB0
 have bAv:=bA
 have bCv:=bC
 have bRv:=bR
 clear hwv bA bC bR
 go_loopw [9] (fun i wr=>∃ k:Nat,k≤afw∧i=.int .i64 k∧Hid (aax (aou at_ hres alf) k=none)∧Below wv.heap.size wv wr) (fun i _=>afw - (intOf i).toNat)
 case atStart=>exact⟨0,Nat.zero_le _,rfl,Lib.hid rfl,Below.refl _ _⟩
 case round=>
  obtain⟨k,hk,rfl,HP,hbr⟩:=hrel
  have hBr:=hBv.trans (hbr.mono hBv.size)
  have hsr:=hbr.size
  have bRr:=bRv.step hbr
  have bAr:=bAv.step hbr
  have bCr:=bCv.step hbr
  clear bAv bCv bRv
  have a3:wr.cell? ⟨w.heap.size,3,none⟩=some (.slice ahb ahc ahd):=bAr.cell 3
  have z3:wr.cell? ⟨w.heap.size+1,3,none⟩=some (.slice ai2 afw ail):=bCr.cell 3
  by_cases hlt:k < afw
  case pos=>
   obtain⟨g,off,rfl,hg,hcell⟩:=al1 (by omega)
   obtain⟨x,hx,hxm⟩:=vw ak9.out hlt
   have l_x:x.size≤12:=HWO.out.res x hxm
   have c_x:wr.cell? ⟨g,off+k,none⟩=some (.string x):=(hBr.cell (p:=⟨g,off+k,none⟩) (by simp only;omega)).trans (hcell k x hx)
   have HX:=Lib.hid hx
   clear hx hxm hcell al1
   have HLB:=Lib.hid (fun q=>(amv (t:=x) (w:=wr.drewN q) ((amw.out.below (hBr.mono hB)).below (below_drewN (Below.refl _ _) _))).mono fun e w' h=>(⟨h.1,h.2.symm⟩:_∧_))
   obtain⟨ix,hix⟩:∃ ix,ab6 (strEq x) hres=ix:=⟨_,rfl⟩
   rw[hix] at HLB
   have y_q1:(9223372036854775807 < at_.size+(⟨#[46]⟩:ByteArray).size)=False:=eq_false (by have z_:(⟨#[46]⟩:ByteArray).size=1:=rfl;omega)
   have x_q1:(9223372036854775807 < at_.size+1)=False:=eq_false (by omega)
   obtain⟨q1,ao1⟩:∃ p,at_ ++(⟨#[46]⟩:ByteArray)=p:=⟨_,rfl⟩
   have l_q1:q1.size≤26:=by rw[← ao1,ByteArray.size_append];have z_:(⟨#[46]⟩:ByteArray).size=1:=rfl;omega
   have y_q2:(9223372036854775807 < q1.size+x.size)=False:=eq_false (by omega)
   obtain⟨q2,ao2⟩:∃ p,q1 ++x=p:=⟨_,rfl⟩
   have l_q2:q2.size≤38:=by rw[← ao2,ByteArray.size_append];omega
   have HQ2:Hid (ait at_ x=q2):=by show _=_;rw[← ao2,← ao1];rfl
   by_cases hneg:ix < 0
   case pos=>
    have HF:Hid (R=some (6,q2)):=by show _=_;rw[HG.out,adt HP.out (a1n HX.out (by rw[hix];exact hneg)) _ (by have:=ak9.out;omega),← HQ2.out]
    clear hix
    go_wp2_with fail
    go_quiet (first|(go_at_call 57;exact Calls.quiet_of_same (HLB.out _)))
    obtain⟨w7,hq7⟩:∃ V,V=wr.drewN nq:=⟨_,rfl⟩
    rw[← hq7]
    have hb7:Below wr.heap.size wr w7:=by rw[hq7];exact below_drewN (Below.refl _ _) _
    have hs7:=hb7.size
    have hB7:=hBr.trans (hb7.mono hBr.size)
    have bR7:=bRr.step hb7
    have z37:w7.cell? ⟨w.heap.size+1,3,none⟩=some (.slice (some ⟨g,off,none⟩) afw ail):=(bCr.step hb7).cell 3
    have c_x7:w7.cell? ⟨g,off+k,none⟩=some (.string x):=(hb7.cell (p:=⟨g,off+k,none⟩) (by have:=hBr.size;simp only;omega)).trans c_x
    clear hq7
    go_wp2_with fail
    refine(aej 6 q2 _).mono ?_
    rintro e wz ⟨rfl,hbz⟩
    have hBz:=hB7.trans (hbz.mono (by omega))
    have bRz:=bR7.step hbz
    have hsz:=hbz.size
    obtain⟨r0,r1,f0,f1⟩:=zr bRz
    go_wp2_with fail
    obtain⟨n0,n1,nB⟩:=abf bRz hBz (by omega) (6) (q2)
    exact bodyPost_ret (v:=.tuple #[.agg #[.int .i64 6,.string q2],.bool true]) (by simp[results,Tryz.results28,go_sem,n0,n1]) rfl ⟨um (by rw[HF.out];rfl) (by rw[HF.out];rfl) (by rw[HF.out];rfl),nB⟩
   case neg=>
    have HQ:=Lib.hid (aew HP.out (a4q (at_:=at_) HX.out (by rw[hix];exact hneg)))
    clear hix
    go_wp2_with fail
    go_quiet (first|(go_at_call 57;exact Calls.quiet_of_same (HLB.out _)))
    go_wp2_with fail
    go_roundw
    case rel=>exact⟨k+1,by omega,by go_num,HQ,below_drewN hbr _⟩
    case measure=>simp[intOf];omega
  case neg=>
   have hkn:k=afw:=by omega
   subst hkn
   have HG2:Hid (R=aax (akf at_ hfs wfs) wfs.length):=by show _=_;rw[HG.out,← ak9.out,HP.out]
   clear HG al1 avv
   have z4r:wr.cell? ⟨w.heap.size+1,4,none⟩=some (.slice akh ae9 ag8):=bCr.cell 4
   go_wp2_with fail
   obtain⟨W,rfl⟩:∃ V,V=wr:=⟨_,rfl⟩
   clear z4r a3 z3 hsr hbr
   go_loopw [10] (fun i wr=>∃ m:Nat,m≤ae9∧i=.int .i64 m∧Hid (aax (akf at_ hfs wfs) m=none)∧Below W.heap.size W wr) (fun i _=>ae9 - (intOf i).toNat)
   case atStart=>exact⟨0,Nat.zero_le _,rfl,Lib.hid rfl,Below.refl _ _⟩
   case round=>
    obtain⟨m,hm9,rfl,HP2,hbs⟩:=hrel
    have hBs:=hBr.trans (hbs.mono hBr.size)
    have hss:=hbs.size
    have bRs:=bRr.step hbs
    have bAs:=bAr.step hbs
    have bCs:=bCr.step hbs
    clear bAr bCr bRr
    have z4:wr.cell? ⟨w.heap.size+1,4,none⟩=some (.slice akh ae9 ag8):=bCs.cell 4
    by_cases hlt2:m < ae9
    case neg=>
     have hmn:m=ae9:=by omega
     have HF:Hid (R=none):=by show _=_;rw[HG2.out,← akc.out,← hmn,HP2.out]
     subst hmn
     obtain⟨r0,r1,f0,f1⟩:=zr bRs
     go_wp2_with fail
     obtain⟨n0,n1,nB⟩:=abf bRs hBs (by omega) (0) (⟨#[]⟩)
     exact bodyPost_ret (v:=.tuple #[.agg #[.int .i64 0,.string {data:=#[]}],.bool false]) (by simp[results,Tryz.results28,go_sem,n0,n1]) rfl ⟨um (by rw[HF.out];rfl) (by rw[HF.out];rfl) (by rw[HF.out];rfl),nB⟩
    obtain⟨g,off,rfl,hg2,hcell2⟩:=ayj (by omega)
    obtain⟨t2,hx2,ac5⟩:=vw akc.out hlt2
    obtain⟨name2,⟨ab7,⟨l7,l9,zi,aai⟩,xg⟩⟩:=t2
    have afa:wr.cell? ⟨g,off+m * 7,none⟩=some (.string name2):=gq hBs (by omega) (hcell2 m 0 _ _ hx2 (by rw[Fun.ay];rfl))
    obtain⟨aow,akb,ae8⟩:∃ u,wr.cell? ⟨g,off+m * 7+1,none⟩=some u∧Rep wr B (.row 5 (ab7.flatMap Param.pd)) u:=jy hBs (by omega) hB (hcell2 m 1 _ _ hx2 (by rw[Fun.ay];rfl))
    have afs:=Lib.hid ae8
    clear ae8
    have ahg:wr.cell? ⟨g,off+m * 7+2,none⟩=some (.int .i64 l7):=gq hBs (by omega) (hcell2 m 2 _ _ hx2 (by rw[Fun.ay];rfl))
    have ahh:wr.cell? ⟨g,off+m * 7+3,none⟩=some (.string l9):=gq hBs (by omega) (hcell2 m 3 _ _ hx2 (by rw[Fun.ay];rfl))
    obtain⟨akg,agv,ac6⟩:∃ u,wr.cell? ⟨g,off+m * 7+4,none⟩=some u∧Rep wr B (.row 1 (zi.flatMap tq)) u:=jy hBs (by omega) hB (hcell2 m 4 _ _ hx2 (by rw[Fun.ay];rfl))
    have adu:=Lib.hid ac6
    clear ac6
    obtain⟨ale,ahi,ady⟩:∃ u,wr.cell? ⟨g,off+m * 7+5,none⟩=some u∧Rep wr B (.row 4 (aai.flatMap Ty.pd)) u:=jy hBs (by omega) hB (hcell2 m 5 _ _ hx2 (by rw[Fun.ay];rfl))
    have ad5:=Lib.hid ady
    clear ady
    have ako:wr.cell? ⟨g,off+m * 7+6,none⟩=some (.bool xg):=gq hBs (by omega) (hcell2 m 6 _ _ hx2 (by rw[Fun.ay];rfl))
    obtain⟨aaz,aa0,aa1,rfl⟩:=afs.out.form
    obtain⟨uo,uq,uw,rfl⟩:=adu.out.form
    obtain⟨yj,yt,yu,rfl⟩:=ad5.out.form
    have HX2:=Lib.hid hx2
    have HM2:=Lib.hid ac5
    clear hx2 ac5
    clear hcell2
    have hxo:=HWO.out.fs _ HM2.out
    have l_n2:name2.size≤12:=hxo.1
    have OX:=Lib.hid (asu hxo.2)
    clear hxo
    have y_q1:(9223372036854775807 < at_.size+(⟨#[46]⟩:ByteArray).size)=False:=eq_false (by have z_:(⟨#[46]⟩:ByteArray).size=1:=rfl;omega)
    have x_q1:(9223372036854775807 < at_.size+1)=False:=eq_false (by omega)
    obtain⟨q1,ao1⟩:∃ p,at_ ++(⟨#[46]⟩:ByteArray)=p:=⟨_,rfl⟩
    have l_q1:q1.size≤26:=by rw[← ao1,ByteArray.size_append];have z_:(⟨#[46]⟩:ByteArray).size=1:=rfl;omega
    have y_q2:(9223372036854775807 < q1.size+name2.size)=False:=eq_false (by omega)
    obtain⟨q2,ao2⟩:∃ p,q1 ++name2=p:=⟨_,rfl⟩
    have l_q2:q2.size≤38:=by rw[← ao2,ByteArray.size_append];omega
    have HQ2:Hid (ait at_ name2=q2):=by show _=_;rw[← ao2,← ao1];rfl
    have hm0:(0:Int)≤(m:Int):=by omega
    have hmi:(m:Int) < (ae9:Int):=by omega
    have amx:Hid (∀ V,Keep wr.heap.size (wr.heap.size+1) wr V→V.cell? ⟨w.heap.size,0,none⟩=some (.string hpk)∧V.cell? ⟨w.heap.size,1,none⟩=some (.string hnm)∧V.cell? ⟨w.heap.size,2,none⟩=some (.string ag7)∧V.cell? ⟨w.heap.size,3,none⟩=some (.slice ahb ahc ahd)∧V.cell? ⟨w.heap.size,4,none⟩=some (.slice aj0 aj1 aj2)∧V.cell? ⟨w.heap.size+1,4,none⟩=some (.slice (some ⟨g,off,none⟩) ae9 ag8)∧V.cell? ⟨g,off+m * 7,none⟩=some (.string name2)):=Lib.hid fun V hV=>⟨(hV.cell (p:=⟨w.heap.size,0,none⟩) (by have:=bRs.lt;simp only;omega) (.inl (by have:=bRs.lt;simp only;omega))).trans (bAs.cell 0),(hV.cell (p:=⟨w.heap.size,1,none⟩) (by have:=bRs.lt;simp only;omega) (.inl (by have:=bRs.lt;simp only;omega))).trans (bAs.cell 1),(hV.cell (p:=⟨w.heap.size,2,none⟩) (by have:=bRs.lt;simp only;omega) (.inl (by have:=bRs.lt;simp only;omega))).trans (bAs.cell 2),(hV.cell (p:=⟨w.heap.size,3,none⟩) (by have:=bRs.lt;simp only;omega) (.inl (by have:=bRs.lt;simp only;omega))).trans (bAs.cell 3),(hV.cell (p:=⟨w.heap.size,4,none⟩) (by have:=bRs.lt;simp only;omega) (.inl (by have:=bRs.lt;simp only;omega))).trans (bAs.cell 4),(hV.cell (p:=⟨w.heap.size+1,4,none⟩) (by have:=bRs.lt;simp only;omega) (.inl (by have:=bRs.lt;simp only;omega))).trans (bCs.cell 4),(hV.cell (p:=⟨g,off+m * 7,none⟩) (by have:=bRs.lt;simp only;omega) (.inl (by have:=bRs.lt;simp only;omega))).trans afa⟩
    have HFN:=Lib.hid (fun(V:World) (hV:Below wr.heap.size wr V)=>HFI.out name2 V (Nat.le_trans hB (Nat.le_trans hBs.size hV.size)) _ (amu.out V (hBs.trans (hV.mono hBs.size))))
    have hdr:Below wr.heap.size wr wr.drew:=(Below.refl _ _).drew
    have hdz:Below wr.heap.size wr (wr.alloc (.cells #[.slice none 0 0,.int .i64 0,.string {data:=#[]},.slice none 0 0,.slice none 0 0,.bool false] 62)).drew:=((Below.refl _ _).alloc (Nat.le_refl _) _).drew
    have xA:Blk (wr.alloc (.cells #[.slice none 0 0,.int .i64 0,.string {data:=#[]},.slice none 0 0,.slice none 0 0,.bool false] 62)).drew wr.heap.size 62 #[.slice none 0 0,.int .i64 0,.string {data:=#[]},.slice none 0 0,.slice none 0 0,.bool false]:=Blk.new wr _ _
    by_cases hneg:ah5 hfs name2 < 0
    case pos=>
     have HF:Hid (R=some (9,q2)):=by show _=_;rw[HG2.out,adt HP2.out (a4r HX2.out hneg) _ (by have:=akc.out;omega)];simp only;rw[HQ2.out]
     have HNEG:=Lib.hid hneg
     clear hneg
     go_wp2_with fail
     refine wp_region_held_drew (S:=(fun w'=>w'.cell? ⟨w.heap.size,0,none⟩=some (.string hpk)∧w'.cell? ⟨w.heap.size,1,none⟩=some (.string hnm)∧w'.cell? ⟨w.heap.size,2,none⟩=some (.string ag7)∧w'.cell? ⟨w.heap.size,3,none⟩=some (.slice ahb ahc ahd)∧w'.cell? ⟨w.heap.size,4,none⟩=some (.slice aj0 aj1 aj2)∧w'.cell? ⟨w.heap.size+1,4,none⟩=some (.slice (some ⟨g,off,none⟩) ae9 ag8)∧w'.cell? ⟨g,off+m * 7,none⟩=some (.string name2))) (by kernel_rfl) (amx.out _ (Keep.refl _ _ _).drew) (fun hHeld=>?_)
     refine wpAnyH_take (i:=0) (oi:=_) (v:=_) (by simp only[List.getElem?_toArray,List.getElem?_cons_succ,List.getElem?_cons_zero];rfl) (by kernel_rfl) (by kernel_rfl) (by kernel_rfl) (by exact fun _ _ _ h=>h) (Or.inl ⟨by rfl,by intro w hSw;(try dsimp only at hSw);go_simp;try with_reducible rfl⟩) (by assumption) ?_
     try simp only[Act.put,List.setIfInBounds_toArray,List.set_cons_zero,List.set_cons_succ]
     refine wpAnyH_take (i:=1) (oi:=_) (v:=_) (by simp only[List.getElem?_toArray,List.getElem?_cons_succ,List.getElem?_cons_zero];rfl) (by kernel_rfl) (by kernel_rfl) (by kernel_rfl) (by exact fun _ _ _ h=>h) (Or.inl ⟨by rfl,by intro w hSw;(try dsimp only at hSw);go_simp;try with_reducible rfl⟩) (by assumption) ?_
     try simp only[Act.put,List.setIfInBounds_toArray,List.set_cons_zero,List.set_cons_succ]
     refine wpAnyH_take (i:=2) (oi:=_) (v:=_) (by simp only[List.getElem?_toArray,List.getElem?_cons_succ,List.getElem?_cons_zero];rfl) (by kernel_rfl) (by kernel_rfl) (by kernel_rfl) (by exact fun _ _ _ h=>h) (Or.inl ⟨by rfl,by intro w hSw;(try dsimp only at hSw);go_simp;try with_reducible rfl⟩) (by assumption) ?_
     try simp only[Act.put,List.setIfInBounds_toArray,List.set_cons_zero,List.set_cons_succ]
     refine wpAnyH_take (i:=3) (oi:=_) (v:=_) (by simp only[List.getElem?_toArray,List.getElem?_cons_succ,List.getElem?_cons_zero];rfl) (by kernel_rfl) (by kernel_rfl) (by kernel_rfl) (by exact fun _ _ _ h=>h) (Or.inl ⟨by rfl,by intro w hSw;(try dsimp only at hSw);go_simp;try with_reducible rfl⟩) (by assumption) ?_
     try simp only[Act.put,List.setIfInBounds_toArray,List.set_cons_zero,List.set_cons_succ]
     refine wpAnyH_take (i:=4) (oi:=_) (v:=_) (by simp only[List.getElem?_toArray,List.getElem?_cons_succ,List.getElem?_cons_zero];rfl) (by kernel_rfl) (by kernel_rfl) (by kernel_rfl) (by exact fun _ _ _ h=>h) (Or.inl ⟨by rfl,by intro w hSw;(try dsimp only at hSw);go_simp;try with_reducible rfl⟩) (by assumption) ?_
     try simp only[Act.put,List.setIfInBounds_toArray,List.set_cons_zero,List.set_cons_succ]
     refine wpAnyH_take (i:=5) (oi:=_) (v:=_) (by simp only[List.getElem?_toArray,List.getElem?_cons_succ,List.getElem?_cons_zero];rfl) (by kernel_rfl) (by kernel_rfl) (by kernel_rfl) (by exact fun _ _ _ h=>h) (Or.inl ⟨by rfl,by intro w hSw;(try dsimp only at hSw);go_simp;try with_reducible rfl⟩) (by assumption) ?_
     try simp only[Act.put,List.setIfInBounds_toArray,List.set_cons_zero,List.set_cons_succ]
     refine wpAnyH_take (i:=6) (oi:=_) (v:=_) (by simp only[List.getElem?_toArray,List.getElem?_cons_succ,List.getElem?_cons_zero];rfl) (by kernel_rfl) (by kernel_rfl) (by kernel_rfl) (by exact fun _ _ _ h=>h) (Or.inl ⟨by rfl,by intro w hSw;(try dsimp only at hSw);go_simp;try with_reducible rfl⟩) (by assumption) ?_
     try simp only[Act.put,List.setIfInBounds_toArray,List.set_cons_zero,List.set_cons_succ]
     refine wpAnyH_ready (rs:=[7,11]) (by kernel_rfl) (by simp) ?_
     refine AllReadyH.cons (o:=?o7_1) ?h7_1 (fun K hK=>?k7_1) (AllReadyH.cons (o:=?o11_1) ?h11_1 (fun K hK=>?k11_1) AllReadyH.nil)
     case h7_1=>
      simp only[List.getElem?_toArray,List.getElem?_cons_succ,List.getElem?_cons_zero];rfl
     case h11_1=>
      simp only[List.getElem?_toArray,List.getElem?_cons_succ,List.getElem?_cons_zero];rfl
     case k7_1=>
      go_simp
      go_at_call 58
      refine(HFN.out _ hdr).mono ?_
      rintro e wq ⟨hbq,hans⟩
      obtain⟨_,rfl⟩:=hans.resolve_right (fun⟨i,y,us,hh,_⟩=>by have h1:=HNEG.out;simp only at hh;omega)
      have hq1:=hdr.trans (hbq.mono hdr.size)
      have hk1:Keep wr.heap.size (wr.heap.size+1) wr wq:=Keep.of_below hq1
      refine hK.out _ _ (by first|exact(amx.out _ (by repeat(first|with_reducible exact hk1|with_reducible exact Keep.refl _ _ _|with_reducible refine Keep.drew ?_|with_reducible refine Keep.setAt ?_ _ _|with_reducible refine Keep.alloc ?_ _)))|go_keep) (fun hHeld=>?_)
      clear hK K
      try simp only[Act.put,List.setIfInBounds_toArray,List.set_cons_zero,List.set_cons_succ]
      refine wpAnyH_take (i:=8) (oi:=_) (v:=_) (by simp only[List.getElem?_toArray,List.getElem?_cons_succ,List.getElem?_cons_zero];rfl) (by kernel_rfl) (by kernel_rfl) (by kernel_rfl) (by exact fun _ _ _ h=>h) (Or.inl ⟨by rfl,by intro w hSw;(try dsimp only at hSw);go_simp;try with_reducible rfl⟩) (by assumption) ?_
      try simp only[Act.put,List.setIfInBounds_toArray,List.set_cons_zero,List.set_cons_succ]
      refine wpAnyH_take (i:=9) (oi:=_) (v:=_) (by simp only[List.getElem?_toArray,List.getElem?_cons_succ,List.getElem?_cons_zero];rfl) (by kernel_rfl) (by kernel_rfl) (by kernel_rfl) (by exact fun _ _ _ h=>h) (Or.inl ⟨by rfl,by intro w hSw;(try dsimp only at hSw);go_simp;try with_reducible rfl⟩) (by assumption) ?_
      try simp only[Act.put,List.setIfInBounds_toArray,List.set_cons_zero,List.set_cons_succ]
      refine wpAnyH_take (i:=10) (oi:=_) (v:=_) (by simp only[List.getElem?_toArray,List.getElem?_cons_succ,List.getElem?_cons_zero];rfl) (by kernel_rfl) (by kernel_rfl) (by kernel_rfl) (by exact fun _ _ _ h=>h) (Or.inl ⟨by rfl,by intro w hSw;(try dsimp only at hSw);go_simp;try with_reducible rfl⟩) (by assumption) ?_
      try simp only[Act.put,List.setIfInBounds_toArray,List.set_cons_zero,List.set_cons_succ]
      refine wpAnyH_ready (rs:=[11]) (by kernel_rfl) (by simp) ?_
      refine AllReadyH.cons (o:=?o2) ?h2 (fun K hK=>?k2) AllReadyH.nil
      case h2=>
       simp only[List.getElem?_toArray,List.getElem?_cons_succ,List.getElem?_cons_zero];rfl
      go_simp
      refine hK.out _ _ (by first|exact(amx.out _ (by repeat(first|with_reducible exact hk1|with_reducible exact Keep.refl _ _ _|with_reducible refine Keep.drew ?_|with_reducible refine Keep.setAt ?_ _ _|with_reducible refine Keep.alloc ?_ _)))|go_keep) (fun hHeld=>?_)
      clear hK K
      try simp only[Act.put,List.setIfInBounds_toArray,List.set_cons_zero,List.set_cons_succ]
      refine wpAnyH_ready (rs:=[12]) (by kernel_rfl) (by simp) ?_
      refine AllReadyH.cons (o:=?o3) ?h3 (fun K hK=>?k3) AllReadyH.nil
      case h3=>
       simp only[List.getElem?_toArray,List.getElem?_cons_succ,List.getElem?_cons_zero];rfl
      go_simp
      refine hK.out _ _ (by first|exact(amx.out _ (by repeat(first|with_reducible exact hk1|with_reducible exact Keep.refl _ _ _|with_reducible refine Keep.drew ?_|with_reducible refine Keep.setAt ?_ _ _|with_reducible refine Keep.alloc ?_ _)))|go_keep) (fun hHeld=>?_)
      clear hK K
      try simp only[Act.put,List.setIfInBounds_toArray,List.set_cons_zero,List.set_cons_succ]
      refine wpAnyH_take (i:=13) (oi:=_) (v:=_) (by simp only[List.getElem?_toArray,List.getElem?_cons_succ,List.getElem?_cons_zero];rfl) (by kernel_rfl) (by kernel_rfl) (by kernel_rfl) (by exact fun _ _ _ h=>h) (Or.inl ⟨by rfl,by intro w hSw;(try dsimp only at hSw);go_simp;try with_reducible rfl⟩) (by assumption) ?_
      try simp only[Act.put,List.setIfInBounds_toArray,List.set_cons_zero,List.set_cons_succ]
      refine wpAnyH_done (by kernel_rfl) ?_ _
      go_wp2_with fail
      obtain⟨w7,hw7⟩:∃ V,V=wq.alloc (.cells #[.slice none 0 0,.int .i64 0,.string {data:=#[]},.slice none 0 0,.slice none 0 0,.bool false] 62):=⟨_,rfl⟩
      rw[← hw7]
      obtain⟨wx,hwx⟩:∃ r,r=wq.heap.size:=⟨_,rfl⟩
      have b7:Blk w7 wx 62 #[.slice none 0 0,.int .i64 0,.string {data:=#[]},.slice none 0 0,.slice none 0 0,.bool false]:=by rw[hw7,hwx];exact Blk.new wq _ _
      have hb7:Below wr.heap.size wr w7:=by rw[hw7];exact hq1.alloc hq1.size _
      have hwx0:wr.heap.size≤wx:=by rw[hwx];exact hq1.size
      have hrq:Below wq.heap.size wq w7:=by rw[hw7];exact(Below.refl _ _).alloc (Nat.le_refl _) _
      rw[← hwx]
      clear hw7 hwx
      have hB7:=hBs.trans (hb7.mono hBs.size)
      have bR7:=bRs.step hb7
      have z47:w7.cell? ⟨w.heap.size+1,4,none⟩=some (.slice (some ⟨g,off,none⟩) ae9 ag8):=(bCs.step hb7).cell 4
      have c_x7:w7.cell? ⟨g,off+m * 7,none⟩=some (.string name2):=(hb7.cell (p:=⟨g,off+m * 7,none⟩) (by have:=hBs.size;simp only;omega)).trans afa
      try go_wp2_with fail
      refine(aej 9 q2 _).mono ?_
      rintro e wz ⟨rfl,hbz⟩
      have hBz:=hB7.trans (hbz.mono (by have:=hB7.size;omega))
      have bRz:=bR7.step hbz
      have hsz:=hbz.size
      obtain⟨r0,r1,f0,f1⟩:=zr bRz
      go_wp2_with fail
      obtain⟨n0,n1,nB⟩:=abf bRz hBz (by omega) (9) (q2)
      exact bodyPost_ret (v:=.tuple #[.agg #[.int .i64 9,.string q2],.bool true]) (by simp[results,Tryz.results28,go_sem,n0,n1]) rfl ⟨um (by rw[HF.out];rfl) (by rw[HF.out];rfl) (by rw[HF.out];rfl),nB⟩
     case k11_1=>
      go_simp
      refine hK.out _ _ (by first|exact(amx.out _ ((Keep.refl _ _ _).drew.alloc _))|go_keep) (fun hHeld=>?_)
      clear hK K
      try simp only[Act.put,List.setIfInBounds_toArray,List.set_cons_zero,List.set_cons_succ]
      refine wpAnyH_ready (rs:=[7]) (by kernel_rfl) (by simp) ?_
      refine AllReadyH.cons (o:=?o4) ?h4 (fun K hK=>?k4) AllReadyH.nil
      case h4=>
       simp only[List.getElem?_toArray,List.getElem?_cons_succ,List.getElem?_cons_zero];rfl
      go_simp
      go_at_call 58
      refine(HFN.out _ hdz).mono ?_
      rintro e wq ⟨hbq,hans⟩
      obtain⟨_,rfl⟩:=hans.resolve_right (fun⟨i,y,us,hh,_⟩=>by have h1:=HNEG.out;simp only at hh;omega)
      have hq1:=hdz.trans (hbq.mono hdz.size)
      have hk1:Keep wr.heap.size (wr.heap.size+1) wr wq:=Keep.of_below hq1
      have oA:=xA.step hbq
      have fA0:=oA.frozen 0
      have fA1:=oA.frozen 1
      have fA2:=oA.frozen 2
      have fA3:=oA.frozen 3
      have fA4:=oA.frozen 4
      have fA5:=oA.frozen 5
      have cA0:wq.cell? ⟨wr.heap.size,0,none⟩=some (.slice none 0 0):=oA.cell 0
      have cA1:wq.cell? ⟨wr.heap.size,1,none⟩=some (.int .i64 0):=oA.cell 1
      have cA2:wq.cell? ⟨wr.heap.size,2,none⟩=some (.string {data:=#[]}):=oA.cell 2
      have cA3:wq.cell? ⟨wr.heap.size,3,none⟩=some (.slice none 0 0):=oA.cell 3
      have cA4:wq.cell? ⟨wr.heap.size,4,none⟩=some (.slice none 0 0):=oA.cell 4
      have cA5:wq.cell? ⟨wr.heap.size,5,none⟩=some (.bool false):=oA.cell 5
      refine hK.out _ _ (by first|exact(amx.out _ (by repeat(first|with_reducible exact hk1|with_reducible exact Keep.refl _ _ _|with_reducible refine Keep.drew ?_|with_reducible refine Keep.setAt ?_ _ _|with_reducible refine Keep.alloc ?_ _)))|go_keep) (fun hHeld=>?_)
      clear hK K
      try simp only[Act.put,List.setIfInBounds_toArray,List.set_cons_zero,List.set_cons_succ]
      refine wpAnyH_take (i:=8) (oi:=_) (v:=_) (by simp only[List.getElem?_toArray,List.getElem?_cons_succ,List.getElem?_cons_zero];rfl) (by kernel_rfl) (by kernel_rfl) (by kernel_rfl) (by exact fun _ _ _ h=>h) (Or.inl ⟨by rfl,by intro w hSw;(try dsimp only at hSw);go_simp;try with_reducible rfl⟩) (by assumption) ?_
      try simp only[Act.put,List.setIfInBounds_toArray,List.set_cons_zero,List.set_cons_succ]
      refine wpAnyH_take (i:=9) (oi:=_) (v:=_) (by simp only[List.getElem?_toArray,List.getElem?_cons_succ,List.getElem?_cons_zero];rfl) (by kernel_rfl) (by kernel_rfl) (by kernel_rfl) (by exact fun _ _ _ h=>h) (Or.inl ⟨by rfl,by intro w hSw;(try dsimp only at hSw);go_simp;try with_reducible rfl⟩) (by assumption) ?_
      try simp only[Act.put,List.setIfInBounds_toArray,List.set_cons_zero,List.set_cons_succ]
      refine wpAnyH_take (i:=10) (oi:=_) (v:=_) (by simp only[List.getElem?_toArray,List.getElem?_cons_succ,List.getElem?_cons_zero];rfl) (by kernel_rfl) (by kernel_rfl) (by kernel_rfl) (by exact fun _ _ _ h=>h) (Or.inl ⟨by rfl,by intro w hSw;(try dsimp only at hSw);go_simp;try with_reducible rfl⟩) (by assumption) ?_
      try simp only[Act.put,List.setIfInBounds_toArray,List.set_cons_zero,List.set_cons_succ]
      refine wpAnyH_ready (rs:=[12]) (by kernel_rfl) (by simp) ?_
      refine AllReadyH.cons (o:=?o5) ?h5 (fun K hK=>?k5) AllReadyH.nil
      case h5=>
       simp only[List.getElem?_toArray,List.getElem?_cons_succ,List.getElem?_cons_zero];rfl
      go_simp
      refine hK.out _ _ (by first|exact(amx.out _ (by repeat(first|with_reducible exact hk1|with_reducible exact Keep.refl _ _ _|with_reducible refine Keep.drew ?_|with_reducible refine Keep.setAt ?_ _ _|with_reducible refine Keep.alloc ?_ _)))|go_keep) (fun hHeld=>?_)
      clear hK K
      try simp only[Act.put,List.setIfInBounds_toArray,List.set_cons_zero,List.set_cons_succ]
      refine wpAnyH_take (i:=13) (oi:=_) (v:=_) (by simp only[List.getElem?_toArray,List.getElem?_cons_succ,List.getElem?_cons_zero];rfl) (by kernel_rfl) (by kernel_rfl) (by kernel_rfl) (by exact fun _ _ _ h=>h) (Or.inl ⟨by rfl,by intro w hSw;(try dsimp only at hSw);go_simp;try with_reducible rfl⟩) (by assumption) ?_
      try simp only[Act.put,List.setIfInBounds_toArray,List.set_cons_zero,List.set_cons_succ]
      refine wpAnyH_done (by kernel_rfl) ?_ _
      go_wp2_with fail
      obtain⟨w7,hw7⟩:∃ V,V=((((((wq.setCell ⟨wr.heap.size,0,none⟩ (.slice none 0 0)).setCell ⟨wr.heap.size,1,none⟩ (.int .i64 0)).setCell ⟨wr.heap.size,2,none⟩ (.string {data:=#[]})).setCell ⟨wr.heap.size,3,none⟩ (.slice none 0 0)).setCell ⟨wr.heap.size,4,none⟩ (.slice none 0 0)).setCell ⟨wr.heap.size,5,none⟩ (.bool false)):=⟨_,rfl⟩
      rw[← hw7]
      obtain⟨wx,hwx⟩:∃ r,r=wr.heap.size:=⟨_,rfl⟩
      have b7:Blk w7 wx 62 #[.slice none 0 0,.int .i64 0,.string {data:=#[]},.slice none 0 0,.slice none 0 0,.bool false]:=by rw[hw7,hwx];have:=((((((oA.abo 0 (.slice none 0 0)).abo 1 (.int .i64 0)).abo 2 (.string {data:=#[]})).abo 3 (.slice none 0 0)).abo 4 (.slice none 0 0)).abo 5 (.bool false));simpa using this
      have hb7:Below wr.heap.size wr w7:=by rw[hw7];(iterate 6 (refine Below.setCell ?_ (by simp) _));exact hq1
      have hwx0:wr.heap.size≤wx:=by rw[hwx];exact Nat.le_refl _
      rw[← hwx]
      clear hwx
      have hB7:=hBs.trans (hb7.mono hBs.size)
      have bR7:=bRs.step hb7
      have z47:w7.cell? ⟨w.heap.size+1,4,none⟩=some (.slice (some ⟨g,off,none⟩) ae9 ag8):=(bCs.step hb7).cell 4
      have c_x7:w7.cell? ⟨g,off+m * 7,none⟩=some (.string name2):=(hb7.cell (p:=⟨g,off+m * 7,none⟩) (by have:=hBs.size;simp only;omega)).trans afa
      try go_wp2_with fail
      refine(aej 9 q2 _).mono ?_
      rintro e wz ⟨rfl,hbz⟩
      have hBz:=hB7.trans (hbz.mono (by have:=hB7.size;omega))
      have bRz:=bR7.step hbz
      have hsz:=hbz.size
      obtain⟨r0,r1,f0,f1⟩:=zr bRz
      go_wp2_with fail
      obtain⟨n0,n1,nB⟩:=abf bRz hBz (by omega) (9) (q2)
      exact bodyPost_ret (v:=.tuple #[.agg #[.int .i64 9,.string q2],.bool true]) (by simp[results,Tryz.results28,go_sem,n0,n1]) rfl ⟨um (by rw[HF.out];rfl) (by rw[HF.out];rfl) (by rw[HF.out];rfl),nB⟩
    case neg=>
     obtain⟨i,y,hfi,hfy⟩:=ayd hneg
     have OYB:=Lib.hid (HFO.out.fs _ (List.mem_of_getElem? hfy)).2
     have HFI2:=Lib.hid hfi
     have HFY:=Lib.hid hfy
     obtain⟨yn,⟨up,⟨uk,un,ul,ukk⟩,ua⟩⟩:=y
     clear hfi hfy hneg
     go_wp2_with fail
     refine wp_region_held_drew (S:=(fun w'=>w'.cell? ⟨w.heap.size,0,none⟩=some (.string hpk)∧w'.cell? ⟨w.heap.size,1,none⟩=some (.string hnm)∧w'.cell? ⟨w.heap.size,2,none⟩=some (.string ag7)∧w'.cell? ⟨w.heap.size,3,none⟩=some (.slice ahb ahc ahd)∧w'.cell? ⟨w.heap.size,4,none⟩=some (.slice aj0 aj1 aj2)∧w'.cell? ⟨w.heap.size+1,4,none⟩=some (.slice (some ⟨g,off,none⟩) ae9 ag8)∧w'.cell? ⟨g,off+m * 7,none⟩=some (.string name2))) (by kernel_rfl) (amx.out _ (Keep.refl _ _ _).drew) (fun hHeld=>?_)
     refine wpAnyH_take (i:=0) (oi:=_) (v:=_) (by simp only[List.getElem?_toArray,List.getElem?_cons_succ,List.getElem?_cons_zero];rfl) (by kernel_rfl) (by kernel_rfl) (by kernel_rfl) (by exact fun _ _ _ h=>h) (Or.inl ⟨by rfl,by intro w hSw;(try dsimp only at hSw);go_simp;try with_reducible rfl⟩) (by assumption) ?_
     try simp only[Act.put,List.setIfInBounds_toArray,List.set_cons_zero,List.set_cons_succ]
     refine wpAnyH_take (i:=1) (oi:=_) (v:=_) (by simp only[List.getElem?_toArray,List.getElem?_cons_succ,List.getElem?_cons_zero];rfl) (by kernel_rfl) (by kernel_rfl) (by kernel_rfl) (by exact fun _ _ _ h=>h) (Or.inl ⟨by rfl,by intro w hSw;(try dsimp only at hSw);go_simp;try with_reducible rfl⟩) (by assumption) ?_
     try simp only[Act.put,List.setIfInBounds_toArray,List.set_cons_zero,List.set_cons_succ]
     refine wpAnyH_take (i:=2) (oi:=_) (v:=_) (by simp only[List.getElem?_toArray,List.getElem?_cons_succ,List.getElem?_cons_zero];rfl) (by kernel_rfl) (by kernel_rfl) (by kernel_rfl) (by exact fun _ _ _ h=>h) (Or.inl ⟨by rfl,by intro w hSw;(try dsimp only at hSw);go_simp;try with_reducible rfl⟩) (by assumption) ?_
     try simp only[Act.put,List.setIfInBounds_toArray,List.set_cons_zero,List.set_cons_succ]
     refine wpAnyH_take (i:=3) (oi:=_) (v:=_) (by simp only[List.getElem?_toArray,List.getElem?_cons_succ,List.getElem?_cons_zero];rfl) (by kernel_rfl) (by kernel_rfl) (by kernel_rfl) (by exact fun _ _ _ h=>h) (Or.inl ⟨by rfl,by intro w hSw;(try dsimp only at hSw);go_simp;try with_reducible rfl⟩) (by assumption) ?_
     try simp only[Act.put,List.setIfInBounds_toArray,List.set_cons_zero,List.set_cons_succ]
     refine wpAnyH_take (i:=4) (oi:=_) (v:=_) (by simp only[List.getElem?_toArray,List.getElem?_cons_succ,List.getElem?_cons_zero];rfl) (by kernel_rfl) (by kernel_rfl) (by kernel_rfl) (by exact fun _ _ _ h=>h) (Or.inl ⟨by rfl,by intro w hSw;(try dsimp only at hSw);go_simp;try with_reducible rfl⟩) (by assumption) ?_
     try simp only[Act.put,List.setIfInBounds_toArray,List.set_cons_zero,List.set_cons_succ]
     refine wpAnyH_take (i:=5) (oi:=_) (v:=_) (by simp only[List.getElem?_toArray,List.getElem?_cons_succ,List.getElem?_cons_zero];rfl) (by kernel_rfl) (by kernel_rfl) (by kernel_rfl) (by exact fun _ _ _ h=>h) (Or.inl ⟨by rfl,by intro w hSw;(try dsimp only at hSw);go_simp;try with_reducible rfl⟩) (by assumption) ?_
     try simp only[Act.put,List.setIfInBounds_toArray,List.set_cons_zero,List.set_cons_succ]
     refine wpAnyH_take (i:=6) (oi:=_) (v:=_) (by simp only[List.getElem?_toArray,List.getElem?_cons_succ,List.getElem?_cons_zero];rfl) (by kernel_rfl) (by kernel_rfl) (by kernel_rfl) (by exact fun _ _ _ h=>h) (Or.inl ⟨by rfl,by intro w hSw;(try dsimp only at hSw);go_simp;try with_reducible rfl⟩) (by assumption) ?_
     try simp only[Act.put,List.setIfInBounds_toArray,List.set_cons_zero,List.set_cons_succ]
     refine wpAnyH_ready (rs:=[7,11]) (by kernel_rfl) (by simp) ?_
     refine AllReadyH.cons (o:=?o7_6) ?h7_6 (fun K hK=>?k7_6) (AllReadyH.cons (o:=?o11_6) ?h11_6 (fun K hK=>?k11_6) AllReadyH.nil)
     case h7_6=>
      simp only[List.getElem?_toArray,List.getElem?_cons_succ,List.getElem?_cons_zero];rfl
     case h11_6=>
      simp only[List.getElem?_toArray,List.getElem?_cons_succ,List.getElem?_cons_zero];rfl
     case k7_6=>
      go_simp
      go_at_call 58
      refine(HFN.out _ hdr).mono ?_
      rintro e wq ⟨hbq,hans⟩
      obtain⟨i2,y2,us,hh1,hh2,rfl,hrep⟩:=hans.resolve_left (fun hh=>by have h1:=HFI2.out;have h2:=hh.1;simp only at h2;omega)
      simp only at hh1 hh2
      obtain rfl:i2=i:=by have:=HFI2.out;omega
      obtain rfl:=Option.some.inj (HFY.out.symm.trans hh2)
      obtain⟨uA,uN,uC,ulA,ulN,ulC,ukA,ukN,ukC,rfl⟩:=jh.af7 hrep
      have HRU:=Lib.hid hrep
      clear hh1 hh2 hrep
      have hq1:=hdr.trans (hbq.mono hdr.size)
      have hk1:Keep wr.heap.size (wr.heap.size+1) wr wq:=Keep.of_below hq1
      refine hK.out _ _ (by first|exact(amx.out _ (by repeat(first|with_reducible exact hk1|with_reducible exact Keep.refl _ _ _|with_reducible refine Keep.drew ?_|with_reducible refine Keep.setAt ?_ _ _|with_reducible refine Keep.alloc ?_ _)))|go_keep) (fun hHeld=>?_)
      clear hK K
      try simp only[Act.put,List.setIfInBounds_toArray,List.set_cons_zero,List.set_cons_succ]
      refine wpAnyH_take (i:=8) (oi:=_) (v:=_) (by simp only[List.getElem?_toArray,List.getElem?_cons_succ,List.getElem?_cons_zero];rfl) (by kernel_rfl) (by kernel_rfl) (by kernel_rfl) (by exact fun _ _ _ h=>h) (Or.inl ⟨by rfl,by intro w hSw;(try dsimp only at hSw);go_simp;try with_reducible rfl⟩) (by assumption) ?_
      try simp only[Act.put,List.setIfInBounds_toArray,List.set_cons_zero,List.set_cons_succ]
      refine wpAnyH_take (i:=9) (oi:=_) (v:=_) (by simp only[List.getElem?_toArray,List.getElem?_cons_succ,List.getElem?_cons_zero];rfl) (by kernel_rfl) (by kernel_rfl) (by kernel_rfl) (by exact fun _ _ _ h=>h) (Or.inl ⟨by rfl,by intro w hSw;(try dsimp only at hSw);go_simp;try with_reducible rfl⟩) (by assumption) ?_
      try simp only[Act.put,List.setIfInBounds_toArray,List.set_cons_zero,List.set_cons_succ]
      refine wpAnyH_take (i:=10) (oi:=_) (v:=_) (by simp only[List.getElem?_toArray,List.getElem?_cons_succ,List.getElem?_cons_zero];rfl) (by kernel_rfl) (by kernel_rfl) (by kernel_rfl) (by exact fun _ _ _ h=>h) (Or.inl ⟨by rfl,by intro w hSw;(try dsimp only at hSw);go_simp;try with_reducible rfl⟩) (by assumption) ?_
      try simp only[Act.put,List.setIfInBounds_toArray,List.set_cons_zero,List.set_cons_succ]
      refine wpAnyH_ready (rs:=[11]) (by kernel_rfl) (by simp) ?_
      refine AllReadyH.cons (o:=?o7) ?h7 (fun K hK=>?k7) AllReadyH.nil
      case h7=>
       simp only[List.getElem?_toArray,List.getElem?_cons_succ,List.getElem?_cons_zero];rfl
      go_simp
      refine hK.out _ _ (by first|exact(amx.out _ (by repeat(first|with_reducible exact hk1|with_reducible exact Keep.refl _ _ _|with_reducible refine Keep.drew ?_|with_reducible refine Keep.setAt ?_ _ _|with_reducible refine Keep.alloc ?_ _)))|go_keep) (fun hHeld=>?_)
      clear hK K
      try simp only[Act.put,List.setIfInBounds_toArray,List.set_cons_zero,List.set_cons_succ]
      refine wpAnyH_ready (rs:=[12]) (by kernel_rfl) (by simp) ?_
      refine AllReadyH.cons (o:=?o8) ?h8 (fun K hK=>?k8) AllReadyH.nil
      case h8=>
       simp only[List.getElem?_toArray,List.getElem?_cons_succ,List.getElem?_cons_zero];rfl
      go_simp
      refine hK.out _ _ (by first|exact(amx.out _ (by repeat(first|with_reducible exact hk1|with_reducible exact Keep.refl _ _ _|with_reducible refine Keep.drew ?_|with_reducible refine Keep.setAt ?_ _ _|with_reducible refine Keep.alloc ?_ _)))|go_keep) (fun hHeld=>?_)
      clear hK K
      try simp only[Act.put,List.setIfInBounds_toArray,List.set_cons_zero,List.set_cons_succ]
      refine wpAnyH_take (i:=13) (oi:=_) (v:=_) (by simp only[List.getElem?_toArray,List.getElem?_cons_succ,List.getElem?_cons_zero];rfl) (by kernel_rfl) (by kernel_rfl) (by kernel_rfl) (by exact fun _ _ _ h=>h) (Or.inl ⟨by rfl,by intro w hSw;(try dsimp only at hSw);go_simp;try with_reducible rfl⟩) (by assumption) ?_
      try simp only[Act.put,List.setIfInBounds_toArray,List.set_cons_zero,List.set_cons_succ]
      refine wpAnyH_done (by kernel_rfl) ?_ _
      go_wp2_with fail
      obtain⟨w7,hw7⟩:∃ V,V=wq.alloc (.cells #[.slice uA uN uC,.int .i64 uk,.string un,.slice ulA ulN ulC,.slice ukA ukN ukC,.bool ua] 62):=⟨_,rfl⟩
      rw[← hw7]
      obtain⟨wx,hwx⟩:∃ r,r=wq.heap.size:=⟨_,rfl⟩
      have b7:Blk w7 wx 62 #[.slice uA uN uC,.int .i64 uk,.string un,.slice ulA ulN ulC,.slice ukA ukN ukC,.bool ua]:=by rw[hw7,hwx];exact Blk.new wq _ _
      have hb7:Below wr.heap.size wr w7:=by rw[hw7];exact hq1.alloc hq1.size _
      have hwx0:wr.heap.size≤wx:=by rw[hwx];exact hq1.size
      have hrq:Below wq.heap.size wq w7:=by rw[hw7];exact(Below.refl _ _).alloc (Nat.le_refl _) _
      rw[← hwx]
      clear hw7 hwx
      have hB7:=hBs.trans (hb7.mono hBs.size)
      have bR7:=bRs.step hb7
      have hs7:=hb7.size
      have bC7:=bCs.step hb7
      have hlx:=b7.lt
      have HL7:Hid (LvC w7 wr.drew.heap.size wq.heap.size (jh.pd ⟨up,⟨uk,un,ul,ukk⟩,ua⟩) [.slice uA uN uC,.int .i64 uk,.string un,.slice ulA ulN ulC,.slice ukA ukN ukC,.bool ua]):=HRU.out.step hrq
      have hlo9:Hid (w.heap.size+1+1+1≤wr.drew.heap.size):=by have:=bRs.lt;show _≤wr.heap.size;omega
      have HBX:Hid (ku w7 B (jh.pd ⟨ab7,⟨l7,l9,zi,aai⟩,xg⟩) [.slice aaz aa0 aa1,.int .i64 l7,.string l9,.slice uo uq uw,.slice yj yt yu,.bool xg]):=jh.close_ (afs.out.below (hb7.mono (Nat.le_trans hB hBs.size))) (adu.out.below (hb7.mono (Nat.le_trans hB hBs.size))) (ad5.out.below (hb7.mono (Nat.le_trans hB hBs.size)))
      have hRB:=bR7.lt
      have hRB9:=bRs.lt
      obtain⟨R2,hR2⟩:∃ r,ajs (agf 4) ⟨up,⟨uk,un,ul,ukk⟩,ua⟩ ⟨ab7,⟨l7,l9,zi,aai⟩,xg⟩ q2=r:=⟨_,rfl⟩
      have HC:=fun(V:World) (hV:Keep (w.heap.size+1+1) (w.heap.size+1+1+1) w7 V)=>ar6 ⟨up,⟨uk,un,ul,ukk⟩,ua⟩ ⟨ab7,⟨l7,l9,zi,aai⟩,xg⟩ q2 V.heap.size [.slice uA uN uC,.int .i64 uk,.string un,.slice ulA ulN ulC,.slice ukA ukN ukC,.bool ua] [.slice aaz aa0 aa1,.int .i64 l7,.string l9,.slice uo uq uw,.slice yj yt yu,.bool xg] V (Nat.le_refl _) (hT.below (hB7.trans (kb hV (by omega)))) (asu OYB.out) OX.out (by omega) ((HL7.out.kept hV (.inr hlo9.out)).is) ((HBX.out.below (kb hV (by omega))).more (Nat.le_trans (Nat.le_trans hB hB7.size) hV.size))
      unfold WQ at HC
      rw[hR2] at HC
      obtain⟨RK,RS,RN,HRK,HRS,HRN⟩:=agi R2
      rw[HRK.out,HRS.out,HRN.out] at HC
      replace HC:=Lib.hid HC
      have HK2:Hid (akf at_ hfs wfs m=R2):=by show _=_;rw[aya HX2.out HFI2.out HFY.out];simp only;rw[HQ2.out,hR2]
      clear hR2
      have HS:Hid (∀ V,Keep (w.heap.size+1+1) (w.heap.size+1+1+1) w7 V→V.cell? ⟨wx,0,none⟩=some (.slice uA uN uC)∧V.cell? ⟨wx,1,none⟩=some (.int .i64 uk)∧V.cell? ⟨wx,2,none⟩=some (.string un)∧V.cell? ⟨wx,3,none⟩=some (.slice ulA ulN ulC)∧V.cell? ⟨wx,4,none⟩=some (.slice ukA ukN ukC)∧V.cell? ⟨wx,5,none⟩=some (.bool ua)∧V.cell? ⟨w.heap.size+1,4,none⟩=some (.slice (some ⟨g,off,none⟩) ae9 ag8)∧V.cell? ⟨g,off+m * 7,none⟩=some (.string name2)∧V.cell? ⟨g,off+m * 7+1,none⟩=some (.slice aaz aa0 aa1)∧V.cell? ⟨g,off+m * 7+2,none⟩=some (.int .i64 l7)∧V.cell? ⟨g,off+m * 7+3,none⟩=some (.string l9)∧V.cell? ⟨g,off+m * 7+4,none⟩=some (.slice uo uq uw)∧V.cell? ⟨g,off+m * 7+5,none⟩=some (.slice yj yt yu)∧V.cell? ⟨g,off+m * 7+6,none⟩=some (.bool xg)):=Lib.hid fun V hV=>⟨(hV.cell (p:=⟨wx,0,none⟩) (by simp only;omega) (by simp only;omega)).trans (b7.cell 0),(hV.cell (p:=⟨wx,1,none⟩) (by simp only;omega) (by simp only;omega)).trans (b7.cell 1),(hV.cell (p:=⟨wx,2,none⟩) (by simp only;omega) (by simp only;omega)).trans (b7.cell 2),(hV.cell (p:=⟨wx,3,none⟩) (by simp only;omega) (by simp only;omega)).trans (b7.cell 3),(hV.cell (p:=⟨wx,4,none⟩) (by simp only;omega) (by simp only;omega)).trans (b7.cell 4),(hV.cell (p:=⟨wx,5,none⟩) (by simp only;omega) (by simp only;omega)).trans (b7.cell 5),(hV.cell (p:=⟨w.heap.size+1,4,none⟩) (by simp only;omega) (by simp only;omega)).trans (bC7.cell 4),(hV.cell (p:=⟨g,off+m * 7,none⟩) (by simp only;omega) (by simp only;omega)).trans ((hb7.cell (p:=⟨g,off+m * 7,none⟩) (by have:=hBs.size;simp only;omega)).trans afa),(hV.cell (p:=⟨g,off+m * 7+1,none⟩) (by simp only;omega) (by simp only;omega)).trans ((hb7.cell (p:=⟨g,off+m * 7+1,none⟩) (by have:=hBs.size;simp only;omega)).trans akb),(hV.cell (p:=⟨g,off+m * 7+2,none⟩) (by simp only;omega) (by simp only;omega)).trans ((hb7.cell (p:=⟨g,off+m * 7+2,none⟩) (by have:=hBs.size;simp only;omega)).trans ahg),(hV.cell (p:=⟨g,off+m * 7+3,none⟩) (by simp only;omega) (by simp only;omega)).trans ((hb7.cell (p:=⟨g,off+m * 7+3,none⟩) (by have:=hBs.size;simp only;omega)).trans ahh),(hV.cell (p:=⟨g,off+m * 7+4,none⟩) (by simp only;omega) (by simp only;omega)).trans ((hb7.cell (p:=⟨g,off+m * 7+4,none⟩) (by have:=hBs.size;simp only;omega)).trans agv),(hV.cell (p:=⟨g,off+m * 7+5,none⟩) (by simp only;omega) (by simp only;omega)).trans ((hb7.cell (p:=⟨g,off+m * 7+5,none⟩) (by have:=hBs.size;simp only;omega)).trans ahi),(hV.cell (p:=⟨g,off+m * 7+6,none⟩) (by simp only;omega) (by simp only;omega)).trans ((hb7.cell (p:=⟨g,off+m * 7+6,none⟩) (by have:=hBs.size;simp only;omega)).trans ako)⟩
      go_wp2_with fail
      go_region_held3 (fun w'=>w'.cell? ⟨wx,0,none⟩=some (.slice uA uN uC)∧w'.cell? ⟨wx,1,none⟩=some (.int .i64 uk)∧w'.cell? ⟨wx,2,none⟩=some (.string un)∧w'.cell? ⟨wx,3,none⟩=some (.slice ulA ulN ulC)∧w'.cell? ⟨wx,4,none⟩=some (.slice ukA ukN ukC)∧w'.cell? ⟨wx,5,none⟩=some (.bool ua)∧w'.cell? ⟨w.heap.size+1,4,none⟩=some (.slice (some ⟨g,off,none⟩) ae9 ag8)∧w'.cell? ⟨g,off+m * 7,none⟩=some (.string name2)∧w'.cell? ⟨g,off+m * 7+1,none⟩=some (.slice aaz aa0 aa1)∧w'.cell? ⟨g,off+m * 7+2,none⟩=some (.int .i64 l7)∧w'.cell? ⟨g,off+m * 7+3,none⟩=some (.string l9)∧w'.cell? ⟨g,off+m * 7+4,none⟩=some (.slice uo uq uw)∧w'.cell? ⟨g,off+m * 7+5,none⟩=some (.slice yj yt yu)∧w'.cell? ⟨g,off+m * 7+6,none⟩=some (.bool xg))
       (first|exact HS.out _ (by repeat(first|exact hq1|exact hq2|exact Keep.refl _ _ _|refine Keep.drew ?_|refine Keep.alloc ?_ _|refine Keep.setAt ?_ _ _|refine Keep.newAt ?_ (Nat.le_refl _) _ _|refine Keep.newAt ?_ aah.size _ _|refine Keep.newAt ?_ hbW.size _ _)))
       (first|(go_at_call 46;refine(HC.out _ (by repeat(first|exact hq1|exact hq2|exact Keep.refl _ _ _|refine Keep.drew ?_|refine Keep.alloc ?_ _|refine Keep.setAt ?_ _ _|refine Keep.newAt ?_ (Nat.le_refl _) _ _|refine Keep.newAt ?_ aah.size _ _|refine Keep.newAt ?_ hbW.size _ _))).mono ?_;rintro e wq ⟨rfl,hbq⟩;have hbW:Below w7.heap.size w7 wq:=(by first|exact(Below.refl _ _).drew.trans hbq|exact((Below.refl _ _).drew.alloc (Nat.le_refl _) _).trans (hbq.mono (by simp)));have hq2:Keep (w.heap.size+1+1) (w.heap.size+1+1+1) w7 wq:=Keep.of_below hbW;(first|(have bP:Blk wq w7.heap.size 34 #[.int .i64 0,.string {data:=#[]}]:=(Blk.new w7.drew _ _).step hbq;have p0:wq.cell? ⟨w7.heap.size,0,none⟩=some (.int .i64 0):=bP.cell 0;have p1:wq.cell? ⟨w7.heap.size,1,none⟩=some (.string {data:=#[]}):=bP.cell 1;have g0:wq.frozen? ⟨w7.heap.size,0,none⟩=false:=bP.frozen 0;have g1:wq.frozen? ⟨w7.heap.size,1,none⟩=false:=bP.frozen 1)|skip)))
      all_goals
       first
        | (obtain⟨w6,hw6⟩:∃ V,V=wq.alloc (.cells #[.int .i64 RK,.string RS] 34):=⟨_,rfl⟩;rw[← hw6];have bX:Blk w6 wq.heap.size 34 #[.int .i64 RK,.string RS]:=(by rw[hw6];exact Blk.new wq _ _);have hb6:Below w7.heap.size w7 w6:=(by rw[hw6];exact hbW.alloc hbW.size _);obtain⟨rx,hrx⟩:∃ r,r=wq.heap.size:=⟨_,rfl⟩;have ahz:w7.heap.size≤rx:=(by rw[hrx];exact hbW.size);rw[← hrx] at bX ⊢;clear hw6 hrx)
        | (obtain⟨w6,hw6⟩:∃ V,V=(wq.setCell ⟨w7.heap.size,0,none⟩ (.int .i64 RK)).setCell ⟨w7.heap.size,1,none⟩ (.string RS):=⟨_,rfl⟩;rw[← hw6];have bX:Blk w6 (w7.heap.size) 34 #[.int .i64 RK,.string RS]:=(by rw[hw6];have:=(bP.abo 0 (.int .i64 RK)).abo 1 (.string RS);simpa using this);have hb6:Below w7.heap.size w7 w6:=(by rw[hw6];exact(hbW.setCell (p:=⟨w7.heap.size,0,none⟩) (by first|exact Nat.le_refl _|exact aah.size|exact hbW.size) _).setCell (p:=⟨w7.heap.size,1,none⟩) (by first|exact Nat.le_refl _|exact aah.size|exact hbW.size) _);obtain⟨rx,hrx⟩:∃ r,r=w7.heap.size:=⟨_,rfl⟩;have ahz:w7.heap.size≤rx:=(by rw[hrx];first|exact Nat.le_refl _|exact hbW.size|exact aah.size);rw[← hrx] at bX ⊢;clear hw6 hrx)
       have hB6:=hB7.trans (hb6.mono (by omega))
       have bR6:=bR7.step hb6
       have hs6:=hb6.size
       cases RN
       case false=>
        have HQ:Hid (aax (akf at_ hfs wfs) (m+1)=none):=by show _=_;exact aew HP2.out (by rw[HK2.out];exact ags HRN.out)
        go_wp2_with fail
        go_roundw
        case rel=>exact⟨m+1,by omega,by go_num,HQ,(hbs.trans (hb7.mono hss)).trans (hb6.mono (by omega))⟩
        case measure=>simp[intOf];omega
       case true=>
        have HF:Hid (R=some (RK,RS)):=by show _=_;rw[HG2.out,← HRK.out,← HRS.out];exact adt HP2.out (by rw[HK2.out];exact agt HRN.out) _ (by have:=akc.out;omega)
        obtain⟨q0,q1⟩:=rq bX
        obtain⟨r0,r1,f0,f1⟩:=zr bR6
        go_wp2_with fail
        obtain⟨n0,n1,nB⟩:=abf bR6 hB6 (by omega) (RK) (RS)
        exact bodyPost_ret (v:=.tuple #[.agg #[.int .i64 RK,.string RS],.bool true]) (by simp[results,Tryz.results28,go_sem,n0,n1]) rfl ⟨um (by rw[HF.out];rfl) (by rw[HF.out];rfl) (by rw[HF.out];rfl),nB⟩
     case k11_6=>
      go_simp
      refine hK.out _ _ (by first|exact(amx.out _ ((Keep.refl _ _ _).drew.alloc _))|go_keep) (fun hHeld=>?_)
      clear hK K
      try simp only[Act.put,List.setIfInBounds_toArray,List.set_cons_zero,List.set_cons_succ]
      refine wpAnyH_ready (rs:=[7]) (by kernel_rfl) (by simp) ?_
      refine AllReadyH.cons (o:=?o9) ?h9 (fun K hK=>?k9) AllReadyH.nil
      case h9=>
       simp only[List.getElem?_toArray,List.getElem?_cons_succ,List.getElem?_cons_zero];rfl
      go_simp
      go_at_call 58
      refine(HFN.out _ hdz).mono ?_
      rintro e wq ⟨hbq,hans⟩
      obtain⟨i2,y2,us,hh1,hh2,rfl,hrep⟩:=hans.resolve_left (fun hh=>by have h1:=HFI2.out;have h2:=hh.1;simp only at h2;omega)
      simp only at hh1 hh2
      obtain rfl:i2=i:=by have:=HFI2.out;omega
      obtain rfl:=Option.some.inj (HFY.out.symm.trans hh2)
      obtain⟨uA,uN,uC,ulA,ulN,ulC,ukA,ukN,ukC,rfl⟩:=jh.af7 hrep
      have HRU:=Lib.hid hrep
      clear hh1 hh2 hrep
      have hq1:=hdz.trans (hbq.mono hdz.size)
      have hk1:Keep wr.heap.size (wr.heap.size+1) wr wq:=Keep.of_below hq1
      have oA:=xA.step hbq
      have fA0:=oA.frozen 0
      have fA1:=oA.frozen 1
      have fA2:=oA.frozen 2
      have fA3:=oA.frozen 3
      have fA4:=oA.frozen 4
      have fA5:=oA.frozen 5
      have cA0:wq.cell? ⟨wr.heap.size,0,none⟩=some (.slice none 0 0):=oA.cell 0
      have cA1:wq.cell? ⟨wr.heap.size,1,none⟩=some (.int .i64 0):=oA.cell 1
      have cA2:wq.cell? ⟨wr.heap.size,2,none⟩=some (.string {data:=#[]}):=oA.cell 2
      have cA3:wq.cell? ⟨wr.heap.size,3,none⟩=some (.slice none 0 0):=oA.cell 3
      have cA4:wq.cell? ⟨wr.heap.size,4,none⟩=some (.slice none 0 0):=oA.cell 4
      have cA5:wq.cell? ⟨wr.heap.size,5,none⟩=some (.bool false):=oA.cell 5
      refine hK.out _ _ (by first|exact(amx.out _ (by repeat(first|with_reducible exact hk1|with_reducible exact Keep.refl _ _ _|with_reducible refine Keep.drew ?_|with_reducible refine Keep.setAt ?_ _ _|with_reducible refine Keep.alloc ?_ _)))|go_keep) (fun hHeld=>?_)
      clear hK K
      try simp only[Act.put,List.setIfInBounds_toArray,List.set_cons_zero,List.set_cons_succ]
      refine wpAnyH_take (i:=8) (oi:=_) (v:=_) (by simp only[List.getElem?_toArray,List.getElem?_cons_succ,List.getElem?_cons_zero];rfl) (by kernel_rfl) (by kernel_rfl) (by kernel_rfl) (by exact fun _ _ _ h=>h) (Or.inl ⟨by rfl,by intro w hSw;(try dsimp only at hSw);go_simp;try with_reducible rfl⟩) (by assumption) ?_
      try simp only[Act.put,List.setIfInBounds_toArray,List.set_cons_zero,List.set_cons_succ]
      refine wpAnyH_take (i:=9) (oi:=_) (v:=_) (by simp only[List.getElem?_toArray,List.getElem?_cons_succ,List.getElem?_cons_zero];rfl) (by kernel_rfl) (by kernel_rfl) (by kernel_rfl) (by exact fun _ _ _ h=>h) (Or.inl ⟨by rfl,by intro w hSw;(try dsimp only at hSw);go_simp;try with_reducible rfl⟩) (by assumption) ?_
      try simp only[Act.put,List.setIfInBounds_toArray,List.set_cons_zero,List.set_cons_succ]
      refine wpAnyH_take (i:=10) (oi:=_) (v:=_) (by simp only[List.getElem?_toArray,List.getElem?_cons_succ,List.getElem?_cons_zero];rfl) (by kernel_rfl) (by kernel_rfl) (by kernel_rfl) (by exact fun _ _ _ h=>h) (Or.inl ⟨by rfl,by intro w hSw;(try dsimp only at hSw);go_simp;try with_reducible rfl⟩) (by assumption) ?_
      try simp only[Act.put,List.setIfInBounds_toArray,List.set_cons_zero,List.set_cons_succ]
      refine wpAnyH_ready (rs:=[12]) (by kernel_rfl) (by simp) ?_
      refine AllReadyH.cons (o:=?o10) ?h10 (fun K hK=>?k10) AllReadyH.nil
      case h10=>
       simp only[List.getElem?_toArray,List.getElem?_cons_succ,List.getElem?_cons_zero];rfl
      go_simp
      refine hK.out _ _ (by first|exact(amx.out _ (by repeat(first|with_reducible exact hk1|with_reducible exact Keep.refl _ _ _|with_reducible refine Keep.drew ?_|with_reducible refine Keep.setAt ?_ _ _|with_reducible refine Keep.alloc ?_ _)))|go_keep) (fun hHeld=>?_)
      clear hK K
      try simp only[Act.put,List.setIfInBounds_toArray,List.set_cons_zero,List.set_cons_succ]
      refine wpAnyH_take (i:=13) (oi:=_) (v:=_) (by simp only[List.getElem?_toArray,List.getElem?_cons_succ,List.getElem?_cons_zero];rfl) (by kernel_rfl) (by kernel_rfl) (by kernel_rfl) (by exact fun _ _ _ h=>h) (Or.inl ⟨by rfl,by intro w hSw;(try dsimp only at hSw);go_simp;try with_reducible rfl⟩) (by assumption) ?_
      try simp only[Act.put,List.setIfInBounds_toArray,List.set_cons_zero,List.set_cons_succ]
      refine wpAnyH_done (by kernel_rfl) ?_ _
      go_wp2_with fail
      obtain⟨w7,hw7⟩:∃ V,V=((((((wq.setCell ⟨wr.heap.size,0,none⟩ (.slice uA uN uC)).setCell ⟨wr.heap.size,1,none⟩ (.int .i64 uk)).setCell ⟨wr.heap.size,2,none⟩ (.string un)).setCell ⟨wr.heap.size,3,none⟩ (.slice ulA ulN ulC)).setCell ⟨wr.heap.size,4,none⟩ (.slice ukA ukN ukC)).setCell ⟨wr.heap.size,5,none⟩ (.bool ua)):=⟨_,rfl⟩
      rw[← hw7]
      obtain⟨wx,hwx⟩:∃ r,r=wr.heap.size:=⟨_,rfl⟩
      have b7:Blk w7 wx 62 #[.slice uA uN uC,.int .i64 uk,.string un,.slice ulA ulN ulC,.slice ukA ukN ukC,.bool ua]:=by rw[hw7,hwx];have:=((((((oA.abo 0 (.slice uA uN uC)).abo 1 (.int .i64 uk)).abo 2 (.string un)).abo 3 (.slice ulA ulN ulC)).abo 4 (.slice ukA ukN ukC)).abo 5 (.bool ua));simpa using this
      have hb7:Below wr.heap.size wr w7:=by rw[hw7];(iterate 6 (refine Below.setCell ?_ (by simp) _));exact hq1
      have hwx0:wr.heap.size≤wx:=by rw[hwx];exact Nat.le_refl _
      rw[← hwx]
      clear hwx
      have hB7:=hBs.trans (hb7.mono hBs.size)
      have bR7:=bRs.step hb7
      have hs7:=hb7.size
      have bC7:=bCs.step hb7
      have hlx:=b7.lt
      have HL7:Hid (LvC w7 (wr.alloc (.cells #[.slice none 0 0,.int .i64 0,.string {data:=#[]},.slice none 0 0,.slice none 0 0,.bool false] 62)).drew.heap.size wq.heap.size (jh.pd ⟨up,⟨uk,un,ul,ukk⟩,ua⟩) [.slice uA uN uC,.int .i64 uk,.string un,.slice ulA ulN ulC,.slice ukA ukN ukC,.bool ua]):=by
       show LvC _ _ _ _ _
       rw[hw7]
       (iterate 6 (refine LvC.setCell ?_ (.inl xA.lt) _))
       exact HRU.out
      have hlo9:Hid (w.heap.size+1+1+1≤(wr.alloc (.cells #[.slice none 0 0,.int .i64 0,.string {data:=#[]},.slice none 0 0,.slice none 0 0,.bool false] 62)).drew.heap.size):=by have:=bRs.lt;have:=xA.lt;show _≤_;omega
      clear hw7
      have HBX:Hid (ku w7 B (jh.pd ⟨ab7,⟨l7,l9,zi,aai⟩,xg⟩) [.slice aaz aa0 aa1,.int .i64 l7,.string l9,.slice uo uq uw,.slice yj yt yu,.bool xg]):=jh.close_ (afs.out.below (hb7.mono (Nat.le_trans hB hBs.size))) (adu.out.below (hb7.mono (Nat.le_trans hB hBs.size))) (ad5.out.below (hb7.mono (Nat.le_trans hB hBs.size)))
      have hRB:=bR7.lt
      have hRB9:=bRs.lt
      obtain⟨R2,hR2⟩:∃ r,ajs (agf 4) ⟨up,⟨uk,un,ul,ukk⟩,ua⟩ ⟨ab7,⟨l7,l9,zi,aai⟩,xg⟩ q2=r:=⟨_,rfl⟩
      have HC:=fun(V:World) (hV:Keep (w.heap.size+1+1) (w.heap.size+1+1+1) w7 V)=>ar6 ⟨up,⟨uk,un,ul,ukk⟩,ua⟩ ⟨ab7,⟨l7,l9,zi,aai⟩,xg⟩ q2 V.heap.size [.slice uA uN uC,.int .i64 uk,.string un,.slice ulA ulN ulC,.slice ukA ukN ukC,.bool ua] [.slice aaz aa0 aa1,.int .i64 l7,.string l9,.slice uo uq uw,.slice yj yt yu,.bool xg] V (Nat.le_refl _) (hT.below (hB7.trans (kb hV (by omega)))) (asu OYB.out) OX.out (by omega) ((HL7.out.kept hV (.inr hlo9.out)).is) ((HBX.out.below (kb hV (by omega))).more (Nat.le_trans (Nat.le_trans hB hB7.size) hV.size))
      unfold WQ at HC
      rw[hR2] at HC
      obtain⟨RK,RS,RN,HRK,HRS,HRN⟩:=agi R2
      rw[HRK.out,HRS.out,HRN.out] at HC
      replace HC:=Lib.hid HC
      have HK2:Hid (akf at_ hfs wfs m=R2):=by show _=_;rw[aya HX2.out HFI2.out HFY.out];simp only;rw[HQ2.out,hR2]
      clear hR2
      have HS:Hid (∀ V,Keep (w.heap.size+1+1) (w.heap.size+1+1+1) w7 V→V.cell? ⟨wx,0,none⟩=some (.slice uA uN uC)∧V.cell? ⟨wx,1,none⟩=some (.int .i64 uk)∧V.cell? ⟨wx,2,none⟩=some (.string un)∧V.cell? ⟨wx,3,none⟩=some (.slice ulA ulN ulC)∧V.cell? ⟨wx,4,none⟩=some (.slice ukA ukN ukC)∧V.cell? ⟨wx,5,none⟩=some (.bool ua)∧V.cell? ⟨w.heap.size+1,4,none⟩=some (.slice (some ⟨g,off,none⟩) ae9 ag8)∧V.cell? ⟨g,off+m * 7,none⟩=some (.string name2)∧V.cell? ⟨g,off+m * 7+1,none⟩=some (.slice aaz aa0 aa1)∧V.cell? ⟨g,off+m * 7+2,none⟩=some (.int .i64 l7)∧V.cell? ⟨g,off+m * 7+3,none⟩=some (.string l9)∧V.cell? ⟨g,off+m * 7+4,none⟩=some (.slice uo uq uw)∧V.cell? ⟨g,off+m * 7+5,none⟩=some (.slice yj yt yu)∧V.cell? ⟨g,off+m * 7+6,none⟩=some (.bool xg)):=Lib.hid fun V hV=>⟨(hV.cell (p:=⟨wx,0,none⟩) (by simp only;omega) (by simp only;omega)).trans (b7.cell 0),(hV.cell (p:=⟨wx,1,none⟩) (by simp only;omega) (by simp only;omega)).trans (b7.cell 1),(hV.cell (p:=⟨wx,2,none⟩) (by simp only;omega) (by simp only;omega)).trans (b7.cell 2),(hV.cell (p:=⟨wx,3,none⟩) (by simp only;omega) (by simp only;omega)).trans (b7.cell 3),(hV.cell (p:=⟨wx,4,none⟩) (by simp only;omega) (by simp only;omega)).trans (b7.cell 4),(hV.cell (p:=⟨wx,5,none⟩) (by simp only;omega) (by simp only;omega)).trans (b7.cell 5),(hV.cell (p:=⟨w.heap.size+1,4,none⟩) (by simp only;omega) (by simp only;omega)).trans (bC7.cell 4),(hV.cell (p:=⟨g,off+m * 7,none⟩) (by simp only;omega) (by simp only;omega)).trans ((hb7.cell (p:=⟨g,off+m * 7,none⟩) (by have:=hBs.size;simp only;omega)).trans afa),(hV.cell (p:=⟨g,off+m * 7+1,none⟩) (by simp only;omega) (by simp only;omega)).trans ((hb7.cell (p:=⟨g,off+m * 7+1,none⟩) (by have:=hBs.size;simp only;omega)).trans akb),(hV.cell (p:=⟨g,off+m * 7+2,none⟩) (by simp only;omega) (by simp only;omega)).trans ((hb7.cell (p:=⟨g,off+m * 7+2,none⟩) (by have:=hBs.size;simp only;omega)).trans ahg),(hV.cell (p:=⟨g,off+m * 7+3,none⟩) (by simp only;omega) (by simp only;omega)).trans ((hb7.cell (p:=⟨g,off+m * 7+3,none⟩) (by have:=hBs.size;simp only;omega)).trans ahh),(hV.cell (p:=⟨g,off+m * 7+4,none⟩) (by simp only;omega) (by simp only;omega)).trans ((hb7.cell (p:=⟨g,off+m * 7+4,none⟩) (by have:=hBs.size;simp only;omega)).trans agv),(hV.cell (p:=⟨g,off+m * 7+5,none⟩) (by simp only;omega) (by simp only;omega)).trans ((hb7.cell (p:=⟨g,off+m * 7+5,none⟩) (by have:=hBs.size;simp only;omega)).trans ahi),(hV.cell (p:=⟨g,off+m * 7+6,none⟩) (by simp only;omega) (by simp only;omega)).trans ((hb7.cell (p:=⟨g,off+m * 7+6,none⟩) (by have:=hBs.size;simp only;omega)).trans ako)⟩
      go_wp2_with fail
      go_region_held3 (fun w'=>w'.cell? ⟨wx,0,none⟩=some (.slice uA uN uC)∧w'.cell? ⟨wx,1,none⟩=some (.int .i64 uk)∧w'.cell? ⟨wx,2,none⟩=some (.string un)∧w'.cell? ⟨wx,3,none⟩=some (.slice ulA ulN ulC)∧w'.cell? ⟨wx,4,none⟩=some (.slice ukA ukN ukC)∧w'.cell? ⟨wx,5,none⟩=some (.bool ua)∧w'.cell? ⟨w.heap.size+1,4,none⟩=some (.slice (some ⟨g,off,none⟩) ae9 ag8)∧w'.cell? ⟨g,off+m * 7,none⟩=some (.string name2)∧w'.cell? ⟨g,off+m * 7+1,none⟩=some (.slice aaz aa0 aa1)∧w'.cell? ⟨g,off+m * 7+2,none⟩=some (.int .i64 l7)∧w'.cell? ⟨g,off+m * 7+3,none⟩=some (.string l9)∧w'.cell? ⟨g,off+m * 7+4,none⟩=some (.slice uo uq uw)∧w'.cell? ⟨g,off+m * 7+5,none⟩=some (.slice yj yt yu)∧w'.cell? ⟨g,off+m * 7+6,none⟩=some (.bool xg))
       (first|exact HS.out _ (by repeat(first|exact hq1|exact hq2|exact Keep.refl _ _ _|refine Keep.drew ?_|refine Keep.alloc ?_ _|refine Keep.setAt ?_ _ _|refine Keep.newAt ?_ (Nat.le_refl _) _ _|refine Keep.newAt ?_ aah.size _ _|refine Keep.newAt ?_ hbW.size _ _)))
       (first|(go_at_call 46;refine(HC.out _ (by repeat(first|exact hq1|exact hq2|exact Keep.refl _ _ _|refine Keep.drew ?_|refine Keep.alloc ?_ _|refine Keep.setAt ?_ _ _|refine Keep.newAt ?_ (Nat.le_refl _) _ _|refine Keep.newAt ?_ aah.size _ _|refine Keep.newAt ?_ hbW.size _ _))).mono ?_;rintro e wq ⟨rfl,hbq⟩;have hbW:Below w7.heap.size w7 wq:=(by first|exact(Below.refl _ _).drew.trans hbq|exact((Below.refl _ _).drew.alloc (Nat.le_refl _) _).trans (hbq.mono (by simp)));have hq2:Keep (w.heap.size+1+1) (w.heap.size+1+1+1) w7 wq:=Keep.of_below hbW;(first|(have bP:Blk wq w7.heap.size 34 #[.int .i64 0,.string {data:=#[]}]:=(Blk.new w7.drew _ _).step hbq;have p0:wq.cell? ⟨w7.heap.size,0,none⟩=some (.int .i64 0):=bP.cell 0;have p1:wq.cell? ⟨w7.heap.size,1,none⟩=some (.string {data:=#[]}):=bP.cell 1;have g0:wq.frozen? ⟨w7.heap.size,0,none⟩=false:=bP.frozen 0;have g1:wq.frozen? ⟨w7.heap.size,1,none⟩=false:=bP.frozen 1)|skip)))
      all_goals
       first
        | (obtain⟨w6,hw6⟩:∃ V,V=wq.alloc (.cells #[.int .i64 RK,.string RS] 34):=⟨_,rfl⟩;rw[← hw6];have bX:Blk w6 wq.heap.size 34 #[.int .i64 RK,.string RS]:=(by rw[hw6];exact Blk.new wq _ _);have hb6:Below w7.heap.size w7 w6:=(by rw[hw6];exact hbW.alloc hbW.size _);obtain⟨rx,hrx⟩:∃ r,r=wq.heap.size:=⟨_,rfl⟩;have ahz:w7.heap.size≤rx:=(by rw[hrx];exact hbW.size);rw[← hrx] at bX ⊢;clear hw6 hrx)
        | (obtain⟨w6,hw6⟩:∃ V,V=(wq.setCell ⟨w7.heap.size,0,none⟩ (.int .i64 RK)).setCell ⟨w7.heap.size,1,none⟩ (.string RS):=⟨_,rfl⟩;rw[← hw6];have bX:Blk w6 (w7.heap.size) 34 #[.int .i64 RK,.string RS]:=(by rw[hw6];have:=(bP.abo 0 (.int .i64 RK)).abo 1 (.string RS);simpa using this);have hb6:Below w7.heap.size w7 w6:=(by rw[hw6];exact(hbW.setCell (p:=⟨w7.heap.size,0,none⟩) (by first|exact Nat.le_refl _|exact aah.size|exact hbW.size) _).setCell (p:=⟨w7.heap.size,1,none⟩) (by first|exact Nat.le_refl _|exact aah.size|exact hbW.size) _);obtain⟨rx,hrx⟩:∃ r,r=w7.heap.size:=⟨_,rfl⟩;have ahz:w7.heap.size≤rx:=(by rw[hrx];first|exact Nat.le_refl _|exact hbW.size|exact aah.size);rw[← hrx] at bX ⊢;clear hw6 hrx)
       have hB6:=hB7.trans (hb6.mono (by omega))
       have bR6:=bR7.step hb6
       have hs6:=hb6.size
       cases RN
       case false=>
        have HQ:Hid (aax (akf at_ hfs wfs) (m+1)=none):=by show _=_;exact aew HP2.out (by rw[HK2.out];exact ags HRN.out)
        go_wp2_with fail
        go_roundw
        case rel=>exact⟨m+1,by omega,by go_num,HQ,(hbs.trans (hb7.mono hss)).trans (hb6.mono (by omega))⟩
        case measure=>simp[intOf];omega
       case true=>
        have HF:Hid (R=some (RK,RS)):=by show _=_;rw[HG2.out,← HRK.out,← HRS.out];exact adt HP2.out (by rw[HK2.out];exact agt HRN.out) _ (by have:=akc.out;omega)
        obtain⟨q0,q1⟩:=rq bX
        obtain⟨r0,r1,f0,f1⟩:=zr bR6
        go_wp2_with fail
        obtain⟨n0,n1,nB⟩:=abf bR6 hB6 (by omega) (RK) (RS)
        exact bodyPost_ret (v:=.tuple #[.agg #[.int .i64 RK,.string RS],.bool true]) (by simp[results,Tryz.results28,go_sem,n0,n1]) rfl ⟨um (by rw[HF.out];rfl) (by rw[HF.out];rfl) (by rw[HF.out];rfl),nB⟩
end Go.Proofs.YtbafphecjijdmaaGreatDoor
