/-
  Why one interface cannot stand for another: impl.whyNotFace (versions: false; by program: gen_fcv.py) (by program: gen_why.py).
-/
import Derived.Test.YtbafphecjijdmaaGreatDoorFa31
import Derived.Test.YtbafphecjijdmaaGreatDoorFa39
import Derived.Test.YtbafphecjijdmaaGreatDoorFa40
import Derived.Test.YtbafphecjijdmaaGreatDoorFa43
namespace Go.Proofs.YtbafphecjijdmaaGreatDoor
open Go.RowKit
set_option linter.unusedVariables false
set_option linter.unusedSimpArgs false
set_option linter.unnecessarySimpa false
set_option maxRecDepth 16000
set_option maxHeartbeats 12800000 in
theorem a6h (a b:qg) (ha:af8 a=true) (hb:af8 b=true) (hwa:PD.wfL (qg.pd a)) (hwb:PD.wfL (qg.pd b)) (hsa:PD.szL (qg.pd a)≤1048576) (hsb:PD.szL (qg.pd b)≤1048576) (at0:ByteArray) (hat0:at0.size≤100) {B:Nat} {cs ds:List Value} {w:World} (hB:B≤w.heap.size) (hT:al2 w) (h:ku w B (qg.pd a) cs) (k:ku w B (qg.pd b) ds):
  Calls Tryz.prog 32 #[.agg cs.toArray,.agg ds.toArray,.string at0,.bool false] w fun e w'=>WQ (alk a b (facL at0 b.package b.name) false) w e w':=by
 have HFI:=Lib.hid (fun nm (V:World) (hV:B≤V.heap.size) us (k:ku V B (qg.pd a) us)=>a3n a nm (w:=V) hV k)
 have HVZ:=Lib.hid (akd hsa).1
 have HVW:=Lib.hid (akd hsb).1
 have HFO:=Lib.hid (at7 ha)
 have HWO:=Lib.hid (at7 hb)
 obtain⟨hpk,hnm,ag7,hres,hfs⟩:=a
 obtain⟨wpk,wnm,ah6,alf,wfs⟩:=b
 obtain⟨hresV,hfsV,rfl,ah0,ajz⟩:=qg.open_ h
 obtain⟨ahb,ahc,ahd,rfl,aqc,hm_hres,avv⟩:=ajb ah0
 obtain⟨aj0,aj1,aj2,rfl,atb,a1v,hat_hfs⟩:=ny Fun.jw (by decide) ajz
 unfold maxLen at a1v
 have amw:=Lib.hid ah0
 have arv:=Lib.hid ajz
 have HN_hres:=Lib.hid aqc
 have HN_hfs:=Lib.hid atb
 clear ah0 ajz aqc atb
 obtain⟨wresV,wfsV,rfl,ah1,aj3⟩:=qg.open_ k
 obtain⟨ai2,afw,ail,rfl,aqd,hm_wres,al1⟩:=ajb ah1
 obtain⟨akh,ae9,ag8,rfl,atc,a1w,ayj⟩:=ny Fun.jw (by decide) aj3
 unfold maxLen at a1w
 have atd:=Lib.hid ah1
 have axe:=Lib.hid aj3
 have ak9:=Lib.hid aqd
 have akc:=Lib.hid atc
 clear ah1 aj3 aqd atc
 have l_wpk:wpk.size≤12:=HWO.out.pk
 have l_wnm:wnm.size≤12:=HWO.out.nm
 have h4:afw≤4:=by have h1:alf.length≤4:=HWO.out.res4;have:=ak9.out;omega
 have h8:ae9≤8:=by have h1:wfs.length≤8:=HWO.out.fs8;have:=akc.out;omega
 simp only at HVZ HVW
 clear h k ha hb hwa hwb hsa hsb
 have amu:=Lib.hid (fun(V:World) (hV:Below w.heap.size w V)=>qg.close_ (package:=hpk) (name:=hnm) (version:=ag7) (amw.out.below (hV.mono hB)) (arv.out.below (hV.mono hB)))
 have akp:(9223372036854775807 < wpk.size+(⟨#[47]⟩:ByteArray).size)=False:=eq_false (by have z_:(⟨#[47]⟩:ByteArray).size=1:=rfl;omega)
 have akq:(9223372036854775807 < wpk.size+1)=False:=eq_false (by omega)
 obtain⟨p1,adg⟩:∃ p,wpk ++(⟨#[47]⟩:ByteArray)=p:=⟨_,rfl⟩
 have akr:p1.size≤13:=by rw[← adg,ByteArray.size_append];have z_:(⟨#[47]⟩:ByteArray).size=1:=rfl;omega
 have apf:(9223372036854775807 < p1.size+wnm.size)=False:=eq_false (by omega)
 obtain⟨p2,af6⟩:∃ p,p1 ++wnm=p:=⟨_,rfl⟩
 have apg:p2.size≤25:=by rw[← af6,ByteArray.size_append];omega
 have y_at_:(9223372036854775807 < at0.size+p2.size)=False:=eq_false (by omega)
 obtain⟨at_,axf⟩:∃ p,at0 ++p2=p:=⟨_,rfl⟩
 have l_at_:at_.size≤125:=by rw[← axf,ByteArray.size_append];omega
 obtain⟨R,hR⟩:∃ R:Why,R=alk ⟨hpk,hnm,ag7,hres,hfs⟩ ⟨wpk,wnm,ah6,alf,wfs⟩ at_ false:=⟨_,rfl⟩
 have HRR:Hid (R=alk ⟨hpk,hnm,ag7,hres,hfs⟩ ⟨wpk,wnm,ah6,alf,wfs⟩ (facL at0 wpk wnm) false):=by show _=_;rw[hR,← axf,← af6,← adg];rfl
 simp only
 rw[← HRR.out]
 have HR:=Lib.hid hR
 clear hR HRR
 obtain⟨w0,hw0,bA,bC,bR,hB0,hs0⟩:=aey w 30 #[.string hpk,.string hnm,.string ag7,.slice ahb ahc ahd,.slice aj0 aj1 aj2] #[.string wpk,.string wnm,.string ah6,.slice ai2 afw ail,.slice akh ae9 ag8]
 have HW0:=Lib.hid hw0
 clear hw0
 by_cases hpe:hpk=wpk
 case neg=>
  have HF:Hid (R=some (11,at_)):=by show _=_;rw[HR.out];exact anf (fun hh=>hpe hh.1)
  have hs1:(hpk.toList ==wpk.toList)=false:=aes hpe
  clear hpe
  go_enter Tryz.func32,Tryz.ntmps32
  go_wp2_with fail
  try rw[← HW0.out]
  refine(ae3 11 at_ _).mono ?_
  rintro e wz ⟨rfl,hbz⟩
  have hBz:=hB0.trans (hbz.mono (by omega))
  have bRz:=bR.step hbz
  have hsz:=hbz.size
  obtain⟨r0,r1,f0,f1⟩:=zr bRz
  go_wp2_with fail
  obtain⟨n0,n1,nB⟩:=abf bRz hBz (by omega) (11) (at_)
  exact bodyPost_ret (v:=.tuple #[.agg #[.int .i64 11,.string at_],.bool true]) (by simp[results,Tryz.results32,go_sem,n0,n1]) rfl ⟨um (by rw[HF.out];rfl) (by rw[HF.out];rfl) (by rw[HF.out];rfl),nB⟩
 have hs1:(hpk.toList ==wpk.toList)=true:=by rw[hpe];simp
 by_cases hne:hnm=wnm
 case neg=>
  have HF:Hid (R=some (11,at_)):=by show _=_;rw[HR.out];exact anf (fun hh=>hne hh.2)
  have hs2:(hnm.toList ==wnm.toList)=false:=aes hne
  clear hne hpe
  go_enter Tryz.func32,Tryz.ntmps32
  go_wp2_with fail
  try rw[← HW0.out]
  refine(ae3 11 at_ _).mono ?_
  rintro e wz ⟨rfl,hbz⟩
  have hBz:=hB0.trans (hbz.mono (by omega))
  have bRz:=bR.step hbz
  have hsz:=hbz.size
  obtain⟨r0,r1,f0,f1⟩:=zr bRz
  go_wp2_with fail
  obtain⟨n0,n1,nB⟩:=abf bRz hBz (by omega) (11) (at_)
  exact bodyPost_ret (v:=.tuple #[.agg #[.int .i64 11,.string at_],.bool true]) (by simp[results,Tryz.results32,go_sem,n0,n1]) rfl ⟨um (by rw[HF.out];rfl) (by rw[HF.out];rfl) (by rw[HF.out];rfl),nB⟩
 have hs2:(hnm.toList ==wnm.toList)=true:=by rw[hne];simp
 have HEQ:Hid (hpk=wpk∧hnm=wnm):=⟨hpe,hne⟩
 clear hne hpe
 have HG:Hid (R=match aax (aou at_ hres alf) alf.length with|some r=>some r|none=>aax (akf at_ hfs wfs) wfs.length):=by show _=_;rw[HR.out];exact a1o HEQ.out (fun hh=>by cases hh)
 go_enter Tryz.func32,Tryz.ntmps32
 go_wp2_with fail
 rw[← HW0.out]
 clear HW0
 obtain⟨wv,hwv⟩:∃ V,V=w0:=⟨_,rfl⟩
 rw[← hwv] at bA bC bR hB0 hs0 ⊢
 have hBv:=hB0
 have bAv:=bA
 have bCv:=bC
 have bRv:=bR
 clear hwv bA bC bR
 go_loopw [61] (fun i wr=>∃ k:Nat,k≤afw∧i=.int .i64 k∧Hid (aax (aou at_ hres alf) k=none)∧Below wv.heap.size wv wr) (fun i _=>afw - (intOf i).toNat)
 case atStart=>exact⟨0,Nat.zero_le _,rfl,Lib.hid rfl,Below.refl _ _⟩
 case round=>
  obtain⟨k,hk,rfl,HP,hbr⟩:=hrel
  have hBr:=hBv.trans (hbr.mono hBv.size)
  have hsr:=hbr.size
  have bRr:=bRv.step hbr
  have bAr:=bAv.step hbr
  have bCr:=bCv.step hbr
  clear bAv bCv bRv
  have a3:wr.cell? ⟨w.heap.size,3,none⟩=some (.slice ahb ahc ahd):=bAr.cell 3
  by_cases hlt:k < afw
  case pos=>
   obtain⟨g,off,rfl,hg,hcell⟩:=al1 (by omega)
   obtain⟨x,hx,hxm⟩:=vw ak9.out hlt
   have l_x:x.size≤12:=HWO.out.res x hxm
   have c_x:wr.cell? ⟨g,off+k,none⟩=some (.string x):=(hBr.cell (p:=⟨g,off+k,none⟩) (by simp only;omega)).trans (hcell k x hx)
   have HX:=Lib.hid hx
   clear hx hxm hcell al1
   have HLB:=Lib.hid (ake x (Nat.le_trans hB hBr.size) (amw.out.below (hBr.mono hB)))
   obtain⟨ix,hix⟩:∃ ix,(hres.any fun t=>decide (x=t))=ix:=⟨_,rfl⟩
   rw[hix] at HLB
   have HIX:Hid (decide (0≤ab6 (strEq x) hres)=ix):=(ajp (strEq x) hres).trans hix
   clear hix
   have y_q1:(9223372036854775807 < at_.size+(⟨#[46]⟩:ByteArray).size)=False:=eq_false (by have z_:(⟨#[46]⟩:ByteArray).size=1:=rfl;omega)
   have x_q1:(9223372036854775807 < at_.size+1)=False:=eq_false (by omega)
   obtain⟨q1,ao1⟩:∃ p,at_ ++(⟨#[46]⟩:ByteArray)=p:=⟨_,rfl⟩
   have l_q1:q1.size≤126:=by rw[← ao1,ByteArray.size_append];have z_:(⟨#[46]⟩:ByteArray).size=1:=rfl;omega
   have y_q2:(9223372036854775807 < q1.size+x.size)=False:=eq_false (by omega)
   obtain⟨q2,ao2⟩:∃ p,q1 ++x=p:=⟨_,rfl⟩
   have l_q2:q2.size≤138:=by rw[← ao2,ByteArray.size_append];omega
   have HQ2:Hid (ait at_ x=q2):=by show _=_;rw[← ao2,← ao1];rfl
   go_wp2_with fail
   refine HLB.out.mono ?_
   rintro e w7 ⟨rfl,hb7⟩
   have hs7:=hb7.size
   have hB7:=hBr.trans (hb7.mono hBr.size)
   have bR7:=bRr.step hb7
   cases ix
   case false=>
    have HF:Hid (R=some (6,q2)):=by show _=_;rw[HG.out,adt HP.out (a1n HX.out (by have:=of_decide_eq_false HIX.out;omega)) _ (by have:=ak9.out;omega),← HQ2.out]
    go_wp2_with fail
    refine(ae3 6 q2 _).mono ?_
    rintro e wz ⟨rfl,hbz⟩
    have hBz:=hB7.trans (hbz.mono (by omega))
    have bRz:=bR7.step hbz
    have hsz:=hbz.size
    obtain⟨r0,r1,f0,f1⟩:=zr bRz
    go_wp2_with fail
    obtain⟨n0,n1,nB⟩:=abf bRz hBz (by omega) (6) (q2)
    exact bodyPost_ret (v:=.tuple #[.agg #[.int .i64 6,.string q2],.bool true]) (by simp[results,Tryz.results32,go_sem,n0,n1]) rfl ⟨um (by rw[HF.out];rfl) (by rw[HF.out];rfl) (by rw[HF.out];rfl),nB⟩
   case true=>
    have HQ:=Lib.hid (aew HP.out (a4q (at_:=at_) HX.out (by have:=of_decide_eq_true HIX.out;omega)))
    go_wp2_with fail
    go_roundw
    case rel=>exact⟨k+1,by omega,by go_num,HQ,hbr.trans (hb7.mono hsr)⟩
    case measure=>simp[intOf];omega
  case neg=>
   have hkn:k=afw:=by omega
   subst hkn
   have HG2:Hid (R=aax (akf at_ hfs wfs) wfs.length):=by show _=_;rw[HG.out,← ak9.out,HP.out]
   clear HG al1 avv
   have z4r:wr.cell? ⟨w.heap.size+1,4,none⟩=some (.slice akh ae9 ag8):=bCr.cell 4
   go_wp2_with fail
   obtain⟨W,rfl⟩:∃ V,V=wr:=⟨_,rfl⟩
   clear z4r a3 hsr hbr
   go_loopw [81] (fun i wr=>∃ m:Nat,m≤ae9∧i=.int .i64 m∧Hid (aax (akf at_ hfs wfs) m=none)∧Below W.heap.size W wr) (fun i _=>ae9 - (intOf i).toNat)
   case atStart=>exact⟨0,Nat.zero_le _,rfl,Lib.hid rfl,Below.refl _ _⟩
   case round=>
    obtain⟨m,hm9,rfl,HP2,hbs⟩:=hrel
    have hBs:=hBr.trans (hbs.mono hBr.size)
    have hss:=hbs.size
    have bRs:=bRr.step hbs
    have bAs:=bAr.step hbs
    clear bAr bCr bRr
    by_cases hlt2:m < ae9
    case neg=>
     have hmn:m=ae9:=by omega
     have HF:Hid (R=none):=by show _=_;rw[HG2.out,← akc.out,← hmn,HP2.out]
     subst hmn
     go_wp2_with fail
     refine(agy _).mono ?_
     rintro e wz ⟨rfl,hbz⟩
     have hBz:=hBs.trans (hbz.mono hBs.size)
     have bRz:=bRs.step hbz
     have hsz:=hbz.size
     obtain⟨r0,r1,f0,f1⟩:=zr bRz
     go_wp2_with fail
     obtain⟨n0,n1,nB⟩:=abf bRz hBz (by omega) (0) (⟨#[]⟩)
     exact bodyPost_ret (v:=.tuple #[.agg #[.int .i64 0,.string {data:=#[]}],.bool false]) (by simp[results,Tryz.results32,go_sem,n0,n1]) rfl ⟨um (by rw[HF.out];rfl) (by rw[HF.out];rfl) (by rw[HF.out];rfl),nB⟩
    obtain⟨g,off,rfl,hg2,hcell2⟩:=ayj (by omega)
    obtain⟨t2,hx2,ac5⟩:=vw akc.out hlt2
    obtain⟨name2,⟨ab7,⟨l7,l9,zi,aai⟩,xg⟩⟩:=t2
    have afa:wr.cell? ⟨g,off+m * 7,none⟩=some (.string name2):=gq hBs (by omega) (hcell2 m 0 _ _ hx2 (by rw[Fun.ay];rfl))
    obtain⟨aow,akb,ae8⟩:∃ u,wr.cell? ⟨g,off+m * 7+1,none⟩=some u∧Rep wr B (.row 5 (ab7.flatMap Param.pd)) u:=jy hBs (by omega) hB (hcell2 m 1 _ _ hx2 (by rw[Fun.ay];rfl))
    have afs:=Lib.hid ae8
    clear ae8
    have ahg:wr.cell? ⟨g,off+m * 7+2,none⟩=some (.int .i64 l7):=gq hBs (by omega) (hcell2 m 2 _ _ hx2 (by rw[Fun.ay];rfl))
    have ahh:wr.cell? ⟨g,off+m * 7+3,none⟩=some (.string l9):=gq hBs (by omega) (hcell2 m 3 _ _ hx2 (by rw[Fun.ay];rfl))
    obtain⟨akg,agv,ac6⟩:∃ u,wr.cell? ⟨g,off+m * 7+4,none⟩=some u∧Rep wr B (.row 1 (zi.flatMap tq)) u:=jy hBs (by omega) hB (hcell2 m 4 _ _ hx2 (by rw[Fun.ay];rfl))
    have adu:=Lib.hid ac6
    clear ac6
    obtain⟨ale,ahi,ady⟩:∃ u,wr.cell? ⟨g,off+m * 7+5,none⟩=some u∧Rep wr B (.row 4 (aai.flatMap Ty.pd)) u:=jy hBs (by omega) hB (hcell2 m 5 _ _ hx2 (by rw[Fun.ay];rfl))
    have ad5:=Lib.hid ady
    clear ady
    have ako:wr.cell? ⟨g,off+m * 7+6,none⟩=some (.bool xg):=gq hBs (by omega) (hcell2 m 6 _ _ hx2 (by rw[Fun.ay];rfl))
    obtain⟨aaz,aa0,aa1,rfl⟩:=afs.out.form
    obtain⟨uo,uq,uw,rfl⟩:=adu.out.form
    obtain⟨yj,yt,yu,rfl⟩:=ad5.out.form
    have HX2:=Lib.hid hx2
    have HM2:=Lib.hid ac5
    clear hx2 ac5
    clear hcell2
    have hxo:=HWO.out.fs _ HM2.out
    have l_n2:name2.size≤12:=hxo.1
    have OX:=Lib.hid (asu hxo.2)
    clear hxo
    have y_q1:(9223372036854775807 < at_.size+(⟨#[46]⟩:ByteArray).size)=False:=eq_false (by have z_:(⟨#[46]⟩:ByteArray).size=1:=rfl;omega)
    have x_q1:(9223372036854775807 < at_.size+1)=False:=eq_false (by omega)
    obtain⟨q1,ao1⟩:∃ p,at_ ++(⟨#[46]⟩:ByteArray)=p:=⟨_,rfl⟩
    have l_q1:q1.size≤126:=by rw[← ao1,ByteArray.size_append];have z_:(⟨#[46]⟩:ByteArray).size=1:=rfl;omega
    have y_q2:(9223372036854775807 < q1.size+name2.size)=False:=eq_false (by omega)
    obtain⟨q2,ao2⟩:∃ p,q1 ++name2=p:=⟨_,rfl⟩
    have l_q2:q2.size≤138:=by rw[← ao2,ByteArray.size_append];omega
    have HQ2:Hid (ait at_ name2=q2):=by show _=_;rw[← ao2,← ao1];rfl
    have bEb:Blk (wr.alloc (.cells #[.string name2,.slice aaz aa0 aa1,.int .i64 l7,.string l9,.slice uo uq uw,.slice yj yt yu,.bool xg] 99)) wr.heap.size 99 #[.string name2,.slice aaz aa0 aa1,.int .i64 l7,.string l9,.slice uo uq uw,.slice yj yt yu,.bool xg]:=Blk.new wr _ _
    have g_0:(wr.alloc (.cells #[.string name2,.slice aaz aa0 aa1,.int .i64 l7,.string l9,.slice uo uq uw,.slice yj yt yu,.bool xg] 99)).cell? ⟨w.heap.size,0,none⟩=some (.string hpk):=(bAs.alloc _).cell 0
    have g_1:(wr.alloc (.cells #[.string name2,.slice aaz aa0 aa1,.int .i64 l7,.string l9,.slice uo uq uw,.slice yj yt yu,.bool xg] 99)).cell? ⟨w.heap.size,1,none⟩=some (.string hnm):=(bAs.alloc _).cell 1
    have g_2:(wr.alloc (.cells #[.string name2,.slice aaz aa0 aa1,.int .i64 l7,.string l9,.slice uo uq uw,.slice yj yt yu,.bool xg] 99)).cell? ⟨w.heap.size,2,none⟩=some (.string ag7):=(bAs.alloc _).cell 2
    have g_3:(wr.alloc (.cells #[.string name2,.slice aaz aa0 aa1,.int .i64 l7,.string l9,.slice uo uq uw,.slice yj yt yu,.bool xg] 99)).cell? ⟨w.heap.size,3,none⟩=some (.slice ahb ahc ahd):=(bAs.alloc _).cell 3
    have g_4:(wr.alloc (.cells #[.string name2,.slice aaz aa0 aa1,.int .i64 l7,.string l9,.slice uo uq uw,.slice yj yt yu,.bool xg] 99)).cell? ⟨w.heap.size,4,none⟩=some (.slice aj0 aj1 aj2):=(bAs.alloc _).cell 4
    go_wp2_with fail
    clear g_0 g_1 g_2 g_3 g_4
    obtain⟨wb,hwb⟩:∃ V,V=(wr.alloc (.cells #[.string name2,.slice aaz aa0 aa1,.int .i64 l7,.string l9,.slice uo uq uw,.slice yj yt yu,.bool xg] 99)):=⟨_,rfl⟩
    rw[← hwb] at bEb ⊢
    have hbb:Below wr.heap.size wr wb:=by rw[hwb];exact(Below.refl _ _).alloc (Nat.le_refl _) _
    clear hwb
    have hBb:=hBs.trans (hbb.mono hBs.size)
    have hsb:=hbb.size
    refine(HFI.out name2 wb (Nat.le_trans hB hBb.size) _ (amu.out wb hBb)).mono ?_
    rintro e wq ⟨hbq,hans⟩
    have hBq:=hBb.trans (hbq.mono hBb.size)
    have bEq:=bEb.step hbq
    have bRq:=(bRs.step hbb).step hbq
    have hsq:=hbq.size
    have hbrq:=hbb.trans (hbq.mono hsb)
    clear bEb
    by_cases hneg:ah5 hfs name2 < 0
    case pos=>
     obtain⟨_,rfl⟩:=hans.resolve_right (fun⟨i,y,us,hh,_⟩=>by simp only at hh;omega)
     have HF:Hid (R=some (9,q2)):=by show _=_;rw[HG2.out,adt HP2.out (a4r HX2.out hneg) _ (by have:=akc.out;omega)];simp only;rw[HQ2.out]
     clear hneg
     have hB7:Below w.heap.size w (wq.alloc (.cells #[.slice none 0 0,.int .i64 0,.string {data:=#[]},.slice none 0 0,.slice none 0 0,.bool false] 62)):=hBq.alloc hBq.size _
     have bR7:Blk (wq.alloc (.cells #[.slice none 0 0,.int .i64 0,.string {data:=#[]},.slice none 0 0,.slice none 0 0,.bool false] 62)) (w.heap.size+1+1) 34 #[.int .i64 0,.string {data:=#[]}]:=bRq.alloc _
     have hs7:w.heap.size+1+1 < (wq.alloc (.cells #[.slice none 0 0,.int .i64 0,.string {data:=#[]},.slice none 0 0,.slice none 0 0,.bool false] 62)).heap.size:=bR7.lt
     go_wp2_with fail
     refine(ae3 9 q2 _).mono ?_
     rintro e wz ⟨rfl,hbz⟩
     have hBz:=hB7.trans (hbz.mono (by have:=hB7.size;omega))
     have bRz:=bR7.step hbz
     have hsz:=hbz.size
     obtain⟨r0,r1,f0,f1⟩:=zr bRz
     go_wp2_with fail
     obtain⟨n0,n1,nB⟩:=abf bRz hBz (by omega) (9) (q2)
     exact bodyPost_ret (v:=.tuple #[.agg #[.int .i64 9,.string q2],.bool true]) (by simp[results,Tryz.results32,go_sem,n0,n1]) rfl ⟨um (by rw[HF.out];rfl) (by rw[HF.out];rfl) (by rw[HF.out];rfl),nB⟩
    case neg=>
     obtain⟨i,y,us,hfi,hfy,rfl,hrep⟩:=hans.resolve_left (fun hh=>hneg hh.1)
     simp only at hfi hfy
     have OYB:=Lib.hid (HFO.out.fs _ (List.mem_of_getElem? hfy)).2
     have HFI2:=Lib.hid hfi
     have HFY:=Lib.hid hfy
     obtain⟨yn,⟨up,⟨uk,un,ul,ukk⟩,ua⟩⟩:=y
     obtain⟨uV,ulV,ukV,rfl,ru,rul,ruk⟩:=jh.open_ hrep
     obtain⟨uA,uN,uC,rfl⟩:=ru.form
     obtain⟨ulA,ulN,ulC,rfl⟩:=rul.form
     obtain⟨ukA,ukN,ukC,rfl⟩:=ruk.form
     have HRU:=Lib.hid hrep
     clear hfi hfy hneg ru rul ruk hrep
     have g_0:(wq.alloc (.cells #[.slice uA uN uC,.int .i64 uk,.string un,.slice ulA ulN ulC,.slice ukA ukN ukC,.bool ua] 62)).cell? ⟨wr.heap.size,1,none⟩=some (.slice aaz aa0 aa1):=(bEq.alloc _).cell 1
     have g_1:(wq.alloc (.cells #[.slice uA uN uC,.int .i64 uk,.string un,.slice ulA ulN ulC,.slice ukA ukN ukC,.bool ua] 62)).cell? ⟨wr.heap.size,2,none⟩=some (.int .i64 l7):=(bEq.alloc _).cell 2
     have g_2:(wq.alloc (.cells #[.slice uA uN uC,.int .i64 uk,.string un,.slice ulA ulN ulC,.slice ukA ukN ukC,.bool ua] 62)).cell? ⟨wr.heap.size,3,none⟩=some (.string l9):=(bEq.alloc _).cell 3
     have g_3:(wq.alloc (.cells #[.slice uA uN uC,.int .i64 uk,.string un,.slice ulA ulN ulC,.slice ukA ukN ukC,.bool ua] 62)).cell? ⟨wr.heap.size,4,none⟩=some (.slice uo uq uw):=(bEq.alloc _).cell 4
     have g_4:(wq.alloc (.cells #[.slice uA uN uC,.int .i64 uk,.string un,.slice ulA ulN ulC,.slice ukA ukN ukC,.bool ua] 62)).cell? ⟨wr.heap.size,5,none⟩=some (.slice yj yt yu):=(bEq.alloc _).cell 5
     have g_5:(wq.alloc (.cells #[.slice uA uN uC,.int .i64 uk,.string un,.slice ulA ulN ulC,.slice ukA ukN ukC,.bool ua] 62)).cell? ⟨wr.heap.size,6,none⟩=some (.bool xg):=(bEq.alloc _).cell 6
     go_wp2_with fail
     clear g_0 g_1 g_2 g_3 g_4 g_5
     obtain⟨w7,hw7⟩:∃ V,V=(wq.alloc (.cells #[.slice uA uN uC,.int .i64 uk,.string un,.slice ulA ulN ulC,.slice ukA ukN ukC,.bool ua] 62)):=⟨_,rfl⟩
     rw[← hw7]
     have hbq7:Below wq.heap.size wq w7:=by rw[hw7];exact(Below.refl _ _).alloc (Nat.le_refl _) _
     clear hw7
     have hb7:=hbrq.trans (hbq7.mono hbrq.size)
     have hB7:=hBs.trans (hb7.mono hBs.size)
     have bR7:=bRq.step hbq7
     have hs7:=hb7.size
     have HBX:Hid (ku w7 B (jh.pd ⟨ab7,⟨l7,l9,zi,aai⟩,xg⟩) [.slice aaz aa0 aa1,.int .i64 l7,.string l9,.slice uo uq uw,.slice yj yt yu,.bool xg]):=jh.close_ (afs.out.below (hb7.mono (Nat.le_trans hB hBs.size))) (adu.out.below (hb7.mono (Nat.le_trans hB hBs.size))) (ad5.out.below (hb7.mono (Nat.le_trans hB hBs.size)))
     have HUX:Hid (ku w7 B (jh.pd ⟨up,⟨uk,un,ul,ukk⟩,ua⟩) [.slice uA uN uC,.int .i64 uk,.string un,.slice ulA ulN ulC,.slice ukA ukN ukC,.bool ua]):=HRU.out.below ((hbq.trans (hbq7.mono hsq)).mono (Nat.le_trans hB hBb.size))
     obtain⟨R2,hR2⟩:∃ r,ajs (agf 4) ⟨up,⟨uk,un,ul,ukk⟩,ua⟩ ⟨ab7,⟨l7,l9,zi,aai⟩,xg⟩ q2=r:=⟨_,rfl⟩
     have HC:=azs ⟨up,⟨uk,un,ul,ukk⟩,ua⟩ ⟨ab7,⟨l7,l9,zi,aai⟩,xg⟩ q2 B [.slice uA uN uC,.int .i64 uk,.string un,.slice ulA ulN ulC,.slice ukA ukN ukC,.bool ua] [.slice aaz aa0 aa1,.int .i64 l7,.string l9,.slice uo uq uw,.slice yj yt yu,.bool xg] w7 (Nat.le_trans hB hB7.size) (hT.1.below hB7) (asu OYB.out) OX.out (by omega) HUX.out HBX.out
     unfold WQ at HC
     rw[hR2] at HC
     obtain⟨RK,RS,RN,HRK,HRS,HRN⟩:=agi R2
     rw[HRK.out,HRS.out,HRN.out] at HC
     have HK2:Hid (akf at_ hfs wfs m=R2):=by show _=_;rw[aya HX2.out HFI2.out HFY.out];simp only;rw[HQ2.out,hR2]
     clear hR2
     refine HC.mono ?_
     rintro e w8 ⟨rfl,hb8⟩
     have hB8:=hB7.trans (hb8.mono hB7.size)
     have hs8:=hb8.size
     have hB6:Below w.heap.size w (w8.alloc (.cells #[.int .i64 RK,.string RS] 34)):=hB8.alloc hB8.size _
     have bR6:Blk (w8.alloc (.cells #[.int .i64 RK,.string RS] 34)) (w.heap.size+1+1) 34 #[.int .i64 0,.string {data:=#[]}]:=(bR7.step hb8).alloc _
     have hs6:w.heap.size+1+1 < (w8.alloc (.cells #[.int .i64 RK,.string RS] 34)).heap.size:=bR6.lt
     cases RN
     case true=>
      have HF:Hid (R=some (RK,RS)):=by show _=_;rw[HG2.out,← HRK.out,← HRS.out];exact adt HP2.out (by rw[HK2.out];exact agt HRN.out) _ (by have:=akc.out;omega)
      have bX:Blk (w8.alloc (.cells #[.int .i64 RK,.string RS] 34)) w8.heap.size 34 #[.int .i64 RK,.string RS]:=Blk.new w8 _ _
      have q0:(w8.alloc (.cells #[.int .i64 RK,.string RS] 34)).cell? ⟨w8.heap.size,0,none⟩=some (.int .i64 RK):=bX.cell 0
      have q1:(w8.alloc (.cells #[.int .i64 RK,.string RS] 34)).cell? ⟨w8.heap.size,1,none⟩=some (.string RS):=bX.cell 1
      obtain⟨r0,r1,f0,f1⟩:=zr bR6
      go_wp2_with fail
      obtain⟨n0,n1,nB⟩:=abf bR6 hB6 (by omega) (RK) (RS)
      exact bodyPost_ret (v:=.tuple #[.agg #[.int .i64 RK,.string RS],.bool true]) (by simp[results,Tryz.results32,go_sem,n0,n1]) rfl ⟨um (by rw[HF.out];rfl) (by rw[HF.out];rfl) (by rw[HF.out];rfl),nB⟩
     case false=>
      have HQ:Hid (aax (akf at_ hfs wfs) (m+1)=none):=by show _=_;exact aew HP2.out (by rw[HK2.out];exact ags HRN.out)
      have hbx:Below W.heap.size W (w8.alloc (.cells #[.int .i64 RK,.string RS] 34)):=((hbs.trans (hb7.mono hss)).trans (hb8.mono (by omega))).alloc (by have:=hbs.size;omega) _
      go_wp2_with fail
      go_roundw
      case rel=>exact⟨m+1,by omega,by go_num,HQ,hbx⟩
      case measure=>simp[intOf];omega
end Go.Proofs.YtbafphecjijdmaaGreatDoor
