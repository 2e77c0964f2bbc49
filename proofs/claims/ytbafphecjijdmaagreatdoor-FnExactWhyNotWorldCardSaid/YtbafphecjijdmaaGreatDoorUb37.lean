/-
  Why one interface cannot stand for another: spec.l08Face (versions: true; by program: gen_fcu.py) (by program: gen_why.py).
-/
import Derived.Test.YtbafphecjijdmaaGreatDoorUb29
import Derived.Test.YtbafphecjijdmaaGreatDoorUb33
import Derived.Test.YtbafphecjijdmaaGreatDoorUb36
import Derived.Deep.RegionHeld3
namespace Go.Proofs.YtbafphecjijdmaaGreatDoor
open Go.RowKit
set_option linter.all false
set_option maxRecDepth 16000
set_option maxHeartbeats 12800000 in
theorem bew (a b:cu) (ha:ag9 a=true) (hb:ag9 b=true) (hwa:PD.wfL (cu.pd a)) (hwb:PD.wfL (cu.pd b)) (hsa:PD.szL (cu.pd a)≤1048576) (hsb:PD.szL (cu.pd b)≤1048576) {B:Nat} {cs ds:List Value} {w:World} (hB:B≤w.heap.size) (hT:afg w) (h:lq w B (cu.pd a) cs) (k:lq w B (cu.pd b) ds):
  Calls Tryz.prog 28 #[.agg cs.toArray,.agg ds.toArray,.bool true] w fun e w'=>WQ (aha a b (ayr b) true) w e w':=by
 have HFI:=zqd (fun nm (V:World) (hV:B≤V.heap.size) us (k:lq V B (cu.pd a) us)=>ba8 a nm ha hwa hsa (w:=V) hV k)
 have HWB:=zqd (ala hsb).2
 have HFO:=zqd (anf ha)
 have HWO:=zqd (anf hb)
 obtain⟨hpk,hnm,agv,hres,hfs⟩:=a
 obtain⟨wpk,wnm,ahv,an7,wfs⟩:=b
 obtain⟨btr,bwr,rfl,aqx,aub⟩:=cu.open_ h
 obtain⟨ap3,ap4,ap5,rfl,ash,boc,ayz⟩:=akg aqx
 obtain⟨ay0,ay1,ay2,rfl,av2,a81,bod⟩:=ni Fun.jd (by decide) aub
 unfold maxLen at a81
 have av3:=zqd aqx
 have bex:=zqd aub
 have boe:=zqd ash
 have brx:=zqd av2
 clear aqx aub ash av2
 obtain⟨bts,bwt,rfl,aqy,auc⟩:=cu.open_ k
 obtain⟨aw3,ajo,aud,rfl,asi,bof,am5⟩:=akg aqy
 obtain⟨a2p,aif,am6,rfl,av4,a88,a2q⟩:=ni Fun.jd (by decide) auc
 unfold maxLen at a88
 have bry:=zqd aqy
 have btt:=zqd auc
 have amf:=zqd asi
 have ak8:=zqd av4
 clear aqy auc asi av4
 have btu:wpk.size≤12:=HWO.out.pk
 have btv:wnm.size≤12:=HWO.out.nm
 have h4:ajo≤4:=by have h1:an7.length≤4:=HWO.out.bro;have:=amf.out;omega
 have h8:aif≤8:=by have h1:wfs.length≤8:=HWO.out.fs8;have:=ak8.out;omega
 clear h k ha hb hwa hwb hsa hsb
 have alq:=zqd (fun(V:World) (hV:Below w.heap.size w V)=>cu.close_ (package:=hpk) (name:=hnm) (version:=agv) (av3.out.below (hV.mono hB)) (bex.out.below (hV.mono hB)))
 have als:(9223372036854775807 < wpk.size+(⟨#[47]⟩:ByteArray).size)=False:=eq_false (by have z_:(⟨#[47]⟩:ByteArray).size=1:=rfl;omega)
 have alu:(9223372036854775807 < wpk.size+1)=False:=eq_false (by omega)
 obtain⟨p1,ad3⟩:∃ p,wpk ++(⟨#[47]⟩:ByteArray)=p:=⟨_,rfl⟩
 have alv:p1.size≤13:=by rw[← ad3,ByteArray.size_append];have z_:(⟨#[47]⟩:ByteArray).size=1:=rfl;omega
 have btw:(9223372036854775807 < p1.size+wnm.size)=False:=eq_false (by omega)
 obtain⟨at_,a04⟩:∃ p,p1 ++wnm=p:=⟨_,rfl⟩
 have btx:at_.size≤25:=by rw[← a04,ByteArray.size_append];omega
 obtain⟨R,hR⟩:∃ R:Why,R=aha ⟨hpk,hnm,agv,hres,hfs⟩ ⟨wpk,wnm,ahv,an7,wfs⟩ at_ true:=⟨_,rfl⟩
 have HRR:Hid (R=aha ⟨hpk,hnm,agv,hres,hfs⟩ ⟨wpk,wnm,ahv,an7,wfs⟩ (ayr ⟨wpk,wnm,ahv,an7,wfs⟩) true):=by show _=_;rw[hR,← a04,← ad3];rfl
 rw[← HRR.out]
 have HR:=zqd hR
 clear hR HRR
 obtain⟨w0,hw0,bA,bC,bR,hB0,hs0⟩:=afb w 30 #[.string hpk,.string hnm,.string agv,.slice ap3 ap4 ap5,.slice ay0 ay1 ay2] #[.string wpk,.string wnm,.string ahv,.slice aw3 ajo aud,.slice a2p aif am6]
 have HW0:=zqd hw0
 clear hw0
 by_cases hpe:hpk=wpk
 case neg=>
  have HF:Hid (R=some (11,at_)):=by show _=_;rw[HR.out];exact aos (fun hh=>hpe hh.1)
  have hs1:(hpk.toList ==wpk.toList)=false:=aeu hpe
  clear hpe
  go_enter Tryz.func28,Tryz.ntmps28
  go_wp2_with fail
  try rw[← HW0.out]
  refine(aen 11 at_ _).mono ?_
  rintro e wz ⟨rfl,hbz⟩
  have hBz:=hB0.trans (hbz.mono (by omega))
  have bRz:=bR.step hbz
  have hsz:=hbz.size
  obtain⟨r0,r1,f0,f1⟩:=zr bRz
  go_wp2_with fail
  obtain⟨n0,n1,nB⟩:=aaw bRz hBz (by omega) (11) (at_)
  exact bodyPost_ret (v:=.tuple #[.agg #[.int .i64 11,.string at_],.bool true]) (by simp[results,Tryz.results28,go_sem,n0,n1]) rfl ⟨qc (by rw[HF.out];rfl) (by rw[HF.out];rfl) (by rw[HF.out];rfl),nB⟩
 have hs1:(hpk.toList ==wpk.toList)=true:=by rw[hpe];simp
 by_cases hne:hnm=wnm
 case neg=>
  have HF:Hid (R=some (11,at_)):=by show _=_;rw[HR.out];exact aos (fun hh=>hne hh.2)
  have hs2:(hnm.toList ==wnm.toList)=false:=aeu hne
  clear hne hpe
  go_enter Tryz.func28,Tryz.ntmps28
  go_wp2_with fail
  try rw[← HW0.out]
  refine(aen 11 at_ _).mono ?_
  rintro e wz ⟨rfl,hbz⟩
  have hBz:=hB0.trans (hbz.mono (by omega))
  have bRz:=bR.step hbz
  have hsz:=hbz.size
  obtain⟨r0,r1,f0,f1⟩:=zr bRz
  go_wp2_with fail
  obtain⟨n0,n1,nB⟩:=aaw bRz hBz (by omega) (11) (at_)
  exact bodyPost_ret (v:=.tuple #[.agg #[.int .i64 11,.string at_],.bool true]) (by simp[results,Tryz.results28,go_sem,n0,n1]) rfl ⟨qc (by rw[HF.out];rfl) (by rw[HF.out];rfl) (by rw[HF.out];rfl),nB⟩
 have hs2:(hnm.toList ==wnm.toList)=true:=by rw[hne];simp
 have HEQ:Hid (hpk=wpk∧hnm=wnm):=⟨hpe,hne⟩
 clear hne hpe
 have HSV:=zqd (a8h agv ahv HFO.out.ver HWO.out.ver w0)
 obtain⟨sv,hsv⟩:∃ b,ap2 agv ahv=b:=⟨_,rfl⟩
 rw[hsv] at HSV
 go_enter Tryz.func28,Tryz.ntmps28
 go_wp2_with fail
 rw[← HW0.out]
 clear HW0
 refine HSV.out.mono ?_
 rintro e wv ⟨rfl,hbv⟩
 have hBv:=hB0.trans (hbv.mono (by omega))
 have bwu:=hbv.size
 have bAv:=bA.step hbv
 have bCv:=bC.step hbv
 have bRv:=bR.step hbv
 clear bA bC bR
 cases sv
 case false=>
  have HF:Hid (R=some (10,at_)):=by show _=_;rw[HR.out];exact a3x HEQ.out hsv
  go_wp2_with fail
  refine(aen 10 at_ _).mono ?_
  rintro e wz ⟨rfl,hbz⟩
  have hBz:=hBv.trans (hbz.mono (by omega))
  have bRz:=bRv.step hbz
  have hsz:=hbz.size
  obtain⟨r0,r1,f0,f1⟩:=zr bRz
  go_wp2_with fail
  obtain⟨n0,n1,nB⟩:=aaw bRz hBz (by omega) (10) (at_)
  exact bodyPost_ret (v:=.tuple #[.agg #[.int .i64 10,.string at_],.bool true]) (by simp[results,Tryz.results28,go_sem,n0,n1]) rfl ⟨qc (by rw[HF.out];rfl) (by rw[HF.out];rfl) (by rw[HF.out];rfl),nB⟩
 have HG:Hid (R=match zq (ald at_ hres an7) an7.length with|some r=>some r|none=>zq (aja at_ hfs wfs) wfs.length):=by show _=_;rw[HR.out];exact a8j HEQ.out (fun _=>hsv)
 clear hsv
 have z3v:wv.cell? ⟨w.heap.size+1,3,none⟩=some (.slice aw3 ajo aud):=bCv.cell 3
 go_wp2_with fail
 clear z3v
 go_loopw [9] (fun i wr=>∃ k:Nat,k≤ajo∧i=.int .i64 k∧Hid (zq (ald at_ hres an7) k=none)∧Below wv.heap.size wv wr) (fun i _=>ajo - (intOf i).toNat)
 case atStart=>exact⟨0,Nat.zero_le _,rfl,zqd rfl,zqf _ _⟩
 case round=>
  obtain⟨k,hk,rfl,HP,hbr⟩:=hrel
  have hBr:=hBv.trans (hbr.mono hBv.size)
  have hsr:=hbr.size
  have bRr:=bRv.step hbr
  have bAr:=bAv.step hbr
  have bCr:=bCv.step hbr
  clear bAv bCv bRv
  have a3:wr.cell? ⟨w.heap.size,3,none⟩=some (.slice ap3 ap4 ap5):=bAr.cell 3
  have z3:wr.cell? ⟨w.heap.size+1,3,none⟩=some (.slice aw3 ajo aud):=bCr.cell 3
  by_cases hlt:k < ajo
  case pos=>
   obtain⟨g,off,rfl,hg,hcell⟩:=am5 (by omega)
   obtain⟨x,hx,hxm⟩:=um amf.out hlt
   have l_x:x.size≤12:=HWO.out.res x hxm
   have c_x:wr.cell? ⟨g,off+k,none⟩=some (.string x):=(hBr.cell (p:=⟨g,off+k,none⟩) (by simp only;omega)).trans (hcell k x hx)
   have HX:=zqd hx
   clear hx hxm hcell am5
   have HLB:=zqd (fun q=>(an6 (t:=x) (w:=wr.drewN q) ((av3.out.below (hBr.mono hB)).below (below_drewN (zqf _ _) _))).mono fun e w' h=>(⟨h.1,h.2.symm⟩:_∧_))
   obtain⟨ix,hix⟩:∃ ix,acu (strEq x) hres=ix:=⟨_,rfl⟩
   rw[hix] at HLB
   have a9a:(9223372036854775807 < at_.size+(⟨#[46]⟩:ByteArray).size)=False:=eq_false (by have z_:(⟨#[46]⟩:ByteArray).size=1:=rfl;omega)
   have bkb:(9223372036854775807 < at_.size+1)=False:=eq_false (by omega)
   obtain⟨q1,al2⟩:∃ p,at_ ++(⟨#[46]⟩:ByteArray)=p:=⟨_,rfl⟩
   have a9b:q1.size≤26:=by rw[← al2,ByteArray.size_append];have z_:(⟨#[46]⟩:ByteArray).size=1:=rfl;omega
   have a9c:(9223372036854775807 < q1.size+x.size)=False:=eq_false (by omega)
   obtain⟨q2,al3⟩:∃ p,q1 ++x=p:=⟨_,rfl⟩
   have a9d:q2.size≤38:=by rw[← al3,ByteArray.size_append];omega
   have HQ2:Hid (ah6 at_ x=q2):=by show _=_;rw[← al3,← al2];rfl
   by_cases hneg:ix < 0
   case pos=>
    have HF:Hid (R=some (6,q2)):=by show _=_;rw[HG.out,ada HP.out (a8i HX.out (by rw[hix];exact hneg)) _ (by have:=amf.out;omega),← HQ2.out]
    clear hix
    go_wp2_with fail
    go_quiet (first|(go_at_call 57;exact Calls.quiet_of_same (HLB.out _)))
    obtain⟨w7,hq7⟩:∃ V,V=wr.drewN nq:=⟨_,rfl⟩
    rw[← hq7]
    have hb7:Below wr.heap.size wr w7:=by rw[hq7];exact below_drewN (zqf _ _) _
    have hs7:=hb7.size
    have hB7:=hBr.trans (hb7.mono hBr.size)
    have bR7:=bRr.step hb7
    have z37:w7.cell? ⟨w.heap.size+1,3,none⟩=some (.slice (some ⟨g,off,none⟩) ajo aud):=(bCr.step hb7).cell 3
    have brz:w7.cell? ⟨g,off+k,none⟩=some (.string x):=(hb7.cell (p:=⟨g,off+k,none⟩) (by have:=hBr.size;simp only;omega)).trans c_x
    clear hq7
    go_wp2_with fail
    refine(aen 6 q2 _).mono ?_
    rintro e wz ⟨rfl,hbz⟩
    have hBz:=hB7.trans (hbz.mono (by omega))
    have bRz:=bR7.step hbz
    have hsz:=hbz.size
    obtain⟨r0,r1,f0,f1⟩:=zr bRz
    go_wp2_with fail
    obtain⟨n0,n1,nB⟩:=aaw bRz hBz (by omega) (6) (q2)
    exact bodyPost_ret (v:=.tuple #[.agg #[.int .i64 6,.string q2],.bool true]) (by simp[results,Tryz.results28,go_sem,n0,n1]) rfl ⟨qc (by rw[HF.out];rfl) (by rw[HF.out];rfl) (by rw[HF.out];rfl),nB⟩
   case neg=>
    have HQ:=zqd (ae4 HP.out (bck (at_:=at_) HX.out (by rw[hix];exact hneg)))
    clear hix
    go_wp2_with fail
    go_quiet (first|(go_at_call 57;exact Calls.quiet_of_same (HLB.out _)))
    go_wp2_with fail
    go_roundw
    case rel=>exact⟨k+1,by omega,by go_num,HQ,below_drewN hbr _⟩
    case measure=>simp[intOf];omega
  case neg=>
   have hkn:k=ajo:=by omega
   subst hkn
   have HG2:Hid (R=zq (aja at_ hfs wfs) wfs.length):=by show _=_;rw[HG.out,← amf.out,HP.out]
   clear HG am5 ayz
   have z4r:wr.cell? ⟨w.heap.size+1,4,none⟩=some (.slice a2p aif am6):=bCr.cell 4
   go_wp2_with fail
   obtain⟨W,rfl⟩:∃ V,V=wr:=⟨_,rfl⟩
   clear z4r a3 z3 hsr hbr
   go_loopw [10] (fun i wr=>∃ m:Nat,m≤aif∧i=.int .i64 m∧Hid (zq (aja at_ hfs wfs) m=none)∧Below W.heap.size W wr) (fun i _=>aif - (intOf i).toNat)
   case atStart=>exact⟨0,Nat.zero_le _,rfl,zqd rfl,zqf _ _⟩
   case round=>
    obtain⟨m,hm9,rfl,HP2,hbs⟩:=hrel
    have hBs:=hBr.trans (hbs.mono hBr.size)
    have hss:=hbs.size
    have bRs:=bRr.step hbs
    have bAs:=bAr.step hbs
    have bCs:=bCr.step hbs
    clear bAr bCr bRr
    have z4:wr.cell? ⟨w.heap.size+1,4,none⟩=some (.slice a2p aif am6):=bCs.cell 4
    by_cases hlt2:m < aif
    case neg=>
     have hmn:m=aif:=by omega
     have HF:Hid (R=none):=by show _=_;rw[HG2.out,← ak8.out,← hmn,HP2.out]
     subst hmn
     obtain⟨r0,r1,f0,f1⟩:=zr bRs
     go_wp2_with fail
     obtain⟨n0,n1,nB⟩:=aaw bRs hBs (by omega) (0) (⟨#[]⟩)
     exact bodyPost_ret (v:=.tuple #[.agg #[.int .i64 0,.string {data:=#[]}],.bool false]) (by simp[results,Tryz.results28,go_sem,n0,n1]) rfl ⟨qc (by rw[HF.out];rfl) (by rw[HF.out];rfl) (by rw[HF.out];rfl),nB⟩
    obtain⟨g,off,rfl,hg2,hcell2⟩:=a2q (by omega)
    obtain⟨t2,hx2,ab1⟩:=um ak8.out hlt2
    obtain⟨name2,⟨acz,⟨mg,ng,aac,aav⟩,yt⟩⟩:=t2
    have ad5:wr.cell? ⟨g,off+m * 7,none⟩=some (.string name2):=bg hBs (by omega) (hcell2 m 0 _ _ hx2 (by rw[Fun.aj];rfl))
    obtain⟨aqs,ak7,aft⟩:∃ u,wr.cell? ⟨g,off+m * 7+1,none⟩=some u∧Rep wr B (.row 5 (acz.flatMap Param.pd)) u:=jc hBs (by omega) hB (hcell2 m 1 _ _ hx2 (by rw[Fun.aj];rfl))
    have agm:=zqd aft
    clear aft
    have aia:wr.cell? ⟨g,off+m * 7+2,none⟩=some (.int .i64 mg):=bg hBs (by omega) (hcell2 m 2 _ _ hx2 (by rw[Fun.aj];rfl))
    have aib:wr.cell? ⟨g,off+m * 7+3,none⟩=some (.string ng):=bg hBs (by omega) (hcell2 m 3 _ _ hx2 (by rw[Fun.aj];rfl))
    obtain⟨ale,ahl,ads⟩:∃ u,wr.cell? ⟨g,off+m * 7+4,none⟩=some u∧Rep wr B (.row 1 (aac.flatMap qj)) u:=jc hBs (by omega) hB (hcell2 m 4 _ _ hx2 (by rw[Fun.aj];rfl))
    have aeg:=zqd ads
    clear ads
    obtain⟨ami,aic,aek⟩:∃ u,wr.cell? ⟨g,off+m * 7+5,none⟩=some u∧Rep wr B (.row 4 (aav.flatMap Ty.pd)) u:=jc hBs (by omega) hB (hcell2 m 5 _ _ hx2 (by rw[Fun.aj];rfl))
    have aeo:=zqd aek
    clear aek
    have alr:wr.cell? ⟨g,off+m * 7+6,none⟩=some (.bool yt):=bg hBs (by omega) (hcell2 m 6 _ _ hx2 (by rw[Fun.aj];rfl))
    obtain⟨abh,abj,abk,rfl⟩:=agm.out.form
    obtain⟨vk,wu,xg,rfl⟩:=aeg.out.form
    obtain⟨y9,zf,zh,rfl⟩:=aeo.out.form
    have HX2:=zqd hx2
    have HM2:=zqd ab1
    clear hx2 ab1
    clear hcell2
    have hxo:=HWO.out.fs _ HM2.out
    have bkc:name2.size≤12:=hxo.1
    have OX:=zqd (aqo hxo.2)
    clear hxo
    have a9a:(9223372036854775807 < at_.size+(⟨#[46]⟩:ByteArray).size)=False:=eq_false (by have z_:(⟨#[46]⟩:ByteArray).size=1:=rfl;omega)
    have bkb:(9223372036854775807 < at_.size+1)=False:=eq_false (by omega)
    obtain⟨q1,al2⟩:∃ p,at_ ++(⟨#[46]⟩:ByteArray)=p:=⟨_,rfl⟩
    have a9b:q1.size≤26:=by rw[← al2,ByteArray.size_append];have z_:(⟨#[46]⟩:ByteArray).size=1:=rfl;omega
    have a9c:(9223372036854775807 < q1.size+name2.size)=False:=eq_false (by omega)
    obtain⟨q2,al3⟩:∃ p,q1 ++name2=p:=⟨_,rfl⟩
    have a9d:q2.size≤38:=by rw[← al3,ByteArray.size_append];omega
    have HQ2:Hid (ah6 at_ name2=q2):=by show _=_;rw[← al3,← al2];rfl
    have hm0:(0:Int)≤(m:Int):=by omega
    have hmi:(m:Int) < (aif:Int):=by omega
    have an8:Hid (∀ V,Keep wr.heap.size (wr.heap.size+1) wr V→V.cell? ⟨w.heap.size,0,none⟩=some (.string hpk)∧V.cell? ⟨w.heap.size,1,none⟩=some (.string hnm)∧V.cell? ⟨w.heap.size,2,none⟩=some (.string agv)∧V.cell? ⟨w.heap.size,3,none⟩=some (.slice ap3 ap4 ap5)∧V.cell? ⟨w.heap.size,4,none⟩=some (.slice ay0 ay1 ay2)∧V.cell? ⟨w.heap.size+1,4,none⟩=some (.slice (some ⟨g,off,none⟩) aif am6)∧V.cell? ⟨g,off+m * 7,none⟩=some (.string name2)):=zqd fun V hV=>⟨(hV.cell (p:=⟨w.heap.size,0,none⟩) (by have:=bRs.lt;simp only;omega) (.inl (by have:=bRs.lt;simp only;omega))).trans (bAs.cell 0),(hV.cell (p:=⟨w.heap.size,1,none⟩) (by have:=bRs.lt;simp only;omega) (.inl (by have:=bRs.lt;simp only;omega))).trans (bAs.cell 1),(hV.cell (p:=⟨w.heap.size,2,none⟩) (by have:=bRs.lt;simp only;omega) (.inl (by have:=bRs.lt;simp only;omega))).trans (bAs.cell 2),(hV.cell (p:=⟨w.heap.size,3,none⟩) (by have:=bRs.lt;simp only;omega) (.inl (by have:=bRs.lt;simp only;omega))).trans (bAs.cell 3),(hV.cell (p:=⟨w.heap.size,4,none⟩) (by have:=bRs.lt;simp only;omega) (.inl (by have:=bRs.lt;simp only;omega))).trans (bAs.cell 4),(hV.cell (p:=⟨w.heap.size+1,4,none⟩) (by have:=bRs.lt;simp only;omega) (.inl (by have:=bRs.lt;simp only;omega))).trans (bCs.cell 4),(hV.cell (p:=⟨g,off+m * 7,none⟩) (by have:=bRs.lt;simp only;omega) (.inl (by have:=bRs.lt;simp only;omega))).trans ad5⟩
    have HFN:=zqd (fun(V:World) (hV:Below wr.heap.size wr V)=>HFI.out name2 V (Nat.le_trans hB (Nat.le_trans hBs.size hV.size)) _ (alq.out V (hBs.trans (hV.mono hBs.size))))
    have hdr:Below wr.heap.size wr wr.drew:=(zqf _ _).drew
    have hdz:Below wr.heap.size wr (wr.alloc (.cells #[.slice none 0 0,.int .i64 0,.string {data:=#[]},.slice none 0 0,.slice none 0 0,.bool false] 62)).drew:=((zqf _ _).alloc (zql _) _).drew
    have xA:Blk (wr.alloc (.cells #[.slice none 0 0,.int .i64 0,.string {data:=#[]},.slice none 0 0,.slice none 0 0,.bool false] 62)).drew wr.heap.size 62 #[.slice none 0 0,.int .i64 0,.string {data:=#[]},.slice none 0 0,.slice none 0 0,.bool false]:=Blk.new wr _ _
    by_cases hneg:ait hfs name2 < 0
    case pos=>
     have HF:Hid (R=some (9,q2)):=by show _=_;rw[HG2.out,ada HP2.out (bcl HX2.out hneg) _ (by have:=ak8.out;omega)];simp only;rw[HQ2.out]
     have br0:=zqd hneg
     clear hneg
     go_wp2_with fail
     refine wp_region_held_drew (S:=(fun w'=>w'.cell? ⟨w.heap.size,0,none⟩=some (.string hpk)∧w'.cell? ⟨w.heap.size,1,none⟩=some (.string hnm)∧w'.cell? ⟨w.heap.size,2,none⟩=some (.string agv)∧w'.cell? ⟨w.heap.size,3,none⟩=some (.slice ap3 ap4 ap5)∧w'.cell? ⟨w.heap.size,4,none⟩=some (.slice ay0 ay1 ay2)∧w'.cell? ⟨w.heap.size+1,4,none⟩=some (.slice (some ⟨g,off,none⟩) aif am6)∧w'.cell? ⟨g,off+m * 7,none⟩=some (.string name2))) (by kernel_rfl) (an8.out _ (Keep.refl _ _ _).drew) (fun hHeld=>?_)
     refine zqt 0 ?_
     try simp only[Act.put,zs1,zs2,zs3]
     refine zqt 1 ?_
     try simp only[Act.put,zs1,zs2,zs3]
     refine zqt 2 ?_
     try simp only[Act.put,zs1,zs2,zs3]
     refine zqt 3 ?_
     try simp only[Act.put,zs1,zs2,zs3]
     refine zqt 4 ?_
     try simp only[Act.put,zs1,zs2,zs3]
     refine zqt 5 ?_
     try simp only[Act.put,zs1,zs2,zs3]
     refine zqt 6 ?_
     try simp only[Act.put,zs1,zs2,zs3]
     refine zqs [7,11] ?_
     refine AllReadyH.cons (o:=?b2k) ?bty (fun K hK=>?btz) (AllReadyH.cons (o:=?b1l) ?br1 (fun K hK=>?br2) AllReadyH.nil)
     case bty=>
      simp only[zg1,zg2,zg3];rfl
     case br1=>
      simp only[zg1,zg2,zg3];rfl
     case btz=>
      go_simp
      go_at_call 58
      refine(HFN.out _ hdr).mono ?_
      rintro e wq ⟨hbq,hans⟩
      obtain⟨_,rfl⟩:=hans.resolve_right (fun⟨i,y,us,hh,_⟩=>by have h1:=br0.out;simp only at hh;omega)
      have hq1:=hdr.trans (hbq.mono hdr.size)
      have hk1:Keep wr.heap.size (wr.heap.size+1) wr wq:=Keep.of_below hq1
      refine hK.out _ _ (by first|exact(an8.out _ (by repeat(first|with_reducible exact hk1|with_reducible exact Keep.refl _ _ _|with_reducible refine Keep.drew ?_|with_reducible refine Keep.setAt ?_ _ _|with_reducible refine Keep.alloc ?_ _)))|go_keep) (fun hHeld=>?_)
      clear hK K
      try simp only[Act.put,zs1,zs2,zs3]
      refine zqt 8 ?_
      try simp only[Act.put,zs1,zs2,zs3]
      refine zqt 9 ?_
      try simp only[Act.put,zs1,zs2,zs3]
      refine zqt 10 ?_
      try simp only[Act.put,zs1,zs2,zs3]
      refine zqr 11 fun K hK=>?_
      go_simp
      refine hK.out _ _ (by first|exact(an8.out _ (by repeat(first|with_reducible exact hk1|with_reducible exact Keep.refl _ _ _|with_reducible refine Keep.drew ?_|with_reducible refine Keep.setAt ?_ _ _|with_reducible refine Keep.alloc ?_ _)))|go_keep) (fun hHeld=>?_)
      clear hK K
      try simp only[Act.put,zs1,zs2,zs3]
      refine zqr 12 fun K hK=>?_
      go_simp
      refine hK.out _ _ (by first|exact(an8.out _ (by repeat(first|with_reducible exact hk1|with_reducible exact Keep.refl _ _ _|with_reducible refine Keep.drew ?_|with_reducible refine Keep.setAt ?_ _ _|with_reducible refine Keep.alloc ?_ _)))|go_keep) (fun hHeld=>?_)
      clear hK K
      try simp only[Act.put,zs1,zs2,zs3]
      refine zqt 13 ?_
      try simp only[Act.put,zs1,zs2,zs3]
      refine wpAnyH_done (by kernel_rfl) ?_ _
      go_wp2_with fail
      obtain⟨w7,hw7⟩:=zqe wq 62 #[.slice none 0 0,.int .i64 0,.string {data:=#[]},.slice none 0 0,.slice none 0 0,.bool false]
      rw[← hw7]
      obtain⟨wx,hwx⟩:∃ r,r=wq.heap.size:=⟨_,rfl⟩
      have b7:Blk w7 wx 62 #[.slice none 0 0,.int .i64 0,.string {data:=#[]},.slice none 0 0,.slice none 0 0,.bool false]:=by rw[hw7,hwx];exact Blk.new wq _ _
      have hb7:Below wr.heap.size wr w7:=by rw[hw7];exact hq1.alloc hq1.size _
      have bkd:wr.heap.size≤wx:=by rw[hwx];exact hq1.size
      have hrq:=zqb hw7
      rw[← hwx]
      clear hw7 hwx
      have hB7:=hBs.trans (hb7.mono hBs.size)
      have bR7:=bRs.step hb7
      have z47:w7.cell? ⟨w.heap.size+1,4,none⟩=some (.slice (some ⟨g,off,none⟩) aif am6):=(bCs.step hb7).cell 4
      have brz:w7.cell? ⟨g,off+m * 7,none⟩=some (.string name2):=(hb7.cell (p:=⟨g,off+m * 7,none⟩) (by have:=hBs.size;simp only;omega)).trans ad5
      try go_wp2_with fail
      refine(aen 9 q2 _).mono ?_
      rintro e wz ⟨rfl,hbz⟩
      have hBz:=hB7.trans (hbz.mono (by have:=hB7.size;omega))
      have bRz:=bR7.step hbz
      have hsz:=hbz.size
      obtain⟨r0,r1,f0,f1⟩:=zr bRz
      go_wp2_with fail
      obtain⟨n0,n1,nB⟩:=aaw bRz hBz (by omega) (9) (q2)
      exact bodyPost_ret (v:=.tuple #[.agg #[.int .i64 9,.string q2],.bool true]) (by simp[results,Tryz.results28,go_sem,n0,n1]) rfl ⟨qc (by rw[HF.out];rfl) (by rw[HF.out];rfl) (by rw[HF.out];rfl),nB⟩
     case br2=>
      go_simp
      refine hK.out _ _ (by first|exact(an8.out _ ((Keep.refl _ _ _).drew.alloc _))|go_keep) (fun hHeld=>?_)
      clear hK K
      try simp only[Act.put,zs1,zs2,zs3]
      refine zqr 7 fun K hK=>?_
      go_simp
      go_at_call 58
      refine(HFN.out _ hdz).mono ?_
      rintro e wq ⟨hbq,hans⟩
      obtain⟨_,rfl⟩:=hans.resolve_right (fun⟨i,y,us,hh,_⟩=>by have h1:=br0.out;simp only at hh;omega)
      have hq1:=hdz.trans (hbq.mono hdz.size)
      have hk1:Keep wr.heap.size (wr.heap.size+1) wr wq:=Keep.of_below hq1
      have oA:=xA.step hbq
      have fA0:=oA.frozen 0
      have fA1:=oA.frozen 1
      have fA2:=oA.frozen 2
      have fA3:=oA.frozen 3
      have fA4:=oA.frozen 4
      have fA5:=oA.frozen 5
      obtain⟨cA0,cA1,cA2,cA3,cA4,cA5⟩:=zc6 oA
      refine hK.out _ _ (by first|exact(an8.out _ (by repeat(first|with_reducible exact hk1|with_reducible exact Keep.refl _ _ _|with_reducible refine Keep.drew ?_|with_reducible refine Keep.setAt ?_ _ _|with_reducible refine Keep.alloc ?_ _)))|go_keep) (fun hHeld=>?_)
      clear hK K
      try simp only[Act.put,zs1,zs2,zs3]
      refine zqt 8 ?_
      try simp only[Act.put,zs1,zs2,zs3]
      refine zqt 9 ?_
      try simp only[Act.put,zs1,zs2,zs3]
      refine zqt 10 ?_
      try simp only[Act.put,zs1,zs2,zs3]
      refine zqr 12 fun K hK=>?_
      go_simp
      refine hK.out _ _ (by first|exact(an8.out _ (by repeat(first|with_reducible exact hk1|with_reducible exact Keep.refl _ _ _|with_reducible refine Keep.drew ?_|with_reducible refine Keep.setAt ?_ _ _|with_reducible refine Keep.alloc ?_ _)))|go_keep) (fun hHeld=>?_)
      clear hK K
      try simp only[Act.put,zs1,zs2,zs3]
      refine zqt 13 ?_
      try simp only[Act.put,zs1,zs2,zs3]
      refine wpAnyH_done (by kernel_rfl) ?_ _
      go_wp2_with fail
      obtain⟨w7,hw7⟩:∃ V,V=((((((wq.setCell ⟨wr.heap.size,0,none⟩ (.slice none 0 0)).setCell ⟨wr.heap.size,1,none⟩ (.int .i64 0)).setCell ⟨wr.heap.size,2,none⟩ (.string {data:=#[]})).setCell ⟨wr.heap.size,3,none⟩ (.slice none 0 0)).setCell ⟨wr.heap.size,4,none⟩ (.slice none 0 0)).setCell ⟨wr.heap.size,5,none⟩ (.bool false)):=⟨_,rfl⟩
      rw[← hw7]
      obtain⟨wx,hwx⟩:∃ r,r=wr.heap.size:=⟨_,rfl⟩
      have b7:Blk w7 wx 62 #[.slice none 0 0,.int .i64 0,.string {data:=#[]},.slice none 0 0,.slice none 0 0,.bool false]:=by rw[hw7,hwx];have:=((((((oA.aam 0 (.slice none 0 0)).aam 1 (.int .i64 0)).aam 2 (.string {data:=#[]})).aam 3 (.slice none 0 0)).aam 4 (.slice none 0 0)).aam 5 (.bool false));simpa using this
      have hb7:Below wr.heap.size wr w7:=by rw[hw7];(iterate 6 (refine Below.setCell ?_ (by simp) _));exact hq1
      have bkd:wr.heap.size≤wx:=by rw[hwx];exact zql _
      rw[← hwx]
      clear hwx
      have hB7:=hBs.trans (hb7.mono hBs.size)
      have bR7:=bRs.step hb7
      have z47:w7.cell? ⟨w.heap.size+1,4,none⟩=some (.slice (some ⟨g,off,none⟩) aif am6):=(bCs.step hb7).cell 4
      have brz:w7.cell? ⟨g,off+m * 7,none⟩=some (.string name2):=(hb7.cell (p:=⟨g,off+m * 7,none⟩) (by have:=hBs.size;simp only;omega)).trans ad5
      try go_wp2_with fail
      refine(aen 9 q2 _).mono ?_
      rintro e wz ⟨rfl,hbz⟩
      have hBz:=hB7.trans (hbz.mono (by have:=hB7.size;omega))
      have bRz:=bR7.step hbz
      have hsz:=hbz.size
      obtain⟨r0,r1,f0,f1⟩:=zr bRz
      go_wp2_with fail
      obtain⟨n0,n1,nB⟩:=aaw bRz hBz (by omega) (9) (q2)
      exact bodyPost_ret (v:=.tuple #[.agg #[.int .i64 9,.string q2],.bool true]) (by simp[results,Tryz.results28,go_sem,n0,n1]) rfl ⟨qc (by rw[HF.out];rfl) (by rw[HF.out];rfl) (by rw[HF.out];rfl),nB⟩
    case neg=>
     obtain⟨i,y,hfi,hfy⟩:=a2j hneg
     have OYB:=zqd (HFO.out.fs _ (List.mem_of_getElem? hfy)).2
     have av5:=zqd hfi
     have HFY:=zqd hfy
     obtain⟨yn,⟨up,⟨uk,un,ul,ukk⟩,ua⟩⟩:=y
     clear hfi hfy hneg
     go_wp2_with fail
     refine wp_region_held_drew (S:=(fun w'=>w'.cell? ⟨w.heap.size,0,none⟩=some (.string hpk)∧w'.cell? ⟨w.heap.size,1,none⟩=some (.string hnm)∧w'.cell? ⟨w.heap.size,2,none⟩=some (.string agv)∧w'.cell? ⟨w.heap.size,3,none⟩=some (.slice ap3 ap4 ap5)∧w'.cell? ⟨w.heap.size,4,none⟩=some (.slice ay0 ay1 ay2)∧w'.cell? ⟨w.heap.size+1,4,none⟩=some (.slice (some ⟨g,off,none⟩) aif am6)∧w'.cell? ⟨g,off+m * 7,none⟩=some (.string name2))) (by kernel_rfl) (an8.out _ (Keep.refl _ _ _).drew) (fun hHeld=>?_)
     refine zqt 0 ?_
     try simp only[Act.put,zs1,zs2,zs3]
     refine zqt 1 ?_
     try simp only[Act.put,zs1,zs2,zs3]
     refine zqt 2 ?_
     try simp only[Act.put,zs1,zs2,zs3]
     refine zqt 3 ?_
     try simp only[Act.put,zs1,zs2,zs3]
     refine zqt 4 ?_
     try simp only[Act.put,zs1,zs2,zs3]
     refine zqt 5 ?_
     try simp only[Act.put,zs1,zs2,zs3]
     refine zqt 6 ?_
     try simp only[Act.put,zs1,zs2,zs3]
     refine zqs [7,11] ?_
     refine AllReadyH.cons (o:=?b2l) ?bt0 (fun K hK=>?bt1) (AllReadyH.cons (o:=?b1m) ?br3 (fun K hK=>?br4) AllReadyH.nil)
     case bt0=>
      simp only[zg1,zg2,zg3];rfl
     case br3=>
      simp only[zg1,zg2,zg3];rfl
     case bt1=>
      go_simp
      go_at_call 58
      refine(HFN.out _ hdr).mono ?_
      rintro e wq ⟨hbq,hans⟩
      obtain⟨i2,y2,us,hh1,hh2,rfl,hrep⟩:=hans.resolve_left (fun hh=>by have h1:=av5.out;have h2:=hh.1;simp only at h2;omega)
      simp only at hh1 hh2
      obtain rfl:i2=i:=by have:=av5.out;omega
      obtain rfl:=Option.some.inj (HFY.out.symm.trans hh2)
      obtain⟨uA,uN,uC,ulA,ulN,ulC,ukA,ukN,ukC,rfl⟩:=jh.afv hrep
      have HRU:=zqd hrep
      clear hh1 hh2 hrep
      have hq1:=hdr.trans (hbq.mono hdr.size)
      have hk1:Keep wr.heap.size (wr.heap.size+1) wr wq:=Keep.of_below hq1
      refine hK.out _ _ (by first|exact(an8.out _ (by repeat(first|with_reducible exact hk1|with_reducible exact Keep.refl _ _ _|with_reducible refine Keep.drew ?_|with_reducible refine Keep.setAt ?_ _ _|with_reducible refine Keep.alloc ?_ _)))|go_keep) (fun hHeld=>?_)
      clear hK K
      try simp only[Act.put,zs1,zs2,zs3]
      refine zqt 8 ?_
      try simp only[Act.put,zs1,zs2,zs3]
      refine zqt 9 ?_
      try simp only[Act.put,zs1,zs2,zs3]
      refine zqt 10 ?_
      try simp only[Act.put,zs1,zs2,zs3]
      refine zqr 11 fun K hK=>?_
      go_simp
      refine hK.out _ _ (by first|exact(an8.out _ (by repeat(first|with_reducible exact hk1|with_reducible exact Keep.refl _ _ _|with_reducible refine Keep.drew ?_|with_reducible refine Keep.setAt ?_ _ _|with_reducible refine Keep.alloc ?_ _)))|go_keep) (fun hHeld=>?_)
      clear hK K
      try simp only[Act.put,zs1,zs2,zs3]
      refine zqr 12 fun K hK=>?_
      go_simp
      refine hK.out _ _ (by first|exact(an8.out _ (by repeat(first|with_reducible exact hk1|with_reducible exact Keep.refl _ _ _|with_reducible refine Keep.drew ?_|with_reducible refine Keep.setAt ?_ _ _|with_reducible refine Keep.alloc ?_ _)))|go_keep) (fun hHeld=>?_)
      clear hK K
      try simp only[Act.put,zs1,zs2,zs3]
      refine zqt 13 ?_
      try simp only[Act.put,zs1,zs2,zs3]
      refine wpAnyH_done (by kernel_rfl) ?_ _
      go_wp2_with fail
      obtain⟨w7,hw7⟩:=zqe wq 62 #[.slice uA uN uC,.int .i64 uk,.string un,.slice ulA ulN ulC,.slice ukA ukN ukC,.bool ua]
      rw[← hw7]
      obtain⟨wx,hwx⟩:∃ r,r=wq.heap.size:=⟨_,rfl⟩
      have b7:Blk w7 wx 62 #[.slice uA uN uC,.int .i64 uk,.string un,.slice ulA ulN ulC,.slice ukA ukN ukC,.bool ua]:=by rw[hw7,hwx];exact Blk.new wq _ _
      have hb7:Below wr.heap.size wr w7:=by rw[hw7];exact hq1.alloc hq1.size _
      have bkd:wr.heap.size≤wx:=by rw[hwx];exact hq1.size
      have hrq:=zqb hw7
      rw[← hwx]
      clear hw7 hwx
      have hB7:=hBs.trans (hb7.mono hBs.size)
      have bR7:=bRs.step hb7
      have hs7:=hb7.size
      have bC7:=bCs.step hb7
      have hlx:=b7.lt
      have HL7:Hid (LvC w7 wr.drew.heap.size wq.heap.size (jh.pd ⟨up,⟨uk,un,ul,ukk⟩,ua⟩) [.slice uA uN uC,.int .i64 uk,.string un,.slice ulA ulN ulC,.slice ukA ukN ukC,.bool ua]):=HRU.out.step hrq
      have bke:Hid (w.heap.size+1+1+1≤wr.drew.heap.size):=by have:=bRs.lt;show _≤wr.heap.size;omega
      have HBX:Hid (lq w7 B (jh.pd ⟨acz,⟨mg,ng,aac,aav⟩,yt⟩) [.slice abh abj abk,.int .i64 mg,.string ng,.slice vk wu xg,.slice y9 zf zh,.bool yt]):=jh.close_ (agm.out.below (hb7.mono (Nat.le_trans hB hBs.size))) (aeg.out.below (hb7.mono (Nat.le_trans hB hBs.size))) (aeo.out.below (hb7.mono (Nat.le_trans hB hBs.size)))
      have hRB:=bR7.lt
      have bwv:=bRs.lt
      obtain⟨R2,hR2⟩:∃ r,ah3 (agf 4) ⟨up,⟨uk,un,ul,ukk⟩,ua⟩ ⟨acz,⟨mg,ng,aac,aav⟩,yt⟩ q2=r:=⟨_,rfl⟩
      have HC:=fun(V:World) (hV:Keep (w.heap.size+1+1) (w.heap.size+1+1+1) w7 V)=>aus ⟨up,⟨uk,un,ul,ukk⟩,ua⟩ ⟨acz,⟨mg,ng,aac,aav⟩,yt⟩ q2 V.heap.size [.slice uA uN uC,.int .i64 uk,.string un,.slice ulA ulN ulC,.slice ukA ukN ukC,.bool ua] [.slice abh abj abk,.int .i64 mg,.string ng,.slice vk wu xg,.slice y9 zf zh,.bool yt] V (zql _) (hT.below (hB7.trans (kb hV (by omega)))) (aqo OYB.out) OX.out (by omega) ((HL7.out.kept hV (.inr bke.out)).is) ((HBX.out.below (kb hV (by omega))).more (Nat.le_trans (Nat.le_trans hB hB7.size) hV.size))
      unfold WQ at HC
      rw[hR2] at HC
      obtain⟨RK,RS,RN,HRK,HRS,HRN⟩:=agp R2
      rw[HRK.out,HRS.out,HRN.out] at HC
      replace HC:=zqd HC
      have HK2:Hid (aja at_ hfs wfs m=R2):=by show _=_;rw[a2f HX2.out av5.out HFY.out];simp only;rw[HQ2.out,hR2]
      clear hR2
      have HS:Hid (∀ V,Keep (w.heap.size+1+1) (w.heap.size+1+1+1) w7 V→V.cell? ⟨wx,0,none⟩=some (.slice uA uN uC)∧V.cell? ⟨wx,1,none⟩=some (.int .i64 uk)∧V.cell? ⟨wx,2,none⟩=some (.string un)∧V.cell? ⟨wx,3,none⟩=some (.slice ulA ulN ulC)∧V.cell? ⟨wx,4,none⟩=some (.slice ukA ukN ukC)∧V.cell? ⟨wx,5,none⟩=some (.bool ua)∧V.cell? ⟨w.heap.size+1,4,none⟩=some (.slice (some ⟨g,off,none⟩) aif am6)∧V.cell? ⟨g,off+m * 7,none⟩=some (.string name2)∧V.cell? ⟨g,off+m * 7+1,none⟩=some (.slice abh abj abk)∧V.cell? ⟨g,off+m * 7+2,none⟩=some (.int .i64 mg)∧V.cell? ⟨g,off+m * 7+3,none⟩=some (.string ng)∧V.cell? ⟨g,off+m * 7+4,none⟩=some (.slice vk wu xg)∧V.cell? ⟨g,off+m * 7+5,none⟩=some (.slice y9 zf zh)∧V.cell? ⟨g,off+m * 7+6,none⟩=some (.bool yt)):=zqd fun V hV=>⟨(hV.cell (p:=⟨wx,0,none⟩) (by simp only;omega) (by simp only;omega)).trans (b7.cell 0),(hV.cell (p:=⟨wx,1,none⟩) (by simp only;omega) (by simp only;omega)).trans (b7.cell 1),(hV.cell (p:=⟨wx,2,none⟩) (by simp only;omega) (by simp only;omega)).trans (b7.cell 2),(hV.cell (p:=⟨wx,3,none⟩) (by simp only;omega) (by simp only;omega)).trans (b7.cell 3),(hV.cell (p:=⟨wx,4,none⟩) (by simp only;omega) (by simp only;omega)).trans (b7.cell 4),(hV.cell (p:=⟨wx,5,none⟩) (by simp only;omega) (by simp only;omega)).trans (b7.cell 5),(hV.cell (p:=⟨w.heap.size+1,4,none⟩) (by simp only;omega) (by simp only;omega)).trans (bC7.cell 4),(hV.cell (p:=⟨g,off+m * 7,none⟩) (by simp only;omega) (by simp only;omega)).trans ((hb7.cell (p:=⟨g,off+m * 7,none⟩) (by have:=hBs.size;simp only;omega)).trans ad5),(hV.cell (p:=⟨g,off+m * 7+1,none⟩) (by simp only;omega) (by simp only;omega)).trans ((hb7.cell (p:=⟨g,off+m * 7+1,none⟩) (by have:=hBs.size;simp only;omega)).trans ak7),(hV.cell (p:=⟨g,off+m * 7+2,none⟩) (by simp only;omega) (by simp only;omega)).trans ((hb7.cell (p:=⟨g,off+m * 7+2,none⟩) (by have:=hBs.size;simp only;omega)).trans aia),(hV.cell (p:=⟨g,off+m * 7+3,none⟩) (by simp only;omega) (by simp only;omega)).trans ((hb7.cell (p:=⟨g,off+m * 7+3,none⟩) (by have:=hBs.size;simp only;omega)).trans aib),(hV.cell (p:=⟨g,off+m * 7+4,none⟩) (by simp only;omega) (by simp only;omega)).trans ((hb7.cell (p:=⟨g,off+m * 7+4,none⟩) (by have:=hBs.size;simp only;omega)).trans ahl),(hV.cell (p:=⟨g,off+m * 7+5,none⟩) (by simp only;omega) (by simp only;omega)).trans ((hb7.cell (p:=⟨g,off+m * 7+5,none⟩) (by have:=hBs.size;simp only;omega)).trans aic),(hV.cell (p:=⟨g,off+m * 7+6,none⟩) (by simp only;omega) (by simp only;omega)).trans ((hb7.cell (p:=⟨g,off+m * 7+6,none⟩) (by have:=hBs.size;simp only;omega)).trans alr)⟩
      go_wp2_with fail
      go_region_held3 (fun w'=>w'.cell? ⟨wx,0,none⟩=some (.slice uA uN uC)∧w'.cell? ⟨wx,1,none⟩=some (.int .i64 uk)∧w'.cell? ⟨wx,2,none⟩=some (.string un)∧w'.cell? ⟨wx,3,none⟩=some (.slice ulA ulN ulC)∧w'.cell? ⟨wx,4,none⟩=some (.slice ukA ukN ukC)∧w'.cell? ⟨wx,5,none⟩=some (.bool ua)∧w'.cell? ⟨w.heap.size+1,4,none⟩=some (.slice (some ⟨g,off,none⟩) aif am6)∧w'.cell? ⟨g,off+m * 7,none⟩=some (.string name2)∧w'.cell? ⟨g,off+m * 7+1,none⟩=some (.slice abh abj abk)∧w'.cell? ⟨g,off+m * 7+2,none⟩=some (.int .i64 mg)∧w'.cell? ⟨g,off+m * 7+3,none⟩=some (.string ng)∧w'.cell? ⟨g,off+m * 7+4,none⟩=some (.slice vk wu xg)∧w'.cell? ⟨g,off+m * 7+5,none⟩=some (.slice y9 zf zh)∧w'.cell? ⟨g,off+m * 7+6,none⟩=some (.bool yt))
       (first|exact HS.out _ (by repeat(first|exact hq1|exact hq2|exact Keep.refl _ _ _|refine Keep.drew ?_|refine Keep.alloc ?_ _|refine Keep.setAt ?_ _ _|refine Keep.newAt ?_ (zql _) _ _|refine Keep.newAt ?_ aak.size _ _|refine Keep.newAt ?_ hbW.size _ _)))
       (first|(go_at_call 46;refine(HC.out _ (by repeat(first|exact hq1|exact hq2|exact Keep.refl _ _ _|refine Keep.drew ?_|refine Keep.alloc ?_ _|refine Keep.setAt ?_ _ _|refine Keep.newAt ?_ (zql _) _ _|refine Keep.newAt ?_ aak.size _ _|refine Keep.newAt ?_ hbW.size _ _))).mono ?_;rintro e wq ⟨rfl,hbq⟩;have hbW:Below w7.heap.size w7 wq:=(by first|exact(zqf _ _).drew.trans hbq|exact((zqf _ _).drew.alloc (zql _) _).trans (hbq.mono (by simp)));have hq2:Keep (w.heap.size+1+1) (w.heap.size+1+1+1) w7 wq:=Keep.of_below hbW;(first|(have bP:Blk wq w7.heap.size 34 #[.int .i64 0,.string {data:=#[]}]:=(Blk.new w7.drew _ _).step hbq;have p0:wq.cell? ⟨w7.heap.size,0,none⟩=some (.int .i64 0):=bP.cell 0;have p1:wq.cell? ⟨w7.heap.size,1,none⟩=some (.string {data:=#[]}):=bP.cell 1;have g0:wq.frozen? ⟨w7.heap.size,0,none⟩=false:=bP.frozen 0;have g1:wq.frozen? ⟨w7.heap.size,1,none⟩=false:=bP.frozen 1)|skip)))
      all_goals
       first
        | (obtain⟨w6,hw6⟩:=zqe wq 34 #[.int .i64 RK,.string RS];rw[← hw6];have bX:Blk w6 wq.heap.size 34 #[.int .i64 RK,.string RS]:=(by rw[hw6];exact Blk.new wq _ _);have hb6:Below w7.heap.size w7 w6:=(by rw[hw6];exact hbW.alloc hbW.size _);obtain⟨rx,hrx⟩:∃ r,r=wq.heap.size:=⟨_,rfl⟩;have aiq:w7.heap.size≤rx:=(by rw[hrx];exact hbW.size);rw[← hrx] at bX ⊢;clear hw6 hrx)
        | (obtain⟨w6,hw6⟩:∃ V,V=(wq.setCell ⟨w7.heap.size,0,none⟩ (.int .i64 RK)).setCell ⟨w7.heap.size,1,none⟩ (.string RS):=⟨_,rfl⟩;rw[← hw6];have bX:Blk w6 (w7.heap.size) 34 #[.int .i64 RK,.string RS]:=(by rw[hw6];have:=(bP.aam 0 (.int .i64 RK)).aam 1 (.string RS);simpa using this);have hb6:Below w7.heap.size w7 w6:=(by rw[hw6];exact(hbW.setCell (p:=⟨w7.heap.size,0,none⟩) (by first|exact zql _|exact aak.size|exact hbW.size) _).setCell (p:=⟨w7.heap.size,1,none⟩) (by first|exact zql _|exact aak.size|exact hbW.size) _);obtain⟨rx,hrx⟩:∃ r,r=w7.heap.size:=⟨_,rfl⟩;have aiq:w7.heap.size≤rx:=(by rw[hrx];first|exact zql _|exact hbW.size|exact aak.size);rw[← hrx] at bX ⊢;clear hw6 hrx)
       have hB6:=hB7.trans (hb6.mono (by omega))
       have bR6:=bR7.step hb6
       have hs6:=hb6.size
       cases RN
       case false=>
        have HQ:Hid (zq (aja at_ hfs wfs) (m+1)=none):=by show _=_;exact ae4 HP2.out (by rw[HK2.out];exact af0 HRN.out)
        go_wp2_with fail
        go_roundw
        case rel=>exact⟨m+1,by omega,by go_num,HQ,(hbs.trans (hb7.mono hss)).trans (hb6.mono (by omega))⟩
        case measure=>simp[intOf];omega
       case true=>
        have HF:Hid (R=some (RK,RS)):=by show _=_;rw[HG2.out,← HRK.out,← HRS.out];exact ada HP2.out (by rw[HK2.out];exact af2 HRN.out) _ (by have:=ak8.out;omega)
        obtain⟨q0,q1⟩:=rq bX
        obtain⟨r0,r1,f0,f1⟩:=zr bR6
        go_wp2_with fail
        obtain⟨n0,n1,nB⟩:=aaw bR6 hB6 (by omega) (RK) (RS)
        exact bodyPost_ret (v:=.tuple #[.agg #[.int .i64 RK,.string RS],.bool true]) (by simp[results,Tryz.results28,go_sem,n0,n1]) rfl ⟨qc (by rw[HF.out];rfl) (by rw[HF.out];rfl) (by rw[HF.out];rfl),nB⟩
     case br4=>
      go_simp
      refine hK.out _ _ (by first|exact(an8.out _ ((Keep.refl _ _ _).drew.alloc _))|go_keep) (fun hHeld=>?_)
      clear hK K
      try simp only[Act.put,zs1,zs2,zs3]
      refine zqr 7 fun K hK=>?_
      go_simp
      go_at_call 58
      refine(HFN.out _ hdz).mono ?_
      rintro e wq ⟨hbq,hans⟩
      obtain⟨i2,y2,us,hh1,hh2,rfl,hrep⟩:=hans.resolve_left (fun hh=>by have h1:=av5.out;have h2:=hh.1;simp only at h2;omega)
      simp only at hh1 hh2
      obtain rfl:i2=i:=by have:=av5.out;omega
      obtain rfl:=Option.some.inj (HFY.out.symm.trans hh2)
      obtain⟨uA,uN,uC,ulA,ulN,ulC,ukA,ukN,ukC,rfl⟩:=jh.afv hrep
      have HRU:=zqd hrep
      clear hh1 hh2 hrep
      have hq1:=hdz.trans (hbq.mono hdz.size)
      have hk1:Keep wr.heap.size (wr.heap.size+1) wr wq:=Keep.of_below hq1
      have oA:=xA.step hbq
      have fA0:=oA.frozen 0
      have fA1:=oA.frozen 1
      have fA2:=oA.frozen 2
      have fA3:=oA.frozen 3
      have fA4:=oA.frozen 4
      have fA5:=oA.frozen 5
      obtain⟨cA0,cA1,cA2,cA3,cA4,cA5⟩:=zc6 oA
      refine hK.out _ _ (by first|exact(an8.out _ (by repeat(first|with_reducible exact hk1|with_reducible exact Keep.refl _ _ _|with_reducible refine Keep.drew ?_|with_reducible refine Keep.setAt ?_ _ _|with_reducible refine Keep.alloc ?_ _)))|go_keep) (fun hHeld=>?_)
      clear hK K
      try simp only[Act.put,zs1,zs2,zs3]
      refine zqt 8 ?_
      try simp only[Act.put,zs1,zs2,zs3]
      refine zqt 9 ?_
      try simp only[Act.put,zs1,zs2,zs3]
      refine zqt 10 ?_
      try simp only[Act.put,zs1,zs2,zs3]
      refine zqr 12 fun K hK=>?_
      go_simp
      refine hK.out _ _ (by first|exact(an8.out _ (by repeat(first|with_reducible exact hk1|with_reducible exact Keep.refl _ _ _|with_reducible refine Keep.drew ?_|with_reducible refine Keep.setAt ?_ _ _|with_reducible refine Keep.alloc ?_ _)))|go_keep) (fun hHeld=>?_)
      clear hK K
      try simp only[Act.put,zs1,zs2,zs3]
      refine zqt 13 ?_
      try simp only[Act.put,zs1,zs2,zs3]
      refine wpAnyH_done (by kernel_rfl) ?_ _
      go_wp2_with fail
      obtain⟨w7,hw7⟩:∃ V,V=((((((wq.setCell ⟨wr.heap.size,0,none⟩ (.slice uA uN uC)).setCell ⟨wr.heap.size,1,none⟩ (.int .i64 uk)).setCell ⟨wr.heap.size,2,none⟩ (.string un)).setCell ⟨wr.heap.size,3,none⟩ (.slice ulA ulN ulC)).setCell ⟨wr.heap.size,4,none⟩ (.slice ukA ukN ukC)).setCell ⟨wr.heap.size,5,none⟩ (.bool ua)):=⟨_,rfl⟩
      rw[← hw7]
      obtain⟨wx,hwx⟩:∃ r,r=wr.heap.size:=⟨_,rfl⟩
      have b7:Blk w7 wx 62 #[.slice uA uN uC,.int .i64 uk,.string un,.slice ulA ulN ulC,.slice ukA ukN ukC,.bool ua]:=by rw[hw7,hwx];have:=((((((oA.aam 0 (.slice uA uN uC)).aam 1 (.int .i64 uk)).aam 2 (.string un)).aam 3 (.slice ulA ulN ulC)).aam 4 (.slice ukA ukN ukC)).aam 5 (.bool ua));simpa using this
      have hb7:Below wr.heap.size wr w7:=by rw[hw7];(iterate 6 (refine Below.setCell ?_ (by simp) _));exact hq1
      have bkd:wr.heap.size≤wx:=by rw[hwx];exact zql _
      rw[← hwx]
      clear hwx
      have hB7:=hBs.trans (hb7.mono hBs.size)
      have bR7:=bRs.step hb7
      have hs7:=hb7.size
      have bC7:=bCs.step hb7
      have hlx:=b7.lt
      have HL7:Hid (LvC w7 (wr.alloc (.cells #[.slice none 0 0,.int .i64 0,.string {data:=#[]},.slice none 0 0,.slice none 0 0,.bool false] 62)).drew.heap.size wq.heap.size (jh.pd ⟨up,⟨uk,un,ul,ukk⟩,ua⟩) [.slice uA uN uC,.int .i64 uk,.string un,.slice ulA ulN ulC,.slice ukA ukN ukC,.bool ua]):=by
       show LvC _ _ _ _ _
       rw[hw7]
       (iterate 6 (refine LvC.setCell ?_ (.inl xA.lt) _))
       exact HRU.out
      have bke:Hid (w.heap.size+1+1+1≤(wr.alloc (.cells #[.slice none 0 0,.int .i64 0,.string {data:=#[]},.slice none 0 0,.slice none 0 0,.bool false] 62)).drew.heap.size):=by have:=bRs.lt;have:=xA.lt;show _≤_;omega
      clear hw7
      have HBX:Hid (lq w7 B (jh.pd ⟨acz,⟨mg,ng,aac,aav⟩,yt⟩) [.slice abh abj abk,.int .i64 mg,.string ng,.slice vk wu xg,.slice y9 zf zh,.bool yt]):=jh.close_ (agm.out.below (hb7.mono (Nat.le_trans hB hBs.size))) (aeg.out.below (hb7.mono (Nat.le_trans hB hBs.size))) (aeo.out.below (hb7.mono (Nat.le_trans hB hBs.size)))
      have hRB:=bR7.lt
      have bwv:=bRs.lt
      obtain⟨R2,hR2⟩:∃ r,ah3 (agf 4) ⟨up,⟨uk,un,ul,ukk⟩,ua⟩ ⟨acz,⟨mg,ng,aac,aav⟩,yt⟩ q2=r:=⟨_,rfl⟩
      have HC:=fun(V:World) (hV:Keep (w.heap.size+1+1) (w.heap.size+1+1+1) w7 V)=>aus ⟨up,⟨uk,un,ul,ukk⟩,ua⟩ ⟨acz,⟨mg,ng,aac,aav⟩,yt⟩ q2 V.heap.size [.slice uA uN uC,.int .i64 uk,.string un,.slice ulA ulN ulC,.slice ukA ukN ukC,.bool ua] [.slice abh abj abk,.int .i64 mg,.string ng,.slice vk wu xg,.slice y9 zf zh,.bool yt] V (zql _) (hT.below (hB7.trans (kb hV (by omega)))) (aqo OYB.out) OX.out (by omega) ((HL7.out.kept hV (.inr bke.out)).is) ((HBX.out.below (kb hV (by omega))).more (Nat.le_trans (Nat.le_trans hB hB7.size) hV.size))
      unfold WQ at HC
      rw[hR2] at HC
      obtain⟨RK,RS,RN,HRK,HRS,HRN⟩:=agp R2
      rw[HRK.out,HRS.out,HRN.out] at HC
      replace HC:=zqd HC
      have HK2:Hid (aja at_ hfs wfs m=R2):=by show _=_;rw[a2f HX2.out av5.out HFY.out];simp only;rw[HQ2.out,hR2]
      clear hR2
      have HS:Hid (∀ V,Keep (w.heap.size+1+1) (w.heap.size+1+1+1) w7 V→V.cell? ⟨wx,0,none⟩=some (.slice uA uN uC)∧V.cell? ⟨wx,1,none⟩=some (.int .i64 uk)∧V.cell? ⟨wx,2,none⟩=some (.string un)∧V.cell? ⟨wx,3,none⟩=some (.slice ulA ulN ulC)∧V.cell? ⟨wx,4,none⟩=some (.slice ukA ukN ukC)∧V.cell? ⟨wx,5,none⟩=some (.bool ua)∧V.cell? ⟨w.heap.size+1,4,none⟩=some (.slice (some ⟨g,off,none⟩) aif am6)∧V.cell? ⟨g,off+m * 7,none⟩=some (.string name2)∧V.cell? ⟨g,off+m * 7+1,none⟩=some (.slice abh abj abk)∧V.cell? ⟨g,off+m * 7+2,none⟩=some (.int .i64 mg)∧V.cell? ⟨g,off+m * 7+3,none⟩=some (.string ng)∧V.cell? ⟨g,off+m * 7+4,none⟩=some (.slice vk wu xg)∧V.cell? ⟨g,off+m * 7+5,none⟩=some (.slice y9 zf zh)∧V.cell? ⟨g,off+m * 7+6,none⟩=some (.bool yt)):=zqd fun V hV=>⟨(hV.cell (p:=⟨wx,0,none⟩) (by simp only;omega) (by simp only;omega)).trans (b7.cell 0),(hV.cell (p:=⟨wx,1,none⟩) (by simp only;omega) (by simp only;omega)).trans (b7.cell 1),(hV.cell (p:=⟨wx,2,none⟩) (by simp only;omega) (by simp only;omega)).trans (b7.cell 2),(hV.cell (p:=⟨wx,3,none⟩) (by simp only;omega) (by simp only;omega)).trans (b7.cell 3),(hV.cell (p:=⟨wx,4,none⟩) (by simp only;omega) (by simp only;omega)).trans (b7.cell 4),(hV.cell (p:=⟨wx,5,none⟩) (by simp only;omega) (by simp only;omega)).trans (b7.cell 5),(hV.cell (p:=⟨w.heap.size+1,4,none⟩) (by simp only;omega) (by simp only;omega)).trans (bC7.cell 4),(hV.cell (p:=⟨g,off+m * 7,none⟩) (by simp only;omega) (by simp only;omega)).trans ((hb7.cell (p:=⟨g,off+m * 7,none⟩) (by have:=hBs.size;simp only;omega)).trans ad5),(hV.cell (p:=⟨g,off+m * 7+1,none⟩) (by simp only;omega) (by simp only;omega)).trans ((hb7.cell (p:=⟨g,off+m * 7+1,none⟩) (by have:=hBs.size;simp only;omega)).trans ak7),(hV.cell (p:=⟨g,off+m * 7+2,none⟩) (by simp only;omega) (by simp only;omega)).trans ((hb7.cell (p:=⟨g,off+m * 7+2,none⟩) (by have:=hBs.size;simp only;omega)).trans aia),(hV.cell (p:=⟨g,off+m * 7+3,none⟩) (by simp only;omega) (by simp only;omega)).trans ((hb7.cell (p:=⟨g,off+m * 7+3,none⟩) (by have:=hBs.size;simp only;omega)).trans aib),(hV.cell (p:=⟨g,off+m * 7+4,none⟩) (by simp only;omega) (by simp only;omega)).trans ((hb7.cell (p:=⟨g,off+m * 7+4,none⟩) (by have:=hBs.size;simp only;omega)).trans ahl),(hV.cell (p:=⟨g,off+m * 7+5,none⟩) (by simp only;omega) (by simp only;omega)).trans ((hb7.cell (p:=⟨g,off+m * 7+5,none⟩) (by have:=hBs.size;simp only;omega)).trans aic),(hV.cell (p:=⟨g,off+m * 7+6,none⟩) (by simp only;omega) (by simp only;omega)).trans ((hb7.cell (p:=⟨g,off+m * 7+6,none⟩) (by have:=hBs.size;simp only;omega)).trans alr)⟩
      go_wp2_with fail
      go_region_held3 (fun w'=>w'.cell? ⟨wx,0,none⟩=some (.slice uA uN uC)∧w'.cell? ⟨wx,1,none⟩=some (.int .i64 uk)∧w'.cell? ⟨wx,2,none⟩=some (.string un)∧w'.cell? ⟨wx,3,none⟩=some (.slice ulA ulN ulC)∧w'.cell? ⟨wx,4,none⟩=some (.slice ukA ukN ukC)∧w'.cell? ⟨wx,5,none⟩=some (.bool ua)∧w'.cell? ⟨w.heap.size+1,4,none⟩=some (.slice (some ⟨g,off,none⟩) aif am6)∧w'.cell? ⟨g,off+m * 7,none⟩=some (.string name2)∧w'.cell? ⟨g,off+m * 7+1,none⟩=some (.slice abh abj abk)∧w'.cell? ⟨g,off+m * 7+2,none⟩=some (.int .i64 mg)∧w'.cell? ⟨g,off+m * 7+3,none⟩=some (.string ng)∧w'.cell? ⟨g,off+m * 7+4,none⟩=some (.slice vk wu xg)∧w'.cell? ⟨g,off+m * 7+5,none⟩=some (.slice y9 zf zh)∧w'.cell? ⟨g,off+m * 7+6,none⟩=some (.bool yt))
       (first|exact HS.out _ (by repeat(first|exact hq1|exact hq2|exact Keep.refl _ _ _|refine Keep.drew ?_|refine Keep.alloc ?_ _|refine Keep.setAt ?_ _ _|refine Keep.newAt ?_ (zql _) _ _|refine Keep.newAt ?_ aak.size _ _|refine Keep.newAt ?_ hbW.size _ _)))
       (first|(go_at_call 46;refine(HC.out _ (by repeat(first|exact hq1|exact hq2|exact Keep.refl _ _ _|refine Keep.drew ?_|refine Keep.alloc ?_ _|refine Keep.setAt ?_ _ _|refine Keep.newAt ?_ (zql _) _ _|refine Keep.newAt ?_ aak.size _ _|refine Keep.newAt ?_ hbW.size _ _))).mono ?_;rintro e wq ⟨rfl,hbq⟩;have hbW:Below w7.heap.size w7 wq:=(by first|exact(zqf _ _).drew.trans hbq|exact((zqf _ _).drew.alloc (zql _) _).trans (hbq.mono (by simp)));have hq2:Keep (w.heap.size+1+1) (w.heap.size+1+1+1) w7 wq:=Keep.of_below hbW;(first|(have bP:Blk wq w7.heap.size 34 #[.int .i64 0,.string {data:=#[]}]:=(Blk.new w7.drew _ _).step hbq;have p0:wq.cell? ⟨w7.heap.size,0,none⟩=some (.int .i64 0):=bP.cell 0;have p1:wq.cell? ⟨w7.heap.size,1,none⟩=some (.string {data:=#[]}):=bP.cell 1;have g0:wq.frozen? ⟨w7.heap.size,0,none⟩=false:=bP.frozen 0;have g1:wq.frozen? ⟨w7.heap.size,1,none⟩=false:=bP.frozen 1)|skip)))
      all_goals
       first
        | (obtain⟨w6,hw6⟩:=zqe wq 34 #[.int .i64 RK,.string RS];rw[← hw6];have bX:Blk w6 wq.heap.size 34 #[.int .i64 RK,.string RS]:=(by rw[hw6];exact Blk.new wq _ _);have hb6:Below w7.heap.size w7 w6:=(by rw[hw6];exact hbW.alloc hbW.size _);obtain⟨rx,hrx⟩:∃ r,r=wq.heap.size:=⟨_,rfl⟩;have aiq:w7.heap.size≤rx:=(by rw[hrx];exact hbW.size);rw[← hrx] at bX ⊢;clear hw6 hrx)
        | (obtain⟨w6,hw6⟩:∃ V,V=(wq.setCell ⟨w7.heap.size,0,none⟩ (.int .i64 RK)).setCell ⟨w7.heap.size,1,none⟩ (.string RS):=⟨_,rfl⟩;rw[← hw6];have bX:Blk w6 (w7.heap.size) 34 #[.int .i64 RK,.string RS]:=(by rw[hw6];have:=(bP.aam 0 (.int .i64 RK)).aam 1 (.string RS);simpa using this);have hb6:Below w7.heap.size w7 w6:=(by rw[hw6];exact(hbW.setCell (p:=⟨w7.heap.size,0,none⟩) (by first|exact zql _|exact aak.size|exact hbW.size) _).setCell (p:=⟨w7.heap.size,1,none⟩) (by first|exact zql _|exact aak.size|exact hbW.size) _);obtain⟨rx,hrx⟩:∃ r,r=w7.heap.size:=⟨_,rfl⟩;have aiq:w7.heap.size≤rx:=(by rw[hrx];first|exact zql _|exact hbW.size|exact aak.size);rw[← hrx] at bX ⊢;clear hw6 hrx)
       have hB6:=hB7.trans (hb6.mono (by omega))
       have bR6:=bR7.step hb6
       have hs6:=hb6.size
       cases RN
       case false=>
        have HQ:Hid (zq (aja at_ hfs wfs) (m+1)=none):=by show _=_;exact ae4 HP2.out (by rw[HK2.out];exact af0 HRN.out)
        go_wp2_with fail
        go_roundw
        case rel=>exact⟨m+1,by omega,by go_num,HQ,(hbs.trans (hb7.mono hss)).trans (hb6.mono (by omega))⟩
        case measure=>simp[intOf];omega
       case true=>
        have HF:Hid (R=some (RK,RS)):=by show _=_;rw[HG2.out,← HRK.out,← HRS.out];exact ada HP2.out (by rw[HK2.out];exact af2 HRN.out) _ (by have:=ak8.out;omega)
        obtain⟨q0,q1⟩:=rq bX
        obtain⟨r0,r1,f0,f1⟩:=zr bR6
        go_wp2_with fail
        obtain⟨n0,n1,nB⟩:=aaw bR6 hB6 (by omega) (RK) (RS)
        exact bodyPost_ret (v:=.tuple #[.agg #[.int .i64 RK,.string RS],.bool true]) (by simp[results,Tryz.results28,go_sem,n0,n1]) rfl ⟨qc (by rw[HF.out];rfl) (by rw[HF.out];rfl) (by rw[HF.out];rfl),nB⟩
end Go.Proofs.YtbafphecjijdmaaGreatDoor
