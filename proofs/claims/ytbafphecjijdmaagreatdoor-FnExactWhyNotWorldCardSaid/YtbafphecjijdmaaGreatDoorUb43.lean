/-
  Why one interface cannot stand for another: impl.whyNotFace (versions: true; by program: gen_fcv.py) (by program: gen_why.py).
-/
import Derived.Test.YtbafphecjijdmaaGreatDoorUb29
import Derived.Test.YtbafphecjijdmaaGreatDoorUb38
import Derived.Test.YtbafphecjijdmaaGreatDoorUb39
import Derived.Test.YtbafphecjijdmaaGreatDoorUb42
namespace Go.Proofs.YtbafphecjijdmaaGreatDoor
open Go.RowKit
set_option linter.all false
set_option maxRecDepth 16000
set_option maxHeartbeats 12800000 in
theorem be7 (a b:cu) (ha:ag9 a=true) (hb:ag9 b=true) (hwa:PD.wfL (cu.pd a)) (hwb:PD.wfL (cu.pd b)) (hsa:PD.szL (cu.pd a)≤1048576) (hsb:PD.szL (cu.pd b)≤1048576) (at0:ByteArray) (b3l:at0.size≤100) {B:Nat} {cs ds:List Value} {w:World} (hB:B≤w.heap.size) (hT:akm w) (h:lq w B (cu.pd a) cs) (k:lq w B (cu.pd b) ds):
  Calls Tryz.prog 32 #[.agg cs.toArray,.agg ds.toArray,.string at0,.bool true] w fun e w'=>WQ (aha a b (aol at0 b.package b.name) true) w e w':=by
 have HFI:=zqd (fun nm (V:World) (hV:B≤V.heap.size) us (k:lq V B (cu.pd a) us)=>bbc a nm (w:=V) hV k)
 have HVZ:=zqd (ala hsa).1
 have HVW:=zqd (ala hsb).1
 have HFO:=zqd (anf ha)
 have HWO:=zqd (anf hb)
 obtain⟨hpk,hnm,agv,hres,hfs⟩:=a
 obtain⟨wpk,wnm,ahv,an7,wfs⟩:=b
 obtain⟨btr,bwr,rfl,aqx,aub⟩:=cu.open_ h
 obtain⟨ap3,ap4,ap5,rfl,ash,boc,ayz⟩:=akg aqx
 obtain⟨ay0,ay1,ay2,rfl,av2,a81,bod⟩:=ni Fun.jd (by decide) aub
 unfold maxLen at a81
 have av3:=zqd aqx
 have bex:=zqd aub
 have boe:=zqd ash
 have brx:=zqd av2
 clear aqx aub ash av2
 obtain⟨bts,bwt,rfl,aqy,auc⟩:=cu.open_ k
 obtain⟨aw3,ajo,aud,rfl,asi,bof,am5⟩:=akg aqy
 obtain⟨a2p,aif,am6,rfl,av4,a88,a2q⟩:=ni Fun.jd (by decide) auc
 unfold maxLen at a88
 have bry:=zqd aqy
 have btt:=zqd auc
 have amf:=zqd asi
 have ak8:=zqd av4
 clear aqy auc asi av4
 have btu:wpk.size≤12:=HWO.out.pk
 have btv:wnm.size≤12:=HWO.out.nm
 have h4:ajo≤4:=by have h1:an7.length≤4:=HWO.out.bro;have:=amf.out;omega
 have h8:aif≤8:=by have h1:wfs.length≤8:=HWO.out.fs8;have:=ak8.out;omega
 simp only at HVZ HVW
 clear h k ha hb hwa hwb hsa hsb
 have alq:=zqd (fun(V:World) (hV:Below w.heap.size w V)=>cu.close_ (package:=hpk) (name:=hnm) (version:=agv) (av3.out.below (hV.mono hB)) (bex.out.below (hV.mono hB)))
 have als:(9223372036854775807 < wpk.size+(⟨#[47]⟩:ByteArray).size)=False:=eq_false (by have z_:(⟨#[47]⟩:ByteArray).size=1:=rfl;omega)
 have alu:(9223372036854775807 < wpk.size+1)=False:=eq_false (by omega)
 obtain⟨p1,ad3⟩:∃ p,wpk ++(⟨#[47]⟩:ByteArray)=p:=⟨_,rfl⟩
 have alv:p1.size≤13:=by rw[← ad3,ByteArray.size_append];have z_:(⟨#[47]⟩:ByteArray).size=1:=rfl;omega
 have ari:(9223372036854775807 < p1.size+wnm.size)=False:=eq_false (by omega)
 obtain⟨p2,agz⟩:∃ p,p1 ++wnm=p:=⟨_,rfl⟩
 have aps:p2.size≤25:=by rw[← agz,ByteArray.size_append];omega
 have btw:(9223372036854775807 < at0.size+p2.size)=False:=eq_false (by omega)
 obtain⟨at_,a04⟩:∃ p,at0 ++p2=p:=⟨_,rfl⟩
 have btx:at_.size≤125:=by rw[← a04,ByteArray.size_append];omega
 obtain⟨R,hR⟩:∃ R:Why,R=aha ⟨hpk,hnm,agv,hres,hfs⟩ ⟨wpk,wnm,ahv,an7,wfs⟩ at_ true:=⟨_,rfl⟩
 have HRR:Hid (R=aha ⟨hpk,hnm,agv,hres,hfs⟩ ⟨wpk,wnm,ahv,an7,wfs⟩ (aol at0 wpk wnm) true):=by show _=_;rw[hR,← a04,← agz,← ad3];rfl
 simp only
 rw[← HRR.out]
 have HR:=zqd hR
 clear hR HRR
 obtain⟨w0,hw0,bA,bC,bR,hB0,hs0⟩:=afb w 30 #[.string hpk,.string hnm,.string agv,.slice ap3 ap4 ap5,.slice ay0 ay1 ay2] #[.string wpk,.string wnm,.string ahv,.slice aw3 ajo aud,.slice a2p aif am6]
 have HW0:=zqd hw0
 clear hw0
 by_cases hpe:hpk=wpk
 case neg=>
  have HF:Hid (R=some (11,at_)):=by show _=_;rw[HR.out];exact aos (fun hh=>hpe hh.1)
  have hs1:(hpk.toList ==wpk.toList)=false:=aeu hpe
  clear hpe
  go_enter Tryz.func32,Tryz.ntmps32
  go_wp2_with fail
  try rw[← HW0.out]
  refine(ae6 11 at_ _).mono ?_
  rintro e wz ⟨rfl,hbz⟩
  have hBz:=hB0.trans (hbz.mono (by omega))
  have bRz:=bR.step hbz
  have hsz:=hbz.size
  obtain⟨r0,r1,f0,f1⟩:=zr bRz
  go_wp2_with fail
  obtain⟨n0,n1,nB⟩:=aaw bRz hBz (by omega) (11) (at_)
  exact bodyPost_ret (v:=.tuple #[.agg #[.int .i64 11,.string at_],.bool true]) (by simp[results,Tryz.results32,go_sem,n0,n1]) rfl ⟨qc (by rw[HF.out];rfl) (by rw[HF.out];rfl) (by rw[HF.out];rfl),nB⟩
 have hs1:(hpk.toList ==wpk.toList)=true:=by rw[hpe];simp
 by_cases hne:hnm=wnm
 case neg=>
  have HF:Hid (R=some (11,at_)):=by show _=_;rw[HR.out];exact aos (fun hh=>hne hh.2)
  have hs2:(hnm.toList ==wnm.toList)=false:=aeu hne
  clear hne hpe
  go_enter Tryz.func32,Tryz.ntmps32
  go_wp2_with fail
  try rw[← HW0.out]
  refine(ae6 11 at_ _).mono ?_
  rintro e wz ⟨rfl,hbz⟩
  have hBz:=hB0.trans (hbz.mono (by omega))
  have bRz:=bR.step hbz
  have hsz:=hbz.size
  obtain⟨r0,r1,f0,f1⟩:=zr bRz
  go_wp2_with fail
  obtain⟨n0,n1,nB⟩:=aaw bRz hBz (by omega) (11) (at_)
  exact bodyPost_ret (v:=.tuple #[.agg #[.int .i64 11,.string at_],.bool true]) (by simp[results,Tryz.results32,go_sem,n0,n1]) rfl ⟨qc (by rw[HF.out];rfl) (by rw[HF.out];rfl) (by rw[HF.out];rfl),nB⟩
 have hs2:(hnm.toList ==wnm.toList)=true:=by rw[hne];simp
 have HEQ:Hid (hpk=wpk∧hnm=wnm):=⟨hpe,hne⟩
 clear hne hpe
 have HSV:=zqd (bbd agv ahv HVZ.out HVW.out w0 (hT.below hB0))
 obtain⟨sv,hsv⟩:∃ b,ap2 agv ahv=b:=⟨_,rfl⟩
 rw[hsv] at HSV
 go_enter Tryz.func32,Tryz.ntmps32
 go_wp2_with fail
 rw[← HW0.out]
 clear HW0
 refine HSV.out.mono ?_
 rintro e wv ⟨rfl,hbv⟩
 have hBv:=hB0.trans (hbv.mono (by omega))
 have bwu:=hbv.size
 have bAv:=bA.step hbv
 have bCv:=bC.step hbv
 have bRv:=bR.step hbv
 clear bA bC bR
 cases sv
 case false=>
  have HF:Hid (R=some (10,at_)):=by show _=_;rw[HR.out];exact a3x HEQ.out hsv
  go_wp2_with fail
  refine(ae6 10 at_ _).mono ?_
  rintro e wz ⟨rfl,hbz⟩
  have hBz:=hBv.trans (hbz.mono (by omega))
  have bRz:=bRv.step hbz
  have hsz:=hbz.size
  obtain⟨r0,r1,f0,f1⟩:=zr bRz
  go_wp2_with fail
  obtain⟨n0,n1,nB⟩:=aaw bRz hBz (by omega) (10) (at_)
  exact bodyPost_ret (v:=.tuple #[.agg #[.int .i64 10,.string at_],.bool true]) (by simp[results,Tryz.results32,go_sem,n0,n1]) rfl ⟨qc (by rw[HF.out];rfl) (by rw[HF.out];rfl) (by rw[HF.out];rfl),nB⟩
 have HG:Hid (R=match zq (ald at_ hres an7) an7.length with|some r=>some r|none=>zq (aja at_ hfs wfs) wfs.length):=by show _=_;rw[HR.out];exact a8j HEQ.out (fun _=>hsv)
 clear hsv
 have z3v:wv.cell? ⟨w.heap.size+1,3,none⟩=some (.slice aw3 ajo aud):=bCv.cell 3
 go_wp2_with fail
 clear z3v
 go_loopw [61] (fun i wr=>∃ k:Nat,k≤ajo∧i=.int .i64 k∧Hid (zq (ald at_ hres an7) k=none)∧Below wv.heap.size wv wr) (fun i _=>ajo - (intOf i).toNat)
 case atStart=>exact⟨0,Nat.zero_le _,rfl,zqd rfl,zqf _ _⟩
 case round=>
  obtain⟨k,hk,rfl,HP,hbr⟩:=hrel
  have hBr:=hBv.trans (hbr.mono hBv.size)
  have hsr:=hbr.size
  have bRr:=bRv.step hbr
  have bAr:=bAv.step hbr
  have bCr:=bCv.step hbr
  clear bAv bCv bRv
  have a3:wr.cell? ⟨w.heap.size,3,none⟩=some (.slice ap3 ap4 ap5):=bAr.cell 3
  by_cases hlt:k < ajo
  case pos=>
   obtain⟨g,off,rfl,hg,hcell⟩:=am5 (by omega)
   obtain⟨x,hx,hxm⟩:=um amf.out hlt
   have l_x:x.size≤12:=HWO.out.res x hxm
   have c_x:wr.cell? ⟨g,off+k,none⟩=some (.string x):=(hBr.cell (p:=⟨g,off+k,none⟩) (by simp only;omega)).trans (hcell k x hx)
   have HX:=zqd hx
   clear hx hxm hcell am5
   have HLB:=zqd (alc x (Nat.le_trans hB hBr.size) (av3.out.below (hBr.mono hB)))
   obtain⟨ix,hix⟩:∃ ix,(hres.any fun t=>decide (x=t))=ix:=⟨_,rfl⟩
   rw[hix] at HLB
   have HIX:Hid (decide (0≤acu (strEq x) hres)=ix):=(akv (strEq x) hres).trans hix
   clear hix
   have a9a:(9223372036854775807 < at_.size+(⟨#[46]⟩:ByteArray).size)=False:=eq_false (by have z_:(⟨#[46]⟩:ByteArray).size=1:=rfl;omega)
   have bkb:(9223372036854775807 < at_.size+1)=False:=eq_false (by omega)
   obtain⟨q1,al2⟩:∃ p,at_ ++(⟨#[46]⟩:ByteArray)=p:=⟨_,rfl⟩
   have a9b:q1.size≤126:=by rw[← al2,ByteArray.size_append];have z_:(⟨#[46]⟩:ByteArray).size=1:=rfl;omega
   have a9c:(9223372036854775807 < q1.size+x.size)=False:=eq_false (by omega)
   obtain⟨q2,al3⟩:∃ p,q1 ++x=p:=⟨_,rfl⟩
   have a9d:q2.size≤138:=by rw[← al3,ByteArray.size_append];omega
   have HQ2:Hid (ah6 at_ x=q2):=by show _=_;rw[← al3,← al2];rfl
   go_wp2_with fail
   refine HLB.out.mono ?_
   rintro e w7 ⟨rfl,hb7⟩
   have hs7:=hb7.size
   have hB7:=hBr.trans (hb7.mono hBr.size)
   have bR7:=bRr.step hb7
   cases ix
   case false=>
    have HF:Hid (R=some (6,q2)):=by show _=_;rw[HG.out,ada HP.out (a8i HX.out (by have:=of_decide_eq_false HIX.out;omega)) _ (by have:=amf.out;omega),← HQ2.out]
    go_wp2_with fail
    refine(ae6 6 q2 _).mono ?_
    rintro e wz ⟨rfl,hbz⟩
    have hBz:=hB7.trans (hbz.mono (by omega))
    have bRz:=bR7.step hbz
    have hsz:=hbz.size
    obtain⟨r0,r1,f0,f1⟩:=zr bRz
    go_wp2_with fail
    obtain⟨n0,n1,nB⟩:=aaw bRz hBz (by omega) (6) (q2)
    exact bodyPost_ret (v:=.tuple #[.agg #[.int .i64 6,.string q2],.bool true]) (by simp[results,Tryz.results32,go_sem,n0,n1]) rfl ⟨qc (by rw[HF.out];rfl) (by rw[HF.out];rfl) (by rw[HF.out];rfl),nB⟩
   case true=>
    have HQ:=zqd (ae4 HP.out (bck (at_:=at_) HX.out (by have:=of_decide_eq_true HIX.out;omega)))
    go_wp2_with fail
    go_roundw
    case rel=>exact⟨k+1,by omega,by go_num,HQ,hbr.trans (hb7.mono hsr)⟩
    case measure=>simp[intOf];omega
  case neg=>
   have hkn:k=ajo:=by omega
   subst hkn
   have HG2:Hid (R=zq (aja at_ hfs wfs) wfs.length):=by show _=_;rw[HG.out,← amf.out,HP.out]
   clear HG am5 ayz
   have z4r:wr.cell? ⟨w.heap.size+1,4,none⟩=some (.slice a2p aif am6):=bCr.cell 4
   go_wp2_with fail
   obtain⟨W,rfl⟩:∃ V,V=wr:=⟨_,rfl⟩
   clear z4r a3 hsr hbr
   go_loopw [81] (fun i wr=>∃ m:Nat,m≤aif∧i=.int .i64 m∧Hid (zq (aja at_ hfs wfs) m=none)∧Below W.heap.size W wr) (fun i _=>aif - (intOf i).toNat)
   case atStart=>exact⟨0,Nat.zero_le _,rfl,zqd rfl,zqf _ _⟩
   case round=>
    obtain⟨m,hm9,rfl,HP2,hbs⟩:=hrel
    have hBs:=hBr.trans (hbs.mono hBr.size)
    have hss:=hbs.size
    have bRs:=bRr.step hbs
    have bAs:=bAr.step hbs
    clear bAr bCr bRr
    by_cases hlt2:m < aif
    case neg=>
     have hmn:m=aif:=by omega
     have HF:Hid (R=none):=by show _=_;rw[HG2.out,← ak8.out,← hmn,HP2.out]
     subst hmn
     go_wp2_with fail
     refine(afu _).mono ?_
     rintro e wz ⟨rfl,hbz⟩
     have hBz:=hBs.trans (hbz.mono hBs.size)
     have bRz:=bRs.step hbz
     have hsz:=hbz.size
     obtain⟨r0,r1,f0,f1⟩:=zr bRz
     go_wp2_with fail
     obtain⟨n0,n1,nB⟩:=aaw bRz hBz (by omega) (0) (⟨#[]⟩)
     exact bodyPost_ret (v:=.tuple #[.agg #[.int .i64 0,.string {data:=#[]}],.bool false]) (by simp[results,Tryz.results32,go_sem,n0,n1]) rfl ⟨qc (by rw[HF.out];rfl) (by rw[HF.out];rfl) (by rw[HF.out];rfl),nB⟩
    obtain⟨g,off,rfl,hg2,hcell2⟩:=a2q (by omega)
    obtain⟨t2,hx2,ab1⟩:=um ak8.out hlt2
    obtain⟨name2,⟨acz,⟨mg,ng,aac,aav⟩,yt⟩⟩:=t2
    have ad5:wr.cell? ⟨g,off+m * 7,none⟩=some (.string name2):=bg hBs (by omega) (hcell2 m 0 _ _ hx2 (by rw[Fun.aj];rfl))
    obtain⟨aqs,ak7,aft⟩:∃ u,wr.cell? ⟨g,off+m * 7+1,none⟩=some u∧Rep wr B (.row 5 (acz.flatMap Param.pd)) u:=jc hBs (by omega) hB (hcell2 m 1 _ _ hx2 (by rw[Fun.aj];rfl))
    have agm:=zqd aft
    clear aft
    have aia:wr.cell? ⟨g,off+m * 7+2,none⟩=some (.int .i64 mg):=bg hBs (by omega) (hcell2 m 2 _ _ hx2 (by rw[Fun.aj];rfl))
    have aib:wr.cell? ⟨g,off+m * 7+3,none⟩=some (.string ng):=bg hBs (by omega) (hcell2 m 3 _ _ hx2 (by rw[Fun.aj];rfl))
    obtain⟨ale,ahl,ads⟩:∃ u,wr.cell? ⟨g,off+m * 7+4,none⟩=some u∧Rep wr B (.row 1 (aac.flatMap qj)) u:=jc hBs (by omega) hB (hcell2 m 4 _ _ hx2 (by rw[Fun.aj];rfl))
    have aeg:=zqd ads
    clear ads
    obtain⟨ami,aic,aek⟩:∃ u,wr.cell? ⟨g,off+m * 7+5,none⟩=some u∧Rep wr B (.row 4 (aav.flatMap Ty.pd)) u:=jc hBs (by omega) hB (hcell2 m 5 _ _ hx2 (by rw[Fun.aj];rfl))
    have aeo:=zqd aek
    clear aek
    have alr:wr.cell? ⟨g,off+m * 7+6,none⟩=some (.bool yt):=bg hBs (by omega) (hcell2 m 6 _ _ hx2 (by rw[Fun.aj];rfl))
    obtain⟨abh,abj,abk,rfl⟩:=agm.out.form
    obtain⟨vk,wu,xg,rfl⟩:=aeg.out.form
    obtain⟨y9,zf,zh,rfl⟩:=aeo.out.form
    have HX2:=zqd hx2
    have HM2:=zqd ab1
    clear hx2 ab1
    clear hcell2
    have hxo:=HWO.out.fs _ HM2.out
    have bkc:name2.size≤12:=hxo.1
    have OX:=zqd (aqo hxo.2)
    clear hxo
    have a9a:(9223372036854775807 < at_.size+(⟨#[46]⟩:ByteArray).size)=False:=eq_false (by have z_:(⟨#[46]⟩:ByteArray).size=1:=rfl;omega)
    have bkb:(9223372036854775807 < at_.size+1)=False:=eq_false (by omega)
    obtain⟨q1,al2⟩:∃ p,at_ ++(⟨#[46]⟩:ByteArray)=p:=⟨_,rfl⟩
    have a9b:q1.size≤126:=by rw[← al2,ByteArray.size_append];have z_:(⟨#[46]⟩:ByteArray).size=1:=rfl;omega
    have a9c:(9223372036854775807 < q1.size+name2.size)=False:=eq_false (by omega)
    obtain⟨q2,al3⟩:∃ p,q1 ++name2=p:=⟨_,rfl⟩
    have a9d:q2.size≤138:=by rw[← al3,ByteArray.size_append];omega
    have HQ2:Hid (ah6 at_ name2=q2):=by show _=_;rw[← al3,← al2];rfl
    have bEb:Blk (wr.alloc (.cells #[.string name2,.slice abh abj abk,.int .i64 mg,.string ng,.slice vk wu xg,.slice y9 zf zh,.bool yt] 99)) wr.heap.size 99 #[.string name2,.slice abh abj abk,.int .i64 mg,.string ng,.slice vk wu xg,.slice y9 zf zh,.bool yt]:=Blk.new wr _ _
    have g_0:(wr.alloc (.cells #[.string name2,.slice abh abj abk,.int .i64 mg,.string ng,.slice vk wu xg,.slice y9 zf zh,.bool yt] 99)).cell? ⟨w.heap.size,0,none⟩=some (.string hpk):=(bAs.alloc _).cell 0
    have g_1:(wr.alloc (.cells #[.string name2,.slice abh abj abk,.int .i64 mg,.string ng,.slice vk wu xg,.slice y9 zf zh,.bool yt] 99)).cell? ⟨w.heap.size,1,none⟩=some (.string hnm):=(bAs.alloc _).cell 1
    have g_2:(wr.alloc (.cells #[.string name2,.slice abh abj abk,.int .i64 mg,.string ng,.slice vk wu xg,.slice y9 zf zh,.bool yt] 99)).cell? ⟨w.heap.size,2,none⟩=some (.string agv):=(bAs.alloc _).cell 2
    have g_3:(wr.alloc (.cells #[.string name2,.slice abh abj abk,.int .i64 mg,.string ng,.slice vk wu xg,.slice y9 zf zh,.bool yt] 99)).cell? ⟨w.heap.size,3,none⟩=some (.slice ap3 ap4 ap5):=(bAs.alloc _).cell 3
    have g_4:(wr.alloc (.cells #[.string name2,.slice abh abj abk,.int .i64 mg,.string ng,.slice vk wu xg,.slice y9 zf zh,.bool yt] 99)).cell? ⟨w.heap.size,4,none⟩=some (.slice ay0 ay1 ay2):=(bAs.alloc _).cell 4
    go_wp2_with fail
    clear g_0 g_1 g_2 g_3 g_4
    obtain⟨wb,hwb⟩:∃ V,V=(wr.alloc (.cells #[.string name2,.slice abh abj abk,.int .i64 mg,.string ng,.slice vk wu xg,.slice y9 zf zh,.bool yt] 99)):=⟨_,rfl⟩
    rw[← hwb] at bEb ⊢
    have hbb:=zqb hwb
    clear hwb
    have hBb:=hBs.trans (hbb.mono hBs.size)
    have hsb:=hbb.size
    refine(HFI.out name2 wb (Nat.le_trans hB hBb.size) _ (alq.out wb hBb)).mono ?_
    rintro e wq ⟨hbq,hans⟩
    have hBq:=hBb.trans (hbq.mono hBb.size)
    have bEq:=bEb.step hbq
    have bRq:=(bRs.step hbb).step hbq
    have hsq:=hbq.size
    have br9:=hbb.trans (hbq.mono hsb)
    clear bEb
    by_cases hneg:ait hfs name2 < 0
    case pos=>
     obtain⟨_,rfl⟩:=hans.resolve_right (fun⟨i,y,us,hh,_⟩=>by simp only at hh;omega)
     have HF:Hid (R=some (9,q2)):=by show _=_;rw[HG2.out,ada HP2.out (bcl HX2.out hneg) _ (by have:=ak8.out;omega)];simp only;rw[HQ2.out]
     clear hneg
     have hB7:Below w.heap.size w (wq.alloc (.cells #[.slice none 0 0,.int .i64 0,.string {data:=#[]},.slice none 0 0,.slice none 0 0,.bool false] 62)):=hBq.alloc hBq.size _
     have bR7:Blk (wq.alloc (.cells #[.slice none 0 0,.int .i64 0,.string {data:=#[]},.slice none 0 0,.slice none 0 0,.bool false] 62)) (w.heap.size+1+1) 34 #[.int .i64 0,.string {data:=#[]}]:=bRq.alloc _
     have hs7:w.heap.size+1+1 < (wq.alloc (.cells #[.slice none 0 0,.int .i64 0,.string {data:=#[]},.slice none 0 0,.slice none 0 0,.bool false] 62)).heap.size:=bR7.lt
     go_wp2_with fail
     refine(ae6 9 q2 _).mono ?_
     rintro e wz ⟨rfl,hbz⟩
     have hBz:=hB7.trans (hbz.mono (by have:=hB7.size;omega))
     have bRz:=bR7.step hbz
     have hsz:=hbz.size
     obtain⟨r0,r1,f0,f1⟩:=zr bRz
     go_wp2_with fail
     obtain⟨n0,n1,nB⟩:=aaw bRz hBz (by omega) (9) (q2)
     exact bodyPost_ret (v:=.tuple #[.agg #[.int .i64 9,.string q2],.bool true]) (by simp[results,Tryz.results32,go_sem,n0,n1]) rfl ⟨qc (by rw[HF.out];rfl) (by rw[HF.out];rfl) (by rw[HF.out];rfl),nB⟩
    case neg=>
     obtain⟨i,y,us,hfi,hfy,rfl,hrep⟩:=hans.resolve_left (fun hh=>hneg hh.1)
     simp only at hfi hfy
     have OYB:=zqd (HFO.out.fs _ (List.mem_of_getElem? hfy)).2
     have av5:=zqd hfi
     have HFY:=zqd hfy
     obtain⟨yn,⟨up,⟨uk,un,ul,ukk⟩,ua⟩⟩:=y
     obtain⟨uV,ulV,ukV,rfl,ru,rul,ruk⟩:=jh.open_ hrep
     obtain⟨uA,uN,uC,rfl⟩:=ru.form
     obtain⟨ulA,ulN,ulC,rfl⟩:=rul.form
     obtain⟨ukA,ukN,ukC,rfl⟩:=ruk.form
     have HRU:=zqd hrep
     clear hfi hfy hneg ru rul ruk hrep
     have g_0:(wq.alloc (.cells #[.slice uA uN uC,.int .i64 uk,.string un,.slice ulA ulN ulC,.slice ukA ukN ukC,.bool ua] 62)).cell? ⟨wr.heap.size,1,none⟩=some (.slice abh abj abk):=(bEq.alloc _).cell 1
     have g_1:(wq.alloc (.cells #[.slice uA uN uC,.int .i64 uk,.string un,.slice ulA ulN ulC,.slice ukA ukN ukC,.bool ua] 62)).cell? ⟨wr.heap.size,2,none⟩=some (.int .i64 mg):=(bEq.alloc _).cell 2
     have g_2:(wq.alloc (.cells #[.slice uA uN uC,.int .i64 uk,.string un,.slice ulA ulN ulC,.slice ukA ukN ukC,.bool ua] 62)).cell? ⟨wr.heap.size,3,none⟩=some (.string ng):=(bEq.alloc _).cell 3
     have g_3:(wq.alloc (.cells #[.slice uA uN uC,.int .i64 uk,.string un,.slice ulA ulN ulC,.slice ukA ukN ukC,.bool ua] 62)).cell? ⟨wr.heap.size,4,none⟩=some (.slice vk wu xg):=(bEq.alloc _).cell 4
     have g_4:(wq.alloc (.cells #[.slice uA uN uC,.int .i64 uk,.string un,.slice ulA ulN ulC,.slice ukA ukN ukC,.bool ua] 62)).cell? ⟨wr.heap.size,5,none⟩=some (.slice y9 zf zh):=(bEq.alloc _).cell 5
     have g_5:(wq.alloc (.cells #[.slice uA uN uC,.int .i64 uk,.string un,.slice ulA ulN ulC,.slice ukA ukN ukC,.bool ua] 62)).cell? ⟨wr.heap.size,6,none⟩=some (.bool yt):=(bEq.alloc _).cell 6
     go_wp2_with fail
     clear g_0 g_1 g_2 g_3 g_4 g_5
     obtain⟨w7,hw7⟩:∃ V,V=(wq.alloc (.cells #[.slice uA uN uC,.int .i64 uk,.string un,.slice ulA ulN ulC,.slice ukA ukN ukC,.bool ua] 62)):=⟨_,rfl⟩
     rw[← hw7]
     have bkj:=zqb hw7
     clear hw7
     have hb7:=br9.trans (bkj.mono br9.size)
     have hB7:=hBs.trans (hb7.mono hBs.size)
     have bR7:=bRq.step bkj
     have hs7:=hb7.size
     have HBX:Hid (lq w7 B (jh.pd ⟨acz,⟨mg,ng,aac,aav⟩,yt⟩) [.slice abh abj abk,.int .i64 mg,.string ng,.slice vk wu xg,.slice y9 zf zh,.bool yt]):=jh.close_ (agm.out.below (hb7.mono (Nat.le_trans hB hBs.size))) (aeg.out.below (hb7.mono (Nat.le_trans hB hBs.size))) (aeo.out.below (hb7.mono (Nat.le_trans hB hBs.size)))
     have HUX:Hid (lq w7 B (jh.pd ⟨up,⟨uk,un,ul,ukk⟩,ua⟩) [.slice uA uN uC,.int .i64 uk,.string un,.slice ulA ulN ulC,.slice ukA ukN ukC,.bool ua]):=HRU.out.below ((hbq.trans (bkj.mono hsq)).mono (Nat.le_trans hB hBb.size))
     obtain⟨R2,hR2⟩:∃ r,ah3 (agf 4) ⟨up,⟨uk,un,ul,ukk⟩,ua⟩ ⟨acz,⟨mg,ng,aac,aav⟩,yt⟩ q2=r:=⟨_,rfl⟩
     have HC:=a5b ⟨up,⟨uk,un,ul,ukk⟩,ua⟩ ⟨acz,⟨mg,ng,aac,aav⟩,yt⟩ q2 B [.slice uA uN uC,.int .i64 uk,.string un,.slice ulA ulN ulC,.slice ukA ukN ukC,.bool ua] [.slice abh abj abk,.int .i64 mg,.string ng,.slice vk wu xg,.slice y9 zf zh,.bool yt] w7 (Nat.le_trans hB hB7.size) (hT.1.below hB7) (aqo OYB.out) OX.out (by omega) HUX.out HBX.out
     unfold WQ at HC
     rw[hR2] at HC
     obtain⟨RK,RS,RN,HRK,HRS,HRN⟩:=agp R2
     rw[HRK.out,HRS.out,HRN.out] at HC
     have HK2:Hid (aja at_ hfs wfs m=R2):=by show _=_;rw[a2f HX2.out av5.out HFY.out];simp only;rw[HQ2.out,hR2]
     clear hR2
     refine HC.mono ?_
     rintro e w8 ⟨rfl,hb8⟩
     have hB8:=hB7.trans (hb8.mono hB7.size)
     have hs8:=hb8.size
     have hB6:Below w.heap.size w (w8.alloc (.cells #[.int .i64 RK,.string RS] 34)):=hB8.alloc hB8.size _
     have bR6:Blk (w8.alloc (.cells #[.int .i64 RK,.string RS] 34)) (w.heap.size+1+1) 34 #[.int .i64 0,.string {data:=#[]}]:=(bR7.step hb8).alloc _
     have hs6:w.heap.size+1+1 < (w8.alloc (.cells #[.int .i64 RK,.string RS] 34)).heap.size:=bR6.lt
     cases RN
     case true=>
      have HF:Hid (R=some (RK,RS)):=by show _=_;rw[HG2.out,← HRK.out,← HRS.out];exact ada HP2.out (by rw[HK2.out];exact af2 HRN.out) _ (by have:=ak8.out;omega)
      have bX:Blk (w8.alloc (.cells #[.int .i64 RK,.string RS] 34)) w8.heap.size 34 #[.int .i64 RK,.string RS]:=Blk.new w8 _ _
      have q0:(w8.alloc (.cells #[.int .i64 RK,.string RS] 34)).cell? ⟨w8.heap.size,0,none⟩=some (.int .i64 RK):=bX.cell 0
      have q1:(w8.alloc (.cells #[.int .i64 RK,.string RS] 34)).cell? ⟨w8.heap.size,1,none⟩=some (.string RS):=bX.cell 1
      obtain⟨r0,r1,f0,f1⟩:=zr bR6
      go_wp2_with fail
      obtain⟨n0,n1,nB⟩:=aaw bR6 hB6 (by omega) (RK) (RS)
      exact bodyPost_ret (v:=.tuple #[.agg #[.int .i64 RK,.string RS],.bool true]) (by simp[results,Tryz.results32,go_sem,n0,n1]) rfl ⟨qc (by rw[HF.out];rfl) (by rw[HF.out];rfl) (by rw[HF.out];rfl),nB⟩
     case false=>
      have HQ:Hid (zq (aja at_ hfs wfs) (m+1)=none):=by show _=_;exact ae4 HP2.out (by rw[HK2.out];exact af0 HRN.out)
      have hbx:Below W.heap.size W (w8.alloc (.cells #[.int .i64 RK,.string RS] 34)):=((hbs.trans (hb7.mono hss)).trans (hb8.mono (by omega))).alloc (by have:=hbs.size;omega) _
      go_wp2_with fail
      go_roundw
      case rel=>exact⟨m+1,by omega,by go_num,HQ,hbx⟩
      case measure=>simp[intOf];omega
end Go.Proofs.YtbafphecjijdmaaGreatDoor
