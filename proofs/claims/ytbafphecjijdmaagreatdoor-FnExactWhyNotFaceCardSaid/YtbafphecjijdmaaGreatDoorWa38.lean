/-
  Why one interface cannot stand for another: spec.l08Face (versions: true; by program: gen_fcu.py) (by program: gen_why.py).
-/
import Derived.Test.YtbafphecjijdmaaGreatDoorWa31
import Derived.Test.YtbafphecjijdmaaGreatDoorWa34
import Derived.Test.YtbafphecjijdmaaGreatDoorWa37
import Derived.Deep.RegionHeld3
namespace Go.Proofs.YtbafphecjijdmaaGreatDoor
open Go.RowKit
set_option linter.unusedVariables false
set_option linter.unusedSimpArgs false
set_option linter.unnecessarySimpa false
set_option maxRecDepth 16000
set_option maxHeartbeats 12800000 in
theorem a9a (a b:qg) (ha:agc a=true) (hb:agc b=true) (hwa:PD.wfL (qg.pd a)) (hwb:PD.wfL (qg.pd b)) (hsa:PD.szL (qg.pd a)≤1048576) (hsb:PD.szL (qg.pd b)≤1048576) {B:Nat} {cs ds:List Value} {w:World} (hB:B≤w.heap.size) (hT:ae3 w) (h:jy w B (qg.pd a) cs) (k:jy w B (qg.pd b) ds):
  Calls Tryz.prog 28 #[.agg cs.toArray,.agg ds.toArray,.bool true] w fun e w'=>WQ (aki a b (av2 b) true) w e w':=by
 have HFI:=Lib.hid (fun nm (V:World) (hV:B≤V.heap.size) us (k:jy V B (qg.pd a) us)=>a5b a nm ha hwa hsa (w:=V) hV k)
 have HWB:=Lib.hid (ake hsb).2
 have HFO:=Lib.hid (aup ha)
 have HWO:=Lib.hid (aup hb)
 obtain⟨hpk,hnm,ahb,hres,hfs⟩:=a
 obtain⟨wpk,wnm,ah8,alh,wfs⟩:=b
 obtain⟨a9b,bd3,rfl,ah1,aj2⟩:=qg.open_ h
 obtain⟨aip,aiq,air,rfl,aqm,bh0,av8⟩:=ajd ah1
 obtain⟨al3,al4,al5,rfl,atq,a3e,bh2⟩:=ny Fun.jw (by decide) aj2
 unfold maxLen at a3e
 have am1:=Lib.hid ah1
 have ar7:=Lib.hid aj2
 have bh3:=Lib.hid aqm
 have blp:=Lib.hid atq
 clear ah1 aj2 aqm atq
 obtain⟨a9c,bd4,rfl,ah2,aj3⟩:=qg.open_ k
 obtain⟨akj,agd,aj6,rfl,aqn,bh4,al6⟩:=ajd ah2
 obtain⟨am2,af2,ah3,rfl,atr,a3f,ayz⟩:=ny Fun.jw (by decide) aj3
 unfold maxLen at a3f
 have att:=Lib.hid ah2
 have axr:=Lib.hid aj3
 have alb:=Lib.hid aqn
 have akd:=Lib.hid atr
 clear ah2 aj3 aqn atr
 have bnf:wpk.size≤12:=HWO.out.pk
 have bng:wnm.size≤12:=HWO.out.nm
 have h4:agd≤4:=by have h1:alh.length≤4:=HWO.out.blh;have:=alb.out;omega
 have h8:af2≤8:=by have h1:wfs.length≤8:=HWO.out.fs8;have:=akd.out;omega
 clear h k ha hb hwa hwb hsa hsb
 have amz:=Lib.hid (fun(V:World) (hV:Below w.heap.size w V)=>qg.close_ (package:=hpk) (name:=hnm) (version:=ahb) (am1.out.below (hV.mono hB)) (ar7.out.below (hV.mono hB)))
 have akt:(9223372036854775807 < wpk.size+(⟨#[47]⟩:ByteArray).size)=False:=eq_false (by have z_:(⟨#[47]⟩:ByteArray).size=1:=rfl;omega)
 have aku:(9223372036854775807 < wpk.size+1)=False:=eq_false (by omega)
 obtain⟨p1,adl⟩:∃ p,wpk ++(⟨#[47]⟩:ByteArray)=p:=⟨_,rfl⟩
 have akv:p1.size≤13:=by rw[← adl,ByteArray.size_append];have z_:(⟨#[47]⟩:ByteArray).size=1:=rfl;omega
 have bnh:(9223372036854775807 < p1.size+wnm.size)=False:=eq_false (by omega)
 obtain⟨at_,axt⟩:∃ p,p1 ++wnm=p:=⟨_,rfl⟩
 have bni:at_.size≤25:=by rw[← axt,ByteArray.size_append];omega
 obtain⟨R,hR⟩:∃ R:Why,R=aki ⟨hpk,hnm,ahb,hres,hfs⟩ ⟨wpk,wnm,ah8,alh,wfs⟩ at_ true:=⟨_,rfl⟩
 have HRR:Hid (R=aki ⟨hpk,hnm,ahb,hres,hfs⟩ ⟨wpk,wnm,ah8,alh,wfs⟩ (av2 ⟨wpk,wnm,ah8,alh,wfs⟩) true):=by show _=_;rw[hR,← axt,← adl];rfl
 rw[← HRR.out]
 have HR:=Lib.hid hR
 clear hR HRR
 obtain⟨w0,hw0,bA,bC,bR,hB0,hs0⟩:=aeu w 30 #[.string hpk,.string hnm,.string ahb,.slice aip aiq air,.slice al3 al4 al5] #[.string wpk,.string wnm,.string ah8,.slice akj agd aj6,.slice am2 af2 ah3]
 have HW0:=Lib.hid hw0
 clear hw0
 by_cases hpe:hpk=wpk
 case neg=>
  have HF:Hid (R=some (11,at_)):=by show _=_;rw[HR.out];exact anm (fun hh=>hpe hh.1)
  have hs1:(hpk.toList ==wpk.toList)=false:=ae0 hpe
  clear hpe
  go_enter Tryz.func28,Tryz.ntmps28
  go_wp2_with fail
  try rw[← HW0.out]
  refine(ael 11 at_ _).mono ?_
  rintro e wz ⟨rfl,hbz⟩
  have hBz:=hB0.trans (hbz.mono (by omega))
  have bRz:=bR.step hbz
  have hsz:=hbz.size
  obtain⟨r0,r1,f0,f1⟩:=zr bRz
  go_wp2_with fail
  obtain⟨n0,n1,nB⟩:=aaz bRz hBz (by omega) (11) (at_)
  exact bodyPost_ret (v:=.tuple #[.agg #[.int .i64 11,.string at_],.bool true]) (by simp[results,Tryz.results28,go_sem,n0,n1]) rfl ⟨qx (by rw[HF.out];rfl) (by rw[HF.out];rfl) (by rw[HF.out];rfl),nB⟩
 have hs1:(hpk.toList ==wpk.toList)=true:=by rw[hpe];simp
 by_cases hne:hnm=wnm
 case neg=>
  have HF:Hid (R=some (11,at_)):=by show _=_;rw[HR.out];exact anm (fun hh=>hne hh.2)
  have hs2:(hnm.toList ==wnm.toList)=false:=ae0 hne
  clear hne hpe
  go_enter Tryz.func28,Tryz.ntmps28
  go_wp2_with fail
  try rw[← HW0.out]
  refine(ael 11 at_ _).mono ?_
  rintro e wz ⟨rfl,hbz⟩
  have hBz:=hB0.trans (hbz.mono (by omega))
  have bRz:=bR.step hbz
  have hsz:=hbz.size
  obtain⟨r0,r1,f0,f1⟩:=zr bRz
  go_wp2_with fail
  obtain⟨n0,n1,nB⟩:=aaz bRz hBz (by omega) (11) (at_)
  exact bodyPost_ret (v:=.tuple #[.agg #[.int .i64 11,.string at_],.bool true]) (by simp[results,Tryz.results28,go_sem,n0,n1]) rfl ⟨qx (by rw[HF.out];rfl) (by rw[HF.out];rfl) (by rw[HF.out];rfl),nB⟩
 have hs2:(hnm.toList ==wnm.toList)=true:=by rw[hne];simp
 have HEQ:Hid (hpk=wpk∧hnm=wnm):=⟨hpe,hne⟩
 clear hne hpe
 have HSV:=Lib.hid (a2r ahb ah8 HFO.out.ver HWO.out.ver w0)
 obtain⟨sv,hsv⟩:∃ b,aoo ahb ah8=b:=⟨_,rfl⟩
 rw[hsv] at HSV
 go_enter Tryz.func28,Tryz.ntmps28
 go_wp2_with fail
 rw[← HW0.out]
 clear HW0
 refine HSV.out.mono ?_
 rintro e wv ⟨rfl,hbv⟩
 have hBv:=hB0.trans (hbv.mono (by omega))
 have bp8:=hbv.size
 have bAv:=bA.step hbv
 have bCv:=bC.step hbv
 have bRv:=bR.step hbv
 clear bA bC bR
 cases sv
 case false=>
  have HF:Hid (R=some (10,at_)):=by show _=_;rw[HR.out];exact azp HEQ.out hsv
  go_wp2_with fail
  refine(ael 10 at_ _).mono ?_
  rintro e wz ⟨rfl,hbz⟩
  have hBz:=hBv.trans (hbz.mono (by omega))
  have bRz:=bRv.step hbz
  have hsz:=hbz.size
  obtain⟨r0,r1,f0,f1⟩:=zr bRz
  go_wp2_with fail
  obtain⟨n0,n1,nB⟩:=aaz bRz hBz (by omega) (10) (at_)
  exact bodyPost_ret (v:=.tuple #[.agg #[.int .i64 10,.string at_],.bool true]) (by simp[results,Tryz.results28,go_sem,n0,n1]) rfl ⟨qx (by rw[HF.out];rfl) (by rw[HF.out];rfl) (by rw[HF.out];rfl),nB⟩
 have HG:Hid (R=match aa0 (ao3 at_ hres alh) alh.length with|some r=>some r|none=>aa0 (akg at_ hfs wfs) wfs.length):=by show _=_;rw[HR.out];exact a2t HEQ.out (fun _=>hsv)
 clear hsv
 have z3v:wv.cell? ⟨w.heap.size+1,3,none⟩=some (.slice akj agd aj6):=bCv.cell 3
 go_wp2_with fail
 clear z3v
 go_loopw [9] (fun i wr=>∃ k:Nat,k≤agd∧i=.int .i64 k∧Hid (aa0 (ao3 at_ hres alh) k=none)∧Below wv.heap.size wv wr) (fun i _=>agd - (intOf i).toNat)
 case atStart=>exact⟨0,Nat.zero_le _,rfl,Lib.hid rfl,Below.refl _ _⟩
 case round=>
  obtain⟨k,hk,rfl,HP,hbr⟩:=hrel
  have hBr:=hBv.trans (hbr.mono hBv.size)
  have hsr:=hbr.size
  have bRr:=bRv.step hbr
  have bAr:=bAv.step hbr
  have bCr:=bCv.step hbr
  clear bAv bCv bRv
  have a3:wr.cell? ⟨w.heap.size,3,none⟩=some (.slice aip aiq air):=bAr.cell 3
  have z3:wr.cell? ⟨w.heap.size+1,3,none⟩=some (.slice akj agd aj6):=bCr.cell 3
  by_cases hlt:k < agd
  case pos=>
   obtain⟨g,off,rfl,hg,hcell⟩:=al6 (by omega)
   obtain⟨x,hx,hxm⟩:=xg alb.out hlt
   have l_x:x.size≤12:=HWO.out.res x hxm
   have c_x:wr.cell? ⟨g,off+k,none⟩=some (.string x):=(hBr.cell (p:=⟨g,off+k,none⟩) (by simp only;omega)).trans (hcell k x hx)
   have HX:=Lib.hid hx
   clear hx hxm hcell al6
   have HLB:=Lib.hid (fun q=>(am0 (t:=x) (w:=wr.drewN q) ((am1.out.below (hBr.mono hB)).below (below_drewN (Below.refl _ _) _))).mono fun e w' h=>(⟨h.1,h.2.symm⟩:_∧_))
   obtain⟨ix,hix⟩:∃ ix,acg (strEq x) hres=ix:=⟨_,rfl⟩
   rw[hix] at HLB
   have bd5:(9223372036854775807 < at_.size+(⟨#[46]⟩:ByteArray).size)=False:=eq_false (by have z_:(⟨#[46]⟩:ByteArray).size=1:=rfl;omega)
   have bd6:(9223372036854775807 < at_.size+1)=False:=eq_false (by omega)
   obtain⟨q1,apa⟩:∃ p,at_ ++(⟨#[46]⟩:ByteArray)=p:=⟨_,rfl⟩
   have bd7:q1.size≤26:=by rw[← apa,ByteArray.size_append];have z_:(⟨#[46]⟩:ByteArray).size=1:=rfl;omega
   have bd8:(9223372036854775807 < q1.size+x.size)=False:=eq_false (by omega)
   obtain⟨q2,apb⟩:∃ p,q1 ++x=p:=⟨_,rfl⟩
   have bd9:q2.size≤38:=by rw[← apb,ByteArray.size_append];omega
   have HQ2:Hid (aiy at_ x=q2):=by show _=_;rw[← apb,← apa];rfl
   by_cases hneg:ix < 0
   case pos=>
    have HF:Hid (R=some (6,q2)):=by show _=_;rw[HG.out,ad1 HP.out (a2s HX.out (by rw[hix];exact hneg)) _ (by have:=alb.out;omega),← HQ2.out]
    clear hix
    go_wp2_with fail
    go_quiet (first|(go_at_call 57;exact Calls.quiet_of_same (HLB.out _)))
    obtain⟨w7,hq7⟩:∃ V,V=wr.drewN nq:=⟨_,rfl⟩
    rw[← hq7]
    have hb7:Below wr.heap.size wr w7:=by rw[hq7];exact below_drewN (Below.refl _ _) _
    have hs7:=hb7.size
    have hB7:=hBr.trans (hb7.mono hBr.size)
    have bR7:=bRr.step hb7
    have z37:w7.cell? ⟨w.heap.size+1,3,none⟩=some (.slice (some ⟨g,off,none⟩) agd aj6):=(bCr.step hb7).cell 3
    have blq:w7.cell? ⟨g,off+k,none⟩=some (.string x):=(hb7.cell (p:=⟨g,off+k,none⟩) (by have:=hBr.size;simp only;omega)).trans c_x
    clear hq7
    go_wp2_with fail
    refine(ael 6 q2 _).mono ?_
    rintro e wz ⟨rfl,hbz⟩
    have hBz:=hB7.trans (hbz.mono (by omega))
    have bRz:=bR7.step hbz
    have hsz:=hbz.size
    obtain⟨r0,r1,f0,f1⟩:=zr bRz
    go_wp2_with fail
    obtain⟨n0,n1,nB⟩:=aaz bRz hBz (by omega) (6) (q2)
    exact bodyPost_ret (v:=.tuple #[.agg #[.int .i64 6,.string q2],.bool true]) (by simp[results,Tryz.results28,go_sem,n0,n1]) rfl ⟨qx (by rw[HF.out];rfl) (by rw[HF.out];rfl) (by rw[HF.out];rfl),nB⟩
   case neg=>
    have HQ:=Lib.hid (ae2 HP.out (a6i (at_:=at_) HX.out (by rw[hix];exact hneg)))
    clear hix
    go_wp2_with fail
    go_quiet (first|(go_at_call 57;exact Calls.quiet_of_same (HLB.out _)))
    go_wp2_with fail
    go_roundw
    case rel=>exact⟨k+1,by omega,by go_num,HQ,below_drewN hbr _⟩
    case measure=>simp[intOf];omega
  case neg=>
   have hkn:k=agd:=by omega
   subst hkn
   have HG2:Hid (R=aa0 (akg at_ hfs wfs) wfs.length):=by show _=_;rw[HG.out,← alb.out,HP.out]
   clear HG al6 av8
   have z4r:wr.cell? ⟨w.heap.size+1,4,none⟩=some (.slice am2 af2 ah3):=bCr.cell 4
   go_wp2_with fail
   obtain⟨W,rfl⟩:∃ V,V=wr:=⟨_,rfl⟩
   clear z4r a3 z3 hsr hbr
   go_loopw [10] (fun i wr=>∃ m:Nat,m≤af2∧i=.int .i64 m∧Hid (aa0 (akg at_ hfs wfs) m=none)∧Below W.heap.size W wr) (fun i _=>af2 - (intOf i).toNat)
   case atStart=>exact⟨0,Nat.zero_le _,rfl,Lib.hid rfl,Below.refl _ _⟩
   case round=>
    obtain⟨m,hm9,rfl,HP2,hbs⟩:=hrel
    have hBs:=hBr.trans (hbs.mono hBr.size)
    have hss:=hbs.size
    have bRs:=bRr.step hbs
    have bAs:=bAr.step hbs
    have bCs:=bCr.step hbs
    clear bAr bCr bRr
    have z4:wr.cell? ⟨w.heap.size+1,4,none⟩=some (.slice am2 af2 ah3):=bCs.cell 4
    by_cases hlt2:m < af2
    case neg=>
     have hmn:m=af2:=by omega
     have HF:Hid (R=none):=by show _=_;rw[HG2.out,← akd.out,← hmn,HP2.out]
     subst hmn
     obtain⟨r0,r1,f0,f1⟩:=zr bRs
     go_wp2_with fail
     obtain⟨n0,n1,nB⟩:=aaz bRs hBs (by omega) (0) (⟨#[]⟩)
     exact bodyPost_ret (v:=.tuple #[.agg #[.int .i64 0,.string {data:=#[]}],.bool false]) (by simp[results,Tryz.results28,go_sem,n0,n1]) rfl ⟨qx (by rw[HF.out];rfl) (by rw[HF.out];rfl) (by rw[HF.out];rfl),nB⟩
    obtain⟨g,off,rfl,hg2,hcell2⟩:=ayz (by omega)
    obtain⟨t2,hx2,ac9⟩:=xg akd.out hlt2
    obtain⟨name2,⟨ach,⟨l7,l9,zl,aan⟩,x9⟩⟩:=t2
    have afe:wr.cell? ⟨g,off+m * 7,none⟩=some (.string name2):=gq hBs (by omega) (hcell2 m 0 _ _ hx2 (by rw[Fun.ay];rfl))
    obtain⟨ao5,akc,afd⟩:∃ u,wr.cell? ⟨g,off+m * 7+1,none⟩=some u∧Rep wr B (.row 5 (ach.flatMap Param.pd)) u:=ku hBs (by omega) hB (hcell2 m 1 _ _ hx2 (by rw[Fun.ay];rfl))
    have afy:=Lib.hid afd
    clear afd
    have ahh:wr.cell? ⟨g,off+m * 7+2,none⟩=some (.int .i64 l7):=gq hBs (by omega) (hcell2 m 2 _ _ hx2 (by rw[Fun.ay];rfl))
    have ahi:wr.cell? ⟨g,off+m * 7+3,none⟩=some (.string l9):=gq hBs (by omega) (hcell2 m 3 _ _ hx2 (by rw[Fun.ay];rfl))
    obtain⟨akh,ag0,ada⟩:∃ u,wr.cell? ⟨g,off+m * 7+4,none⟩=some u∧Rep wr B (.row 1 (zl.flatMap tu)) u:=ku hBs (by omega) hB (hcell2 m 4 _ _ hx2 (by rw[Fun.ay];rfl))
    have ad2:=Lib.hid ada
    clear ada
    obtain⟨alg,ahj,ad6⟩:∃ u,wr.cell? ⟨g,off+m * 7+5,none⟩=some u∧Rep wr B (.row 4 (aan.flatMap Ty.pd)) u:=ku hBs (by omega) hB (hcell2 m 5 _ _ hx2 (by rw[Fun.ay];rfl))
    have ad9:=Lib.hid ad6
    clear ad6
    have akr:wr.cell? ⟨g,off+m * 7+6,none⟩=some (.bool x9):=gq hBs (by omega) (hcell2 m 6 _ _ hx2 (by rw[Fun.ay];rfl))
    obtain⟨aa2,aa3,aa4,rfl⟩:=afy.out.form
    obtain⟨uo,uq,uw,rfl⟩:=ad2.out.form
    obtain⟨yx,y5,y7,rfl⟩:=ad9.out.form
    have HX2:=Lib.hid hx2
    have HM2:=Lib.hid ac9
    clear hx2 ac9
    clear hcell2
    have hxo:=HWO.out.fs _ HM2.out
    have bp9:name2.size≤12:=hxo.1
    have OX:=Lib.hid (as6 hxo.2)
    clear hxo
    have bd5:(9223372036854775807 < at_.size+(⟨#[46]⟩:ByteArray).size)=False:=eq_false (by have z_:(⟨#[46]⟩:ByteArray).size=1:=rfl;omega)
    have bd6:(9223372036854775807 < at_.size+1)=False:=eq_false (by omega)
    obtain⟨q1,apa⟩:∃ p,at_ ++(⟨#[46]⟩:ByteArray)=p:=⟨_,rfl⟩
    have bd7:q1.size≤26:=by rw[← apa,ByteArray.size_append];have z_:(⟨#[46]⟩:ByteArray).size=1:=rfl;omega
    have bd8:(9223372036854775807 < q1.size+name2.size)=False:=eq_false (by omega)
    obtain⟨q2,apb⟩:∃ p,q1 ++name2=p:=⟨_,rfl⟩
    have bd9:q2.size≤38:=by rw[← apb,ByteArray.size_append];omega
    have HQ2:Hid (aiy at_ name2=q2):=by show _=_;rw[← apb,← apa];rfl
    have hm0:(0:Int)≤(m:Int):=by omega
    have hmi:(m:Int) < (af2:Int):=by omega
    have am3:Hid (∀ V,Keep wr.heap.size (wr.heap.size+1) wr V→V.cell? ⟨w.heap.size,0,none⟩=some (.string hpk)∧V.cell? ⟨w.heap.size,1,none⟩=some (.string hnm)∧V.cell? ⟨w.heap.size,2,none⟩=some (.string ahb)∧V.cell? ⟨w.heap.size,3,none⟩=some (.slice aip aiq air)∧V.cell? ⟨w.heap.size,4,none⟩=some (.slice al3 al4 al5)∧V.cell? ⟨w.heap.size+1,4,none⟩=some (.slice (some ⟨g,off,none⟩) af2 ah3)∧V.cell? ⟨g,off+m * 7,none⟩=some (.string name2)):=Lib.hid fun V hV=>⟨(hV.cell (p:=⟨w.heap.size,0,none⟩) (by have:=bRs.lt;simp only;omega) (.inl (by have:=bRs.lt;simp only;omega))).trans (bAs.cell 0),(hV.cell (p:=⟨w.heap.size,1,none⟩) (by have:=bRs.lt;simp only;omega) (.inl (by have:=bRs.lt;simp only;omega))).trans (bAs.cell 1),(hV.cell (p:=⟨w.heap.size,2,none⟩) (by have:=bRs.lt;simp only;omega) (.inl (by have:=bRs.lt;simp only;omega))).trans (bAs.cell 2),(hV.cell (p:=⟨w.heap.size,3,none⟩) (by have:=bRs.lt;simp only;omega) (.inl (by have:=bRs.lt;simp only;omega))).trans (bAs.cell 3),(hV.cell (p:=⟨w.heap.size,4,none⟩) (by have:=bRs.lt;simp only;omega) (.inl (by have:=bRs.lt;simp only;omega))).trans (bAs.cell 4),(hV.cell (p:=⟨w.heap.size+1,4,none⟩) (by have:=bRs.lt;simp only;omega) (.inl (by have:=bRs.lt;simp only;omega))).trans (bCs.cell 4),(hV.cell (p:=⟨g,off+m * 7,none⟩) (by have:=bRs.lt;simp only;omega) (.inl (by have:=bRs.lt;simp only;omega))).trans afe⟩
    have HFN:=Lib.hid (fun(V:World) (hV:Below wr.heap.size wr V)=>HFI.out name2 V (Nat.le_trans hB (Nat.le_trans hBs.size hV.size)) _ (amz.out V (hBs.trans (hV.mono hBs.size))))
    have hdr:Below wr.heap.size wr wr.drew:=(Below.refl _ _).drew
    have hdz:Below wr.heap.size wr (wr.alloc (.cells #[.slice none 0 0,.int .i64 0,.string {data:=#[]},.slice none 0 0,.slice none 0 0,.bool false] 62)).drew:=((Below.refl _ _).alloc (Nat.le_refl _) _).drew
    have xA:Blk (wr.alloc (.cells #[.slice none 0 0,.int .i64 0,.string {data:=#[]},.slice none 0 0,.slice none 0 0,.bool false] 62)).drew wr.heap.size 62 #[.slice none 0 0,.int .i64 0,.string {data:=#[]},.slice none 0 0,.slice none 0 0,.bool false]:=Blk.new wr _ _
    by_cases hneg:ah7 hfs name2 < 0
    case pos=>
     have HF:Hid (R=some (9,q2)):=by show _=_;rw[HG2.out,ad1 HP2.out (a6j HX2.out hneg) _ (by have:=akd.out;omega)];simp only;rw[HQ2.out]
     have blr:=Lib.hid hneg
     clear hneg
     go_wp2_with fail
     refine wp_region_held_drew (S:=(fun w'=>w'.cell? ⟨w.heap.size,0,none⟩=some (.string hpk)∧w'.cell? ⟨w.heap.size,1,none⟩=some (.string hnm)∧w'.cell? ⟨w.heap.size,2,none⟩=some (.string ahb)∧w'.cell? ⟨w.heap.size,3,none⟩=some (.slice aip aiq air)∧w'.cell? ⟨w.heap.size,4,none⟩=some (.slice al3 al4 al5)∧w'.cell? ⟨w.heap.size+1,4,none⟩=some (.slice (some ⟨g,off,none⟩) af2 ah3)∧w'.cell? ⟨g,off+m * 7,none⟩=some (.string name2))) (by kernel_rfl) (am3.out _ (Keep.refl _ _ _).drew) (fun hHeld=>?_)
     refine wpAnyH_take (i:=0) (oi:=_) (v:=_) (by simp only[List.getElem?_toArray,List.getElem?_cons_succ,List.getElem?_cons_zero];rfl) (by kernel_rfl) (by kernel_rfl) (by kernel_rfl) (by exact fun _ _ _ h=>h) (Or.inl ⟨by rfl,by intro w hSw;(try dsimp only at hSw);go_simp;try with_reducible rfl⟩) (by assumption) ?_
     try simp only[Act.put,List.setIfInBounds_toArray,List.set_cons_zero,List.set_cons_succ]
     refine wpAnyH_take (i:=1) (oi:=_) (v:=_) (by simp only[List.getElem?_toArray,List.getElem?_cons_succ,List.getElem?_cons_zero];rfl) (by kernel_rfl) (by kernel_rfl) (by kernel_rfl) (by exact fun _ _ _ h=>h) (Or.inl ⟨by rfl,by intro w hSw;(try dsimp only at hSw);go_simp;try with_reducible rfl⟩) (by assumption) ?_
     try simp only[Act.put,List.setIfInBounds_toArray,List.set_cons_zero,List.set_cons_succ]
     refine wpAnyH_take (i:=2) (oi:=_) (v:=_) (by simp only[List.getElem?_toArray,List.getElem?_cons_succ,List.getElem?_cons_zero];rfl) (by kernel_rfl) (by kernel_rfl) (by kernel_rfl) (by exact fun _ _ _ h=>h) (Or.inl ⟨by rfl,by intro w hSw;(try dsimp only at hSw);go_simp;try with_reducible rfl⟩) (by assumption) ?_
     try simp only[Act.put,List.setIfInBounds_toArray,List.set_cons_zero,List.set_cons_succ]
     refine wpAnyH_take (i:=3) (oi:=_) (v:=_) (by simp only[List.getElem?_toArray,List.getElem?_cons_succ,List.getElem?_cons_zero];rfl) (by kernel_rfl) (by kernel_rfl) (by kernel_rfl) (by exact fun _ _ _ h=>h) (Or.inl ⟨by rfl,by intro w hSw;(try dsimp only at hSw);go_simp;try with_reducible rfl⟩) (by assumption) ?_
     try simp only[Act.put,List.setIfInBounds_toArray,List.set_cons_zero,List.set_cons_succ]
     refine wpAnyH_take (i:=4) (oi:=_) (v:=_) (by simp only[List.getElem?_toArray,List.getElem?_cons_succ,List.getElem?_cons_zero];rfl) (by kernel_rfl) (by kernel_rfl) (by kernel_rfl) (by exact fun _ _ _ h=>h) (Or.inl ⟨by rfl,by intro w hSw;(try dsimp only at hSw);go_simp;try with_reducible rfl⟩) (by assumption) ?_
     try simp only[Act.put,List.setIfInBounds_toArray,List.set_cons_zero,List.set_cons_succ]
     refine wpAnyH_take (i:=5) (oi:=_) (v:=_) (by simp only[List.getElem?_toArray,List.getElem?_cons_succ,List.getElem?_cons_zero];rfl) (by kernel_rfl) (by kernel_rfl) (by kernel_rfl) (by exact fun _ _ _ h=>h) (Or.inl ⟨by rfl,by intro w hSw;(try dsimp only at hSw);go_simp;try with_reducible rfl⟩) (by assumption) ?_
     try simp only[Act.put,List.setIfInBounds_toArray,List.set_cons_zero,List.set_cons_succ]
     refine wpAnyH_take (i:=6) (oi:=_) (v:=_) (by simp only[List.getElem?_toArray,List.getElem?_cons_succ,List.getElem?_cons_zero];rfl) (by kernel_rfl) (by kernel_rfl) (by kernel_rfl) (by exact fun _ _ _ h=>h) (Or.inl ⟨by rfl,by intro w hSw;(try dsimp only at hSw);go_simp;try with_reducible rfl⟩) (by assumption) ?_
     try simp only[Act.put,List.setIfInBounds_toArray,List.set_cons_zero,List.set_cons_succ]
     refine wpAnyH_ready (rs:=[7,11]) (by kernel_rfl) (by simp) ?_
     refine AllReadyH.cons (o:=?bu5) ?bnj (fun K hK=>?bnk) (AllReadyH.cons (o:=?buh) ?bls (fun K hK=>?blv) AllReadyH.nil)
     case bnj=>
      simp only[List.getElem?_toArray,List.getElem?_cons_succ,List.getElem?_cons_zero];rfl
     case bls=>
      simp only[List.getElem?_toArray,List.getElem?_cons_succ,List.getElem?_cons_zero];rfl
     case bnk=>
      go_simp
      go_at_call 58
      refine(HFN.out _ hdr).mono ?_
      rintro e wq ⟨hbq,hans⟩
      obtain⟨_,rfl⟩:=hans.resolve_right (fun⟨i,y,us,hh,_⟩=>by have h1:=blr.out;simp only at hh;omega)
      have hq1:=hdr.trans (hbq.mono hdr.size)
      have hk1:Keep wr.heap.size (wr.heap.size+1) wr wq:=Keep.of_below hq1
      refine hK.out _ _ (by first|exact(am3.out _ (by repeat(first|with_reducible exact hk1|with_reducible exact Keep.refl _ _ _|with_reducible refine Keep.drew ?_|with_reducible refine Keep.setAt ?_ _ _|with_reducible refine Keep.alloc ?_ _)))|go_keep) (fun hHeld=>?_)
      clear hK K
      try simp only[Act.put,List.setIfInBounds_toArray,List.set_cons_zero,List.set_cons_succ]
      refine wpAnyH_take (i:=8) (oi:=_) (v:=_) (by simp only[List.getElem?_toArray,List.getElem?_cons_succ,List.getElem?_cons_zero];rfl) (by kernel_rfl) (by kernel_rfl) (by kernel_rfl) (by exact fun _ _ _ h=>h) (Or.inl ⟨by rfl,by intro w hSw;(try dsimp only at hSw);go_simp;try with_reducible rfl⟩) (by assumption) ?_
      try simp only[Act.put,List.setIfInBounds_toArray,List.set_cons_zero,List.set_cons_succ]
      refine wpAnyH_take (i:=9) (oi:=_) (v:=_) (by simp only[List.getElem?_toArray,List.getElem?_cons_succ,List.getElem?_cons_zero];rfl) (by kernel_rfl) (by kernel_rfl) (by kernel_rfl) (by exact fun _ _ _ h=>h) (Or.inl ⟨by rfl,by intro w hSw;(try dsimp only at hSw);go_simp;try with_reducible rfl⟩) (by assumption) ?_
      try simp only[Act.put,List.setIfInBounds_toArray,List.set_cons_zero,List.set_cons_succ]
      refine wpAnyH_take (i:=10) (oi:=_) (v:=_) (by simp only[List.getElem?_toArray,List.getElem?_cons_succ,List.getElem?_cons_zero];rfl) (by kernel_rfl) (by kernel_rfl) (by kernel_rfl) (by exact fun _ _ _ h=>h) (Or.inl ⟨by rfl,by intro w hSw;(try dsimp only at hSw);go_simp;try with_reducible rfl⟩) (by assumption) ?_
      try simp only[Act.put,List.setIfInBounds_toArray,List.set_cons_zero,List.set_cons_succ]
      refine wpAnyH_ready (rs:=[11]) (by kernel_rfl) (by simp) ?_
      refine AllReadyH.cons (o:=?o12) ?h12 (fun K hK=>?k12) AllReadyH.nil
      case h12=>
       simp only[List.getElem?_toArray,List.getElem?_cons_succ,List.getElem?_cons_zero];rfl
      go_simp
      refine hK.out _ _ (by first|exact(am3.out _ (by repeat(first|with_reducible exact hk1|with_reducible exact Keep.refl _ _ _|with_reducible refine Keep.drew ?_|with_reducible refine Keep.setAt ?_ _ _|with_reducible refine Keep.alloc ?_ _)))|go_keep) (fun hHeld=>?_)
      clear hK K
      try simp only[Act.put,List.setIfInBounds_toArray,List.set_cons_zero,List.set_cons_succ]
      refine wpAnyH_ready (rs:=[12]) (by kernel_rfl) (by simp) ?_
      refine AllReadyH.cons (o:=?o13) ?h13 (fun K hK=>?k13) AllReadyH.nil
      case h13=>
       simp only[List.getElem?_toArray,List.getElem?_cons_succ,List.getElem?_cons_zero];rfl
      go_simp
      refine hK.out _ _ (by first|exact(am3.out _ (by repeat(first|with_reducible exact hk1|with_reducible exact Keep.refl _ _ _|with_reducible refine Keep.drew ?_|with_reducible refine Keep.setAt ?_ _ _|with_reducible refine Keep.alloc ?_ _)))|go_keep) (fun hHeld=>?_)
      clear hK K
      try simp only[Act.put,List.setIfInBounds_toArray,List.set_cons_zero,List.set_cons_succ]
      refine wpAnyH_take (i:=13) (oi:=_) (v:=_) (by simp only[List.getElem?_toArray,List.getElem?_cons_succ,List.getElem?_cons_zero];rfl) (by kernel_rfl) (by kernel_rfl) (by kernel_rfl) (by exact fun _ _ _ h=>h) (Or.inl ⟨by rfl,by intro w hSw;(try dsimp only at hSw);go_simp;try with_reducible rfl⟩) (by assumption) ?_
      try simp only[Act.put,List.setIfInBounds_toArray,List.set_cons_zero,List.set_cons_succ]
      refine wpAnyH_done (by kernel_rfl) ?_ _
      go_wp2_with fail
      obtain⟨w7,hw7⟩:∃ V,V=wq.alloc (.cells #[.slice none 0 0,.int .i64 0,.string {data:=#[]},.slice none 0 0,.slice none 0 0,.bool false] 62):=⟨_,rfl⟩
      rw[← hw7]
      obtain⟨wx,hwx⟩:∃ r,r=wq.heap.size:=⟨_,rfl⟩
      have b7:Blk w7 wx 62 #[.slice none 0 0,.int .i64 0,.string {data:=#[]},.slice none 0 0,.slice none 0 0,.bool false]:=by rw[hw7,hwx];exact Blk.new wq _ _
      have hb7:Below wr.heap.size wr w7:=by rw[hw7];exact hq1.alloc hq1.size _
      have bea:wr.heap.size≤wx:=by rw[hwx];exact hq1.size
      have hrq:Below wq.heap.size wq w7:=by rw[hw7];exact(Below.refl _ _).alloc (Nat.le_refl _) _
      rw[← hwx]
      clear hw7 hwx
      have hB7:=hBs.trans (hb7.mono hBs.size)
      have bR7:=bRs.step hb7
      have z47:w7.cell? ⟨w.heap.size+1,4,none⟩=some (.slice (some ⟨g,off,none⟩) af2 ah3):=(bCs.step hb7).cell 4
      have blq:w7.cell? ⟨g,off+m * 7,none⟩=some (.string name2):=(hb7.cell (p:=⟨g,off+m * 7,none⟩) (by have:=hBs.size;simp only;omega)).trans afe
      try go_wp2_with fail
      refine(ael 9 q2 _).mono ?_
      rintro e wz ⟨rfl,hbz⟩
      have hBz:=hB7.trans (hbz.mono (by have:=hB7.size;omega))
      have bRz:=bR7.step hbz
      have hsz:=hbz.size
      obtain⟨r0,r1,f0,f1⟩:=zr bRz
      go_wp2_with fail
      obtain⟨n0,n1,nB⟩:=aaz bRz hBz (by omega) (9) (q2)
      exact bodyPost_ret (v:=.tuple #[.agg #[.int .i64 9,.string q2],.bool true]) (by simp[results,Tryz.results28,go_sem,n0,n1]) rfl ⟨qx (by rw[HF.out];rfl) (by rw[HF.out];rfl) (by rw[HF.out];rfl),nB⟩
     case blv=>
      go_simp
      refine hK.out _ _ (by first|exact(am3.out _ ((Keep.refl _ _ _).drew.alloc _))|go_keep) (fun hHeld=>?_)
      clear hK K
      try simp only[Act.put,List.setIfInBounds_toArray,List.set_cons_zero,List.set_cons_succ]
      refine wpAnyH_ready (rs:=[7]) (by kernel_rfl) (by simp) ?_
      refine AllReadyH.cons (o:=?o14) ?h14 (fun K hK=>?k14) AllReadyH.nil
      case h14=>
       simp only[List.getElem?_toArray,List.getElem?_cons_succ,List.getElem?_cons_zero];rfl
      go_simp
      go_at_call 58
      refine(HFN.out _ hdz).mono ?_
      rintro e wq ⟨hbq,hans⟩
      obtain⟨_,rfl⟩:=hans.resolve_right (fun⟨i,y,us,hh,_⟩=>by have h1:=blr.out;simp only at hh;omega)
      have hq1:=hdz.trans (hbq.mono hdz.size)
      have hk1:Keep wr.heap.size (wr.heap.size+1) wr wq:=Keep.of_below hq1
      have oA:=xA.step hbq
      have fA0:=oA.frozen 0
      have fA1:=oA.frozen 1
      have fA2:=oA.frozen 2
      have fA3:=oA.frozen 3
      have fA4:=oA.frozen 4
      have fA5:=oA.frozen 5
      have cA0:wq.cell? ⟨wr.heap.size,0,none⟩=some (.slice none 0 0):=oA.cell 0
      have cA1:wq.cell? ⟨wr.heap.size,1,none⟩=some (.int .i64 0):=oA.cell 1
      have cA2:wq.cell? ⟨wr.heap.size,2,none⟩=some (.string {data:=#[]}):=oA.cell 2
      have cA3:wq.cell? ⟨wr.heap.size,3,none⟩=some (.slice none 0 0):=oA.cell 3
      have cA4:wq.cell? ⟨wr.heap.size,4,none⟩=some (.slice none 0 0):=oA.cell 4
      have cA5:wq.cell? ⟨wr.heap.size,5,none⟩=some (.bool false):=oA.cell 5
      refine hK.out _ _ (by first|exact(am3.out _ (by repeat(first|with_reducible exact hk1|with_reducible exact Keep.refl _ _ _|with_reducible refine Keep.drew ?_|with_reducible refine Keep.setAt ?_ _ _|with_reducible refine Keep.alloc ?_ _)))|go_keep) (fun hHeld=>?_)
      clear hK K
      try simp only[Act.put,List.setIfInBounds_toArray,List.set_cons_zero,List.set_cons_succ]
      refine wpAnyH_take (i:=8) (oi:=_) (v:=_) (by simp only[List.getElem?_toArray,List.getElem?_cons_succ,List.getElem?_cons_zero];rfl) (by kernel_rfl) (by kernel_rfl) (by kernel_rfl) (by exact fun _ _ _ h=>h) (Or.inl ⟨by rfl,by intro w hSw;(try dsimp only at hSw);go_simp;try with_reducible rfl⟩) (by assumption) ?_
      try simp only[Act.put,List.setIfInBounds_toArray,List.set_cons_zero,List.set_cons_succ]
      refine wpAnyH_take (i:=9) (oi:=_) (v:=_) (by simp only[List.getElem?_toArray,List.getElem?_cons_succ,List.getElem?_cons_zero];rfl) (by kernel_rfl) (by kernel_rfl) (by kernel_rfl) (by exact fun _ _ _ h=>h) (Or.inl ⟨by rfl,by intro w hSw;(try dsimp only at hSw);go_simp;try with_reducible rfl⟩) (by assumption) ?_
      try simp only[Act.put,List.setIfInBounds_toArray,List.set_cons_zero,List.set_cons_succ]
      refine wpAnyH_take (i:=10) (oi:=_) (v:=_) (by simp only[List.getElem?_toArray,List.getElem?_cons_succ,List.getElem?_cons_zero];rfl) (by kernel_rfl) (by kernel_rfl) (by kernel_rfl) (by exact fun _ _ _ h=>h) (Or.inl ⟨by rfl,by intro w hSw;(try dsimp only at hSw);go_simp;try with_reducible rfl⟩) (by assumption) ?_
      try simp only[Act.put,List.setIfInBounds_toArray,List.set_cons_zero,List.set_cons_succ]
      refine wpAnyH_ready (rs:=[12]) (by kernel_rfl) (by simp) ?_
      refine AllReadyH.cons (o:=?o15) ?h15 (fun K hK=>?k15) AllReadyH.nil
      case h15=>
       simp only[List.getElem?_toArray,List.getElem?_cons_succ,List.getElem?_cons_zero];rfl
      go_simp
      refine hK.out _ _ (by first|exact(am3.out _ (by repeat(first|with_reducible exact hk1|with_reducible exact Keep.refl _ _ _|with_reducible refine Keep.drew ?_|with_reducible refine Keep.setAt ?_ _ _|with_reducible refine Keep.alloc ?_ _)))|go_keep) (fun hHeld=>?_)
      clear hK K
      try simp only[Act.put,List.setIfInBounds_toArray,List.set_cons_zero,List.set_cons_succ]
      refine wpAnyH_take (i:=13) (oi:=_) (v:=_) (by simp only[List.getElem?_toArray,List.getElem?_cons_succ,List.getElem?_cons_zero];rfl) (by kernel_rfl) (by kernel_rfl) (by kernel_rfl) (by exact fun _ _ _ h=>h) (Or.inl ⟨by rfl,by intro w hSw;(try dsimp only at hSw);go_simp;try with_reducible rfl⟩) (by assumption) ?_
      try simp only[Act.put,List.setIfInBounds_toArray,List.set_cons_zero,List.set_cons_succ]
      refine wpAnyH_done (by kernel_rfl) ?_ _
      go_wp2_with fail
      obtain⟨w7,hw7⟩:∃ V,V=((((((wq.setCell ⟨wr.heap.size,0,none⟩ (.slice none 0 0)).setCell ⟨wr.heap.size,1,none⟩ (.int .i64 0)).setCell ⟨wr.heap.size,2,none⟩ (.string {data:=#[]})).setCell ⟨wr.heap.size,3,none⟩ (.slice none 0 0)).setCell ⟨wr.heap.size,4,none⟩ (.slice none 0 0)).setCell ⟨wr.heap.size,5,none⟩ (.bool false)):=⟨_,rfl⟩
      rw[← hw7]
      obtain⟨wx,hwx⟩:∃ r,r=wr.heap.size:=⟨_,rfl⟩
      have b7:Blk w7 wx 62 #[.slice none 0 0,.int .i64 0,.string {data:=#[]},.slice none 0 0,.slice none 0 0,.bool false]:=by rw[hw7,hwx];have:=((((((oA.abf 0 (.slice none 0 0)).abf 1 (.int .i64 0)).abf 2 (.string {data:=#[]})).abf 3 (.slice none 0 0)).abf 4 (.slice none 0 0)).abf 5 (.bool false));simpa using this
      have hb7:Below wr.heap.size wr w7:=by rw[hw7];(iterate 6 (refine Below.setCell ?_ (by simp) _));exact hq1
      have bea:wr.heap.size≤wx:=by rw[hwx];exact Nat.le_refl _
      rw[← hwx]
      clear hwx
      have hB7:=hBs.trans (hb7.mono hBs.size)
      have bR7:=bRs.step hb7
      have z47:w7.cell? ⟨w.heap.size+1,4,none⟩=some (.slice (some ⟨g,off,none⟩) af2 ah3):=(bCs.step hb7).cell 4
      have blq:w7.cell? ⟨g,off+m * 7,none⟩=some (.string name2):=(hb7.cell (p:=⟨g,off+m * 7,none⟩) (by have:=hBs.size;simp only;omega)).trans afe
      try go_wp2_with fail
      refine(ael 9 q2 _).mono ?_
      rintro e wz ⟨rfl,hbz⟩
      have hBz:=hB7.trans (hbz.mono (by have:=hB7.size;omega))
      have bRz:=bR7.step hbz
      have hsz:=hbz.size
      obtain⟨r0,r1,f0,f1⟩:=zr bRz
      go_wp2_with fail
      obtain⟨n0,n1,nB⟩:=aaz bRz hBz (by omega) (9) (q2)
      exact bodyPost_ret (v:=.tuple #[.agg #[.int .i64 9,.string q2],.bool true]) (by simp[results,Tryz.results28,go_sem,n0,n1]) rfl ⟨qx (by rw[HF.out];rfl) (by rw[HF.out];rfl) (by rw[HF.out];rfl),nB⟩
    case neg=>
     obtain⟨i,y,hfi,hfy⟩:=ayt hneg
     have OYB:=Lib.hid (HFO.out.fs _ (List.mem_of_getElem? hfy)).2
     have atu:=Lib.hid hfi
     have HFY:=Lib.hid hfy
     obtain⟨yn,⟨up,⟨uk,un,ul,ukk⟩,ua⟩⟩:=y
     clear hfi hfy hneg
     go_wp2_with fail
     refine wp_region_held_drew (S:=(fun w'=>w'.cell? ⟨w.heap.size,0,none⟩=some (.string hpk)∧w'.cell? ⟨w.heap.size,1,none⟩=some (.string hnm)∧w'.cell? ⟨w.heap.size,2,none⟩=some (.string ahb)∧w'.cell? ⟨w.heap.size,3,none⟩=some (.slice aip aiq air)∧w'.cell? ⟨w.heap.size,4,none⟩=some (.slice al3 al4 al5)∧w'.cell? ⟨w.heap.size+1,4,none⟩=some (.slice (some ⟨g,off,none⟩) af2 ah3)∧w'.cell? ⟨g,off+m * 7,none⟩=some (.string name2))) (by kernel_rfl) (am3.out _ (Keep.refl _ _ _).drew) (fun hHeld=>?_)
     refine wpAnyH_take (i:=0) (oi:=_) (v:=_) (by simp only[List.getElem?_toArray,List.getElem?_cons_succ,List.getElem?_cons_zero];rfl) (by kernel_rfl) (by kernel_rfl) (by kernel_rfl) (by exact fun _ _ _ h=>h) (Or.inl ⟨by rfl,by intro w hSw;(try dsimp only at hSw);go_simp;try with_reducible rfl⟩) (by assumption) ?_
     try simp only[Act.put,List.setIfInBounds_toArray,List.set_cons_zero,List.set_cons_succ]
     refine wpAnyH_take (i:=1) (oi:=_) (v:=_) (by simp only[List.getElem?_toArray,List.getElem?_cons_succ,List.getElem?_cons_zero];rfl) (by kernel_rfl) (by kernel_rfl) (by kernel_rfl) (by exact fun _ _ _ h=>h) (Or.inl ⟨by rfl,by intro w hSw;(try dsimp only at hSw);go_simp;try with_reducible rfl⟩) (by assumption) ?_
     try simp only[Act.put,List.setIfInBounds_toArray,List.set_cons_zero,List.set_cons_succ]
     refine wpAnyH_take (i:=2) (oi:=_) (v:=_) (by simp only[List.getElem?_toArray,List.getElem?_cons_succ,List.getElem?_cons_zero];rfl) (by kernel_rfl) (by kernel_rfl) (by kernel_rfl) (by exact fun _ _ _ h=>h) (Or.inl ⟨by rfl,by intro w hSw;(try dsimp only at hSw);go_simp;try with_reducible rfl⟩) (by assumption) ?_
     try simp only[Act.put,List.setIfInBounds_toArray,List.set_cons_zero,List.set_cons_succ]
     refine wpAnyH_take (i:=3) (oi:=_) (v:=_) (by simp only[List.getElem?_toArray,List.getElem?_cons_succ,List.getElem?_cons_zero];rfl) (by kernel_rfl) (by kernel_rfl) (by kernel_rfl) (by exact fun _ _ _ h=>h) (Or.inl ⟨by rfl,by intro w hSw;(try dsimp only at hSw);go_simp;try with_reducible rfl⟩) (by assumption) ?_
     try simp only[Act.put,List.setIfInBounds_toArray,List.set_cons_zero,List.set_cons_succ]
     refine wpAnyH_take (i:=4) (oi:=_) (v:=_) (by simp only[List.getElem?_toArray,List.getElem?_cons_succ,List.getElem?_cons_zero];rfl) (by kernel_rfl) (by kernel_rfl) (by kernel_rfl) (by exact fun _ _ _ h=>h) (Or.inl ⟨by rfl,by intro w hSw;(try dsimp only at hSw);go_simp;try with_reducible rfl⟩) (by assumption) ?_
     try simp only[Act.put,List.setIfInBounds_toArray,List.set_cons_zero,List.set_cons_succ]
     refine wpAnyH_take (i:=5) (oi:=_) (v:=_) (by simp only[List.getElem?_toArray,List.getElem?_cons_succ,List.getElem?_cons_zero];rfl) (by kernel_rfl) (by kernel_rfl) (by kernel_rfl) (by exact fun _ _ _ h=>h) (Or.inl ⟨by rfl,by intro w hSw;(try dsimp only at hSw);go_simp;try with_reducible rfl⟩) (by assumption) ?_
     try simp only[Act.put,List.setIfInBounds_toArray,List.set_cons_zero,List.set_cons_succ]
     refine wpAnyH_take (i:=6) (oi:=_) (v:=_) (by simp only[List.getElem?_toArray,List.getElem?_cons_succ,List.getElem?_cons_zero];rfl) (by kernel_rfl) (by kernel_rfl) (by kernel_rfl) (by exact fun _ _ _ h=>h) (Or.inl ⟨by rfl,by intro w hSw;(try dsimp only at hSw);go_simp;try with_reducible rfl⟩) (by assumption) ?_
     try simp only[Act.put,List.setIfInBounds_toArray,List.set_cons_zero,List.set_cons_succ]
     refine wpAnyH_ready (rs:=[7,11]) (by kernel_rfl) (by simp) ?_
     refine AllReadyH.cons (o:=?bu6) ?bnl (fun K hK=>?bnm) (AllReadyH.cons (o:=?bui) ?blw (fun K hK=>?blx) AllReadyH.nil)
     case bnl=>
      simp only[List.getElem?_toArray,List.getElem?_cons_succ,List.getElem?_cons_zero];rfl
     case blw=>
      simp only[List.getElem?_toArray,List.getElem?_cons_succ,List.getElem?_cons_zero];rfl
     case bnm=>
      go_simp
      go_at_call 58
      refine(HFN.out _ hdr).mono ?_
      rintro e wq ⟨hbq,hans⟩
      obtain⟨i2,y2,us,hh1,hh2,rfl,hrep⟩:=hans.resolve_left (fun hh=>by have h1:=atu.out;have h2:=hh.1;simp only at h2;omega)
      simp only at hh1 hh2
      obtain rfl:i2=i:=by have:=atu.out;omega
      obtain rfl:=Option.some.inj (HFY.out.symm.trans hh2)
      obtain⟨uA,uN,uC,ulA,ulN,ulC,ukA,ukN,ukC,rfl⟩:=jh.afp hrep
      have HRU:=Lib.hid hrep
      clear hh1 hh2 hrep
      have hq1:=hdr.trans (hbq.mono hdr.size)
      have hk1:Keep wr.heap.size (wr.heap.size+1) wr wq:=Keep.of_below hq1
      refine hK.out _ _ (by first|exact(am3.out _ (by repeat(first|with_reducible exact hk1|with_reducible exact Keep.refl _ _ _|with_reducible refine Keep.drew ?_|with_reducible refine Keep.setAt ?_ _ _|with_reducible refine Keep.alloc ?_ _)))|go_keep) (fun hHeld=>?_)
      clear hK K
      try simp only[Act.put,List.setIfInBounds_toArray,List.set_cons_zero,List.set_cons_succ]
      refine wpAnyH_take (i:=8) (oi:=_) (v:=_) (by simp only[List.getElem?_toArray,List.getElem?_cons_succ,List.getElem?_cons_zero];rfl) (by kernel_rfl) (by kernel_rfl) (by kernel_rfl) (by exact fun _ _ _ h=>h) (Or.inl ⟨by rfl,by intro w hSw;(try dsimp only at hSw);go_simp;try with_reducible rfl⟩) (by assumption) ?_
      try simp only[Act.put,List.setIfInBounds_toArray,List.set_cons_zero,List.set_cons_succ]
      refine wpAnyH_take (i:=9) (oi:=_) (v:=_) (by simp only[List.getElem?_toArray,List.getElem?_cons_succ,List.getElem?_cons_zero];rfl) (by kernel_rfl) (by kernel_rfl) (by kernel_rfl) (by exact fun _ _ _ h=>h) (Or.inl ⟨by rfl,by intro w hSw;(try dsimp only at hSw);go_simp;try with_reducible rfl⟩) (by assumption) ?_
      try simp only[Act.put,List.setIfInBounds_toArray,List.set_cons_zero,List.set_cons_succ]
      refine wpAnyH_take (i:=10) (oi:=_) (v:=_) (by simp only[List.getElem?_toArray,List.getElem?_cons_succ,List.getElem?_cons_zero];rfl) (by kernel_rfl) (by kernel_rfl) (by kernel_rfl) (by exact fun _ _ _ h=>h) (Or.inl ⟨by rfl,by intro w hSw;(try dsimp only at hSw);go_simp;try with_reducible rfl⟩) (by assumption) ?_
      try simp only[Act.put,List.setIfInBounds_toArray,List.set_cons_zero,List.set_cons_succ]
      refine wpAnyH_ready (rs:=[11]) (by kernel_rfl) (by simp) ?_
      refine AllReadyH.cons (o:=?o17) ?h17 (fun K hK=>?k17) AllReadyH.nil
      case h17=>
       simp only[List.getElem?_toArray,List.getElem?_cons_succ,List.getElem?_cons_zero];rfl
      go_simp
      refine hK.out _ _ (by first|exact(am3.out _ (by repeat(first|with_reducible exact hk1|with_reducible exact Keep.refl _ _ _|with_reducible refine Keep.drew ?_|with_reducible refine Keep.setAt ?_ _ _|with_reducible refine Keep.alloc ?_ _)))|go_keep) (fun hHeld=>?_)
      clear hK K
      try simp only[Act.put,List.setIfInBounds_toArray,List.set_cons_zero,List.set_cons_succ]
      refine wpAnyH_ready (rs:=[12]) (by kernel_rfl) (by simp) ?_
      refine AllReadyH.cons (o:=?o18) ?h18 (fun K hK=>?k18) AllReadyH.nil
      case h18=>
       simp only[List.getElem?_toArray,List.getElem?_cons_succ,List.getElem?_cons_zero];rfl
      go_simp
      refine hK.out _ _ (by first|exact(am3.out _ (by repeat(first|with_reducible exact hk1|with_reducible exact Keep.refl _ _ _|with_reducible refine Keep.drew ?_|with_reducible refine Keep.setAt ?_ _ _|with_reducible refine Keep.alloc ?_ _)))|go_keep) (fun hHeld=>?_)
      clear hK K
      try simp only[Act.put,List.setIfInBounds_toArray,List.set_cons_zero,List.set_cons_succ]
      refine wpAnyH_take (i:=13) (oi:=_) (v:=_) (by simp only[List.getElem?_toArray,List.getElem?_cons_succ,List.getElem?_cons_zero];rfl) (by kernel_rfl) (by kernel_rfl) (by kernel_rfl) (by exact fun _ _ _ h=>h) (Or.inl ⟨by rfl,by intro w hSw;(try dsimp only at hSw);go_simp;try with_reducible rfl⟩) (by assumption) ?_
      try simp only[Act.put,List.setIfInBounds_toArray,List.set_cons_zero,List.set_cons_succ]
      refine wpAnyH_done (by kernel_rfl) ?_ _
      go_wp2_with fail
      obtain⟨w7,hw7⟩:∃ V,V=wq.alloc (.cells #[.slice uA uN uC,.int .i64 uk,.string un,.slice ulA ulN ulC,.slice ukA ukN ukC,.bool ua] 62):=⟨_,rfl⟩
      rw[← hw7]
      obtain⟨wx,hwx⟩:∃ r,r=wq.heap.size:=⟨_,rfl⟩
      have b7:Blk w7 wx 62 #[.slice uA uN uC,.int .i64 uk,.string un,.slice ulA ulN ulC,.slice ukA ukN ukC,.bool ua]:=by rw[hw7,hwx];exact Blk.new wq _ _
      have hb7:Below wr.heap.size wr w7:=by rw[hw7];exact hq1.alloc hq1.size _
      have bea:wr.heap.size≤wx:=by rw[hwx];exact hq1.size
      have hrq:Below wq.heap.size wq w7:=by rw[hw7];exact(Below.refl _ _).alloc (Nat.le_refl _) _
      rw[← hwx]
      clear hw7 hwx
      have hB7:=hBs.trans (hb7.mono hBs.size)
      have bR7:=bRs.step hb7
      have hs7:=hb7.size
      have bC7:=bCs.step hb7
      have hlx:=b7.lt
      have HL7:Hid (LvC w7 wr.drew.heap.size wq.heap.size (jh.pd ⟨up,⟨uk,un,ul,ukk⟩,ua⟩) [.slice uA uN uC,.int .i64 uk,.string un,.slice ulA ulN ulC,.slice ukA ukN ukC,.bool ua]):=HRU.out.step hrq
      have beb:Hid (w.heap.size+1+1+1≤wr.drew.heap.size):=by have:=bRs.lt;show _≤wr.heap.size;omega
      have HBX:Hid (jy w7 B (jh.pd ⟨ach,⟨l7,l9,zl,aan⟩,x9⟩) [.slice aa2 aa3 aa4,.int .i64 l7,.string l9,.slice uo uq uw,.slice yx y5 y7,.bool x9]):=jh.close_ (afy.out.below (hb7.mono (Nat.le_trans hB hBs.size))) (ad2.out.below (hb7.mono (Nat.le_trans hB hBs.size))) (ad9.out.below (hb7.mono (Nat.le_trans hB hBs.size)))
      have hRB:=bR7.lt
      have bqa:=bRs.lt
      obtain⟨R2,hR2⟩:∃ r,ajv (agl 4) ⟨up,⟨uk,un,ul,ukk⟩,ua⟩ ⟨ach,⟨l7,l9,zl,aan⟩,x9⟩ q2=r:=⟨_,rfl⟩
      have HC:=fun(V:World) (hV:Keep (w.heap.size+1+1) (w.heap.size+1+1+1) w7 V)=>ash ⟨up,⟨uk,un,ul,ukk⟩,ua⟩ ⟨ach,⟨l7,l9,zl,aan⟩,x9⟩ q2 V.heap.size [.slice uA uN uC,.int .i64 uk,.string un,.slice ulA ulN ulC,.slice ukA ukN ukC,.bool ua] [.slice aa2 aa3 aa4,.int .i64 l7,.string l9,.slice uo uq uw,.slice yx y5 y7,.bool x9] V (Nat.le_refl _) (hT.below (hB7.trans (kb hV (by omega)))) (as6 OYB.out) OX.out (by omega) ((HL7.out.kept hV (.inr beb.out)).is) ((HBX.out.below (kb hV (by omega))).more (Nat.le_trans (Nat.le_trans hB hB7.size) hV.size))
      unfold WQ at HC
      rw[hR2] at HC
      obtain⟨RK,RS,RN,HRK,HRS,HRN⟩:=agn R2
      rw[HRK.out,HRS.out,HRN.out] at HC
      replace HC:=Lib.hid HC
      have HK2:Hid (akg at_ hfs wfs m=R2):=by show _=_;rw[ayq HX2.out atu.out HFY.out];simp only;rw[HQ2.out,hR2]
      clear hR2
      have HS:Hid (∀ V,Keep (w.heap.size+1+1) (w.heap.size+1+1+1) w7 V→V.cell? ⟨wx,0,none⟩=some (.slice uA uN uC)∧V.cell? ⟨wx,1,none⟩=some (.int .i64 uk)∧V.cell? ⟨wx,2,none⟩=some (.string un)∧V.cell? ⟨wx,3,none⟩=some (.slice ulA ulN ulC)∧V.cell? ⟨wx,4,none⟩=some (.slice ukA ukN ukC)∧V.cell? ⟨wx,5,none⟩=some (.bool ua)∧V.cell? ⟨w.heap.size+1,4,none⟩=some (.slice (some ⟨g,off,none⟩) af2 ah3)∧V.cell? ⟨g,off+m * 7,none⟩=some (.string name2)∧V.cell? ⟨g,off+m * 7+1,none⟩=some (.slice aa2 aa3 aa4)∧V.cell? ⟨g,off+m * 7+2,none⟩=some (.int .i64 l7)∧V.cell? ⟨g,off+m * 7+3,none⟩=some (.string l9)∧V.cell? ⟨g,off+m * 7+4,none⟩=some (.slice uo uq uw)∧V.cell? ⟨g,off+m * 7+5,none⟩=some (.slice yx y5 y7)∧V.cell? ⟨g,off+m * 7+6,none⟩=some (.bool x9)):=Lib.hid fun V hV=>⟨(hV.cell (p:=⟨wx,0,none⟩) (by simp only;omega) (by simp only;omega)).trans (b7.cell 0),(hV.cell (p:=⟨wx,1,none⟩) (by simp only;omega) (by simp only;omega)).trans (b7.cell 1),(hV.cell (p:=⟨wx,2,none⟩) (by simp only;omega) (by simp only;omega)).trans (b7.cell 2),(hV.cell (p:=⟨wx,3,none⟩) (by simp only;omega) (by simp only;omega)).trans (b7.cell 3),(hV.cell (p:=⟨wx,4,none⟩) (by simp only;omega) (by simp only;omega)).trans (b7.cell 4),(hV.cell (p:=⟨wx,5,none⟩) (by simp only;omega) (by simp only;omega)).trans (b7.cell 5),(hV.cell (p:=⟨w.heap.size+1,4,none⟩) (by simp only;omega) (by simp only;omega)).trans (bC7.cell 4),(hV.cell (p:=⟨g,off+m * 7,none⟩) (by simp only;omega) (by simp only;omega)).trans ((hb7.cell (p:=⟨g,off+m * 7,none⟩) (by have:=hBs.size;simp only;omega)).trans afe),(hV.cell (p:=⟨g,off+m * 7+1,none⟩) (by simp only;omega) (by simp only;omega)).trans ((hb7.cell (p:=⟨g,off+m * 7+1,none⟩) (by have:=hBs.size;simp only;omega)).trans akc),(hV.cell (p:=⟨g,off+m * 7+2,none⟩) (by simp only;omega) (by simp only;omega)).trans ((hb7.cell (p:=⟨g,off+m * 7+2,none⟩) (by have:=hBs.size;simp only;omega)).trans ahh),(hV.cell (p:=⟨g,off+m * 7+3,none⟩) (by simp only;omega) (by simp only;omega)).trans ((hb7.cell (p:=⟨g,off+m * 7+3,none⟩) (by have:=hBs.size;simp only;omega)).trans ahi),(hV.cell (p:=⟨g,off+m * 7+4,none⟩) (by simp only;omega) (by simp only;omega)).trans ((hb7.cell (p:=⟨g,off+m * 7+4,none⟩) (by have:=hBs.size;simp only;omega)).trans ag0),(hV.cell (p:=⟨g,off+m * 7+5,none⟩) (by simp only;omega) (by simp only;omega)).trans ((hb7.cell (p:=⟨g,off+m * 7+5,none⟩) (by have:=hBs.size;simp only;omega)).trans ahj),(hV.cell (p:=⟨g,off+m * 7+6,none⟩) (by simp only;omega) (by simp only;omega)).trans ((hb7.cell (p:=⟨g,off+m * 7+6,none⟩) (by have:=hBs.size;simp only;omega)).trans akr)⟩
      go_wp2_with fail
      go_region_held3 (fun w'=>w'.cell? ⟨wx,0,none⟩=some (.slice uA uN uC)∧w'.cell? ⟨wx,1,none⟩=some (.int .i64 uk)∧w'.cell? ⟨wx,2,none⟩=some (.string un)∧w'.cell? ⟨wx,3,none⟩=some (.slice ulA ulN ulC)∧w'.cell? ⟨wx,4,none⟩=some (.slice ukA ukN ukC)∧w'.cell? ⟨wx,5,none⟩=some (.bool ua)∧w'.cell? ⟨w.heap.size+1,4,none⟩=some (.slice (some ⟨g,off,none⟩) af2 ah3)∧w'.cell? ⟨g,off+m * 7,none⟩=some (.string name2)∧w'.cell? ⟨g,off+m * 7+1,none⟩=some (.slice aa2 aa3 aa4)∧w'.cell? ⟨g,off+m * 7+2,none⟩=some (.int .i64 l7)∧w'.cell? ⟨g,off+m * 7+3,none⟩=some (.string l9)∧w'.cell? ⟨g,off+m * 7+4,none⟩=some (.slice uo uq uw)∧w'.cell? ⟨g,off+m * 7+5,none⟩=some (.slice yx y5 y7)∧w'.cell? ⟨g,off+m * 7+6,none⟩=some (.bool x9))
       (first|exact HS.out _ (by repeat(first|exact hq1|exact hq2|exact Keep.refl _ _ _|refine Keep.drew ?_|refine Keep.alloc ?_ _|refine Keep.setAt ?_ _ _|refine Keep.newAt ?_ (Nat.le_refl _) _ _|refine Keep.newAt ?_ aam.size _ _|refine Keep.newAt ?_ hbW.size _ _)))
       (first|(go_at_call 46;refine(HC.out _ (by repeat(first|exact hq1|exact hq2|exact Keep.refl _ _ _|refine Keep.drew ?_|refine Keep.alloc ?_ _|refine Keep.setAt ?_ _ _|refine Keep.newAt ?_ (Nat.le_refl _) _ _|refine Keep.newAt ?_ aam.size _ _|refine Keep.newAt ?_ hbW.size _ _))).mono ?_;rintro e wq ⟨rfl,hbq⟩;have hbW:Below w7.heap.size w7 wq:=(by first|exact(Below.refl _ _).drew.trans hbq|exact((Below.refl _ _).drew.alloc (Nat.le_refl _) _).trans (hbq.mono (by simp)));have hq2:Keep (w.heap.size+1+1) (w.heap.size+1+1+1) w7 wq:=Keep.of_below hbW;(first|(have bP:Blk wq w7.heap.size 34 #[.int .i64 0,.string {data:=#[]}]:=(Blk.new w7.drew _ _).step hbq;have p0:wq.cell? ⟨w7.heap.size,0,none⟩=some (.int .i64 0):=bP.cell 0;have p1:wq.cell? ⟨w7.heap.size,1,none⟩=some (.string {data:=#[]}):=bP.cell 1;have g0:wq.frozen? ⟨w7.heap.size,0,none⟩=false:=bP.frozen 0;have g1:wq.frozen? ⟨w7.heap.size,1,none⟩=false:=bP.frozen 1)|skip)))
      all_goals
       first
        | (obtain⟨w6,hw6⟩:∃ V,V=wq.alloc (.cells #[.int .i64 RK,.string RS] 34):=⟨_,rfl⟩;rw[← hw6];have bX:Blk w6 wq.heap.size 34 #[.int .i64 RK,.string RS]:=(by rw[hw6];exact Blk.new wq _ _);have hb6:Below w7.heap.size w7 w6:=(by rw[hw6];exact hbW.alloc hbW.size _);obtain⟨rx,hrx⟩:∃ r,r=wq.heap.size:=⟨_,rfl⟩;have ah0:w7.heap.size≤rx:=(by rw[hrx];exact hbW.size);rw[← hrx] at bX ⊢;clear hw6 hrx)
        | (obtain⟨w6,hw6⟩:∃ V,V=(wq.setCell ⟨w7.heap.size,0,none⟩ (.int .i64 RK)).setCell ⟨w7.heap.size,1,none⟩ (.string RS):=⟨_,rfl⟩;rw[← hw6];have bX:Blk w6 (w7.heap.size) 34 #[.int .i64 RK,.string RS]:=(by rw[hw6];have:=(bP.abf 0 (.int .i64 RK)).abf 1 (.string RS);simpa using this);have hb6:Below w7.heap.size w7 w6:=(by rw[hw6];exact(hbW.setCell (p:=⟨w7.heap.size,0,none⟩) (by first|exact Nat.le_refl _|exact aam.size|exact hbW.size) _).setCell (p:=⟨w7.heap.size,1,none⟩) (by first|exact Nat.le_refl _|exact aam.size|exact hbW.size) _);obtain⟨rx,hrx⟩:∃ r,r=w7.heap.size:=⟨_,rfl⟩;have ah0:w7.heap.size≤rx:=(by rw[hrx];first|exact Nat.le_refl _|exact hbW.size|exact aam.size);rw[← hrx] at bX ⊢;clear hw6 hrx)
       have hB6:=hB7.trans (hb6.mono (by omega))
       have bR6:=bR7.step hb6
       have hs6:=hb6.size
       cases RN
       case false=>
        have HQ:Hid (aa0 (akg at_ hfs wfs) (m+1)=none):=by show _=_;exact ae2 HP2.out (by rw[HK2.out];exact agx HRN.out)
        go_wp2_with fail
        go_roundw
        case rel=>exact⟨m+1,by omega,by go_num,HQ,(hbs.trans (hb7.mono hss)).trans (hb6.mono (by omega))⟩
        case measure=>simp[intOf];omega
       case true=>
        have HF:Hid (R=some (RK,RS)):=by show _=_;rw[HG2.out,← HRK.out,← HRS.out];exact ad1 HP2.out (by rw[HK2.out];exact agy HRN.out) _ (by have:=akd.out;omega)
        obtain⟨q0,q1⟩:=rq bX
        obtain⟨r0,r1,f0,f1⟩:=zr bR6
        go_wp2_with fail
        obtain⟨n0,n1,nB⟩:=aaz bR6 hB6 (by omega) (RK) (RS)
        exact bodyPost_ret (v:=.tuple #[.agg #[.int .i64 RK,.string RS],.bool true]) (by simp[results,Tryz.results28,go_sem,n0,n1]) rfl ⟨qx (by rw[HF.out];rfl) (by rw[HF.out];rfl) (by rw[HF.out];rfl),nB⟩
     case blx=>
      go_simp
      refine hK.out _ _ (by first|exact(am3.out _ ((Keep.refl _ _ _).drew.alloc _))|go_keep) (fun hHeld=>?_)
      clear hK K
      try simp only[Act.put,List.setIfInBounds_toArray,List.set_cons_zero,List.set_cons_succ]
      refine wpAnyH_ready (rs:=[7]) (by kernel_rfl) (by simp) ?_
      refine AllReadyH.cons (o:=?o19) ?h19 (fun K hK=>?k19) AllReadyH.nil
      case h19=>
       simp only[List.getElem?_toArray,List.getElem?_cons_succ,List.getElem?_cons_zero];rfl
      go_simp
      go_at_call 58
      refine(HFN.out _ hdz).mono ?_
      rintro e wq ⟨hbq,hans⟩
      obtain⟨i2,y2,us,hh1,hh2,rfl,hrep⟩:=hans.resolve_left (fun hh=>by have h1:=atu.out;have h2:=hh.1;simp only at h2;omega)
      simp only at hh1 hh2
      obtain rfl:i2=i:=by have:=atu.out;omega
      obtain rfl:=Option.some.inj (HFY.out.symm.trans hh2)
      obtain⟨uA,uN,uC,ulA,ulN,ulC,ukA,ukN,ukC,rfl⟩:=jh.afp hrep
      have HRU:=Lib.hid hrep
      clear hh1 hh2 hrep
      have hq1:=hdz.trans (hbq.mono hdz.size)
      have hk1:Keep wr.heap.size (wr.heap.size+1) wr wq:=Keep.of_below hq1
      have oA:=xA.step hbq
      have fA0:=oA.frozen 0
      have fA1:=oA.frozen 1
      have fA2:=oA.frozen 2
      have fA3:=oA.frozen 3
      have fA4:=oA.frozen 4
      have fA5:=oA.frozen 5
      have cA0:wq.cell? ⟨wr.heap.size,0,none⟩=some (.slice none 0 0):=oA.cell 0
      have cA1:wq.cell? ⟨wr.heap.size,1,none⟩=some (.int .i64 0):=oA.cell 1
      have cA2:wq.cell? ⟨wr.heap.size,2,none⟩=some (.string {data:=#[]}):=oA.cell 2
      have cA3:wq.cell? ⟨wr.heap.size,3,none⟩=some (.slice none 0 0):=oA.cell 3
      have cA4:wq.cell? ⟨wr.heap.size,4,none⟩=some (.slice none 0 0):=oA.cell 4
      have cA5:wq.cell? ⟨wr.heap.size,5,none⟩=some (.bool false):=oA.cell 5
      refine hK.out _ _ (by first|exact(am3.out _ (by repeat(first|with_reducible exact hk1|with_reducible exact Keep.refl _ _ _|with_reducible refine Keep.drew ?_|with_reducible refine Keep.setAt ?_ _ _|with_reducible refine Keep.alloc ?_ _)))|go_keep) (fun hHeld=>?_)
      clear hK K
      try simp only[Act.put,List.setIfInBounds_toArray,List.set_cons_zero,List.set_cons_succ]
      refine wpAnyH_take (i:=8) (oi:=_) (v:=_) (by simp only[List.getElem?_toArray,List.getElem?_cons_succ,List.getElem?_cons_zero];rfl) (by kernel_rfl) (by kernel_rfl) (by kernel_rfl) (by exact fun _ _ _ h=>h) (Or.inl ⟨by rfl,by intro w hSw;(try dsimp only at hSw);go_simp;try with_reducible rfl⟩) (by assumption) ?_
      try simp only[Act.put,List.setIfInBounds_toArray,List.set_cons_zero,List.set_cons_succ]
      refine wpAnyH_take (i:=9) (oi:=_) (v:=_) (by simp only[List.getElem?_toArray,List.getElem?_cons_succ,List.getElem?_cons_zero];rfl) (by kernel_rfl) (by kernel_rfl) (by kernel_rfl) (by exact fun _ _ _ h=>h) (Or.inl ⟨by rfl,by intro w hSw;(try dsimp only at hSw);go_simp;try with_reducible rfl⟩) (by assumption) ?_
      try simp only[Act.put,List.setIfInBounds_toArray,List.set_cons_zero,List.set_cons_succ]
      refine wpAnyH_take (i:=10) (oi:=_) (v:=_) (by simp only[List.getElem?_toArray,List.getElem?_cons_succ,List.getElem?_cons_zero];rfl) (by kernel_rfl) (by kernel_rfl) (by kernel_rfl) (by exact fun _ _ _ h=>h) (Or.inl ⟨by rfl,by intro w hSw;(try dsimp only at hSw);go_simp;try with_reducible rfl⟩) (by assumption) ?_
      try simp only[Act.put,List.setIfInBounds_toArray,List.set_cons_zero,List.set_cons_succ]
      refine wpAnyH_ready (rs:=[12]) (by kernel_rfl) (by simp) ?_
      refine AllReadyH.cons (o:=?o20) ?h20 (fun K hK=>?k20) AllReadyH.nil
      case h20=>
       simp only[List.getElem?_toArray,List.getElem?_cons_succ,List.getElem?_cons_zero];rfl
      go_simp
      refine hK.out _ _ (by first|exact(am3.out _ (by repeat(first|with_reducible exact hk1|with_reducible exact Keep.refl _ _ _|with_reducible refine Keep.drew ?_|with_reducible refine Keep.setAt ?_ _ _|with_reducible refine Keep.alloc ?_ _)))|go_keep) (fun hHeld=>?_)
      clear hK K
      try simp only[Act.put,List.setIfInBounds_toArray,List.set_cons_zero,List.set_cons_succ]
      refine wpAnyH_take (i:=13) (oi:=_) (v:=_) (by simp only[List.getElem?_toArray,List.getElem?_cons_succ,List.getElem?_cons_zero];rfl) (by kernel_rfl) (by kernel_rfl) (by kernel_rfl) (by exact fun _ _ _ h=>h) (Or.inl ⟨by rfl,by intro w hSw;(try dsimp only at hSw);go_simp;try with_reducible rfl⟩) (by assumption) ?_
      try simp only[Act.put,List.setIfInBounds_toArray,List.set_cons_zero,List.set_cons_succ]
      refine wpAnyH_done (by kernel_rfl) ?_ _
      go_wp2_with fail
      obtain⟨w7,hw7⟩:∃ V,V=((((((wq.setCell ⟨wr.heap.size,0,none⟩ (.slice uA uN uC)).setCell ⟨wr.heap.size,1,none⟩ (.int .i64 uk)).setCell ⟨wr.heap.size,2,none⟩ (.string un)).setCell ⟨wr.heap.size,3,none⟩ (.slice ulA ulN ulC)).setCell ⟨wr.heap.size,4,none⟩ (.slice ukA ukN ukC)).setCell ⟨wr.heap.size,5,none⟩ (.bool ua)):=⟨_,rfl⟩
      rw[← hw7]
      obtain⟨wx,hwx⟩:∃ r,r=wr.heap.size:=⟨_,rfl⟩
      have b7:Blk w7 wx 62 #[.slice uA uN uC,.int .i64 uk,.string un,.slice ulA ulN ulC,.slice ukA ukN ukC,.bool ua]:=by rw[hw7,hwx];have:=((((((oA.abf 0 (.slice uA uN uC)).abf 1 (.int .i64 uk)).abf 2 (.string un)).abf 3 (.slice ulA ulN ulC)).abf 4 (.slice ukA ukN ukC)).abf 5 (.bool ua));simpa using this
      have hb7:Below wr.heap.size wr w7:=by rw[hw7];(iterate 6 (refine Below.setCell ?_ (by simp) _));exact hq1
      have bea:wr.heap.size≤wx:=by rw[hwx];exact Nat.le_refl _
      rw[← hwx]
      clear hwx
      have hB7:=hBs.trans (hb7.mono hBs.size)
      have bR7:=bRs.step hb7
      have hs7:=hb7.size
      have bC7:=bCs.step hb7
      have hlx:=b7.lt
      have HL7:Hid (LvC w7 (wr.alloc (.cells #[.slice none 0 0,.int .i64 0,.string {data:=#[]},.slice none 0 0,.slice none 0 0,.bool false] 62)).drew.heap.size wq.heap.size (jh.pd ⟨up,⟨uk,un,ul,ukk⟩,ua⟩) [.slice uA uN uC,.int .i64 uk,.string un,.slice ulA ulN ulC,.slice ukA ukN ukC,.bool ua]):=by
       show LvC _ _ _ _ _
       rw[hw7]
       (iterate 6 (refine LvC.setCell ?_ (.inl xA.lt) _))
       exact HRU.out
      have beb:Hid (w.heap.size+1+1+1≤(wr.alloc (.cells #[.slice none 0 0,.int .i64 0,.string {data:=#[]},.slice none 0 0,.slice none 0 0,.bool false] 62)).drew.heap.size):=by have:=bRs.lt;have:=xA.lt;show _≤_;omega
      clear hw7
      have HBX:Hid (jy w7 B (jh.pd ⟨ach,⟨l7,l9,zl,aan⟩,x9⟩) [.slice aa2 aa3 aa4,.int .i64 l7,.string l9,.slice uo uq uw,.slice yx y5 y7,.bool x9]):=jh.close_ (afy.out.below (hb7.mono (Nat.le_trans hB hBs.size))) (ad2.out.below (hb7.mono (Nat.le_trans hB hBs.size))) (ad9.out.below (hb7.mono (Nat.le_trans hB hBs.size)))
      have hRB:=bR7.lt
      have bqa:=bRs.lt
      obtain⟨R2,hR2⟩:∃ r,ajv (agl 4) ⟨up,⟨uk,un,ul,ukk⟩,ua⟩ ⟨ach,⟨l7,l9,zl,aan⟩,x9⟩ q2=r:=⟨_,rfl⟩
      have HC:=fun(V:World) (hV:Keep (w.heap.size+1+1) (w.heap.size+1+1+1) w7 V)=>ash ⟨up,⟨uk,un,ul,ukk⟩,ua⟩ ⟨ach,⟨l7,l9,zl,aan⟩,x9⟩ q2 V.heap.size [.slice uA uN uC,.int .i64 uk,.string un,.slice ulA ulN ulC,.slice ukA ukN ukC,.bool ua] [.slice aa2 aa3 aa4,.int .i64 l7,.string l9,.slice uo uq uw,.slice yx y5 y7,.bool x9] V (Nat.le_refl _) (hT.below (hB7.trans (kb hV (by omega)))) (as6 OYB.out) OX.out (by omega) ((HL7.out.kept hV (.inr beb.out)).is) ((HBX.out.below (kb hV (by omega))).more (Nat.le_trans (Nat.le_trans hB hB7.size) hV.size))
      unfold WQ at HC
      rw[hR2] at HC
      obtain⟨RK,RS,RN,HRK,HRS,HRN⟩:=agn R2
      rw[HRK.out,HRS.out,HRN.out] at HC
      replace HC:=Lib.hid HC
      have HK2:Hid (akg at_ hfs wfs m=R2):=by show _=_;rw[ayq HX2.out atu.out HFY.out];simp only;rw[HQ2.out,hR2]
      clear hR2
      have HS:Hid (∀ V,Keep (w.heap.size+1+1) (w.heap.size+1+1+1) w7 V→V.cell? ⟨wx,0,none⟩=some (.slice uA uN uC)∧V.cell? ⟨wx,1,none⟩=some (.int .i64 uk)∧V.cell? ⟨wx,2,none⟩=some (.string un)∧V.cell? ⟨wx,3,none⟩=some (.slice ulA ulN ulC)∧V.cell? ⟨wx,4,none⟩=some (.slice ukA ukN ukC)∧V.cell? ⟨wx,5,none⟩=some (.bool ua)∧V.cell? ⟨w.heap.size+1,4,none⟩=some (.slice (some ⟨g,off,none⟩) af2 ah3)∧V.cell? ⟨g,off+m * 7,none⟩=some (.string name2)∧V.cell? ⟨g,off+m * 7+1,none⟩=some (.slice aa2 aa3 aa4)∧V.cell? ⟨g,off+m * 7+2,none⟩=some (.int .i64 l7)∧V.cell? ⟨g,off+m * 7+3,none⟩=some (.string l9)∧V.cell? ⟨g,off+m * 7+4,none⟩=some (.slice uo uq uw)∧V.cell? ⟨g,off+m * 7+5,none⟩=some (.slice yx y5 y7)∧V.cell? ⟨g,off+m * 7+6,none⟩=some (.bool x9)):=Lib.hid fun V hV=>⟨(hV.cell (p:=⟨wx,0,none⟩) (by simp only;omega) (by simp only;omega)).trans (b7.cell 0),(hV.cell (p:=⟨wx,1,none⟩) (by simp only;omega) (by simp only;omega)).trans (b7.cell 1),(hV.cell (p:=⟨wx,2,none⟩) (by simp only;omega) (by simp only;omega)).trans (b7.cell 2),(hV.cell (p:=⟨wx,3,none⟩) (by simp only;omega) (by simp only;omega)).trans (b7.cell 3),(hV.cell (p:=⟨wx,4,none⟩) (by simp only;omega) (by simp only;omega)).trans (b7.cell 4),(hV.cell (p:=⟨wx,5,none⟩) (by simp only;omega) (by simp only;omega)).trans (b7.cell 5),(hV.cell (p:=⟨w.heap.size+1,4,none⟩) (by simp only;omega) (by simp only;omega)).trans (bC7.cell 4),(hV.cell (p:=⟨g,off+m * 7,none⟩) (by simp only;omega) (by simp only;omega)).trans ((hb7.cell (p:=⟨g,off+m * 7,none⟩) (by have:=hBs.size;simp only;omega)).trans afe),(hV.cell (p:=⟨g,off+m * 7+1,none⟩) (by simp only;omega) (by simp only;omega)).trans ((hb7.cell (p:=⟨g,off+m * 7+1,none⟩) (by have:=hBs.size;simp only;omega)).trans akc),(hV.cell (p:=⟨g,off+m * 7+2,none⟩) (by simp only;omega) (by simp only;omega)).trans ((hb7.cell (p:=⟨g,off+m * 7+2,none⟩) (by have:=hBs.size;simp only;omega)).trans ahh),(hV.cell (p:=⟨g,off+m * 7+3,none⟩) (by simp only;omega) (by simp only;omega)).trans ((hb7.cell (p:=⟨g,off+m * 7+3,none⟩) (by have:=hBs.size;simp only;omega)).trans ahi),(hV.cell (p:=⟨g,off+m * 7+4,none⟩) (by simp only;omega) (by simp only;omega)).trans ((hb7.cell (p:=⟨g,off+m * 7+4,none⟩) (by have:=hBs.size;simp only;omega)).trans ag0),(hV.cell (p:=⟨g,off+m * 7+5,none⟩) (by simp only;omega) (by simp only;omega)).trans ((hb7.cell (p:=⟨g,off+m * 7+5,none⟩) (by have:=hBs.size;simp only;omega)).trans ahj),(hV.cell (p:=⟨g,off+m * 7+6,none⟩) (by simp only;omega) (by simp only;omega)).trans ((hb7.cell (p:=⟨g,off+m * 7+6,none⟩) (by have:=hBs.size;simp only;omega)).trans akr)⟩
      go_wp2_with fail
      go_region_held3 (fun w'=>w'.cell? ⟨wx,0,none⟩=some (.slice uA uN uC)∧w'.cell? ⟨wx,1,none⟩=some (.int .i64 uk)∧w'.cell? ⟨wx,2,none⟩=some (.string un)∧w'.cell? ⟨wx,3,none⟩=some (.slice ulA ulN ulC)∧w'.cell? ⟨wx,4,none⟩=some (.slice ukA ukN ukC)∧w'.cell? ⟨wx,5,none⟩=some (.bool ua)∧w'.cell? ⟨w.heap.size+1,4,none⟩=some (.slice (some ⟨g,off,none⟩) af2 ah3)∧w'.cell? ⟨g,off+m * 7,none⟩=some (.string name2)∧w'.cell? ⟨g,off+m * 7+1,none⟩=some (.slice aa2 aa3 aa4)∧w'.cell? ⟨g,off+m * 7+2,none⟩=some (.int .i64 l7)∧w'.cell? ⟨g,off+m * 7+3,none⟩=some (.string l9)∧w'.cell? ⟨g,off+m * 7+4,none⟩=some (.slice uo uq uw)∧w'.cell? ⟨g,off+m * 7+5,none⟩=some (.slice yx y5 y7)∧w'.cell? ⟨g,off+m * 7+6,none⟩=some (.bool x9))
       (first|exact HS.out _ (by repeat(first|exact hq1|exact hq2|exact Keep.refl _ _ _|refine Keep.drew ?_|refine Keep.alloc ?_ _|refine Keep.setAt ?_ _ _|refine Keep.newAt ?_ (Nat.le_refl _) _ _|refine Keep.newAt ?_ aam.size _ _|refine Keep.newAt ?_ hbW.size _ _)))
       (first|(go_at_call 46;refine(HC.out _ (by repeat(first|exact hq1|exact hq2|exact Keep.refl _ _ _|refine Keep.drew ?_|refine Keep.alloc ?_ _|refine Keep.setAt ?_ _ _|refine Keep.newAt ?_ (Nat.le_refl _) _ _|refine Keep.newAt ?_ aam.size _ _|refine Keep.newAt ?_ hbW.size _ _))).mono ?_;rintro e wq ⟨rfl,hbq⟩;have hbW:Below w7.heap.size w7 wq:=(by first|exact(Below.refl _ _).drew.trans hbq|exact((Below.refl _ _).drew.alloc (Nat.le_refl _) _).trans (hbq.mono (by simp)));have hq2:Keep (w.heap.size+1+1) (w.heap.size+1+1+1) w7 wq:=Keep.of_below hbW;(first|(have bP:Blk wq w7.heap.size 34 #[.int .i64 0,.string {data:=#[]}]:=(Blk.new w7.drew _ _).step hbq;have p0:wq.cell? ⟨w7.heap.size,0,none⟩=some (.int .i64 0):=bP.cell 0;have p1:wq.cell? ⟨w7.heap.size,1,none⟩=some (.string {data:=#[]}):=bP.cell 1;have g0:wq.frozen? ⟨w7.heap.size,0,none⟩=false:=bP.frozen 0;have g1:wq.frozen? ⟨w7.heap.size,1,none⟩=false:=bP.frozen 1)|skip)))
      all_goals
       first
        | (obtain⟨w6,hw6⟩:∃ V,V=wq.alloc (.cells #[.int .i64 RK,.string RS] 34):=⟨_,rfl⟩;rw[← hw6];have bX:Blk w6 wq.heap.size 34 #[.int .i64 RK,.string RS]:=(by rw[hw6];exact Blk.new wq _ _);have hb6:Below w7.heap.size w7 w6:=(by rw[hw6];exact hbW.alloc hbW.size _);obtain⟨rx,hrx⟩:∃ r,r=wq.heap.size:=⟨_,rfl⟩;have ah0:w7.heap.size≤rx:=(by rw[hrx];exact hbW.size);rw[← hrx] at bX ⊢;clear hw6 hrx)
        | (obtain⟨w6,hw6⟩:∃ V,V=(wq.setCell ⟨w7.heap.size,0,none⟩ (.int .i64 RK)).setCell ⟨w7.heap.size,1,none⟩ (.string RS):=⟨_,rfl⟩;rw[← hw6];have bX:Blk w6 (w7.heap.size) 34 #[.int .i64 RK,.string RS]:=(by rw[hw6];have:=(bP.abf 0 (.int .i64 RK)).abf 1 (.string RS);simpa using this);have hb6:Below w7.heap.size w7 w6:=(by rw[hw6];exact(hbW.setCell (p:=⟨w7.heap.size,0,none⟩) (by first|exact Nat.le_refl _|exact aam.size|exact hbW.size) _).setCell (p:=⟨w7.heap.size,1,none⟩) (by first|exact Nat.le_refl _|exact aam.size|exact hbW.size) _);obtain⟨rx,hrx⟩:∃ r,r=w7.heap.size:=⟨_,rfl⟩;have ah0:w7.heap.size≤rx:=(by rw[hrx];first|exact Nat.le_refl _|exact hbW.size|exact aam.size);rw[← hrx] at bX ⊢;clear hw6 hrx)
       have hB6:=hB7.trans (hb6.mono (by omega))
       have bR6:=bR7.step hb6
       have hs6:=hb6.size
       cases RN
       case false=>
        have HQ:Hid (aa0 (akg at_ hfs wfs) (m+1)=none):=by show _=_;exact ae2 HP2.out (by rw[HK2.out];exact agx HRN.out)
        go_wp2_with fail
        go_roundw
        case rel=>exact⟨m+1,by omega,by go_num,HQ,(hbs.trans (hb7.mono hss)).trans (hb6.mono (by omega))⟩
        case measure=>simp[intOf];omega
       case true=>
        have HF:Hid (R=some (RK,RS)):=by show _=_;rw[HG2.out,← HRK.out,← HRS.out];exact ad1 HP2.out (by rw[HK2.out];exact agy HRN.out) _ (by have:=akd.out;omega)
        obtain⟨q0,q1⟩:=rq bX
        obtain⟨r0,r1,f0,f1⟩:=zr bR6
        go_wp2_with fail
        obtain⟨n0,n1,nB⟩:=aaz bR6 hB6 (by omega) (RK) (RS)
        exact bodyPost_ret (v:=.tuple #[.agg #[.int .i64 RK,.string RS],.bool true]) (by simp[results,Tryz.results28,go_sem,n0,n1]) rfl ⟨qx (by rw[HF.out];rfl) (by rw[HF.out];rfl) (by rw[HF.out];rfl),nB⟩
end Go.Proofs.YtbafphecjijdmaaGreatDoor
