/-
  Why one interface cannot stand for another: impl.whyNotFace (versions: true; by program: gen_fcv.py) (by program: gen_why.py).
-/
import Derived.Test.YtbafphecjijdmaaGreatDoorWa31
import Derived.Test.YtbafphecjijdmaaGreatDoorWa39
import Derived.Test.YtbafphecjijdmaaGreatDoorWa40
import Derived.Test.YtbafphecjijdmaaGreatDoorWa43
namespace Go.Proofs.YtbafphecjijdmaaGreatDoor
open Go.RowKit
set_option linter.unusedVariables false
set_option linter.unusedSimpArgs false
set_option linter.unnecessarySimpa false
set_option maxRecDepth 16000
set_option maxHeartbeats 12800000 in
theorem a9l (a b:qg) (ha:agc a=true) (hb:agc b=true) (hwa:PD.wfL (qg.pd a)) (hwb:PD.wfL (qg.pd b)) (hsa:PD.szL (qg.pd a)≤1048576) (hsb:PD.szL (qg.pd b)≤1048576) (at0:ByteArray) (bv2:at0.size≤100) {B:Nat} {cs ds:List Value} {w:World} (hB:B≤w.heap.size) (hT:ali w) (h:jy w B (qg.pd a) cs) (k:jy w B (qg.pd b) ds):
  Calls Tryz.prog 32 #[.agg cs.toArray,.agg ds.toArray,.string at0,.bool true] w fun e w'=>WQ (aki a b (a8b at0 b.package b.name) true) w e w':=by
 have HFI:=Lib.hid (fun nm (V:World) (hV:B≤V.heap.size) us (k:jy V B (qg.pd a) us)=>a5d a nm (w:=V) hV k)
 have HVZ:=Lib.hid (ake hsa).1
 have HVW:=Lib.hid (ake hsb).1
 have HFO:=Lib.hid (aup ha)
 have HWO:=Lib.hid (aup hb)
 obtain⟨hpk,hnm,ahb,hres,hfs⟩:=a
 obtain⟨wpk,wnm,ah8,alh,wfs⟩:=b
 obtain⟨a9b,bd3,rfl,ah1,aj2⟩:=qg.open_ h
 obtain⟨aip,aiq,air,rfl,aqm,bh0,av8⟩:=ajd ah1
 obtain⟨al3,al4,al5,rfl,atq,a3e,bh2⟩:=ny Fun.jw (by decide) aj2
 unfold maxLen at a3e
 have am1:=Lib.hid ah1
 have ar7:=Lib.hid aj2
 have bh3:=Lib.hid aqm
 have blp:=Lib.hid atq
 clear ah1 aj2 aqm atq
 obtain⟨a9c,bd4,rfl,ah2,aj3⟩:=qg.open_ k
 obtain⟨akj,agd,aj6,rfl,aqn,bh4,al6⟩:=ajd ah2
 obtain⟨am2,af2,ah3,rfl,atr,a3f,ayz⟩:=ny Fun.jw (by decide) aj3
 unfold maxLen at a3f
 have att:=Lib.hid ah2
 have axr:=Lib.hid aj3
 have alb:=Lib.hid aqn
 have akd:=Lib.hid atr
 clear ah2 aj3 aqn atr
 have bnf:wpk.size≤12:=HWO.out.pk
 have bng:wnm.size≤12:=HWO.out.nm
 have h4:agd≤4:=by have h1:alh.length≤4:=HWO.out.blh;have:=alb.out;omega
 have h8:af2≤8:=by have h1:wfs.length≤8:=HWO.out.fs8;have:=akd.out;omega
 simp only at HVZ HVW
 clear h k ha hb hwa hwb hsa hsb
 have amz:=Lib.hid (fun(V:World) (hV:Below w.heap.size w V)=>qg.close_ (package:=hpk) (name:=hnm) (version:=ahb) (am1.out.below (hV.mono hB)) (ar7.out.below (hV.mono hB)))
 have akt:(9223372036854775807 < wpk.size+(⟨#[47]⟩:ByteArray).size)=False:=eq_false (by have z_:(⟨#[47]⟩:ByteArray).size=1:=rfl;omega)
 have aku:(9223372036854775807 < wpk.size+1)=False:=eq_false (by omega)
 obtain⟨p1,adl⟩:∃ p,wpk ++(⟨#[47]⟩:ByteArray)=p:=⟨_,rfl⟩
 have akv:p1.size≤13:=by rw[← adl,ByteArray.size_append];have z_:(⟨#[47]⟩:ByteArray).size=1:=rfl;omega
 have apq:(9223372036854775807 < p1.size+wnm.size)=False:=eq_false (by omega)
 obtain⟨p2,agb⟩:∃ p,p1 ++wnm=p:=⟨_,rfl⟩
 have apr:p2.size≤25:=by rw[← agb,ByteArray.size_append];omega
 have bnh:(9223372036854775807 < at0.size+p2.size)=False:=eq_false (by omega)
 obtain⟨at_,axt⟩:∃ p,at0 ++p2=p:=⟨_,rfl⟩
 have bni:at_.size≤125:=by rw[← axt,ByteArray.size_append];omega
 obtain⟨R,hR⟩:∃ R:Why,R=aki ⟨hpk,hnm,ahb,hres,hfs⟩ ⟨wpk,wnm,ah8,alh,wfs⟩ at_ true:=⟨_,rfl⟩
 have HRR:Hid (R=aki ⟨hpk,hnm,ahb,hres,hfs⟩ ⟨wpk,wnm,ah8,alh,wfs⟩ (a8b at0 wpk wnm) true):=by show _=_;rw[hR,← axt,← agb,← adl];rfl
 simp only
 rw[← HRR.out]
 have HR:=Lib.hid hR
 clear hR HRR
 obtain⟨w0,hw0,bA,bC,bR,hB0,hs0⟩:=aeu w 30 #[.string hpk,.string hnm,.string ahb,.slice aip aiq air,.slice al3 al4 al5] #[.string wpk,.string wnm,.string ah8,.slice akj agd aj6,.slice am2 af2 ah3]
 have HW0:=Lib.hid hw0
 clear hw0
 by_cases hpe:hpk=wpk
 case neg=>
  have HF:Hid (R=some (11,at_)):=by show _=_;rw[HR.out];exact anm (fun hh=>hpe hh.1)
  have hs1:(hpk.toList ==wpk.toList)=false:=ae0 hpe
  clear hpe
  go_enter Tryz.func32,Tryz.ntmps32
  go_wp2_with fail
  try rw[← HW0.out]
  refine(aew 11 at_ _).mono ?_
  rintro e wz ⟨rfl,hbz⟩
  have hBz:=hB0.trans (hbz.mono (by omega))
  have bRz:=bR.step hbz
  have hsz:=hbz.size
  obtain⟨r0,r1,f0,f1⟩:=zr bRz
  go_wp2_with fail
  obtain⟨n0,n1,nB⟩:=aaz bRz hBz (by omega) (11) (at_)
  exact bodyPost_ret (v:=.tuple #[.agg #[.int .i64 11,.string at_],.bool true]) (by simp[results,Tryz.results32,go_sem,n0,n1]) rfl ⟨qx (by rw[HF.out];rfl) (by rw[HF.out];rfl) (by rw[HF.out];rfl),nB⟩
 have hs1:(hpk.toList ==wpk.toList)=true:=by rw[hpe];simp
 by_cases hne:hnm=wnm
 case neg=>
  have HF:Hid (R=some (11,at_)):=by show _=_;rw[HR.out];exact anm (fun hh=>hne hh.2)
  have hs2:(hnm.toList ==wnm.toList)=false:=ae0 hne
  clear hne hpe
  go_enter Tryz.func32,Tryz.ntmps32
  go_wp2_with fail
  try rw[← HW0.out]
  refine(aew 11 at_ _).mono ?_
  rintro e wz ⟨rfl,hbz⟩
  have hBz:=hB0.trans (hbz.mono (by omega))
  have bRz:=bR.step hbz
  have hsz:=hbz.size
  obtain⟨r0,r1,f0,f1⟩:=zr bRz
  go_wp2_with fail
  obtain⟨n0,n1,nB⟩:=aaz bRz hBz (by omega) (11) (at_)
  exact bodyPost_ret (v:=.tuple #[.agg #[.int .i64 11,.string at_],.bool true]) (by simp[results,Tryz.results32,go_sem,n0,n1]) rfl ⟨qx (by rw[HF.out];rfl) (by rw[HF.out];rfl) (by rw[HF.out];rfl),nB⟩
 have hs2:(hnm.toList ==wnm.toList)=true:=by rw[hne];simp
 have HEQ:Hid (hpk=wpk∧hnm=wnm):=⟨hpe,hne⟩
 clear hne hpe
 have HSV:=Lib.hid (a5e ahb ah8 HVZ.out HVW.out w0 (hT.below hB0))
 obtain⟨sv,hsv⟩:∃ b,aoo ahb ah8=b:=⟨_,rfl⟩
 rw[hsv] at HSV
 go_enter Tryz.func32,Tryz.ntmps32
 go_wp2_with fail
 rw[← HW0.out]
 clear HW0
 refine HSV.out.mono ?_
 rintro e wv ⟨rfl,hbv⟩
 have hBv:=hB0.trans (hbv.mono (by omega))
 have bp8:=hbv.size
 have bAv:=bA.step hbv
 have bCv:=bC.step hbv
 have bRv:=bR.step hbv
 clear bA bC bR
 cases sv
 case false=>
  have HF:Hid (R=some (10,at_)):=by show _=_;rw[HR.out];exact azp HEQ.out hsv
  go_wp2_with fail
  refine(aew 10 at_ _).mono ?_
  rintro e wz ⟨rfl,hbz⟩
  have hBz:=hBv.trans (hbz.mono (by omega))
  have bRz:=bRv.step hbz
  have hsz:=hbz.size
  obtain⟨r0,r1,f0,f1⟩:=zr bRz
  go_wp2_with fail
  obtain⟨n0,n1,nB⟩:=aaz bRz hBz (by omega) (10) (at_)
  exact bodyPost_ret (v:=.tuple #[.agg #[.int .i64 10,.string at_],.bool true]) (by simp[results,Tryz.results32,go_sem,n0,n1]) rfl ⟨qx (by rw[HF.out];rfl) (by rw[HF.out];rfl) (by rw[HF.out];rfl),nB⟩
 have HG:Hid (R=match aa0 (ao3 at_ hres alh) alh.length with|some r=>some r|none=>aa0 (akg at_ hfs wfs) wfs.length):=by show _=_;rw[HR.out];exact a2t HEQ.out (fun _=>hsv)
 clear hsv
 have z3v:wv.cell? ⟨w.heap.size+1,3,none⟩=some (.slice akj agd aj6):=bCv.cell 3
 go_wp2_with fail
 clear z3v
 go_loopw [61] (fun i wr=>∃ k:Nat,k≤agd∧i=.int .i64 k∧Hid (aa0 (ao3 at_ hres alh) k=none)∧Below wv.heap.size wv wr) (fun i _=>agd - (intOf i).toNat)
 case atStart=>exact⟨0,Nat.zero_le _,rfl,Lib.hid rfl,Below.refl _ _⟩
 case round=>
  obtain⟨k,hk,rfl,HP,hbr⟩:=hrel
  have hBr:=hBv.trans (hbr.mono hBv.size)
  have hsr:=hbr.size
  have bRr:=bRv.step hbr
  have bAr:=bAv.step hbr
  have bCr:=bCv.step hbr
  clear bAv bCv bRv
  have a3:wr.cell? ⟨w.heap.size,3,none⟩=some (.slice aip aiq air):=bAr.cell 3
  by_cases hlt:k < agd
  case pos=>
   obtain⟨g,off,rfl,hg,hcell⟩:=al6 (by omega)
   obtain⟨x,hx,hxm⟩:=xg alb.out hlt
   have l_x:x.size≤12:=HWO.out.res x hxm
   have c_x:wr.cell? ⟨g,off+k,none⟩=some (.string x):=(hBr.cell (p:=⟨g,off+k,none⟩) (by simp only;omega)).trans (hcell k x hx)
   have HX:=Lib.hid hx
   clear hx hxm hcell al6
   have HLB:=Lib.hid (akf x (Nat.le_trans hB hBr.size) (am1.out.below (hBr.mono hB)))
   obtain⟨ix,hix⟩:∃ ix,(hres.any fun t=>decide (x=t))=ix:=⟨_,rfl⟩
   rw[hix] at HLB
   have HIX:Hid (decide (0≤acg (strEq x) hres)=ix):=(ajs (strEq x) hres).trans hix
   clear hix
   have bd5:(9223372036854775807 < at_.size+(⟨#[46]⟩:ByteArray).size)=False:=eq_false (by have z_:(⟨#[46]⟩:ByteArray).size=1:=rfl;omega)
   have bd6:(9223372036854775807 < at_.size+1)=False:=eq_false (by omega)
   obtain⟨q1,apa⟩:∃ p,at_ ++(⟨#[46]⟩:ByteArray)=p:=⟨_,rfl⟩
   have bd7:q1.size≤126:=by rw[← apa,ByteArray.size_append];have z_:(⟨#[46]⟩:ByteArray).size=1:=rfl;omega
   have bd8:(9223372036854775807 < q1.size+x.size)=False:=eq_false (by omega)
   obtain⟨q2,apb⟩:∃ p,q1 ++x=p:=⟨_,rfl⟩
   have bd9:q2.size≤138:=by rw[← apb,ByteArray.size_append];omega
   have HQ2:Hid (aiy at_ x=q2):=by show _=_;rw[← apb,← apa];rfl
   go_wp2_with fail
   refine HLB.out.mono ?_
   rintro e w7 ⟨rfl,hb7⟩
   have hs7:=hb7.size
   have hB7:=hBr.trans (hb7.mono hBr.size)
   have bR7:=bRr.step hb7
   cases ix
   case false=>
    have HF:Hid (R=some (6,q2)):=by show _=_;rw[HG.out,ad1 HP.out (a2s HX.out (by have:=of_decide_eq_false HIX.out;omega)) _ (by have:=alb.out;omega),← HQ2.out]
    go_wp2_with fail
    refine(aew 6 q2 _).mono ?_
    rintro e wz ⟨rfl,hbz⟩
    have hBz:=hB7.trans (hbz.mono (by omega))
    have bRz:=bR7.step hbz
    have hsz:=hbz.size
    obtain⟨r0,r1,f0,f1⟩:=zr bRz
    go_wp2_with fail
    obtain⟨n0,n1,nB⟩:=aaz bRz hBz (by omega) (6) (q2)
    exact bodyPost_ret (v:=.tuple #[.agg #[.int .i64 6,.string q2],.bool true]) (by simp[results,Tryz.results32,go_sem,n0,n1]) rfl ⟨qx (by rw[HF.out];rfl) (by rw[HF.out];rfl) (by rw[HF.out];rfl),nB⟩
   case true=>
    have HQ:=Lib.hid (ae2 HP.out (a6i (at_:=at_) HX.out (by have:=of_decide_eq_true HIX.out;omega)))
    go_wp2_with fail
    go_roundw
    case rel=>exact⟨k+1,by omega,by go_num,HQ,hbr.trans (hb7.mono hsr)⟩
    case measure=>simp[intOf];omega
  case neg=>
   have hkn:k=agd:=by omega
   subst hkn
   have HG2:Hid (R=aa0 (akg at_ hfs wfs) wfs.length):=by show _=_;rw[HG.out,← alb.out,HP.out]
   clear HG al6 av8
   have z4r:wr.cell? ⟨w.heap.size+1,4,none⟩=some (.slice am2 af2 ah3):=bCr.cell 4
   go_wp2_with fail
   obtain⟨W,rfl⟩:∃ V,V=wr:=⟨_,rfl⟩
   clear z4r a3 hsr hbr
   go_loopw [81] (fun i wr=>∃ m:Nat,m≤af2∧i=.int .i64 m∧Hid (aa0 (akg at_ hfs wfs) m=none)∧Below W.heap.size W wr) (fun i _=>af2 - (intOf i).toNat)
   case atStart=>exact⟨0,Nat.zero_le _,rfl,Lib.hid rfl,Below.refl _ _⟩
   case round=>
    obtain⟨m,hm9,rfl,HP2,hbs⟩:=hrel
    have hBs:=hBr.trans (hbs.mono hBr.size)
    have hss:=hbs.size
    have bRs:=bRr.step hbs
    have bAs:=bAr.step hbs
    clear bAr bCr bRr
    by_cases hlt2:m < af2
    case neg=>
     have hmn:m=af2:=by omega
     have HF:Hid (R=none):=by show _=_;rw[HG2.out,← akd.out,← hmn,HP2.out]
     subst hmn
     go_wp2_with fail
     refine(afw _).mono ?_
     rintro e wz ⟨rfl,hbz⟩
     have hBz:=hBs.trans (hbz.mono hBs.size)
     have bRz:=bRs.step hbz
     have hsz:=hbz.size
     obtain⟨r0,r1,f0,f1⟩:=zr bRz
     go_wp2_with fail
     obtain⟨n0,n1,nB⟩:=aaz bRz hBz (by omega) (0) (⟨#[]⟩)
     exact bodyPost_ret (v:=.tuple #[.agg #[.int .i64 0,.string {data:=#[]}],.bool false]) (by simp[results,Tryz.results32,go_sem,n0,n1]) rfl ⟨qx (by rw[HF.out];rfl) (by rw[HF.out];rfl) (by rw[HF.out];rfl),nB⟩
    obtain⟨g,off,rfl,hg2,hcell2⟩:=ayz (by omega)
    obtain⟨t2,hx2,ac9⟩:=xg akd.out hlt2
    obtain⟨name2,⟨ach,⟨l7,l9,zl,aan⟩,x9⟩⟩:=t2
    have afe:wr.cell? ⟨g,off+m * 7,none⟩=some (.string name2):=gq hBs (by omega) (hcell2 m 0 _ _ hx2 (by rw[Fun.ay];rfl))
    obtain⟨ao5,akc,afd⟩:∃ u,wr.cell? ⟨g,off+m * 7+1,none⟩=some u∧Rep wr B (.row 5 (ach.flatMap Param.pd)) u:=ku hBs (by omega) hB (hcell2 m 1 _ _ hx2 (by rw[Fun.ay];rfl))
    have afy:=Lib.hid afd
    clear afd
    have ahh:wr.cell? ⟨g,off+m * 7+2,none⟩=some (.int .i64 l7):=gq hBs (by omega) (hcell2 m 2 _ _ hx2 (by rw[Fun.ay];rfl))
    have ahi:wr.cell? ⟨g,off+m * 7+3,none⟩=some (.string l9):=gq hBs (by omega) (hcell2 m 3 _ _ hx2 (by rw[Fun.ay];rfl))
    obtain⟨akh,ag0,ada⟩:∃ u,wr.cell? ⟨g,off+m * 7+4,none⟩=some u∧Rep wr B (.row 1 (zl.flatMap tu)) u:=ku hBs (by omega) hB (hcell2 m 4 _ _ hx2 (by rw[Fun.ay];rfl))
    have ad2:=Lib.hid ada
    clear ada
    obtain⟨alg,ahj,ad6⟩:∃ u,wr.cell? ⟨g,off+m * 7+5,none⟩=some u∧Rep wr B (.row 4 (aan.flatMap Ty.pd)) u:=ku hBs (by omega) hB (hcell2 m 5 _ _ hx2 (by rw[Fun.ay];rfl))
    have ad9:=Lib.hid ad6
    clear ad6
    have akr:wr.cell? ⟨g,off+m * 7+6,none⟩=some (.bool x9):=gq hBs (by omega) (hcell2 m 6 _ _ hx2 (by rw[Fun.ay];rfl))
    obtain⟨aa2,aa3,aa4,rfl⟩:=afy.out.form
    obtain⟨uo,uq,uw,rfl⟩:=ad2.out.form
    obtain⟨yx,y5,y7,rfl⟩:=ad9.out.form
    have HX2:=Lib.hid hx2
    have HM2:=Lib.hid ac9
    clear hx2 ac9
    clear hcell2
    have hxo:=HWO.out.fs _ HM2.out
    have bp9:name2.size≤12:=hxo.1
    have OX:=Lib.hid (as6 hxo.2)
    clear hxo
    have bd5:(9223372036854775807 < at_.size+(⟨#[46]⟩:ByteArray).size)=False:=eq_false (by have z_:(⟨#[46]⟩:ByteArray).size=1:=rfl;omega)
    have bd6:(9223372036854775807 < at_.size+1)=False:=eq_false (by omega)
    obtain⟨q1,apa⟩:∃ p,at_ ++(⟨#[46]⟩:ByteArray)=p:=⟨_,rfl⟩
    have bd7:q1.size≤126:=by rw[← apa,ByteArray.size_append];have z_:(⟨#[46]⟩:ByteArray).size=1:=rfl;omega
    have bd8:(9223372036854775807 < q1.size+name2.size)=False:=eq_false (by omega)
    obtain⟨q2,apb⟩:∃ p,q1 ++name2=p:=⟨_,rfl⟩
    have bd9:q2.size≤138:=by rw[← apb,ByteArray.size_append];omega
    have HQ2:Hid (aiy at_ name2=q2):=by show _=_;rw[← apb,← apa];rfl
    have bEb:Blk (wr.alloc (.cells #[.string name2,.slice aa2 aa3 aa4,.int .i64 l7,.string l9,.slice uo uq uw,.slice yx y5 y7,.bool x9] 99)) wr.heap.size 99 #[.string name2,.slice aa2 aa3 aa4,.int .i64 l7,.string l9,.slice uo uq uw,.slice yx y5 y7,.bool x9]:=Blk.new wr _ _
    have g_0:(wr.alloc (.cells #[.string name2,.slice aa2 aa3 aa4,.int .i64 l7,.string l9,.slice uo uq uw,.slice yx y5 y7,.bool x9] 99)).cell? ⟨w.heap.size,0,none⟩=some (.string hpk):=(bAs.alloc _).cell 0
    have g_1:(wr.alloc (.cells #[.string name2,.slice aa2 aa3 aa4,.int .i64 l7,.string l9,.slice uo uq uw,.slice yx y5 y7,.bool x9] 99)).cell? ⟨w.heap.size,1,none⟩=some (.string hnm):=(bAs.alloc _).cell 1
    have g_2:(wr.alloc (.cells #[.string name2,.slice aa2 aa3 aa4,.int .i64 l7,.string l9,.slice uo uq uw,.slice yx y5 y7,.bool x9] 99)).cell? ⟨w.heap.size,2,none⟩=some (.string ahb):=(bAs.alloc _).cell 2
    have g_3:(wr.alloc (.cells #[.string name2,.slice aa2 aa3 aa4,.int .i64 l7,.string l9,.slice uo uq uw,.slice yx y5 y7,.bool x9] 99)).cell? ⟨w.heap.size,3,none⟩=some (.slice aip aiq air):=(bAs.alloc _).cell 3
    have g_4:(wr.alloc (.cells #[.string name2,.slice aa2 aa3 aa4,.int .i64 l7,.string l9,.slice uo uq uw,.slice yx y5 y7,.bool x9] 99)).cell? ⟨w.heap.size,4,none⟩=some (.slice al3 al4 al5):=(bAs.alloc _).cell 4
    go_wp2_with fail
    clear g_0 g_1 g_2 g_3 g_4
    obtain⟨wb,hwb⟩:∃ V,V=(wr.alloc (.cells #[.string name2,.slice aa2 aa3 aa4,.int .i64 l7,.string l9,.slice uo uq uw,.slice yx y5 y7,.bool x9] 99)):=⟨_,rfl⟩
    rw[← hwb] at bEb ⊢
    have hbb:Below wr.heap.size wr wb:=by rw[hwb];exact(Below.refl _ _).alloc (Nat.le_refl _) _
    clear hwb
    have hBb:=hBs.trans (hbb.mono hBs.size)
    have hsb:=hbb.size
    refine(HFI.out name2 wb (Nat.le_trans hB hBb.size) _ (amz.out wb hBb)).mono ?_
    rintro e wq ⟨hbq,hans⟩
    have hBq:=hBb.trans (hbq.mono hBb.size)
    have bEq:=bEb.step hbq
    have bRq:=(bRs.step hbb).step hbq
    have hsq:=hbq.size
    have bl2:=hbb.trans (hbq.mono hsb)
    clear bEb
    by_cases hneg:ah7 hfs name2 < 0
    case pos=>
     obtain⟨_,rfl⟩:=hans.resolve_right (fun⟨i,y,us,hh,_⟩=>by simp only at hh;omega)
     have HF:Hid (R=some (9,q2)):=by show _=_;rw[HG2.out,ad1 HP2.out (a6j HX2.out hneg) _ (by have:=akd.out;omega)];simp only;rw[HQ2.out]
     clear hneg
     have hB7:Below w.heap.size w (wq.alloc (.cells #[.slice none 0 0,.int .i64 0,.string {data:=#[]},.slice none 0 0,.slice none 0 0,.bool false] 62)):=hBq.alloc hBq.size _
     have bR7:Blk (wq.alloc (.cells #[.slice none 0 0,.int .i64 0,.string {data:=#[]},.slice none 0 0,.slice none 0 0,.bool false] 62)) (w.heap.size+1+1) 34 #[.int .i64 0,.string {data:=#[]}]:=bRq.alloc _
     have hs7:w.heap.size+1+1 < (wq.alloc (.cells #[.slice none 0 0,.int .i64 0,.string {data:=#[]},.slice none 0 0,.slice none 0 0,.bool false] 62)).heap.size:=bR7.lt
     go_wp2_with fail
     refine(aew 9 q2 _).mono ?_
     rintro e wz ⟨rfl,hbz⟩
     have hBz:=hB7.trans (hbz.mono (by have:=hB7.size;omega))
     have bRz:=bR7.step hbz
     have hsz:=hbz.size
     obtain⟨r0,r1,f0,f1⟩:=zr bRz
     go_wp2_with fail
     obtain⟨n0,n1,nB⟩:=aaz bRz hBz (by omega) (9) (q2)
     exact bodyPost_ret (v:=.tuple #[.agg #[.int .i64 9,.string q2],.bool true]) (by simp[results,Tryz.results32,go_sem,n0,n1]) rfl ⟨qx (by rw[HF.out];rfl) (by rw[HF.out];rfl) (by rw[HF.out];rfl),nB⟩
    case neg=>
     obtain⟨i,y,us,hfi,hfy,rfl,hrep⟩:=hans.resolve_left (fun hh=>hneg hh.1)
     simp only at hfi hfy
     have OYB:=Lib.hid (HFO.out.fs _ (List.mem_of_getElem? hfy)).2
     have atu:=Lib.hid hfi
     have HFY:=Lib.hid hfy
     obtain⟨yn,⟨up,⟨uk,un,ul,ukk⟩,ua⟩⟩:=y
     obtain⟨uV,ulV,ukV,rfl,ru,rul,ruk⟩:=jh.open_ hrep
     obtain⟨uA,uN,uC,rfl⟩:=ru.form
     obtain⟨ulA,ulN,ulC,rfl⟩:=rul.form
     obtain⟨ukA,ukN,ukC,rfl⟩:=ruk.form
     have HRU:=Lib.hid hrep
     clear hfi hfy hneg ru rul ruk hrep
     have g_0:(wq.alloc (.cells #[.slice uA uN uC,.int .i64 uk,.string un,.slice ulA ulN ulC,.slice ukA ukN ukC,.bool ua] 62)).cell? ⟨wr.heap.size,1,none⟩=some (.slice aa2 aa3 aa4):=(bEq.alloc _).cell 1
     have g_1:(wq.alloc (.cells #[.slice uA uN uC,.int .i64 uk,.string un,.slice ulA ulN ulC,.slice ukA ukN ukC,.bool ua] 62)).cell? ⟨wr.heap.size,2,none⟩=some (.int .i64 l7):=(bEq.alloc _).cell 2
     have g_2:(wq.alloc (.cells #[.slice uA uN uC,.int .i64 uk,.string un,.slice ulA ulN ulC,.slice ukA ukN ukC,.bool ua] 62)).cell? ⟨wr.heap.size,3,none⟩=some (.string l9):=(bEq.alloc _).cell 3
     have g_3:(wq.alloc (.cells #[.slice uA uN uC,.int .i64 uk,.string un,.slice ulA ulN ulC,.slice ukA ukN ukC,.bool ua] 62)).cell? ⟨wr.heap.size,4,none⟩=some (.slice uo uq uw):=(bEq.alloc _).cell 4
     have g_4:(wq.alloc (.cells #[.slice uA uN uC,.int .i64 uk,.string un,.slice ulA ulN ulC,.slice ukA ukN ukC,.bool ua] 62)).cell? ⟨wr.heap.size,5,none⟩=some (.slice yx y5 y7):=(bEq.alloc _).cell 5
     have g_5:(wq.alloc (.cells #[.slice uA uN uC,.int .i64 uk,.string un,.slice ulA ulN ulC,.slice ukA ukN ukC,.bool ua] 62)).cell? ⟨wr.heap.size,6,none⟩=some (.bool x9):=(bEq.alloc _).cell 6
     go_wp2_with fail
     clear g_0 g_1 g_2 g_3 g_4 g_5
     obtain⟨w7,hw7⟩:∃ V,V=(wq.alloc (.cells #[.slice uA uN uC,.int .i64 uk,.string un,.slice ulA ulN ulC,.slice ukA ukN ukC,.bool ua] 62)):=⟨_,rfl⟩
     rw[← hw7]
     have beg:Below wq.heap.size wq w7:=by rw[hw7];exact(Below.refl _ _).alloc (Nat.le_refl _) _
     clear hw7
     have hb7:=bl2.trans (beg.mono bl2.size)
     have hB7:=hBs.trans (hb7.mono hBs.size)
     have bR7:=bRq.step beg
     have hs7:=hb7.size
     have HBX:Hid (jy w7 B (jh.pd ⟨ach,⟨l7,l9,zl,aan⟩,x9⟩) [.slice aa2 aa3 aa4,.int .i64 l7,.string l9,.slice uo uq uw,.slice yx y5 y7,.bool x9]):=jh.close_ (afy.out.below (hb7.mono (Nat.le_trans hB hBs.size))) (ad2.out.below (hb7.mono (Nat.le_trans hB hBs.size))) (ad9.out.below (hb7.mono (Nat.le_trans hB hBs.size)))
     have HUX:Hid (jy w7 B (jh.pd ⟨up,⟨uk,un,ul,ukk⟩,ua⟩) [.slice uA uN uC,.int .i64 uk,.string un,.slice ulA ulN ulC,.slice ukA ukN ukC,.bool ua]):=HRU.out.below ((hbq.trans (beg.mono hsq)).mono (Nat.le_trans hB hBb.size))
     obtain⟨R2,hR2⟩:∃ r,ajv (agl 4) ⟨up,⟨uk,un,ul,ukk⟩,ua⟩ ⟨ach,⟨l7,l9,zl,aan⟩,x9⟩ q2=r:=⟨_,rfl⟩
     have HC:=a0i ⟨up,⟨uk,un,ul,ukk⟩,ua⟩ ⟨ach,⟨l7,l9,zl,aan⟩,x9⟩ q2 B [.slice uA uN uC,.int .i64 uk,.string un,.slice ulA ulN ulC,.slice ukA ukN ukC,.bool ua] [.slice aa2 aa3 aa4,.int .i64 l7,.string l9,.slice uo uq uw,.slice yx y5 y7,.bool x9] w7 (Nat.le_trans hB hB7.size) (hT.1.below hB7) (as6 OYB.out) OX.out (by omega) HUX.out HBX.out
     unfold WQ at HC
     rw[hR2] at HC
     obtain⟨RK,RS,RN,HRK,HRS,HRN⟩:=agn R2
     rw[HRK.out,HRS.out,HRN.out] at HC
     have HK2:Hid (akg at_ hfs wfs m=R2):=by show _=_;rw[ayq HX2.out atu.out HFY.out];simp only;rw[HQ2.out,hR2]
     clear hR2
     refine HC.mono ?_
     rintro e w8 ⟨rfl,hb8⟩
     have hB8:=hB7.trans (hb8.mono hB7.size)
     have hs8:=hb8.size
     have hB6:Below w.heap.size w (w8.alloc (.cells #[.int .i64 RK,.string RS] 34)):=hB8.alloc hB8.size _
     have bR6:Blk (w8.alloc (.cells #[.int .i64 RK,.string RS] 34)) (w.heap.size+1+1) 34 #[.int .i64 0,.string {data:=#[]}]:=(bR7.step hb8).alloc _
     have hs6:w.heap.size+1+1 < (w8.alloc (.cells #[.int .i64 RK,.string RS] 34)).heap.size:=bR6.lt
     cases RN
     case true=>
      have HF:Hid (R=some (RK,RS)):=by show _=_;rw[HG2.out,← HRK.out,← HRS.out];exact ad1 HP2.out (by rw[HK2.out];exact agy HRN.out) _ (by have:=akd.out;omega)
      have bX:Blk (w8.alloc (.cells #[.int .i64 RK,.string RS] 34)) w8.heap.size 34 #[.int .i64 RK,.string RS]:=Blk.new w8 _ _
      have q0:(w8.alloc (.cells #[.int .i64 RK,.string RS] 34)).cell? ⟨w8.heap.size,0,none⟩=some (.int .i64 RK):=bX.cell 0
      have q1:(w8.alloc (.cells #[.int .i64 RK,.string RS] 34)).cell? ⟨w8.heap.size,1,none⟩=some (.string RS):=bX.cell 1
      obtain⟨r0,r1,f0,f1⟩:=zr bR6
      go_wp2_with fail
      obtain⟨n0,n1,nB⟩:=aaz bR6 hB6 (by omega) (RK) (RS)
      exact bodyPost_ret (v:=.tuple #[.agg #[.int .i64 RK,.string RS],.bool true]) (by simp[results,Tryz.results32,go_sem,n0,n1]) rfl ⟨qx (by rw[HF.out];rfl) (by rw[HF.out];rfl) (by rw[HF.out];rfl),nB⟩
     case false=>
      have HQ:Hid (aa0 (akg at_ hfs wfs) (m+1)=none):=by show _=_;exact ae2 HP2.out (by rw[HK2.out];exact agx HRN.out)
      have hbx:Below W.heap.size W (w8.alloc (.cells #[.int .i64 RK,.string RS] 34)):=((hbs.trans (hb7.mono hss)).trans (hb8.mono (by omega))).alloc (by have:=hbs.size;omega) _
      go_wp2_with fail
      go_roundw
      case rel=>exact⟨m+1,by omega,by go_num,HQ,hbx⟩
      case measure=>simp[intOf];omega
end Go.Proofs.YtbafphecjijdmaaGreatDoor
