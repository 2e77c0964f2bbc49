/-
  Why one type cannot stand for another: impl.numRange, reason, none, whyNotTuple, whyNotLabels, whyNot (by program: gen_why.py).
-/
import Derived.Test.YtbafphecjijdmaaGreatDoorWa12
import Derived.Test.YtbafphecjijdmaaGreatDoorWa10
import Derived.Test.YtbafphecjijdmaaGreatDoorWa24
import Derived.Deep.RegionHeld3
import Derived.Test.YtbafphecjijdmaaGreatDoorWa13
import Derived.Shelf.Abstract
namespace Go.Proofs.YtbafphecjijdmaaGreatDoor
open Go.RowKit
set_option linter.unusedVariables false
set_option linter.unusedSimpArgs false
set_option linter.unnecessarySimpa false
set_option maxRecDepth 16000
theorem av9 (k:Int) (w:World):Calls Tryz.prog 117 #[.int .i64 k] w fun e w'=>e=.returned (.tuple #[.int .i64 (ae6 k),.int .i64 (ae7 k),.bool (isNum k)])∧w=w':=by
 by_cases h:k=3∨k=4∨k=5∨k=6∨k=7∨k=8∨k=9
 ·rcases h with rfl|rfl|rfl|rfl|rfl|rfl|rfl
  all_goals
   go_enter Tryz.func117,Tryz.ntmps117
   go_wp2_with fail
   go_ret3
   exact⟨rfl,rfl⟩
 ·have h3:(k ==3)=false:=by simp;omega
  have h4:(k ==4)=false:=by simp;omega
  have h5:(k ==5)=false:=by simp;omega
  have h6:(k ==6)=false:=by simp;omega
  have h7:(k ==7)=false:=by simp;omega
  have h8:(k ==8)=false:=by simp;omega
  have h9:(k ==9)=false:=by simp;omega
  have e1:Hid (ae6 k=0):=by show _=_;rw[ae6,if_neg (by omega),if_neg (by omega),if_neg (by omega),if_neg (by omega)]
  have e2:Hid (ae7 k=0):=by show _=_;rw[ae7,if_neg (by omega),if_neg (by omega),if_neg (by omega),if_neg (by omega),if_neg (by omega),if_neg (by omega),if_neg (by omega)]
  have e3:Hid (isNum k=false):=by show _=_;rw[isNum,af4];omega
  go_enter Tryz.func117,Tryz.ntmps117
  go_wp2_with fail
  go_ret3
  exact⟨by rw[e1.out,e2.out,e3.out];rfl,rfl⟩
theorem zi (k:Int) {lo hi:Int} {v:Bool} (w:World) (h1:ae6 k=lo) (h2:ae7 k=hi) (h3:isNum k=v):Calls Tryz.prog 117 #[.int .i64 k] w fun e w'=>e=.returned (.tuple #[.int .i64 lo,.int .i64 hi,.bool v])∧w=w':=by
 rw[← h1,← h2,← h3]
 exact av9 k w
theorem aew (kind:Int) (s:ByteArray) (w:World):Calls Tryz.prog 68 #[.int .i64 kind,.string s] w fun e w'=>e=.returned (.tuple #[.agg #[.int .i64 kind,.string s],.bool true])∧Below w.heap.size w w':=by
 go_enter Tryz.func68,Tryz.ntmps68
 go_wp2_with fail
 have bN:Blk (w.alloc (.cells #[.int .i64 kind,.string s] 34)) w.heap.size 34 #[.int .i64 kind,.string s]:=Blk.new w _ _
 have n0:=bN.cell 0
 have n1:=bN.cell 1
 refine bodyPost_ret (v:=.tuple #[.agg #[.int .i64 kind,.string s],.bool true]) (by simp[results,Tryz.results68,go_sem,n0,n1]) rfl ⟨rfl,?_⟩
 exact(Below.refl _ _).alloc (Nat.le_refl _) _
theorem afw (w:World):Calls Tryz.prog 35 #[] w fun e w'=>e=.returned (.tuple #[.agg #[.int .i64 0,.string {data:=#[]}],.bool false])∧Below w.heap.size w w':=by
 go_enter Tryz.func35,Tryz.ntmps35
 go_wp2_with fail
 have bN:Blk (w.alloc (.cells #[.int .i64 0,.string {data:=#[]}] 34)) w.heap.size 34 #[.int .i64 0,.string {data:=#[]}]:=Blk.new w _ _
 have n0:=bN.cell 0
 have n1:=bN.cell 1
 refine bodyPost_ret (v:=.tuple #[.agg #[.int .i64 0,.string {data:=#[]}],.bool false]) (by simp[results,Tryz.results35,go_sem,n0,n1]) rfl ⟨rfl,?_⟩
 exact(Below.refl _ _).alloc (Nat.le_refl _) _
set_option maxHeartbeats 12800000 in
theorem a0g {rec:Ty→Ty→ByteArray→Why} {n M:Nat} (hM:M≤1000000) (hrec:af7 86 rec n M) {name dh at_:ByteArray} {labels dn:List ByteArray} {kids jf:List Ty} (hat:at_.size+32≤M) {B:Nat} {cs ds:List Value} {w:World} (hB:B≤w.heap.size) (hT:ae3 w) (hx:OkT (n+1) ⟨15,name,labels,kids⟩) (hy:OkT (n+1) ⟨15,dh,dn,jf⟩) (h:jy w B (Ty.pd ⟨15,name,labels,kids⟩) cs) (k:jy w B (Ty.pd ⟨15,dh,dn,jf⟩) ds):
  Calls Tryz.prog 118 #[.agg cs.toArray,.agg ds.toArray,.string at_] w fun e w'=>WQ (aow rec at_ kids jf) w e w':=by
 obtain⟨iq,qp,rfl,bf,eu⟩:=Ty.open_ h
 obtain⟨jk,gy,je,rfl⟩:=bf.form
 have pq:=Lib.hid bf
 clear bf
 obtain⟨qc,gu,lu,rfl⟩:=eu.form
 have qm:=Lib.hid eu
 clear eu
 obtain⟨ab1,adt,rfl,dw,jd⟩:=Ty.open_ k
 obtain⟨jr,jc,jm,rfl⟩:=dw.form
 have xw:=Lib.hid dw
 clear dw
 obtain⟨ni,ig,jq,rfl⟩:=jd.form
 have zu:=Lib.hid jd
 clear jd
 clear h k
 have afl:=Lib.hid (aal hx)
 have afm:=Lib.hid (aal hy)
 have SX:=Lib.hid (shF hx.2)
 have SY:=Lib.hid (shF hy.2)
 clear hx hy
 have ad7:=Lib.hid hrec
 clear hrec
 obtain⟨R,hR⟩:∃ R:Why,R=aow rec at_ kids jf:=⟨_,rfl⟩
 rw[← hR]
 have HR:=Lib.hid hR
 clear hR
 obtain⟨_,_,_,he,ab7,aed,adk⟩:=ny Ty.jw (by decide) qm.out
 injection he with e1 e2 e3
 subst e1 e2 e3
 unfold maxLen at aed
 have aax:=Lib.hid ab7
 clear ab7
 obtain⟨_,_,_,he,abe,adv,acv⟩:=ny Ty.jw (by decide) zu.out
 injection he with e1 e2 e3
 subst e1 e2 e3
 unfold maxLen at adv
 have aar:=Lib.hid abe
 clear abe
 have h6:gu≤6:=by have:=a1s SX.out.right;have:=aax.out;omega
 obtain⟨w0,hw0,bA,bC,bR,hB0,hs0⟩:=aeu w 60 #[.int .i64 15,.string name,.slice jk gy je,.slice qc gu lu] #[.int .i64 15,.string dh,.slice jr jc jm,.slice ni ig jq]
 have HW0:=Lib.hid hw0
 clear hw0
 by_cases hl:gu=ig
 case neg=>
  have HF:Hid (R=some (3,at_)):=by show _=_;rw[HR.out,aow,if_neg (by have:=aax.out;have:=aar.out;omega)]
  have hne:((gu:Int) != (ig:Int))=true:=by simp;omega
  go_enter Tryz.func118,Tryz.ntmps118
  go_wp2_with fail
  try rw[← HW0.out]
  refine(aew 3 at_ _).mono ?_
  rintro e wz ⟨rfl,hbz⟩
  have hBz:=hB0.trans (hbz.mono (by omega))
  have bRz:=bR.step hbz
  have hsz:=hbz.size
  obtain⟨r0,r1,f0,f1⟩:=zr bRz
  go_wp2_with fail
  obtain⟨n0,n1,nB⟩:=aaz bRz hBz (by omega) (3) (at_)
  exact bodyPost_ret (v:=.tuple #[.agg #[.int .i64 3,.string at_],.bool true]) (by simp[results,Tryz.results118,go_sem,n0,n1]) rfl ⟨qx (by rw[HF.out];rfl) (by rw[HF.out];rfl) (by rw[HF.out];rfl),nB⟩
 subst hl
 have HF0:Hid (R=aa0 (an8 rec at_ kids jf) gu):=by show _=_;rw[HR.out,aow,if_pos (by have:=aax.out;have:=aar.out;omega),← aax.out]
 go_enter Tryz.func118,Tryz.ntmps118
 go_wp2_with fail
 rw[← HW0.out]
 clear HW0
 go_loopw [25] (fun i wr=>∃ k:Nat,k≤gu∧i=.int .i64 k∧Hid (aa0 (an8 rec at_ kids jf) k=none)∧Below w0.heap.size w0 wr) (fun i _=>gu - (intOf i).toNat)
 case atStart=>exact⟨0,Nat.zero_le _,rfl,Lib.hid rfl,Below.refl _ _⟩
 case round=>
  obtain⟨k,hk,rfl,HP,hbr⟩:=hrel
  have hBr:=hB0.trans (hbr.mono (by omega))
  have hsr:=hbr.size
  have bRr:=bR.step hbr
  have bAr:=bA.step hbr
  have bCr:=bC.step hbr
  clear bA bC bR
  have a3:wr.cell? ⟨w.heap.size,3,none⟩=some (.slice qc gu lu):=bAr.cell 3
  have z3:wr.cell? ⟨w.heap.size+1,3,none⟩=some (.slice ni gu jq):=bCr.cell 3
  by_cases hlt:k < gu
  case neg=>
   have hkn:k=gu:=by omega
   subst hkn
   have HF:Hid (R=none):=by show _=_;rw[HF0.out,HP.out]
   go_wp2_with fail
   refine(afw _).mono ?_
   rintro e wz ⟨rfl,hbz⟩
   have hBz:=hBr.trans (hbz.mono (by omega))
   have bRz:=bRr.step hbz
   have hsz:=hbz.size
   obtain⟨r0,r1,f0,f1⟩:=zr bRz
   go_wp2_with fail
   obtain⟨n0,n1,nB⟩:=aaz bRz hBz (by omega) (0) (⟨#[]⟩)
   exact bodyPost_ret (v:=.tuple #[.agg #[.int .i64 0,.string {data:=#[]}],.bool false]) (by simp[results,Tryz.results118,go_sem,n0,n1]) rfl ⟨qx (by rw[HF.out];rfl) (by rw[HF.out];rfl) (by rw[HF.out];rfl),nB⟩
  have av4:(k:Int) < (gu:Int):=by omega
  have hk0:(0:Int)≤(k:Int):=by omega
  have bpt:(k:Int)+1≤7:=by omega
  obtain⟨g,off,rfl,aeg,acf⟩:=adk (by omega)
  obtain⟨x,adb,aco⟩:=xg aax.out hlt
  obtain⟨uf,qj,aaj,aby⟩:=x
  obtain⟨uh,zf,acw,acu,abo,acz,qy,yw⟩:=agm (k:=k) (a0:=off+k * 4) (a1:=off+k * 4+1) (a2:=off+k * 4+2) (a3:=off+k * 4+3) (hBr.mono (Nat.le_refl _)) aeg hB acf adb ⟨rfl,rfl,rfl,rfl⟩
  replace qy:=Lib.hid qy
  replace yw:=Lib.hid yw
  have agf:=Lib.hid adb
  have ag8:=Lib.hid aco
  clear adb aco
  obtain⟨g2,off2,rfl,adw,abw⟩:=acv (by omega)
  obtain⟨y,ade,acp⟩:=xg aar.out hlt
  obtain⟨qw,qh,aak,abz⟩:=y
  obtain⟨uz,aae,ac4,acy,abq,ac5,qo,yu⟩:=agm (k:=k) (a0:=off2+k * 4) (a1:=off2+k * 4+1) (a2:=off2+k * 4+2) (a3:=off2+k * 4+3) (hBr.mono (Nat.le_refl _)) adw hB abw ade ⟨rfl,rfl,rfl,rfl⟩
  replace qo:=Lib.hid qo
  replace yu:=Lib.hid yu
  have agh:=Lib.hid ade
  have ag9:=Lib.hid acp
  clear ade acp
  have DG:=Lib.hid (fun W (h:ae3 W)=>avd (k:Int) (WalkArith.wf_i64 (by omega)) W h)
  have l_d:(abr (k:Int)).size≤21:=aii (by omega) (by omega)
  obtain⟨d,hd⟩:∃ z,abr (k:Int)=z:=⟨_,rfl⟩
  rw[hd] at DG l_d
  have HD:=Lib.hid hd
  clear hd
  have akt:(9223372036854775807 < at_.size+(⟨#[46]⟩:ByteArray).size)=False:=eq_false (by have z_:(⟨#[46]⟩:ByteArray).size=1:=rfl;omega)
  have aku:(9223372036854775807 < at_.size+1)=False:=eq_false (by omega)
  obtain⟨p1,adl⟩:∃ p,at_ ++(⟨#[46]⟩:ByteArray)=p:=⟨_,rfl⟩
  have akv:p1.size≤at_.size+1:=by rw[← adl,ByteArray.size_append];have z_:(⟨#[46]⟩:ByteArray).size=1:=rfl;omega
  have apq:(9223372036854775807 < p1.size+d.size)=False:=eq_false (by omega)
  obtain⟨p2,agb⟩:∃ p,p1 ++d=p:=⟨_,rfl⟩
  have apr:p2.size≤at_.size+22:=by rw[← agb,ByteArray.size_append];omega
  obtain⟨R2,hR2⟩:∃ r,rec ⟨uf,qj,aaj,aby⟩ ⟨qw,qh,aak,abz⟩ p2=r:=⟨_,rfl⟩
  have HC:=fun(V:World) (hV:Keep (w.heap.size+1+1) (w.heap.size+1+1+1) wr V)=>ad7.out ⟨uf,qj,aaj,aby⟩ ⟨qw,qh,aak,abz⟩ p2 B [.int .i64 uf,.string qj,uh,zf] [.int .i64 qw,.string qh,uz,aae] V (Nat.le_trans (Nat.le_trans hB hBr.size) hV.size) (hT.below (hBr.trans (kb hV (by omega)))) (afl.out _ ag8.out) (afm.out _ ag9.out) (by omega) ((Ty.close_ qy.out yw.out).below (kb hV (by omega))) ((Ty.close_ qo.out yu.out).below (kb hV (by omega)))
  unfold WQ at HC
  rw[hR2] at HC
  obtain⟨RK,RS,RN,HRK,HRS,HRN⟩:=agn R2
  rw[HRK.out,HRS.out,HRN.out] at HC
  replace HC:=Lib.hid HC
  have HR2:=Lib.hid hR2
  clear hR2
  have HK2:Hid (an8 rec at_ kids jf k=R2):=by show _=_;rw[a5s agf.out agh.out,HD.out,← HR2.out,← agb,← adl];rfl
  have HS:Hid (∀ V,Keep (w.heap.size+1+1) (w.heap.size+1+1+1) wr V→V.cell? ⟨w.heap.size,3,none⟩=some (.slice (some ⟨g,off,none⟩) gu lu)∧V.cell? ⟨w.heap.size+1,3,none⟩=some (.slice (some ⟨g2,off2,none⟩) gu jq)∧V.cell? ⟨g,off+k * 4,none⟩=some (.int .i64 uf)∧V.cell? ⟨g,off+k * 4+1,none⟩=some (.string qj)∧V.cell? ⟨g,off+k * 4+2,none⟩=some (uh)∧V.cell? ⟨g,off+k * 4+3,none⟩=some (zf)∧V.cell? ⟨g2,off2+k * 4,none⟩=some (.int .i64 qw)∧V.cell? ⟨g2,off2+k * 4+1,none⟩=some (.string qh)∧V.cell? ⟨g2,off2+k * 4+2,none⟩=some (uz)∧V.cell? ⟨g2,off2+k * 4+3,none⟩=some (aae)):=Lib.hid fun V hV=>⟨(hV.cell (p:=⟨w.heap.size,3,none⟩) (by simp only;omega) (by simp only;omega)).trans a3,(hV.cell (p:=⟨w.heap.size+1,3,none⟩) (by simp only;omega) (by simp only;omega)).trans z3,(hV.cell (p:=⟨g,off+k * 4,none⟩) (by simp only;omega) (by simp only;omega)).trans acw,(hV.cell (p:=⟨g,off+k * 4+1,none⟩) (by simp only;omega) (by simp only;omega)).trans acu,(hV.cell (p:=⟨g,off+k * 4+2,none⟩) (by simp only;omega) (by simp only;omega)).trans abo,(hV.cell (p:=⟨g,off+k * 4+3,none⟩) (by simp only;omega) (by simp only;omega)).trans acz,(hV.cell (p:=⟨g2,off2+k * 4,none⟩) (by simp only;omega) (by simp only;omega)).trans ac4,(hV.cell (p:=⟨g2,off2+k * 4+1,none⟩) (by simp only;omega) (by simp only;omega)).trans acy,(hV.cell (p:=⟨g2,off2+k * 4+2,none⟩) (by simp only;omega) (by simp only;omega)).trans abq,(hV.cell (p:=⟨g2,off2+k * 4+3,none⟩) (by simp only;omega) (by simp only;omega)).trans ac5⟩
  clear bAr bCr
  go_wp2_with fail
  go_region_held3 (fun w'=>w'.cell? ⟨w.heap.size,3,none⟩=some (.slice (some ⟨g,off,none⟩) gu lu)∧w'.cell? ⟨w.heap.size+1,3,none⟩=some (.slice (some ⟨g2,off2,none⟩) gu jq)∧w'.cell? ⟨g,off+k * 4,none⟩=some (.int .i64 uf)∧w'.cell? ⟨g,off+k * 4+1,none⟩=some (.string qj)∧w'.cell? ⟨g,off+k * 4+2,none⟩=some (uh)∧w'.cell? ⟨g,off+k * 4+3,none⟩=some (zf)∧w'.cell? ⟨g2,off2+k * 4,none⟩=some (.int .i64 qw)∧w'.cell? ⟨g2,off2+k * 4+1,none⟩=some (.string qh)∧w'.cell? ⟨g2,off2+k * 4+2,none⟩=some (uz)∧w'.cell? ⟨g2,off2+k * 4+3,none⟩=some (aae))
   (first|exact HS.out _ (by repeat(first|exact hq1|exact hq2|exact Keep.refl _ _ _|refine Keep.drew ?_|refine Keep.alloc ?_ _|refine Keep.setAt ?_ _ _|refine Keep.newAt ?_ (Nat.le_refl _) _ _|refine Keep.newAt ?_ aam.size _ _|refine Keep.newAt ?_ hbW.size _ _)))
   (first|(go_at_call 146;refine(DG.out _ (hT.below (hBr.trans (kb (w:=wr) (lo:=w.heap.size+1+1) (hi:=w.heap.size+1+1+1) (by repeat(first|exact hq1|exact hq2|exact Keep.refl _ _ _|refine Keep.drew ?_|refine Keep.alloc ?_ _|refine Keep.setAt ?_ _ _|refine Keep.newAt ?_ (Nat.le_refl _) _ _|refine Keep.newAt ?_ aam.size _ _|refine Keep.newAt ?_ hbW.size _ _)) (by omega))))).mono ?_;rintro e wd ⟨rfl,hbd⟩;have aam:Below wr.heap.size wr wd:=(by first|exact(Below.refl _ _).drew.trans hbd|exact((Below.refl _ _).drew.alloc (Nat.le_refl _) _).trans (hbd.mono (by simp)));have hq1:Keep (w.heap.size+1+1) (w.heap.size+1+1+1) wr wd:=Keep.of_below aam;(first|(have bP0:Blk wd wr.heap.size 34 #[.int .i64 0,.string {data:=#[]}]:=(Blk.new wr.drew _ _).step hbd)|skip))|(go_at_call 86;refine(HC.out _ (by repeat(first|exact hq1|exact hq2|exact Keep.refl _ _ _|refine Keep.drew ?_|refine Keep.alloc ?_ _|refine Keep.setAt ?_ _ _|refine Keep.newAt ?_ (Nat.le_refl _) _ _|refine Keep.newAt ?_ aam.size _ _|refine Keep.newAt ?_ hbW.size _ _))).mono ?_;rintro e wq ⟨rfl,hbq⟩;have hbW:Below wr.heap.size wr wq:=(by first|exact aam.trans (hbq.mono aam.size)|exact(aam.alloc aam.size _).trans (hbq.mono (by simp;have:=aam.size;omega)));have hq2:Keep (w.heap.size+1+1) (w.heap.size+1+1+1) wr wq:=Keep.of_below hbW;(first|(have bP:Blk wq wr.heap.size 34 #[.int .i64 0,.string {data:=#[]}]:=bP0.step hbq;have p0:wq.cell? ⟨wr.heap.size,0,none⟩=some (.int .i64 0):=bP.cell 0;have p1:wq.cell? ⟨wr.heap.size,1,none⟩=some (.string {data:=#[]}):=bP.cell 1;have g0:wq.frozen? ⟨wr.heap.size,0,none⟩=false:=bP.frozen 0;have g1:wq.frozen? ⟨wr.heap.size,1,none⟩=false:=bP.frozen 1)|(have bP:Blk wq wd.heap.size 34 #[.int .i64 0,.string {data:=#[]}]:=(Blk.new wd _ _).step hbq;have p0:wq.cell? ⟨wd.heap.size,0,none⟩=some (.int .i64 0):=bP.cell 0;have p1:wq.cell? ⟨wd.heap.size,1,none⟩=some (.string {data:=#[]}):=bP.cell 1;have g0:wq.frozen? ⟨wd.heap.size,0,none⟩=false:=bP.frozen 0;have g1:wq.frozen? ⟨wd.heap.size,1,none⟩=false:=bP.frozen 1)|skip)))
  all_goals
   first
    | (obtain⟨w6,hw6⟩:∃ V,V=wq.alloc (.cells #[.int .i64 RK,.string RS] 34):=⟨_,rfl⟩;rw[← hw6];have bX:Blk w6 wq.heap.size 34 #[.int .i64 RK,.string RS]:=(by rw[hw6];exact Blk.new wq _ _);have hb6:Below wr.heap.size wr w6:=(by rw[hw6];exact hbW.alloc hbW.size _);obtain⟨rx,hrx⟩:∃ r,r=wq.heap.size:=⟨_,rfl⟩;have ah0:wr.heap.size≤rx:=(by rw[hrx];exact hbW.size);rw[← hrx] at bX ⊢;clear hw6 hrx)
    | (obtain⟨w6,hw6⟩:∃ V,V=(wq.setCell ⟨wr.heap.size,0,none⟩ (.int .i64 RK)).setCell ⟨wr.heap.size,1,none⟩ (.string RS):=⟨_,rfl⟩;rw[← hw6];have bX:Blk w6 (wr.heap.size) 34 #[.int .i64 RK,.string RS]:=(by rw[hw6];have:=(bP.abf 0 (.int .i64 RK)).abf 1 (.string RS);simpa using this);have hb6:Below wr.heap.size wr w6:=(by rw[hw6];exact(hbW.setCell (p:=⟨wr.heap.size,0,none⟩) (by first|exact Nat.le_refl _|exact aam.size|exact hbW.size) _).setCell (p:=⟨wr.heap.size,1,none⟩) (by first|exact Nat.le_refl _|exact aam.size|exact hbW.size) _);obtain⟨rx,hrx⟩:∃ r,r=wr.heap.size:=⟨_,rfl⟩;have ah0:wr.heap.size≤rx:=(by rw[hrx];first|exact Nat.le_refl _|exact hbW.size|exact aam.size);rw[← hrx] at bX ⊢;clear hw6 hrx)
    | (obtain⟨w6,hw6⟩:∃ V,V=(wq.setCell ⟨wd.heap.size,0,none⟩ (.int .i64 RK)).setCell ⟨wd.heap.size,1,none⟩ (.string RS):=⟨_,rfl⟩;rw[← hw6];have bX:Blk w6 (wd.heap.size) 34 #[.int .i64 RK,.string RS]:=(by rw[hw6];have:=(bP.abf 0 (.int .i64 RK)).abf 1 (.string RS);simpa using this);have hb6:Below wr.heap.size wr w6:=(by rw[hw6];exact(hbW.setCell (p:=⟨wd.heap.size,0,none⟩) (by first|exact Nat.le_refl _|exact aam.size|exact hbW.size) _).setCell (p:=⟨wd.heap.size,1,none⟩) (by first|exact Nat.le_refl _|exact aam.size|exact hbW.size) _);obtain⟨rx,hrx⟩:∃ r,r=wd.heap.size:=⟨_,rfl⟩;have ah0:wr.heap.size≤rx:=(by rw[hrx];first|exact Nat.le_refl _|exact hbW.size|exact aam.size);rw[← hrx] at bX ⊢;clear hw6 hrx)
   have hB6:=hBr.trans (hb6.mono (by omega))
   have bR6:=bRr.step hb6
   have hs6:=hb6.size
   cases RN
   case false=>
    have HQ:Hid (aa0 (an8 rec at_ kids jf) (k+1)=none):=by show _=_;exact ae2 HP.out (by rw[HK2.out];exact agx HRN.out)
    go_wp2_with fail
    go_roundw
    case rel=>exact⟨k+1,by omega,by go_num,HQ,hbr.trans (hb6.mono hsr)⟩
    case measure=>simp[intOf];omega
   case true=>
    have HF:Hid (R=some (RK,RS)):=by show _=_;rw[HF0.out,← HRK.out,← HRS.out];exact ad1 HP.out (by rw[HK2.out];exact agy HRN.out) _ hlt
    obtain⟨q0,q1⟩:=rq bX
    obtain⟨r0,r1,f0,f1⟩:=zr bR6
    go_wp2_with fail
    obtain⟨n0,n1,nB⟩:=aaz bR6 hB6 (by omega) (RK) (RS)
    exact bodyPost_ret (v:=.tuple #[.agg #[.int .i64 RK,.string RS],.bool true]) (by simp[results,Tryz.results118,go_sem,n0,n1]) rfl ⟨qx (by rw[HF.out];rfl) (by rw[HF.out];rfl) (by rw[HF.out];rfl),nB⟩
theorem a0h (a:Array Value) (W:World):Sem.run Tryz.prog (callFunc 120 a) W=.ok (.enter 120 a) W:=by kernel_rfl
theorem atv (a:Array Value) (W:World):Sem.run Tryz.prog (callFunc 86 a) W=.ok (.enter 86 a) W:=by kernel_rfl
set_option maxHeartbeats 3200000 in
theorem ba6 {rec:Ty→Ty→ByteArray→Why} {n M:Nat} (hrec:af7 86 rec n M):af7 120 (fun x y=>rec y x) n M:=by
 intro x y at_ B cs ds w hB hT hx hy hat h k
 have ad7:=Lib.hid hrec
 have HHX:=Lib.hid hx
 have HHY:=Lib.hid hy
 clear hrec
 obtain⟨kind,name,labels,kids⟩:=x
 obtain⟨iq,qp,rfl,bf,eu⟩:=Ty.open_ h
 obtain⟨jk,gy,je,rfl⟩:=bf.form
 have pq:=Lib.hid bf
 clear bf
 obtain⟨qc,gu,lu,rfl⟩:=eu.form
 have qm:=Lib.hid eu
 clear eu
 obtain⟨wu,dh,dn,jf⟩:=y
 obtain⟨ab1,adt,rfl,dw,jd⟩:=Ty.open_ k
 obtain⟨jr,jc,jm,rfl⟩:=dw.form
 have xw:=Lib.hid dw
 clear dw
 obtain⟨ni,ig,jq,rfl⟩:=jd.form
 have zu:=Lib.hid jd
 clear jd
 clear h k
 clear hx hy
 obtain⟨w0,hw0,bA,bC,bR,hB0,hs0⟩:=aeu w 60 #[.int .i64 kind,.string name,.slice jk gy je,.slice qc gu lu] #[.int .i64 wu,.string dh,.slice jr jc jm,.slice ni ig jq]
 have HW0:=Lib.hid hw0
 clear hw0
 go_enter Tryz.func120,Tryz.ntmps120
 go_wp2_with fail
 try rw[← HW0.out]
 obtain⟨R2,hR2⟩:∃ r,rec ⟨wu,dh,dn,jf⟩ ⟨kind,name,labels,kids⟩ at_=r:=⟨_,rfl⟩
 have HCW:=ad7.out ⟨wu,dh,dn,jf⟩ ⟨kind,name,labels,kids⟩ at_ B [.int .i64 wu,.string dh,.slice jr jc jm,.slice ni ig jq] [.int .i64 kind,.string name,.slice jk gy je,.slice qc gu lu] w0 (Nat.le_trans hB hB0.size) (hT.below hB0) HHY.out HHX.out hat (Ty.close_ (xw.out.below (hB0.mono hB)) (zu.out.below (hB0.mono hB))) (Ty.close_ (pq.out.below (hB0.mono hB)) (qm.out.below (hB0.mono hB)))
 unfold WQ at HCW
 rw[hR2] at HCW
 have HR2:=Lib.hid hR2
 obtain⟨RK,RS,RN,HRK,HRS,HRN⟩:=agn R2
 rw[HRK.out,HRS.out,HRN.out] at HCW
 clear hR2
 refine HCW.mono ?_
 rintro e wq ⟨rfl,hbq⟩
 have hBq:=hB0.trans (hbq.mono (by omega))
 have hsq:=hbq.size
 have bRq:=bR.step hbq
 clear HCW
 obtain⟨r0,r1,f0,f1⟩:=zr bRq
 go_wp2_with fail
 obtain⟨n0,n1,nB⟩:=aaz bRq hBq (by omega) (RK) (RS)
 exact bodyPost_ret (v:=.tuple #[.agg #[.int .i64 RK,.string RS],.bool RN]) (by simp[results,Tryz.results120,go_sem,n0,n1]) rfl ⟨qx (by rw[← HRK.out,← HR2.out]) (by rw[← HRS.out,← HR2.out]) (by rw[← HRN.out,← HR2.out]),nB⟩
set_option maxHeartbeats 12800000 in
theorem apc (fid:Nat) {rec:Ty→Ty→ByteArray→Why} {n M:Nat} (hM:M≤1000000) (hrec:af7 fid rec n M) (hcf:∀ a W,Sem.run Tryz.prog (callFunc fid a) W=.ok (.enter fid a) W) {ck Zck kind:Int} {name dh at_:ByteArray} {labels dn:List ByteArray} {kids jf:List Ty} (hat:at_.size+32≤M) {B:Nat} {cs ds:List Value} {w:World} (hB:B≤w.heap.size) (hT:ae3 w) (hlab:labels.length≤16∧∀ l ∈ labels,l.size≤12) (hkids:kids.length=0∨(kids.length=labels.length∧jf.length=dn.length)) (hx:OkT (n+1) ⟨ck,name,labels,kids⟩) (hy:OkT (n+1) ⟨Zck,dh,dn,jf⟩) (h:jy w B (Ty.pd ⟨ck,name,labels,kids⟩) cs) (k:jy w B (Ty.pd ⟨Zck,dh,dn,jf⟩) ds):
  Calls Tryz.prog 119 #[.agg cs.toArray,.agg ds.toArray,.string at_,.int .i64 kind,.func (.func fid) #[] #[]] w fun e w'=>WQ (ajt rec kind at_ labels kids dn jf) w e w':=by
 obtain⟨iq,qp,rfl,bf,eu⟩:=Ty.open_ h
 obtain⟨jk,gy,je,rfl⟩:=bf.form
 have pq:=Lib.hid bf
 clear bf
 obtain⟨qc,gu,lu,rfl⟩:=eu.form
 have qm:=Lib.hid eu
 clear eu
 obtain⟨ab1,adt,rfl,dw,jd⟩:=Ty.open_ k
 obtain⟨jr,jc,jm,rfl⟩:=dw.form
 have xw:=Lib.hid dw
 clear dw
 obtain⟨ni,ig,jq,rfl⟩:=jd.form
 have zu:=Lib.hid jd
 clear jd
 clear h k
 have afl:=Lib.hid (aal hx)
 have afm:=Lib.hid (aal hy)
 clear hx hy
 have ad7:=Lib.hid hrec
 clear hrec
 obtain⟨R,hR⟩:∃ R:Why,R=ajt rec kind at_ labels kids dn jf:=⟨_,rfl⟩
 rw[← hR]
 have HR:=Lib.hid hR
 clear hR
 obtain⟨_,_,_,he,ahk,akw,ala⟩:=ny aat (by decide) pq.out
 injection he with e1 e2 e3
 subst e1 e2 e3
 unfold maxLen at akw
 have aff:=Lib.hid ahk
 clear ahk
 obtain⟨_,_,_,he,ag1,ajy,ano⟩:=ny aat (by decide) xw.out
 injection he with e1 e2 e3
 subst e1 e2 e3
 unfold maxLen at ajy
 have ag2:=Lib.hid ag1
 clear ag1
 obtain⟨_,_,_,he,ab7,aed,adk⟩:=ny Ty.jw (by decide) qm.out
 injection he with e1 e2 e3
 subst e1 e2 e3
 unfold maxLen at aed
 have aax:=Lib.hid ab7
 clear ab7
 obtain⟨_,_,_,he,abe,adv,acv⟩:=ny Ty.jw (by decide) zu.out
 injection he with e1 e2 e3
 subst e1 e2 e3
 unfold maxLen at adv
 have aar:=Lib.hid abe
 clear abe
 have SI:=Lib.hid hlab
 have h16:gy≤16:=by have:=SI.out.1;have:=aff.out;omega
 have HKK:Hid (gu=0∨(gu=gy∧ig=jc)):=by show _∨_;rw[aax.out,aff.out,aar.out,ag2.out];exact hkids
 clear hlab hkids
 obtain⟨w0,hw0,bA,bC,bR,hB0,hs0⟩:=aeu w 60 #[.int .i64 ck,.string name,.slice jk gy je,.slice qc gu lu] #[.int .i64 Zck,.string dh,.slice jr jc jm,.slice ni ig jq]
 have HW0:=Lib.hid hw0
 clear hw0
 have HF0:Hid (R=aa0 (ahz rec kind at_ labels kids dn jf) gy):=by show _=_;rw[HR.out,ajt,← aff.out]
 go_enter Tryz.func119,Tryz.ntmps119
 go_wp2_with fail
 rw[← HW0.out]
 clear HW0
 go_loopw [20] (fun i wr=>∃ k:Nat,k≤gy∧i=.int .i64 k∧Hid (aa0 (ahz rec kind at_ labels kids dn jf) k=none)∧Below w0.heap.size w0 wr) (fun i _=>gy - (intOf i).toNat)
 case atStart=>exact⟨0,Nat.zero_le _,rfl,Lib.hid rfl,Below.refl _ _⟩
 case round=>
  obtain⟨k,hk,rfl,HP,hbr⟩:=hrel
  have hBr:=hB0.trans (hbr.mono (by omega))
  have hsr:=hbr.size
  have bRr:=bR.step hbr
  have bAr:=bA.step hbr
  have bCr:=bC.step hbr
  clear bA bC bR
  have o2:wr.cell? ⟨w.heap.size+1,2,none⟩=some (.slice jr jc jm):=bCr.cell 2
  by_cases hlt:k < gy
  case neg=>
   have hkn:k=gy:=by omega
   subst hkn
   have HF:Hid (R=none):=by show _=_;rw[HF0.out,HP.out]
   go_wp2_with fail
   refine(afw _).mono ?_
   rintro e wz ⟨rfl,hbz⟩
   have hBz:=hBr.trans (hbz.mono (by omega))
   have bRz:=bRr.step hbz
   have hsz:=hbz.size
   obtain⟨r0,r1,f0,f1⟩:=zr bRz
   go_wp2_with fail
   obtain⟨n0,n1,nB⟩:=aaz bRz hBz (by omega) (0) (⟨#[]⟩)
   exact bodyPost_ret (v:=.tuple #[.agg #[.int .i64 0,.string {data:=#[]}],.bool false]) (by simp[results,Tryz.results119,go_sem,n0,n1]) rfl ⟨qx (by rw[HF.out];rfl) (by rw[HF.out];rfl) (by rw[HF.out];rfl),nB⟩
  have av4:(k:Int) < (gy:Int):=by omega
  have hk0:(0:Int)≤(k:Int):=by omega
  obtain⟨gl,ae1,rfl,azq,aky⟩:=ala (by omega)
  obtain⟨l,alz,akx⟩:=xg aff.out hlt
  have cl:wr.cell? ⟨gl,ae1+k,none⟩=some (.string l):=gq hBr (by omega) (by have:=aky k 0 _ _ alz rfl;simpa using this)
  have aof:=Lib.hid alz
  have av5:=Lib.hid akx
  clear alz akx
  have l_l:l.size≤12:=SI.out.2 l av5.out
  have akt:(9223372036854775807 < at_.size+(⟨#[46]⟩:ByteArray).size)=False:=eq_false (by have z_:(⟨#[46]⟩:ByteArray).size=1:=rfl;omega)
  have aku:(9223372036854775807 < at_.size+1)=False:=eq_false (by omega)
  obtain⟨p1,adl⟩:∃ p,at_ ++(⟨#[46]⟩:ByteArray)=p:=⟨_,rfl⟩
  have akv:p1.size≤at_.size+1:=by rw[← adl,ByteArray.size_append];have z_:(⟨#[46]⟩:ByteArray).size=1:=rfl;omega
  have apq:(9223372036854775807 < p1.size+l.size)=False:=eq_false (by omega)
  obtain⟨p2,agb⟩:∃ p,p1 ++l=p:=⟨_,rfl⟩
  have apr:p2.size≤at_.size+13:=by rw[← agb,ByteArray.size_append];omega
  have HP2:Hid (aiy at_ l=p2):=by show _=_;rw[← agb,← adl];rfl
  have LB:=Lib.hid (aju l (B:=B) (w:=wr) (ts:=dn) (Nat.le_trans hB hBr.size) (xw.out.below (hBr.mono hB)))
  have ge:=aya (t:=l) (ls:=dn)
  obtain⟨ix,hix⟩:∃ i,acg (strEq l) dn=i:=⟨_,rfl⟩
  rw[show acg (fun t=>decide (l=t)) dn=ix from hix] at LB
  rw[hix] at ge
  have GE:=Lib.hid ge
  have HIX:=Lib.hid hix
  have hlo:=aoq (strEq l) dn
  rw[hix] at hlo
  clear hix ge
  go_wp2_with fail
  refine LB.out.mono ?_
  rintro e w1 ⟨rfl,hb1⟩
  clear o2 LB cl
  have hB1:=hBr.trans (hb1.mono (by omega))
  have ath:=hbr.trans (hb1.mono hsr)
  have hs1:=hb1.size
  have bA1:=bAr.step hb1
  have bC1:=bCr.step hb1
  have bR1:=bRr.step hb1
  clear bAr bCr bRr
  by_cases hneg:ix < 0
  case pos=>
   have HF:Hid (R=some (kind,p2)):=by show _=_;rw[HF0.out,← HP2.out];exact ad1 HP.out (aph aof.out (by rw[HIX.out];exact hneg)) _ hlt
   go_wp2_with fail
   refine(aew kind p2 _).mono ?_
   rintro e wz ⟨rfl,hbz⟩
   have hBz:=hB1.trans (hbz.mono (by omega))
   have bRz:=bR1.step hbz
   have hsz:=hbz.size
   obtain⟨r0,r1,f0,f1⟩:=zr bRz
   go_wp2_with fail
   obtain⟨n0,n1,nB⟩:=aaz bRz hBz (by omega) (kind) (p2)
   exact bodyPost_ret (v:=.tuple #[.agg #[.int .i64 kind,.string p2],.bool true]) (by simp[results,Tryz.results119,go_sem,n0,n1]) rfl ⟨qx (by rw[HF.out];rfl) (by rw[HF.out];rfl) (by rw[HF.out];rfl),nB⟩
  have a3:w1.cell? ⟨w.heap.size,3,none⟩=some (.slice qc gu lu):=bA1.cell 3
  by_cases hz:gu=0
  case pos=>
   have HQ:Hid (aa0 (ahz rec kind at_ labels kids dn jf) (k+1)=none):=by show _=_;exact ae2 HP.out (azd aof.out (by rw[HIX.out];exact hneg) (by have:=aax.out;omega))
   have hzb:((gu:Int) ==0)=true:=by simp;omega
   clear hz
   go_wp2_with fail
   go_roundw
   case rel=>exact⟨k+1,by omega,by go_num,HQ,ath⟩
   case measure=>simp[intOf];omega
  have hzb:((gu:Int) ==0)=false:=by simp;omega
  obtain⟨j,hj,hjl⟩:=GE.out (by omega)
  have a2x:j < ig:=by have:=ag2.out;rcases HKK.out with h|h<;>omega
  subst hj
  have hjI:(j:Int) < (ig:Int):=by omega
  have hj0:(0:Int)≤(j:Int):=by omega
  have hltk:k < gu:=by rcases HKK.out with h|h<;>omega
  have bgj:(k:Int) < (gu:Int):=by omega
  have z3:w1.cell? ⟨w.heap.size+1,3,none⟩=some (.slice ni ig jq):=bC1.cell 3
  obtain⟨g,off,rfl,aeg,acf⟩:=adk (by omega)
  obtain⟨x,adb,aco⟩:=xg aax.out hltk
  obtain⟨uf,qj,aaj,aby⟩:=x
  obtain⟨uh,zf,acw,acu,abo,acz,qy,yw⟩:=agm (k:=k) (a0:=off+k * 4) (a1:=off+k * 4+1) (a2:=off+k * 4+2) (a3:=off+k * 4+3) (hB1.mono (Nat.le_refl _)) aeg hB acf adb ⟨rfl,rfl,rfl,rfl⟩
  replace qy:=Lib.hid qy
  replace yw:=Lib.hid yw
  have agf:=Lib.hid adb
  have ag8:=Lib.hid aco
  clear adb aco
  obtain⟨g2,off2,rfl,adw,abw⟩:=acv (by omega)
  obtain⟨y,ade,acp⟩:=xg aar.out a2x
  obtain⟨qw,qh,aak,abz⟩:=y
  obtain⟨uz,aae,ac4,acy,abq,ac5,qo,yu⟩:=agm (k:=j) (a0:=off2+j * 4) (a1:=off2+j * 4+1) (a2:=off2+j * 4+2) (a3:=off2+j * 4+3) (hB1.mono (Nat.le_refl _)) adw hB abw ade ⟨rfl,rfl,rfl,rfl⟩
  replace qo:=Lib.hid qo
  replace yu:=Lib.hid yu
  have agh:=Lib.hid ade
  have ag9:=Lib.hid acp
  clear ade acp
  obtain⟨R2,hR2⟩:∃ r,rec ⟨uf,qj,aaj,aby⟩ ⟨qw,qh,aak,abz⟩ p2=r:=⟨_,rfl⟩
  have HC:=fun(V:World) (hV:Keep (w.heap.size+1+1) (w.heap.size+1+1+1) w1 V)=>ad7.out ⟨uf,qj,aaj,aby⟩ ⟨qw,qh,aak,abz⟩ p2 B [.int .i64 uf,.string qj,uh,zf] [.int .i64 qw,.string qh,uz,aae] V (Nat.le_trans (Nat.le_trans hB hB1.size) hV.size) (hT.below (hB1.trans (kb hV (by omega)))) (afl.out _ ag8.out) (afm.out _ ag9.out) (by omega) ((Ty.close_ qy.out yw.out).below (kb hV (by omega))) ((Ty.close_ qo.out yu.out).below (kb hV (by omega)))
  unfold WQ at HC
  rw[hR2] at HC
  obtain⟨RK,RS,RN,HRK,HRS,HRN⟩:=agn R2
  rw[HRK.out,HRS.out,HRN.out] at HC
  replace HC:=Lib.hid HC
  have HR2:=Lib.hid hR2
  clear hR2
  have HK2:Hid (ahz rec kind at_ labels kids dn jf k=R2):=by show _=_;rw[avu aof.out HIX.out agf.out agh.out,HP2.out,← HR2.out]
  have HS:Hid (∀ V,Keep (w.heap.size+1+1) (w.heap.size+1+1+1) w1 V→V.cell? ⟨w.heap.size,3,none⟩=some (.slice (some ⟨g,off,none⟩) gu lu)∧V.cell? ⟨w.heap.size+1,3,none⟩=some (.slice (some ⟨g2,off2,none⟩) ig jq)∧V.cell? ⟨g,off+k * 4,none⟩=some (.int .i64 uf)∧V.cell? ⟨g,off+k * 4+1,none⟩=some (.string qj)∧V.cell? ⟨g,off+k * 4+2,none⟩=some (uh)∧V.cell? ⟨g,off+k * 4+3,none⟩=some (zf)∧V.cell? ⟨g2,off2+j * 4,none⟩=some (.int .i64 qw)∧V.cell? ⟨g2,off2+j * 4+1,none⟩=some (.string qh)∧V.cell? ⟨g2,off2+j * 4+2,none⟩=some (uz)∧V.cell? ⟨g2,off2+j * 4+3,none⟩=some (aae)):=Lib.hid fun V hV=>⟨(hV.cell (p:=⟨w.heap.size,3,none⟩) (by simp only;omega) (by simp only;omega)).trans a3,(hV.cell (p:=⟨w.heap.size+1,3,none⟩) (by simp only;omega) (by simp only;omega)).trans z3,(hV.cell (p:=⟨g,off+k * 4,none⟩) (by simp only;omega) (by simp only;omega)).trans acw,(hV.cell (p:=⟨g,off+k * 4+1,none⟩) (by simp only;omega) (by simp only;omega)).trans acu,(hV.cell (p:=⟨g,off+k * 4+2,none⟩) (by simp only;omega) (by simp only;omega)).trans abo,(hV.cell (p:=⟨g,off+k * 4+3,none⟩) (by simp only;omega) (by simp only;omega)).trans acz,(hV.cell (p:=⟨g2,off2+j * 4,none⟩) (by simp only;omega) (by simp only;omega)).trans ac4,(hV.cell (p:=⟨g2,off2+j * 4+1,none⟩) (by simp only;omega) (by simp only;omega)).trans acy,(hV.cell (p:=⟨g2,off2+j * 4+2,none⟩) (by simp only;omega) (by simp only;omega)).trans abq,(hV.cell (p:=⟨g2,off2+j * 4+3,none⟩) (by simp only;omega) (by simp only;omega)).trans ac5⟩
  clear bA1 bC1
  go_wp2_with fail
  go_region_held3 (fun w'=>w'.cell? ⟨w.heap.size,3,none⟩=some (.slice (some ⟨g,off,none⟩) gu lu)∧w'.cell? ⟨w.heap.size+1,3,none⟩=some (.slice (some ⟨g2,off2,none⟩) ig jq)∧w'.cell? ⟨g,off+k * 4,none⟩=some (.int .i64 uf)∧w'.cell? ⟨g,off+k * 4+1,none⟩=some (.string qj)∧w'.cell? ⟨g,off+k * 4+2,none⟩=some (uh)∧w'.cell? ⟨g,off+k * 4+3,none⟩=some (zf)∧w'.cell? ⟨g2,off2+j * 4,none⟩=some (.int .i64 qw)∧w'.cell? ⟨g2,off2+j * 4+1,none⟩=some (.string qh)∧w'.cell? ⟨g2,off2+j * 4+2,none⟩=some (uz)∧w'.cell? ⟨g2,off2+j * 4+3,none⟩=some (aae))
   (first|exact HS.out _ (by repeat(first|exact hq1|exact hq2|exact Keep.refl _ _ _|refine Keep.drew ?_|refine Keep.alloc ?_ _|refine Keep.setAt ?_ _ _|refine Keep.newAt ?_ (Nat.le_refl _) _ _|refine Keep.newAt ?_ aam.size _ _|refine Keep.newAt ?_ hbW.size _ _)))
   (first|(go_at_fn fid;refine(HC.out _ (by repeat(first|exact hq1|exact hq2|exact Keep.refl _ _ _|refine Keep.drew ?_|refine Keep.alloc ?_ _|refine Keep.setAt ?_ _ _|refine Keep.newAt ?_ (Nat.le_refl _) _ _|refine Keep.newAt ?_ aam.size _ _|refine Keep.newAt ?_ hbW.size _ _))).mono ?_;rintro e wq ⟨rfl,hbq⟩;have hbW:Below w1.heap.size w1 wq:=(by first|exact(Below.refl _ _).drew.trans hbq|exact((Below.refl _ _).drew.alloc (Nat.le_refl _) _).trans (hbq.mono (by simp)));have hq2:Keep (w.heap.size+1+1) (w.heap.size+1+1+1) w1 wq:=Keep.of_below hbW;(first|(have bP:Blk wq w1.heap.size 34 #[.int .i64 0,.string {data:=#[]}]:=(Blk.new w1.drew _ _).step hbq;have p0:wq.cell? ⟨w1.heap.size,0,none⟩=some (.int .i64 0):=bP.cell 0;have p1:wq.cell? ⟨w1.heap.size,1,none⟩=some (.string {data:=#[]}):=bP.cell 1;have g0:wq.frozen? ⟨w1.heap.size,0,none⟩=false:=bP.frozen 0;have g1:wq.frozen? ⟨w1.heap.size,1,none⟩=false:=bP.frozen 1)|skip)))
  all_goals
   first
    | (obtain⟨w6,hw6⟩:∃ V,V=wq.alloc (.cells #[.int .i64 RK,.string RS] 34):=⟨_,rfl⟩;rw[← hw6];have bX:Blk w6 wq.heap.size 34 #[.int .i64 RK,.string RS]:=(by rw[hw6];exact Blk.new wq _ _);have hb6:Below w1.heap.size w1 w6:=(by rw[hw6];exact hbW.alloc hbW.size _);obtain⟨rx,hrx⟩:∃ r,r=wq.heap.size:=⟨_,rfl⟩;have ah0:w1.heap.size≤rx:=(by rw[hrx];exact hbW.size);rw[← hrx] at bX ⊢;clear hw6 hrx)
    | (obtain⟨w6,hw6⟩:∃ V,V=(wq.setCell ⟨w1.heap.size,0,none⟩ (.int .i64 RK)).setCell ⟨w1.heap.size,1,none⟩ (.string RS):=⟨_,rfl⟩;rw[← hw6];have bX:Blk w6 (w1.heap.size) 34 #[.int .i64 RK,.string RS]:=(by rw[hw6];have:=(bP.abf 0 (.int .i64 RK)).abf 1 (.string RS);simpa using this);have hb6:Below w1.heap.size w1 w6:=(by rw[hw6];exact(hbW.setCell (p:=⟨w1.heap.size,0,none⟩) (by first|exact Nat.le_refl _|exact aam.size|exact hbW.size) _).setCell (p:=⟨w1.heap.size,1,none⟩) (by first|exact Nat.le_refl _|exact aam.size|exact hbW.size) _);obtain⟨rx,hrx⟩:∃ r,r=w1.heap.size:=⟨_,rfl⟩;have ah0:w1.heap.size≤rx:=(by rw[hrx];first|exact Nat.le_refl _|exact hbW.size|exact aam.size);rw[← hrx] at bX ⊢;clear hw6 hrx)
   have hB6:=hB1.trans (hb6.mono (by omega))
   have bR6:=bR1.step hb6
   have hs6:=hb6.size
   cases RN
   case false=>
    have HQ:Hid (aa0 (ahz rec kind at_ labels kids dn jf) (k+1)=none):=by show _=_;exact ae2 HP.out (by rw[HK2.out];exact agx HRN.out)
    go_wp2_with fail
    go_roundw
    case rel=>exact⟨k+1,by omega,by go_num,HQ,ath.trans (hb6.mono (by omega))⟩
    case measure=>simp[intOf];omega
   case true=>
    have HF:Hid (R=some (RK,RS)):=by show _=_;rw[HF0.out,← HRK.out,← HRS.out];exact ad1 HP.out (by rw[HK2.out];exact agy HRN.out) _ hlt
    obtain⟨q0,q1⟩:=rq bX
    obtain⟨r0,r1,f0,f1⟩:=zr bR6
    go_wp2_with fail
    obtain⟨n0,n1,nB⟩:=aaz bR6 hB6 (by omega) (RK) (RS)
    exact bodyPost_ret (v:=.tuple #[.agg #[.int .i64 RK,.string RS],.bool true]) (by simp[results,Tryz.results119,go_sem,n0,n1]) rfl ⟨qx (by rw[HF.out];rfl) (by rw[HF.out];rfl) (by rw[HF.out];rfl),nB⟩
end Go.Proofs.YtbafphecjijdmaaGreatDoor
