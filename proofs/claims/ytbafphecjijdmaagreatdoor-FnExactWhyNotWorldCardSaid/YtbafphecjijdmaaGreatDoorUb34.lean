/-
  Why one type cannot stand for another: spec.l08Number, l08Within, l08No, l08Label, l08Tuple, l08Record, l08Variant, l08Why (by program: gen_why.py).
-/
import Derived.Test.YtbafphecjijdmaaGreatDoorUb11
import Derived.Test.YtbafphecjijdmaaGreatDoorUb10
import Derived.Test.YtbafphecjijdmaaGreatDoorUb22
import Derived.Deep.RegionHeld3
import Derived.Test.YtbafphecjijdmaaGreatDoorUb12
import Derived.Shelf.Abstract
namespace Go.Proofs.YtbafphecjijdmaaGreatDoor
open Go.RowKit
set_option linter.all false
set_option maxRecDepth 16000
theorem aqt (k:Int) (w:World):Calls Tryz.prog 133 #[.int .i64 k] w fun e w'=>e=.returned (.tuple #[.int .i64 (afm k),.int .i64 (afn k),.bool (isNum k)])∧w=w':=by
 by_cases h:k=3∨k=4∨k=5∨k=6∨k=7∨k=8∨k=9
 ·rcases h with rfl|rfl|rfl|rfl|rfl|rfl|rfl
  all_goals
   go_enter Tryz.func133,Tryz.ntmps133
   go_wp2_with fail
   go_ret3
   exact⟨rfl,rfl⟩
 ·have h3:(k ==3)=false:=by simp;omega
  have h4:(k ==4)=false:=by simp;omega
  have h5:(k ==5)=false:=by simp;omega
  have h6:(k ==6)=false:=by simp;omega
  have h7:(k ==7)=false:=by simp;omega
  have h8:(k ==8)=false:=by simp;omega
  have h9:(k ==9)=false:=by simp;omega
  have e1:Hid (afm k=0):=by show _=_;rw[afm,if_neg (by omega),if_neg (by omega),if_neg (by omega),if_neg (by omega)]
  have e2:Hid (afn k=0):=by show _=_;rw[afn,if_neg (by omega),if_neg (by omega),if_neg (by omega),if_neg (by omega),if_neg (by omega),if_neg (by omega),if_neg (by omega)]
  have e3:Hid (isNum k=false):=by show _=_;rw[isNum,agq];omega
  go_enter Tryz.func133,Tryz.ntmps133
  go_wp2_with fail
  go_ret3
  exact⟨by rw[e1.out,e2.out,e3.out];rfl,rfl⟩
theorem aee (k:Int) {v:Bool} (w:World) (h:isNum k=v):Calls Tryz.prog 103 #[.int .i64 k] w fun e w'=>e=.returned (.bool v)∧w=w':=by
 rw[← h]
 go_enter Tryz.func103,Tryz.ntmps103
 go_wp2_with fail
 refine(oz _ _ _ _).mono ?_
 rintro e w1 ⟨rfl,rfl⟩
 go_wp2_with fail
 go_ret
 exact⟨rfl,rfl⟩
theorem a4v (a b:Int) {v:Bool} (w:World) (h:decide (afm b≤afm a∧afn a≤afn b)=v):Calls Tryz.prog 104 #[.int .i64 a,.int .i64 b] w fun e w'=>e=.returned (.bool v)∧w=w':=by
 have HV:=zqd h
 clear h
 by_cases h1:afm b≤afm a<;>by_cases h2:afn a≤afn b
 all_goals
  have H1:=zqd h1
  have H2:=zqd h2
  go_enter Tryz.func104,Tryz.ntmps104
  go_wp2_with fail
  refine(aqt a _).mono ?_
  rintro e w1 ⟨rfl,rfl⟩
  go_wp2_with fail
  refine(aqt b _).mono ?_
  rintro e w1 ⟨rfl,rfl⟩
  go_wp2_with fail
  go_ret
  exact⟨ah (by rw[← HV.out];simp[H1.out,H2.out]),rfl⟩
theorem aen (kind:Int) (s:ByteArray) (w:World):Calls Tryz.prog 55 #[.int .i64 kind,.string s] w fun e w'=>e=.returned (.tuple #[.agg #[.int .i64 kind,.string s],.bool true])∧Below w.heap.size w w':=by
 go_enter Tryz.func55,Tryz.ntmps55
 go_wp2_with fail
 have bN:Blk (w.alloc (.cells #[.int .i64 kind,.string s] 34)) w.heap.size 34 #[.int .i64 kind,.string s]:=Blk.new w _ _
 have n0:=bN.cell 0
 have n1:=bN.cell 1
 refine bodyPost_ret (v:=.tuple #[.agg #[.int .i64 kind,.string s],.bool true]) (by simp[results,Tryz.results55,go_sem,n0,n1]) rfl ⟨rfl,?_⟩
 exact(zqf _ _).alloc (zql _) _
theorem an6 {B:Nat} {v:Value} {ls:List ByteArray} {t:ByteArray} {w:World} (h:Rep w B (.row 1 (ls.flatMap qj)) v):Calls Tryz.prog 57 #[v,.string t] w fun e w'=>e=.returned (.int .i64 (acu (strEq t) ls))∧w=w':=by
 obtain⟨A,n,c,rfl,hnl,hm,hat⟩:=ni aaz (by decide) h
 unfold maxLen at hm
 have HN:=zqd hnl
 clear h hnl
 go_enter Tryz.func57,Tryz.ntmps57
 go_wp2_with fail
 go_loop [5] (fun i=>∃ k:Nat,k≤n∧i=.int .i64 k∧Hid (∀ (j:Nat) (x:ByteArray),j < k→ls[j]?=some x→strEq t x=false)) (fun i=>n - (intOf i).toNat)
 case atStart=>exact⟨0,Nat.zero_le _,rfl,zqd fun j x h=>absurd h (by omega)⟩
 case round=>
  obtain⟨k,hk,rfl,HP⟩:=hrel
  by_cases hlt:k < n
  ·obtain⟨g,off,rfl,hg,hcell⟩:=hat (by omega)
   obtain⟨x,hx,_⟩:=um HN.out hlt
   have cx:w.cell? ⟨g,off+k,none⟩=some (.string x):=by
    obtain⟨u,hu,hr⟩:=hcell k 0 _ _ hx rfl
    rw[hr.ad8] at hu
    simpa using hu
   have HX:=zqd hx
   clear hx hcell hat
   by_cases hb:x=t
   ·have HI:Hid (acu (strEq t) ls=(k:Int)):=ajs HP.out HX.out (by simp[strEq,hb])
    subst hb
    go_wp2_with fail
    go_ret
    exact⟨y7 HI.out.symm,rfl⟩
   ·have HQ:=zqd (agd HP.out HX.out (show strEq t x=false by simp[strEq];exact fun e=>hb e.symm))
    have hs:=aeu hb
    clear hb
    go_wp2_with fail
    go_round
    case rel=>exact⟨k+1,by omega,by go_num,HQ⟩
    case measure=>simp[intOf];omega
  ·have HI:Hid (acu (strEq t) ls=-1):=aji fun j x hx=>HP.out j x (by have:=(List.getElem?_eq_some_iff.1 hx).1;have:=HN.out;omega) hx
   have hkn:k=n:=by omega
   subst hkn
   go_wp2_with fail
   go_ret
   exact⟨y7 HI.out.symm,rfl⟩
set_option maxHeartbeats 12800000 in
theorem a4w {rec:Ty→Ty→ByteArray→Why} {n M:Nat} (hM:M≤1000000) (hrec:agu 80 rec n M) {name dw at_:ByteArray} {labels eu:List ByteArray} {kids jk:List Ty} (hat:at_.size+32≤M) {B:Nat} {cs ds:List Value} {w:World} (hB:B≤w.heap.size) (hT:afg w) (hx:OkT (n+1) ⟨15,name,labels,kids⟩) (hy:OkT (n+1) ⟨15,dw,eu,jk⟩) (h:lq w B (Ty.pd ⟨15,name,labels,kids⟩) cs) (k:lq w B (Ty.pd ⟨15,dw,eu,jk⟩) ds):
  Calls Tryz.prog 105 #[.agg cs.toArray,.agg ds.toArray,.string at_] w fun e w'=>WQ (aqg rec at_ kids jk) w e w':=by
 obtain⟨iw,qw,rfl,bf,gu⟩:=Ty.open_ h
 obtain⟨jo,ig,ji,rfl⟩:=bf.form
 have pz:=zqd bf
 clear bf
 obtain⟨qg,gy,l9,rfl⟩:=gu.form
 have qo:=zqd gu
 clear gu
 obtain⟨acd,ad9,rfl,gq,jg⟩:=Ty.open_ k
 obtain⟨jy,jf,jr,rfl⟩:=gq.form
 have yj:=zqd gq
 clear gq
 obtain⟨oq,iq,jw,rfl⟩:=jg.form
 have aah:=zqd jg
 clear jg
 clear h k
 have af8:=zqd (aan hx)
 have af9:=zqd (aan hy)
 have SX:=zqd (shF hx.2)
 have SY:=zqd (shF hy.2)
 clear hx hy
 have ael:=zqd hrec
 clear hrec
 obtain⟨R,hR⟩:∃ R:Why,R=aqg rec at_ kids jk:=⟨_,rfl⟩
 rw[← hR]
 have HR:=zqd hR
 clear hR
 obtain⟨_,_,_,he,acf,aev,ad2⟩:=ni Ty.jd (by decide) qo.out
 injection he with e1 e2 e3
 subst e1 e2 e3
 unfold maxLen at aev
 have aa3:=zqd acf
 clear acf
 obtain⟨_,_,_,he,abp,aeb,ac9⟩:=ni Ty.jd (by decide) aah.out
 injection he with e1 e2 e3
 subst e1 e2 e3
 unfold maxLen at aeb
 have aay:=zqd abp
 clear abp
 have h6:gy≤6:=by have:=ayk SX.out.right;have:=aa3.out;omega
 obtain⟨w0,hw0,bA,bC,bR,hB0,hs0⟩:=afb w 60 #[.int .i64 15,.string name,.slice jo ig ji,.slice qg gy l9] #[.int .i64 15,.string dw,.slice jy jf jr,.slice oq iq jw]
 have HW0:=zqd hw0
 clear hw0
 by_cases hl:gy=iq
 case neg=>
  have HF:Hid (R=some (3,at_)):=by show _=_;rw[HR.out,aqg,if_neg (by have:=aa3.out;have:=aay.out;omega)]
  have hne:((gy:Int) != (iq:Int))=true:=by simp;omega
  go_enter Tryz.func105,Tryz.ntmps105
  go_wp2_with fail
  try rw[← HW0.out]
  refine(aen 3 at_ _).mono ?_
  rintro e wz ⟨rfl,hbz⟩
  have hBz:=hB0.trans (hbz.mono (by omega))
  have bRz:=bR.step hbz
  have hsz:=hbz.size
  obtain⟨r0,r1,f0,f1⟩:=zr bRz
  go_wp2_with fail
  obtain⟨n0,n1,nB⟩:=aaw bRz hBz (by omega) (3) (at_)
  exact bodyPost_ret (v:=.tuple #[.agg #[.int .i64 3,.string at_],.bool true]) (by simp[results,Tryz.results105,go_sem,n0,n1]) rfl ⟨qc (by rw[HF.out];rfl) (by rw[HF.out];rfl) (by rw[HF.out];rfl),nB⟩
 subst hl
 have HF0:Hid (R=zq (ali rec at_ kids jk) gy):=by show _=_;rw[HR.out,aqg,if_pos (by have:=aa3.out;have:=aay.out;omega),← aa3.out]
 go_enter Tryz.func105,Tryz.ntmps105
 go_wp2_with fail
 rw[← HW0.out]
 clear HW0
 go_loopw [8] (fun i wr=>∃ k:Nat,k≤gy∧i=.int .i64 k∧Hid (zq (ali rec at_ kids jk) k=none)∧Below w0.heap.size w0 wr) (fun i _=>gy - (intOf i).toNat)
 case atStart=>exact⟨0,Nat.zero_le _,rfl,zqd rfl,zqf _ _⟩
 case round=>
  obtain⟨k,hk,rfl,HP,hbr⟩:=hrel
  have hBr:=hB0.trans (hbr.mono (by omega))
  have hsr:=hbr.size
  have bRr:=bR.step hbr
  have bAr:=bA.step hbr
  have bCr:=bC.step hbr
  clear bA bC bR
  have a3:wr.cell? ⟨w.heap.size,3,none⟩=some (.slice qg gy l9):=bAr.cell 3
  have z3:wr.cell? ⟨w.heap.size+1,3,none⟩=some (.slice oq gy jw):=bCr.cell 3
  by_cases hlt:k < gy
  case neg=>
   have hkn:k=gy:=by omega
   subst hkn
   have HF:Hid (R=none):=by show _=_;rw[HF0.out,HP.out]
   obtain⟨r0,r1,f0,f1⟩:=zr bRr
   go_wp2_with fail
   obtain⟨n0,n1,nB⟩:=aaw bRr hBr (by omega) (0) (⟨#[]⟩)
   exact bodyPost_ret (v:=.tuple #[.agg #[.int .i64 0,.string {data:=#[]}],.bool false]) (by simp[results,Tryz.results105,go_sem,n0,n1]) rfl ⟨qc (by rw[HF.out];rfl) (by rw[HF.out];rfl) (by rw[HF.out];rfl),nB⟩
  have ayv:(k:Int) < (gy:Int):=by omega
  have hk0:(0:Int)≤(k:Int):=by omega
  have bwe:(k:Int)+1≤7:=by omega
  obtain⟨g,off,rfl,aey,acy⟩:=ad2 (by omega)
  obtain⟨x,adt,ac4⟩:=um aa3.out hlt
  obtain⟨tu,ql,aat,ab8⟩:=x
  obtain⟨ug,zo,adb,ac8,abx,adf,qy,y8⟩:=ahc (k:=k) (a0:=off+k * 4) (a1:=off+k * 4+1) (a2:=off+k * 4+2) (a3:=off+k * 4+3) (hBr.mono (zql _)) aey hB acy adt ⟨rfl,rfl,rfl,rfl⟩
  replace qy:=zqd qy
  replace y8:=zqd y8
  have ag4:=zqd adt
  have ahz:=zqd ac4
  clear adt ac4
  obtain⟨g2,off2,rfl,aec,ab6⟩:=ac9 (by omega)
  obtain⟨y,adu,ac5⟩:=um aay.out hlt
  obtain⟨qx,qh,aau,ab9⟩:=y
  obtain⟨xq,aal,adl,ade,ab2,adn,qp,y5⟩:=ahc (k:=k) (a0:=off2+k * 4) (a1:=off2+k * 4+1) (a2:=off2+k * 4+2) (a3:=off2+k * 4+3) (hBr.mono (zql _)) aec hB ab6 adu ⟨rfl,rfl,rfl,rfl⟩
  replace qp:=zqd qp
  replace y5:=zqd y5
  have ag5:=zqd adu
  have ah0:=zqd ac5
  clear adu ac5
  have DG:=zqd (fun W=>bds (k:Int) (WalkArith.wf_i64 (by omega)) W)
  have l_d:(abz (k:Int)).size≤21:=ais (by omega) (by omega)
  obtain⟨d,hd⟩:∃ z,abz (k:Int)=z:=⟨_,rfl⟩
  rw[hd] at DG l_d
  have HD:=zqd hd
  clear hd
  have als:(9223372036854775807 < at_.size+(⟨#[46]⟩:ByteArray).size)=False:=eq_false (by have z_:(⟨#[46]⟩:ByteArray).size=1:=rfl;omega)
  have alu:(9223372036854775807 < at_.size+1)=False:=eq_false (by omega)
  obtain⟨p1,ad3⟩:∃ p,at_ ++(⟨#[46]⟩:ByteArray)=p:=⟨_,rfl⟩
  have alv:p1.size≤at_.size+1:=by rw[← ad3,ByteArray.size_append];have z_:(⟨#[46]⟩:ByteArray).size=1:=rfl;omega
  have ari:(9223372036854775807 < p1.size+d.size)=False:=eq_false (by omega)
  obtain⟨p2,agz⟩:∃ p,p1 ++d=p:=⟨_,rfl⟩
  have aps:p2.size≤at_.size+22:=by rw[← agz,ByteArray.size_append];omega
  obtain⟨R2,hR2⟩:∃ r,rec ⟨tu,ql,aat,ab8⟩ ⟨qx,qh,aau,ab9⟩ p2=r:=⟨_,rfl⟩
  have HC:=fun(V:World) (hV:Keep (w.heap.size+1+1) (w.heap.size+1+1+1) wr V)=>ael.out ⟨tu,ql,aat,ab8⟩ ⟨qx,qh,aau,ab9⟩ p2 B [.int .i64 tu,.string ql,ug,zo] [.int .i64 qx,.string qh,xq,aal] V (Nat.le_trans (Nat.le_trans hB hBr.size) hV.size) (hT.below (hBr.trans (kb hV (by omega)))) (af8.out _ ahz.out) (af9.out _ ah0.out) (by omega) ((Ty.close_ qy.out y8.out).below (kb hV (by omega))) ((Ty.close_ qp.out y5.out).below (kb hV (by omega)))
  unfold WQ at HC
  rw[hR2] at HC
  obtain⟨RK,RS,RN,HRK,HRS,HRN⟩:=agp R2
  rw[HRK.out,HRS.out,HRN.out] at HC
  replace HC:=zqd HC
  have HR2:=zqd hR2
  clear hR2
  have HK2:Hid (ali rec at_ kids jk k=R2):=by show _=_;rw[bbz ag4.out ag5.out,HD.out,← HR2.out,← agz,← ad3];rfl
  have HS:Hid (∀ V,Keep (w.heap.size+1+1) (w.heap.size+1+1+1) wr V→V.cell? ⟨w.heap.size,3,none⟩=some (.slice (some ⟨g,off,none⟩) gy l9)∧V.cell? ⟨w.heap.size+1,3,none⟩=some (.slice (some ⟨g2,off2,none⟩) gy jw)∧V.cell? ⟨g,off+k * 4,none⟩=some (.int .i64 tu)∧V.cell? ⟨g,off+k * 4+1,none⟩=some (.string ql)∧V.cell? ⟨g,off+k * 4+2,none⟩=some (ug)∧V.cell? ⟨g,off+k * 4+3,none⟩=some (zo)∧V.cell? ⟨g2,off2+k * 4,none⟩=some (.int .i64 qx)∧V.cell? ⟨g2,off2+k * 4+1,none⟩=some (.string qh)∧V.cell? ⟨g2,off2+k * 4+2,none⟩=some (xq)∧V.cell? ⟨g2,off2+k * 4+3,none⟩=some (aal)):=zqd fun V hV=>⟨(hV.cell (p:=⟨w.heap.size,3,none⟩) (by simp only;omega) (by simp only;omega)).trans a3,(hV.cell (p:=⟨w.heap.size+1,3,none⟩) (by simp only;omega) (by simp only;omega)).trans z3,(hV.cell (p:=⟨g,off+k * 4,none⟩) (by simp only;omega) (by simp only;omega)).trans adb,(hV.cell (p:=⟨g,off+k * 4+1,none⟩) (by simp only;omega) (by simp only;omega)).trans ac8,(hV.cell (p:=⟨g,off+k * 4+2,none⟩) (by simp only;omega) (by simp only;omega)).trans abx,(hV.cell (p:=⟨g,off+k * 4+3,none⟩) (by simp only;omega) (by simp only;omega)).trans adf,(hV.cell (p:=⟨g2,off2+k * 4,none⟩) (by simp only;omega) (by simp only;omega)).trans adl,(hV.cell (p:=⟨g2,off2+k * 4+1,none⟩) (by simp only;omega) (by simp only;omega)).trans ade,(hV.cell (p:=⟨g2,off2+k * 4+2,none⟩) (by simp only;omega) (by simp only;omega)).trans ab2,(hV.cell (p:=⟨g2,off2+k * 4+3,none⟩) (by simp only;omega) (by simp only;omega)).trans adn⟩
  clear bAr bCr
  go_wp2_with fail
  go_region_held3 (fun w'=>w'.cell? ⟨w.heap.size,3,none⟩=some (.slice (some ⟨g,off,none⟩) gy l9)∧w'.cell? ⟨w.heap.size+1,3,none⟩=some (.slice (some ⟨g2,off2,none⟩) gy jw)∧w'.cell? ⟨g,off+k * 4,none⟩=some (.int .i64 tu)∧w'.cell? ⟨g,off+k * 4+1,none⟩=some (.string ql)∧w'.cell? ⟨g,off+k * 4+2,none⟩=some (ug)∧w'.cell? ⟨g,off+k * 4+3,none⟩=some (zo)∧w'.cell? ⟨g2,off2+k * 4,none⟩=some (.int .i64 qx)∧w'.cell? ⟨g2,off2+k * 4+1,none⟩=some (.string qh)∧w'.cell? ⟨g2,off2+k * 4+2,none⟩=some (xq)∧w'.cell? ⟨g2,off2+k * 4+3,none⟩=some (aal))
   (first|exact HS.out _ (by repeat(first|exact hq1|exact hq2|exact Keep.refl _ _ _|refine Keep.drew ?_|refine Keep.alloc ?_ _|refine Keep.setAt ?_ _ _|refine Keep.newAt ?_ (zql _) _ _|refine Keep.newAt ?_ aak.size _ _|refine Keep.newAt ?_ hbW.size _ _)))
   (first|(go_at_call 134;refine(DG.out _).mono ?_;rintro e wd ⟨rfl,hbd⟩;have aak:Below wr.heap.size wr wd:=(by first|exact(zqf _ _).drew.trans hbd|exact((zqf _ _).drew.alloc (zql _) _).trans (hbd.mono (by simp)));have hq1:Keep (w.heap.size+1+1) (w.heap.size+1+1+1) wr wd:=Keep.of_below aak;(first|(have bP0:Blk wd wr.heap.size 34 #[.int .i64 0,.string {data:=#[]}]:=(Blk.new wr.drew _ _).step hbd)|skip))|(go_at_call 80;refine(HC.out _ (by repeat(first|exact hq1|exact hq2|exact Keep.refl _ _ _|refine Keep.drew ?_|refine Keep.alloc ?_ _|refine Keep.setAt ?_ _ _|refine Keep.newAt ?_ (zql _) _ _|refine Keep.newAt ?_ aak.size _ _|refine Keep.newAt ?_ hbW.size _ _))).mono ?_;rintro e wq ⟨rfl,hbq⟩;have hbW:Below wr.heap.size wr wq:=(by first|exact aak.trans (hbq.mono aak.size)|exact(aak.alloc aak.size _).trans (hbq.mono (by simp;have:=aak.size;omega)));have hq2:Keep (w.heap.size+1+1) (w.heap.size+1+1+1) wr wq:=Keep.of_below hbW;(first|(have bP:Blk wq wr.heap.size 34 #[.int .i64 0,.string {data:=#[]}]:=bP0.step hbq;have p0:wq.cell? ⟨wr.heap.size,0,none⟩=some (.int .i64 0):=bP.cell 0;have p1:wq.cell? ⟨wr.heap.size,1,none⟩=some (.string {data:=#[]}):=bP.cell 1;have g0:wq.frozen? ⟨wr.heap.size,0,none⟩=false:=bP.frozen 0;have g1:wq.frozen? ⟨wr.heap.size,1,none⟩=false:=bP.frozen 1)|(have bP:Blk wq wd.heap.size 34 #[.int .i64 0,.string {data:=#[]}]:=(Blk.new wd _ _).step hbq;have p0:wq.cell? ⟨wd.heap.size,0,none⟩=some (.int .i64 0):=bP.cell 0;have p1:wq.cell? ⟨wd.heap.size,1,none⟩=some (.string {data:=#[]}):=bP.cell 1;have g0:wq.frozen? ⟨wd.heap.size,0,none⟩=false:=bP.frozen 0;have g1:wq.frozen? ⟨wd.heap.size,1,none⟩=false:=bP.frozen 1)|skip)))
  all_goals
   first
    | (obtain⟨w6,hw6⟩:=zqe wq 34 #[.int .i64 RK,.string RS];rw[← hw6];have bX:Blk w6 wq.heap.size 34 #[.int .i64 RK,.string RS]:=(by rw[hw6];exact Blk.new wq _ _);have hb6:Below wr.heap.size wr w6:=(by rw[hw6];exact hbW.alloc hbW.size _);obtain⟨rx,hrx⟩:∃ r,r=wq.heap.size:=⟨_,rfl⟩;have aiq:wr.heap.size≤rx:=(by rw[hrx];exact hbW.size);rw[← hrx] at bX ⊢;clear hw6 hrx)
    | (obtain⟨w6,hw6⟩:∃ V,V=(wq.setCell ⟨wr.heap.size,0,none⟩ (.int .i64 RK)).setCell ⟨wr.heap.size,1,none⟩ (.string RS):=⟨_,rfl⟩;rw[← hw6];have bX:Blk w6 (wr.heap.size) 34 #[.int .i64 RK,.string RS]:=(by rw[hw6];have:=(bP.aam 0 (.int .i64 RK)).aam 1 (.string RS);simpa using this);have hb6:Below wr.heap.size wr w6:=(by rw[hw6];exact(hbW.setCell (p:=⟨wr.heap.size,0,none⟩) (by first|exact zql _|exact aak.size|exact hbW.size) _).setCell (p:=⟨wr.heap.size,1,none⟩) (by first|exact zql _|exact aak.size|exact hbW.size) _);obtain⟨rx,hrx⟩:∃ r,r=wr.heap.size:=⟨_,rfl⟩;have aiq:wr.heap.size≤rx:=(by rw[hrx];first|exact zql _|exact hbW.size|exact aak.size);rw[← hrx] at bX ⊢;clear hw6 hrx)
    | (obtain⟨w6,hw6⟩:∃ V,V=(wq.setCell ⟨wd.heap.size,0,none⟩ (.int .i64 RK)).setCell ⟨wd.heap.size,1,none⟩ (.string RS):=⟨_,rfl⟩;rw[← hw6];have bX:Blk w6 (wd.heap.size) 34 #[.int .i64 RK,.string RS]:=(by rw[hw6];have:=(bP.aam 0 (.int .i64 RK)).aam 1 (.string RS);simpa using this);have hb6:Below wr.heap.size wr w6:=(by rw[hw6];exact(hbW.setCell (p:=⟨wd.heap.size,0,none⟩) (by first|exact zql _|exact aak.size|exact hbW.size) _).setCell (p:=⟨wd.heap.size,1,none⟩) (by first|exact zql _|exact aak.size|exact hbW.size) _);obtain⟨rx,hrx⟩:∃ r,r=wd.heap.size:=⟨_,rfl⟩;have aiq:wr.heap.size≤rx:=(by rw[hrx];first|exact zql _|exact hbW.size|exact aak.size);rw[← hrx] at bX ⊢;clear hw6 hrx)
   have hB6:=hBr.trans (hb6.mono (by omega))
   have bR6:=bRr.step hb6
   have hs6:=hb6.size
   cases RN
   case false=>
    have HQ:Hid (zq (ali rec at_ kids jk) (k+1)=none):=by show _=_;exact ae4 HP.out (by rw[HK2.out];exact af0 HRN.out)
    go_wp2_with fail
    go_roundw
    case rel=>exact⟨k+1,by omega,by go_num,HQ,hbr.trans (hb6.mono hsr)⟩
    case measure=>simp[intOf];omega
   case true=>
    have HF:Hid (R=some (RK,RS)):=by show _=_;rw[HF0.out,← HRK.out,← HRS.out];exact ada HP.out (by rw[HK2.out];exact af2 HRN.out) _ hlt
    obtain⟨q0,q1⟩:=rq bX
    obtain⟨r0,r1,f0,f1⟩:=zr bR6
    go_wp2_with fail
    obtain⟨n0,n1,nB⟩:=aaw bR6 hB6 (by omega) (RK) (RS)
    exact bodyPost_ret (v:=.tuple #[.agg #[.int .i64 RK,.string RS],.bool true]) (by simp[results,Tryz.results105,go_sem,n0,n1]) rfl ⟨qc (by rw[HF.out];rfl) (by rw[HF.out];rfl) (by rw[HF.out];rfl),nB⟩
set_option maxHeartbeats 12800000 in
theorem a2k {rec:Ty→Ty→ByteArray→Why} {n M:Nat} (hM:M≤1000000) (hrec:agu 80 rec n M) {name dw at_:ByteArray} {labels eu:List ByteArray} {kids jk:List Ty} (hat:at_.size+32≤M) {B:Nat} {cs ds:List Value} {w:World} (hB:B≤w.heap.size) (hT:afg w) (hx:OkT (n+1) ⟨16,name,labels,kids⟩) (hy:OkT (n+1) ⟨16,dw,eu,jk⟩) (h:lq w B (Ty.pd ⟨16,name,labels,kids⟩) cs) (k:lq w B (Ty.pd ⟨16,dw,eu,jk⟩) ds):
  Calls Tryz.prog 106 #[.agg cs.toArray,.agg ds.toArray,.string at_] w fun e w'=>WQ (ai9 (fun x y=>rec y x) 4 at_ eu jk labels kids) w e w':=by
 obtain⟨iw,qw,rfl,bf,gu⟩:=Ty.open_ h
 obtain⟨jo,ig,ji,rfl⟩:=bf.form
 have pz:=zqd bf
 clear bf
 obtain⟨qg,gy,l9,rfl⟩:=gu.form
 have qo:=zqd gu
 clear gu
 obtain⟨acd,ad9,rfl,gq,jg⟩:=Ty.open_ k
 obtain⟨jy,jf,jr,rfl⟩:=gq.form
 have yj:=zqd gq
 clear gq
 obtain⟨oq,iq,jw,rfl⟩:=jg.form
 have aah:=zqd jg
 clear jg
 clear h k
 have af8:=zqd (aan hx)
 have af9:=zqd (aan hy)
 have SX:=zqd (shF hx.2)
 have SY:=zqd (shF hy.2)
 clear hx hy
 have ael:=zqd hrec
 clear hrec
 obtain⟨R,hR⟩:∃ R:Why,R=ai9 (fun x y=>rec y x) 4 at_ eu jk labels kids:=⟨_,rfl⟩
 rw[← hR]
 have HR:=zqd hR
 clear hR
 obtain⟨_,_,_,he,aie,alx,ame⟩:=ni aaz (by decide) pz.out
 injection he with e1 e2 e3
 subst e1 e2 e3
 unfold maxLen at alx
 have afy:=zqd aie
 clear aie
 obtain⟨_,_,_,he,ahm,ak0,aov⟩:=ni aaz (by decide) yj.out
 injection he with e1 e2 e3
 subst e1 e2 e3
 unfold maxLen at ak0
 have ahn:=zqd ahm
 clear ahm
 obtain⟨_,_,_,he,acf,aev,ad2⟩:=ni Ty.jd (by decide) qo.out
 injection he with e1 e2 e3
 subst e1 e2 e3
 unfold maxLen at aev
 have aa3:=zqd acf
 clear acf
 obtain⟨_,_,_,he,abp,aeb,ac9⟩:=ni Ty.jd (by decide) aah.out
 injection he with e1 e2 e3
 subst e1 e2 e3
 unfold maxLen at aeb
 have aay:=zqd abp
 clear abp
 have hlx:gy=ig:=by have:=alj (.inl rfl) SX.out.right;have:=aa3.out;have:=afy.out;omega
 have hly:iq=jf:=by have:=alj (.inl rfl) SY.out.right;have:=aay.out;have:=ahn.out;omega
 have HLX:=zqd hlx
 have HLY:=zqd hly
 clear hlx hly
 have SI:=zqd (SY.out.avd (by decide))
 have h16:jf≤16:=by have:=SI.out.1;have:=ahn.out;omega
 obtain⟨w0,hw0,bA,bC,bR,hB0,hs0⟩:=afb w 60 #[.int .i64 16,.string name,.slice jo ig ji,.slice qg gy l9] #[.int .i64 16,.string dw,.slice jy jf jr,.slice oq iq jw]
 have HW0:=zqd hw0
 clear hw0
 have HF0:Hid (R=zq (aio (fun x y=>rec y x) 4 at_ eu jk labels kids) jf):=by show _=_;rw[HR.out,ai9,← ahn.out]
 go_enter Tryz.func106,Tryz.ntmps106
 go_wp2_with fail
 rw[← HW0.out]
 clear HW0
 go_loopw [8] (fun i wr=>∃ k:Nat,k≤jf∧i=.int .i64 k∧Hid (zq (aio (fun x y=>rec y x) 4 at_ eu jk labels kids) k=none)∧Below w0.heap.size w0 wr) (fun i _=>jf - (intOf i).toNat)
 case atStart=>exact⟨0,Nat.zero_le _,rfl,zqd rfl,zqf _ _⟩
 case round=>
  obtain⟨k,hk,rfl,HP,hbr⟩:=hrel
  have hBr:=hB0.trans (hbr.mono (by omega))
  have hsr:=hbr.size
  have bRr:=bR.step hbr
  have bAr:=bA.step hbr
  have bCr:=bC.step hbr
  clear bA bC bR
  have i2:wr.cell? ⟨w.heap.size+1,2,none⟩=some (.slice jy jf jr):=bCr.cell 2
  have o2:wr.cell? ⟨w.heap.size,2,none⟩=some (.slice jo ig ji):=bAr.cell 2
  by_cases hlt:k < jf
  case neg=>
   have hkn:k=jf:=by omega
   subst hkn
   have HF:Hid (R=none):=by show _=_;rw[HF0.out,HP.out]
   obtain⟨r0,r1,f0,f1⟩:=zr bRr
   go_wp2_with fail
   obtain⟨n0,n1,nB⟩:=aaw bRr hBr (by omega) (0) (⟨#[]⟩)
   exact bodyPost_ret (v:=.tuple #[.agg #[.int .i64 0,.string {data:=#[]}],.bool false]) (by simp[results,Tryz.results106,go_sem,n0,n1]) rfl ⟨qc (by rw[HF.out];rfl) (by rw[HF.out];rfl) (by rw[HF.out];rfl),nB⟩
  have ayv:(k:Int) < (jf:Int):=by omega
  have hk0:(0:Int)≤(k:Int):=by omega
  obtain⟨gl,afi,rfl,bto,a4x⟩:=aov (by omega)
  obtain⟨l,am1,aly⟩:=um ahn.out hlt
  have cl:wr.cell? ⟨gl,afi+k,none⟩=some (.string l):=bg hBr (by omega) (by have:=a4x k 0 _ _ am1 rfl;simpa using this)
  have apt:=zqd am1
  have ayw:=zqd aly
  clear am1 aly
  have l_l:l.size≤12:=SI.out.2 l ayw.out
  have als:(9223372036854775807 < at_.size+(⟨#[46]⟩:ByteArray).size)=False:=eq_false (by have z_:(⟨#[46]⟩:ByteArray).size=1:=rfl;omega)
  have alu:(9223372036854775807 < at_.size+1)=False:=eq_false (by omega)
  obtain⟨p1,ad3⟩:∃ p,at_ ++(⟨#[46]⟩:ByteArray)=p:=⟨_,rfl⟩
  have alv:p1.size≤at_.size+1:=by rw[← ad3,ByteArray.size_append];have z_:(⟨#[46]⟩:ByteArray).size=1:=rfl;omega
  have ari:(9223372036854775807 < p1.size+l.size)=False:=eq_false (by omega)
  obtain⟨p2,agz⟩:∃ p,p1 ++l=p:=⟨_,rfl⟩
  have aps:p2.size≤at_.size+13:=by rw[← agz,ByteArray.size_append];omega
  have HP2:Hid (ah6 at_ l=p2):=by show _=_;rw[← agz,← ad3];rfl
  have LB:=zqd (fun(V:World) (hV:Keep (w.heap.size+1+1) (w.heap.size+1+1+1) wr V)=>an6 (t:=l) (pz.out.below ((hBr.trans (kb hV (by omega))).mono hB)))
  have ge:=a1w (t:=l) (ls:=labels)
  obtain⟨ix,hix⟩:∃ i,acu (strEq l) labels=i:=⟨_,rfl⟩
  rw[hix] at LB ge
  have GE:=zqd ge
  have HIX:=zqd hix
  have hlo:=ap7 (strEq l) labels
  rw[hix] at hlo
  clear hix ge
  have HS:Hid (∀ V,Keep (w.heap.size+1+1) (w.heap.size+1+1+1) wr V→V.cell? ⟨w.heap.size+1,2,none⟩=some (.slice (some ⟨gl,afi,none⟩) jf jr)∧V.cell? ⟨w.heap.size,2,none⟩=some (.slice jo ig ji)∧V.cell? ⟨gl,afi+k,none⟩=some (.string l)):=zqd fun V hV=>⟨(hV.cell (p:=⟨w.heap.size+1,2,none⟩) (by simp only;omega) (by simp only;omega)).trans i2,(hV.cell (p:=⟨w.heap.size,2,none⟩) (by simp only;omega) (by simp only;omega)).trans o2,(hV.cell (p:=⟨gl,afi+k,none⟩) (by simp only;omega) (by simp only;omega)).trans cl⟩
  go_wp2_with fail
  go_region_held3 (fun w'=>w'.cell? ⟨w.heap.size+1,2,none⟩=some (.slice (some ⟨gl,afi,none⟩) jf jr)∧w'.cell? ⟨w.heap.size,2,none⟩=some (.slice jo ig ji)∧w'.cell? ⟨gl,afi+k,none⟩=some (.string l))
   (first|exact HS.out _ (by repeat(first|exact hq1|exact hq2|exact Keep.refl _ _ _|refine Keep.drew ?_|refine Keep.alloc ?_ _|refine Keep.setAt ?_ _ _|refine Keep.newAt ?_ (zql _) _ _|refine Keep.newAt ?_ aak.size _ _|refine Keep.newAt ?_ hbW.size _ _)))
   (first|(go_at_call 57;refine(LB.out _ (by repeat(first|exact hq1|exact hq2|exact Keep.refl _ _ _|refine Keep.drew ?_|refine Keep.alloc ?_ _|refine Keep.setAt ?_ _ _|refine Keep.newAt ?_ (zql _) _ _|refine Keep.newAt ?_ aak.size _ _|refine Keep.newAt ?_ hbW.size _ _))).mono ?_;rintro e wl ⟨rfl,hwl⟩;subst hwl))
  obtain⟨w1,hw1⟩:∃ V,V=wr.drew:=⟨_,rfl⟩
  rw[← hw1]
  have hb1:Below wr.heap.size wr w1:=by rw[hw1];exact(zqf _ _).drew
  clear hw1 HS i2 o2 LB
  have hB1:=hBr.trans (hb1.mono (by omega))
  have avt:=hbr.trans (hb1.mono hsr)
  have hs1:=hb1.size
  have bA1:=bAr.step hb1
  have bC1:=bCr.step hb1
  have bR1:=bRr.step hb1
  have cl1:w1.cell? ⟨gl,afi+k,none⟩=some (.string l):=(hb1.cell (p:=⟨gl,afi+k,none⟩) (by simp only;omega)).trans cl
  clear cl bAr bCr bRr
  have i2:w1.cell? ⟨w.heap.size+1,2,none⟩=some (.slice (some ⟨gl,afi,none⟩) jf jr):=bC1.cell 2
  by_cases hneg:ix < 0
  case pos=>
   have HF:Hid (R=some (4,p2)):=by show _=_;rw[HF0.out,← HP2.out];exact ada HP.out (aq8 apt.out (by rw[HIX.out];exact hneg)) _ hlt
   go_wp2_with fail
   refine(aen 4 p2 _).mono ?_
   rintro e wz ⟨rfl,hbz⟩
   have hBz:=hB1.trans (hbz.mono (by omega))
   have bRz:=bR1.step hbz
   have hsz:=hbz.size
   obtain⟨r0,r1,f0,f1⟩:=zr bRz
   go_wp2_with fail
   obtain⟨n0,n1,nB⟩:=aaw bRz hBz (by omega) (4) (p2)
   exact bodyPost_ret (v:=.tuple #[.agg #[.int .i64 4,.string p2],.bool true]) (by simp[results,Tryz.results106,go_sem,n0,n1]) rfl ⟨qc (by rw[HF.out];rfl) (by rw[HF.out];rfl) (by rw[HF.out];rfl),nB⟩
  obtain⟨j,hj,hjl⟩:=GE.out (by omega)
  have a8t:j < gy:=by have:=afy.out;have:=HLX.out;have:=HLY.out;omega
  subst hj
  have hjI:(j:Int) < (gy:Int):=by omega
  have hj0:(0:Int)≤(j:Int):=by omega
  have hltk:k < iq:=by have:=HLX.out;have:=HLY.out;omega
  have bmo:(k:Int) < (iq:Int):=by omega
  have a3:w1.cell? ⟨w.heap.size,3,none⟩=some (.slice qg gy l9):=bA1.cell 3
  have z3:w1.cell? ⟨w.heap.size+1,3,none⟩=some (.slice oq iq jw):=bC1.cell 3
  obtain⟨g,off,rfl,aey,acy⟩:=ad2 (by omega)
  obtain⟨x,adt,ac4⟩:=um aa3.out a8t
  obtain⟨tu,ql,aat,ab8⟩:=x
  obtain⟨ug,zo,adb,ac8,abx,adf,qy,y8⟩:=ahc (k:=j) (a0:=off+j * 4) (a1:=off+j * 4+1) (a2:=off+j * 4+2) (a3:=off+j * 4+3) (hB1.mono (zql _)) aey hB acy adt ⟨rfl,rfl,rfl,rfl⟩
  replace qy:=zqd qy
  replace y8:=zqd y8
  have ag4:=zqd adt
  have ahz:=zqd ac4
  clear adt ac4
  obtain⟨g2,off2,rfl,aec,ab6⟩:=ac9 (by omega)
  obtain⟨y,adu,ac5⟩:=um aay.out hltk
  obtain⟨qx,qh,aau,ab9⟩:=y
  obtain⟨xq,aal,adl,ade,ab2,adn,qp,y5⟩:=ahc (k:=k) (a0:=off2+k * 4) (a1:=off2+k * 4+1) (a2:=off2+k * 4+2) (a3:=off2+k * 4+3) (hB1.mono (zql _)) aec hB ab6 adu ⟨rfl,rfl,rfl,rfl⟩
  replace qp:=zqd qp
  replace y5:=zqd y5
  have ag5:=zqd adu
  have ah0:=zqd ac5
  clear adu ac5
  obtain⟨R2,hR2⟩:∃ r,rec ⟨tu,ql,aat,ab8⟩ ⟨qx,qh,aau,ab9⟩ p2=r:=⟨_,rfl⟩
  have HC:=fun(V:World) (hV:Keep (w.heap.size+1+1) (w.heap.size+1+1+1) w1 V)=>ael.out ⟨tu,ql,aat,ab8⟩ ⟨qx,qh,aau,ab9⟩ p2 B [.int .i64 tu,.string ql,ug,zo] [.int .i64 qx,.string qh,xq,aal] V (Nat.le_trans (Nat.le_trans hB hB1.size) hV.size) (hT.below (hB1.trans (kb hV (by omega)))) (af8.out _ ahz.out) (af9.out _ ah0.out) (by omega) ((Ty.close_ qy.out y8.out).below (kb hV (by omega))) ((Ty.close_ qp.out y5.out).below (kb hV (by omega)))
  unfold WQ at HC
  rw[hR2] at HC
  obtain⟨RK,RS,RN,HRK,HRS,HRN⟩:=agp R2
  rw[HRK.out,HRS.out,HRN.out] at HC
  replace HC:=zqd HC
  have HR2:=zqd hR2
  clear hR2
  have HK2:Hid (aio (fun x y=>rec y x) 4 at_ eu jk labels kids k=R2):=by show _=_;rw[ayj apt.out HIX.out ag5.out ag4.out,HP2.out,← HR2.out]
  have HS:Hid (∀ V,Keep (w.heap.size+1+1) (w.heap.size+1+1+1) w1 V→V.cell? ⟨w.heap.size,3,none⟩=some (.slice (some ⟨g,off,none⟩) gy l9)∧V.cell? ⟨w.heap.size+1,3,none⟩=some (.slice (some ⟨g2,off2,none⟩) iq jw)∧V.cell? ⟨w.heap.size+1,2,none⟩=some (.slice (some ⟨gl,afi,none⟩) jf jr)∧V.cell? ⟨gl,afi+k,none⟩=some (.string l)∧V.cell? ⟨g,off+j * 4,none⟩=some (.int .i64 tu)∧V.cell? ⟨g,off+j * 4+1,none⟩=some (.string ql)∧V.cell? ⟨g,off+j * 4+2,none⟩=some (ug)∧V.cell? ⟨g,off+j * 4+3,none⟩=some (zo)∧V.cell? ⟨g2,off2+k * 4,none⟩=some (.int .i64 qx)∧V.cell? ⟨g2,off2+k * 4+1,none⟩=some (.string qh)∧V.cell? ⟨g2,off2+k * 4+2,none⟩=some (xq)∧V.cell? ⟨g2,off2+k * 4+3,none⟩=some (aal)):=zqd fun V hV=>⟨(hV.cell (p:=⟨w.heap.size,3,none⟩) (by simp only;omega) (by simp only;omega)).trans a3,(hV.cell (p:=⟨w.heap.size+1,3,none⟩) (by simp only;omega) (by simp only;omega)).trans z3,(hV.cell (p:=⟨w.heap.size+1,2,none⟩) (by simp only;omega) (by simp only;omega)).trans i2,(hV.cell (p:=⟨gl,afi+k,none⟩) (by simp only;omega) (by simp only;omega)).trans cl1,(hV.cell (p:=⟨g,off+j * 4,none⟩) (by simp only;omega) (by simp only;omega)).trans adb,(hV.cell (p:=⟨g,off+j * 4+1,none⟩) (by simp only;omega) (by simp only;omega)).trans ac8,(hV.cell (p:=⟨g,off+j * 4+2,none⟩) (by simp only;omega) (by simp only;omega)).trans abx,(hV.cell (p:=⟨g,off+j * 4+3,none⟩) (by simp only;omega) (by simp only;omega)).trans adf,(hV.cell (p:=⟨g2,off2+k * 4,none⟩) (by simp only;omega) (by simp only;omega)).trans adl,(hV.cell (p:=⟨g2,off2+k * 4+1,none⟩) (by simp only;omega) (by simp only;omega)).trans ade,(hV.cell (p:=⟨g2,off2+k * 4+2,none⟩) (by simp only;omega) (by simp only;omega)).trans ab2,(hV.cell (p:=⟨g2,off2+k * 4+3,none⟩) (by simp only;omega) (by simp only;omega)).trans adn⟩
  clear bA1 bC1
  go_wp2_with fail
  go_region_held3 (fun w'=>w'.cell? ⟨w.heap.size,3,none⟩=some (.slice (some ⟨g,off,none⟩) gy l9)∧w'.cell? ⟨w.heap.size+1,3,none⟩=some (.slice (some ⟨g2,off2,none⟩) iq jw)∧w'.cell? ⟨w.heap.size+1,2,none⟩=some (.slice (some ⟨gl,afi,none⟩) jf jr)∧w'.cell? ⟨gl,afi+k,none⟩=some (.string l)∧w'.cell? ⟨g,off+j * 4,none⟩=some (.int .i64 tu)∧w'.cell? ⟨g,off+j * 4+1,none⟩=some (.string ql)∧w'.cell? ⟨g,off+j * 4+2,none⟩=some (ug)∧w'.cell? ⟨g,off+j * 4+3,none⟩=some (zo)∧w'.cell? ⟨g2,off2+k * 4,none⟩=some (.int .i64 qx)∧w'.cell? ⟨g2,off2+k * 4+1,none⟩=some (.string qh)∧w'.cell? ⟨g2,off2+k * 4+2,none⟩=some (xq)∧w'.cell? ⟨g2,off2+k * 4+3,none⟩=some (aal))
   (first|exact HS.out _ (by repeat(first|exact hq1|exact hq2|exact Keep.refl _ _ _|refine Keep.drew ?_|refine Keep.alloc ?_ _|refine Keep.setAt ?_ _ _|refine Keep.newAt ?_ (zql _) _ _|refine Keep.newAt ?_ aak.size _ _|refine Keep.newAt ?_ hbW.size _ _)))
   (first|(go_at_call 80;refine(HC.out _ (by repeat(first|exact hq1|exact hq2|exact Keep.refl _ _ _|refine Keep.drew ?_|refine Keep.alloc ?_ _|refine Keep.setAt ?_ _ _|refine Keep.newAt ?_ (zql _) _ _|refine Keep.newAt ?_ aak.size _ _|refine Keep.newAt ?_ hbW.size _ _))).mono ?_;rintro e wq ⟨rfl,hbq⟩;have hbW:Below w1.heap.size w1 wq:=(by first|exact(zqf _ _).drew.trans hbq|exact((zqf _ _).drew.alloc (zql _) _).trans (hbq.mono (by simp)));have hq2:Keep (w.heap.size+1+1) (w.heap.size+1+1+1) w1 wq:=Keep.of_below hbW;(first|(have bP:Blk wq w1.heap.size 34 #[.int .i64 0,.string {data:=#[]}]:=(Blk.new w1.drew _ _).step hbq;have p0:wq.cell? ⟨w1.heap.size,0,none⟩=some (.int .i64 0):=bP.cell 0;have p1:wq.cell? ⟨w1.heap.size,1,none⟩=some (.string {data:=#[]}):=bP.cell 1;have g0:wq.frozen? ⟨w1.heap.size,0,none⟩=false:=bP.frozen 0;have g1:wq.frozen? ⟨w1.heap.size,1,none⟩=false:=bP.frozen 1)|skip)))
  all_goals
   first
    | (obtain⟨w6,hw6⟩:=zqe wq 34 #[.int .i64 RK,.string RS];rw[← hw6];have bX:Blk w6 wq.heap.size 34 #[.int .i64 RK,.string RS]:=(by rw[hw6];exact Blk.new wq _ _);have hb6:Below w1.heap.size w1 w6:=(by rw[hw6];exact hbW.alloc hbW.size _);obtain⟨rx,hrx⟩:∃ r,r=wq.heap.size:=⟨_,rfl⟩;have aiq:w1.heap.size≤rx:=(by rw[hrx];exact hbW.size);rw[← hrx] at bX ⊢;clear hw6 hrx)
    | (obtain⟨w6,hw6⟩:∃ V,V=(wq.setCell ⟨w1.heap.size,0,none⟩ (.int .i64 RK)).setCell ⟨w1.heap.size,1,none⟩ (.string RS):=⟨_,rfl⟩;rw[← hw6];have bX:Blk w6 (w1.heap.size) 34 #[.int .i64 RK,.string RS]:=(by rw[hw6];have:=(bP.aam 0 (.int .i64 RK)).aam 1 (.string RS);simpa using this);have hb6:Below w1.heap.size w1 w6:=(by rw[hw6];exact(hbW.setCell (p:=⟨w1.heap.size,0,none⟩) (by first|exact zql _|exact aak.size|exact hbW.size) _).setCell (p:=⟨w1.heap.size,1,none⟩) (by first|exact zql _|exact aak.size|exact hbW.size) _);obtain⟨rx,hrx⟩:∃ r,r=w1.heap.size:=⟨_,rfl⟩;have aiq:w1.heap.size≤rx:=(by rw[hrx];first|exact zql _|exact hbW.size|exact aak.size);rw[← hrx] at bX ⊢;clear hw6 hrx)
   have hB6:=hB1.trans (hb6.mono (by omega))
   have bR6:=bR1.step hb6
   have hs6:=hb6.size
   cases RN
   case false=>
    have HQ:Hid (zq (aio (fun x y=>rec y x) 4 at_ eu jk labels kids) (k+1)=none):=by show _=_;exact ae4 HP.out (by rw[HK2.out];exact af0 HRN.out)
    go_wp2_with fail
    go_roundw
    case rel=>exact⟨k+1,by omega,by go_num,HQ,avt.trans (hb6.mono (by omega))⟩
    case measure=>simp[intOf];omega
   case true=>
    have HF:Hid (R=some (RK,RS)):=by show _=_;rw[HF0.out,← HRK.out,← HRS.out];exact ada HP.out (by rw[HK2.out];exact af2 HRN.out) _ hlt
    obtain⟨q0,q1⟩:=rq bX
    obtain⟨r0,r1,f0,f1⟩:=zr bR6
    go_wp2_with fail
    obtain⟨n0,n1,nB⟩:=aaw bR6 hB6 (by omega) (RK) (RS)
    exact bodyPost_ret (v:=.tuple #[.agg #[.int .i64 RK,.string RS],.bool true]) (by simp[results,Tryz.results106,go_sem,n0,n1]) rfl ⟨qc (by rw[HF.out];rfl) (by rw[HF.out];rfl) (by rw[HF.out];rfl),nB⟩
set_option maxHeartbeats 12800000 in
theorem a0x {rec:Ty→Ty→ByteArray→Why} {n M:Nat} (hM:M≤1000000) (hrec:agu 80 rec n M) {name dw at_:ByteArray} {labels eu:List ByteArray} {kids jk:List Ty} (hat:at_.size+32≤M) {B:Nat} {cs ds:List Value} {w:World} (hB:B≤w.heap.size) (hT:afg w) (hx:OkT (n+1) ⟨17,name,labels,kids⟩) (hy:OkT (n+1) ⟨17,dw,eu,jk⟩) (h:lq w B (Ty.pd ⟨17,name,labels,kids⟩) cs) (k:lq w B (Ty.pd ⟨17,dw,eu,jk⟩) ds):
  Calls Tryz.prog 107 #[.agg cs.toArray,.agg ds.toArray,.string at_] w fun e w'=>WQ (ai9 rec 5 at_ labels kids eu jk) w e w':=by
 obtain⟨iw,qw,rfl,bf,gu⟩:=Ty.open_ h
 obtain⟨jo,ig,ji,rfl⟩:=bf.form
 have pz:=zqd bf
 clear bf
 obtain⟨qg,gy,l9,rfl⟩:=gu.form
 have qo:=zqd gu
 clear gu
 obtain⟨acd,ad9,rfl,gq,jg⟩:=Ty.open_ k
 obtain⟨jy,jf,jr,rfl⟩:=gq.form
 have yj:=zqd gq
 clear gq
 obtain⟨oq,iq,jw,rfl⟩:=jg.form
 have aah:=zqd jg
 clear jg
 clear h k
 have af8:=zqd (aan hx)
 have af9:=zqd (aan hy)
 have SX:=zqd (shF hx.2)
 have SY:=zqd (shF hy.2)
 clear hx hy
 have ael:=zqd hrec
 clear hrec
 obtain⟨R,hR⟩:∃ R:Why,R=ai9 rec 5 at_ labels kids eu jk:=⟨_,rfl⟩
 rw[← hR]
 have HR:=zqd hR
 clear hR
 obtain⟨_,_,_,he,aie,alx,ame⟩:=ni aaz (by decide) pz.out
 injection he with e1 e2 e3
 subst e1 e2 e3
 unfold maxLen at alx
 have afy:=zqd aie
 clear aie
 obtain⟨_,_,_,he,ahm,ak0,aov⟩:=ni aaz (by decide) yj.out
 injection he with e1 e2 e3
 subst e1 e2 e3
 unfold maxLen at ak0
 have ahn:=zqd ahm
 clear ahm
 obtain⟨_,_,_,he,acf,aev,ad2⟩:=ni Ty.jd (by decide) qo.out
 injection he with e1 e2 e3
 subst e1 e2 e3
 unfold maxLen at aev
 have aa3:=zqd acf
 clear acf
 obtain⟨_,_,_,he,abp,aeb,ac9⟩:=ni Ty.jd (by decide) aah.out
 injection he with e1 e2 e3
 subst e1 e2 e3
 unfold maxLen at aeb
 have aay:=zqd abp
 clear abp
 have hlx:gy=ig:=by have:=alj (.inr rfl) SX.out.right;have:=aa3.out;have:=afy.out;omega
 have hly:iq=jf:=by have:=alj (.inr rfl) SY.out.right;have:=aay.out;have:=ahn.out;omega
 have HLX:=zqd hlx
 have HLY:=zqd hly
 clear hlx hly
 have SI:=zqd (SX.out.avd (by decide))
 have h16:ig≤16:=by have:=SI.out.1;have:=afy.out;omega
 obtain⟨w0,hw0,bA,bC,bR,hB0,hs0⟩:=afb w 60 #[.int .i64 17,.string name,.slice jo ig ji,.slice qg gy l9] #[.int .i64 17,.string dw,.slice jy jf jr,.slice oq iq jw]
 have HW0:=zqd hw0
 clear hw0
 have HF0:Hid (R=zq (aio rec 5 at_ labels kids eu jk) ig):=by show _=_;rw[HR.out,ai9,← afy.out]
 go_enter Tryz.func107,Tryz.ntmps107
 go_wp2_with fail
 rw[← HW0.out]
 clear HW0
 go_loopw [8] (fun i wr=>∃ k:Nat,k≤ig∧i=.int .i64 k∧Hid (zq (aio rec 5 at_ labels kids eu jk) k=none)∧Below w0.heap.size w0 wr) (fun i _=>ig - (intOf i).toNat)
 case atStart=>exact⟨0,Nat.zero_le _,rfl,zqd rfl,zqf _ _⟩
 case round=>
  obtain⟨k,hk,rfl,HP,hbr⟩:=hrel
  have hBr:=hB0.trans (hbr.mono (by omega))
  have hsr:=hbr.size
  have bRr:=bR.step hbr
  have bAr:=bA.step hbr
  have bCr:=bC.step hbr
  clear bA bC bR
  have i2:wr.cell? ⟨w.heap.size,2,none⟩=some (.slice jo ig ji):=bAr.cell 2
  have o2:wr.cell? ⟨w.heap.size+1,2,none⟩=some (.slice jy jf jr):=bCr.cell 2
  by_cases hlt:k < ig
  case neg=>
   have hkn:k=ig:=by omega
   subst hkn
   have HF:Hid (R=none):=by show _=_;rw[HF0.out,HP.out]
   obtain⟨r0,r1,f0,f1⟩:=zr bRr
   go_wp2_with fail
   obtain⟨n0,n1,nB⟩:=aaw bRr hBr (by omega) (0) (⟨#[]⟩)
   exact bodyPost_ret (v:=.tuple #[.agg #[.int .i64 0,.string {data:=#[]}],.bool false]) (by simp[results,Tryz.results107,go_sem,n0,n1]) rfl ⟨qc (by rw[HF.out];rfl) (by rw[HF.out];rfl) (by rw[HF.out];rfl),nB⟩
  have ayv:(k:Int) < (ig:Int):=by omega
  have hk0:(0:Int)≤(k:Int):=by omega
  obtain⟨gl,afi,rfl,a3z,alz⟩:=ame (by omega)
  obtain⟨l,am1,aly⟩:=um afy.out hlt
  have cl:wr.cell? ⟨gl,afi+k,none⟩=some (.string l):=bg hBr (by omega) (by have:=alz k 0 _ _ am1 rfl;simpa using this)
  have apt:=zqd am1
  have ayw:=zqd aly
  clear am1 aly
  have l_l:l.size≤12:=SI.out.2 l ayw.out
  have als:(9223372036854775807 < at_.size+(⟨#[46]⟩:ByteArray).size)=False:=eq_false (by have z_:(⟨#[46]⟩:ByteArray).size=1:=rfl;omega)
  have alu:(9223372036854775807 < at_.size+1)=False:=eq_false (by omega)
  obtain⟨p1,ad3⟩:∃ p,at_ ++(⟨#[46]⟩:ByteArray)=p:=⟨_,rfl⟩
  have alv:p1.size≤at_.size+1:=by rw[← ad3,ByteArray.size_append];have z_:(⟨#[46]⟩:ByteArray).size=1:=rfl;omega
  have ari:(9223372036854775807 < p1.size+l.size)=False:=eq_false (by omega)
  obtain⟨p2,agz⟩:∃ p,p1 ++l=p:=⟨_,rfl⟩
  have aps:p2.size≤at_.size+13:=by rw[← agz,ByteArray.size_append];omega
  have HP2:Hid (ah6 at_ l=p2):=by show _=_;rw[← agz,← ad3];rfl
  have LB:=zqd (fun(V:World) (hV:Keep (w.heap.size+1+1) (w.heap.size+1+1+1) wr V)=>an6 (t:=l) (yj.out.below ((hBr.trans (kb hV (by omega))).mono hB)))
  have ge:=a1w (t:=l) (ls:=eu)
  obtain⟨ix,hix⟩:∃ i,acu (strEq l) eu=i:=⟨_,rfl⟩
  rw[hix] at LB ge
  have GE:=zqd ge
  have HIX:=zqd hix
  have hlo:=ap7 (strEq l) eu
  rw[hix] at hlo
  clear hix ge
  have HS:Hid (∀ V,Keep (w.heap.size+1+1) (w.heap.size+1+1+1) wr V→V.cell? ⟨w.heap.size,2,none⟩=some (.slice (some ⟨gl,afi,none⟩) ig ji)∧V.cell? ⟨w.heap.size+1,2,none⟩=some (.slice jy jf jr)∧V.cell? ⟨gl,afi+k,none⟩=some (.string l)):=zqd fun V hV=>⟨(hV.cell (p:=⟨w.heap.size,2,none⟩) (by simp only;omega) (by simp only;omega)).trans i2,(hV.cell (p:=⟨w.heap.size+1,2,none⟩) (by simp only;omega) (by simp only;omega)).trans o2,(hV.cell (p:=⟨gl,afi+k,none⟩) (by simp only;omega) (by simp only;omega)).trans cl⟩
  go_wp2_with fail
  go_region_held3 (fun w'=>w'.cell? ⟨w.heap.size,2,none⟩=some (.slice (some ⟨gl,afi,none⟩) ig ji)∧w'.cell? ⟨w.heap.size+1,2,none⟩=some (.slice jy jf jr)∧w'.cell? ⟨gl,afi+k,none⟩=some (.string l))
   (first|exact HS.out _ (by repeat(first|exact hq1|exact hq2|exact Keep.refl _ _ _|refine Keep.drew ?_|refine Keep.alloc ?_ _|refine Keep.setAt ?_ _ _|refine Keep.newAt ?_ (zql _) _ _|refine Keep.newAt ?_ aak.size _ _|refine Keep.newAt ?_ hbW.size _ _)))
   (first|(go_at_call 57;refine(LB.out _ (by repeat(first|exact hq1|exact hq2|exact Keep.refl _ _ _|refine Keep.drew ?_|refine Keep.alloc ?_ _|refine Keep.setAt ?_ _ _|refine Keep.newAt ?_ (zql _) _ _|refine Keep.newAt ?_ aak.size _ _|refine Keep.newAt ?_ hbW.size _ _))).mono ?_;rintro e wl ⟨rfl,hwl⟩;subst hwl))
  obtain⟨w1,hw1⟩:∃ V,V=wr.drew:=⟨_,rfl⟩
  rw[← hw1]
  have hb1:Below wr.heap.size wr w1:=by rw[hw1];exact(zqf _ _).drew
  clear hw1 HS i2 o2 LB
  have hB1:=hBr.trans (hb1.mono (by omega))
  have avt:=hbr.trans (hb1.mono hsr)
  have hs1:=hb1.size
  have bA1:=bAr.step hb1
  have bC1:=bCr.step hb1
  have bR1:=bRr.step hb1
  have cl1:w1.cell? ⟨gl,afi+k,none⟩=some (.string l):=(hb1.cell (p:=⟨gl,afi+k,none⟩) (by simp only;omega)).trans cl
  clear cl bAr bCr bRr
  have i2:w1.cell? ⟨w.heap.size,2,none⟩=some (.slice (some ⟨gl,afi,none⟩) ig ji):=bA1.cell 2
  by_cases hneg:ix < 0
  case pos=>
   have HF:Hid (R=some (5,p2)):=by show _=_;rw[HF0.out,← HP2.out];exact ada HP.out (aq8 apt.out (by rw[HIX.out];exact hneg)) _ hlt
   go_wp2_with fail
   refine(aen 5 p2 _).mono ?_
   rintro e wz ⟨rfl,hbz⟩
   have hBz:=hB1.trans (hbz.mono (by omega))
   have bRz:=bR1.step hbz
   have hsz:=hbz.size
   obtain⟨r0,r1,f0,f1⟩:=zr bRz
   go_wp2_with fail
   obtain⟨n0,n1,nB⟩:=aaw bRz hBz (by omega) (5) (p2)
   exact bodyPost_ret (v:=.tuple #[.agg #[.int .i64 5,.string p2],.bool true]) (by simp[results,Tryz.results107,go_sem,n0,n1]) rfl ⟨qc (by rw[HF.out];rfl) (by rw[HF.out];rfl) (by rw[HF.out];rfl),nB⟩
  obtain⟨j,hj,hjl⟩:=GE.out (by omega)
  have a8t:j < iq:=by have:=ahn.out;have:=HLX.out;have:=HLY.out;omega
  subst hj
  have hjI:(j:Int) < (iq:Int):=by omega
  have hj0:(0:Int)≤(j:Int):=by omega
  have hltk:k < gy:=by have:=HLX.out;have:=HLY.out;omega
  have bmo:(k:Int) < (gy:Int):=by omega
  have a3:w1.cell? ⟨w.heap.size,3,none⟩=some (.slice qg gy l9):=bA1.cell 3
  have z3:w1.cell? ⟨w.heap.size+1,3,none⟩=some (.slice oq iq jw):=bC1.cell 3
  obtain⟨g,off,rfl,aey,acy⟩:=ad2 (by omega)
  obtain⟨x,adt,ac4⟩:=um aa3.out hltk
  obtain⟨tu,ql,aat,ab8⟩:=x
  obtain⟨ug,zo,adb,ac8,abx,adf,qy,y8⟩:=ahc (k:=k) (a0:=off+k * 4) (a1:=off+k * 4+1) (a2:=off+k * 4+2) (a3:=off+k * 4+3) (hB1.mono (zql _)) aey hB acy adt ⟨rfl,rfl,rfl,rfl⟩
  replace qy:=zqd qy
  replace y8:=zqd y8
  have ag4:=zqd adt
  have ahz:=zqd ac4
  clear adt ac4
  obtain⟨g2,off2,rfl,aec,ab6⟩:=ac9 (by omega)
  obtain⟨y,adu,ac5⟩:=um aay.out a8t
  obtain⟨qx,qh,aau,ab9⟩:=y
  obtain⟨xq,aal,adl,ade,ab2,adn,qp,y5⟩:=ahc (k:=j) (a0:=off2+j * 4) (a1:=off2+j * 4+1) (a2:=off2+j * 4+2) (a3:=off2+j * 4+3) (hB1.mono (zql _)) aec hB ab6 adu ⟨rfl,rfl,rfl,rfl⟩
  replace qp:=zqd qp
  replace y5:=zqd y5
  have ag5:=zqd adu
  have ah0:=zqd ac5
  clear adu ac5
  obtain⟨R2,hR2⟩:∃ r,rec ⟨tu,ql,aat,ab8⟩ ⟨qx,qh,aau,ab9⟩ p2=r:=⟨_,rfl⟩
  have HC:=fun(V:World) (hV:Keep (w.heap.size+1+1) (w.heap.size+1+1+1) w1 V)=>ael.out ⟨tu,ql,aat,ab8⟩ ⟨qx,qh,aau,ab9⟩ p2 B [.int .i64 tu,.string ql,ug,zo] [.int .i64 qx,.string qh,xq,aal] V (Nat.le_trans (Nat.le_trans hB hB1.size) hV.size) (hT.below (hB1.trans (kb hV (by omega)))) (af8.out _ ahz.out) (af9.out _ ah0.out) (by omega) ((Ty.close_ qy.out y8.out).below (kb hV (by omega))) ((Ty.close_ qp.out y5.out).below (kb hV (by omega)))
  unfold WQ at HC
  rw[hR2] at HC
  obtain⟨RK,RS,RN,HRK,HRS,HRN⟩:=agp R2
  rw[HRK.out,HRS.out,HRN.out] at HC
  replace HC:=zqd HC
  have HR2:=zqd hR2
  clear hR2
  have HK2:Hid (aio rec 5 at_ labels kids eu jk k=R2):=by show _=_;rw[ayj apt.out HIX.out ag4.out ag5.out,HP2.out,← HR2.out]
  have HS:Hid (∀ V,Keep (w.heap.size+1+1) (w.heap.size+1+1+1) w1 V→V.cell? ⟨w.heap.size,3,none⟩=some (.slice (some ⟨g,off,none⟩) gy l9)∧V.cell? ⟨w.heap.size+1,3,none⟩=some (.slice (some ⟨g2,off2,none⟩) iq jw)∧V.cell? ⟨w.heap.size,2,none⟩=some (.slice (some ⟨gl,afi,none⟩) ig ji)∧V.cell? ⟨gl,afi+k,none⟩=some (.string l)∧V.cell? ⟨g,off+k * 4,none⟩=some (.int .i64 tu)∧V.cell? ⟨g,off+k * 4+1,none⟩=some (.string ql)∧V.cell? ⟨g,off+k * 4+2,none⟩=some (ug)∧V.cell? ⟨g,off+k * 4+3,none⟩=some (zo)∧V.cell? ⟨g2,off2+j * 4,none⟩=some (.int .i64 qx)∧V.cell? ⟨g2,off2+j * 4+1,none⟩=some (.string qh)∧V.cell? ⟨g2,off2+j * 4+2,none⟩=some (xq)∧V.cell? ⟨g2,off2+j * 4+3,none⟩=some (aal)):=zqd fun V hV=>⟨(hV.cell (p:=⟨w.heap.size,3,none⟩) (by simp only;omega) (by simp only;omega)).trans a3,(hV.cell (p:=⟨w.heap.size+1,3,none⟩) (by simp only;omega) (by simp only;omega)).trans z3,(hV.cell (p:=⟨w.heap.size,2,none⟩) (by simp only;omega) (by simp only;omega)).trans i2,(hV.cell (p:=⟨gl,afi+k,none⟩) (by simp only;omega) (by simp only;omega)).trans cl1,(hV.cell (p:=⟨g,off+k * 4,none⟩) (by simp only;omega) (by simp only;omega)).trans adb,(hV.cell (p:=⟨g,off+k * 4+1,none⟩) (by simp only;omega) (by simp only;omega)).trans ac8,(hV.cell (p:=⟨g,off+k * 4+2,none⟩) (by simp only;omega) (by simp only;omega)).trans abx,(hV.cell (p:=⟨g,off+k * 4+3,none⟩) (by simp only;omega) (by simp only;omega)).trans adf,(hV.cell (p:=⟨g2,off2+j * 4,none⟩) (by simp only;omega) (by simp only;omega)).trans adl,(hV.cell (p:=⟨g2,off2+j * 4+1,none⟩) (by simp only;omega) (by simp only;omega)).trans ade,(hV.cell (p:=⟨g2,off2+j * 4+2,none⟩) (by simp only;omega) (by simp only;omega)).trans ab2,(hV.cell (p:=⟨g2,off2+j * 4+3,none⟩) (by simp only;omega) (by simp only;omega)).trans adn⟩
  clear bA1 bC1
  go_wp2_with fail
  go_region_held3 (fun w'=>w'.cell? ⟨w.heap.size,3,none⟩=some (.slice (some ⟨g,off,none⟩) gy l9)∧w'.cell? ⟨w.heap.size+1,3,none⟩=some (.slice (some ⟨g2,off2,none⟩) iq jw)∧w'.cell? ⟨w.heap.size,2,none⟩=some (.slice (some ⟨gl,afi,none⟩) ig ji)∧w'.cell? ⟨gl,afi+k,none⟩=some (.string l)∧w'.cell? ⟨g,off+k * 4,none⟩=some (.int .i64 tu)∧w'.cell? ⟨g,off+k * 4+1,none⟩=some (.string ql)∧w'.cell? ⟨g,off+k * 4+2,none⟩=some (ug)∧w'.cell? ⟨g,off+k * 4+3,none⟩=some (zo)∧w'.cell? ⟨g2,off2+j * 4,none⟩=some (.int .i64 qx)∧w'.cell? ⟨g2,off2+j * 4+1,none⟩=some (.string qh)∧w'.cell? ⟨g2,off2+j * 4+2,none⟩=some (xq)∧w'.cell? ⟨g2,off2+j * 4+3,none⟩=some (aal))
   (first|exact HS.out _ (by repeat(first|exact hq1|exact hq2|exact Keep.refl _ _ _|refine Keep.drew ?_|refine Keep.alloc ?_ _|refine Keep.setAt ?_ _ _|refine Keep.newAt ?_ (zql _) _ _|refine Keep.newAt ?_ aak.size _ _|refine Keep.newAt ?_ hbW.size _ _)))
   (first|(go_at_call 80;refine(HC.out _ (by repeat(first|exact hq1|exact hq2|exact Keep.refl _ _ _|refine Keep.drew ?_|refine Keep.alloc ?_ _|refine Keep.setAt ?_ _ _|refine Keep.newAt ?_ (zql _) _ _|refine Keep.newAt ?_ aak.size _ _|refine Keep.newAt ?_ hbW.size _ _))).mono ?_;rintro e wq ⟨rfl,hbq⟩;have hbW:Below w1.heap.size w1 wq:=(by first|exact(zqf _ _).drew.trans hbq|exact((zqf _ _).drew.alloc (zql _) _).trans (hbq.mono (by simp)));have hq2:Keep (w.heap.size+1+1) (w.heap.size+1+1+1) w1 wq:=Keep.of_below hbW;(first|(have bP:Blk wq w1.heap.size 34 #[.int .i64 0,.string {data:=#[]}]:=(Blk.new w1.drew _ _).step hbq;have p0:wq.cell? ⟨w1.heap.size,0,none⟩=some (.int .i64 0):=bP.cell 0;have p1:wq.cell? ⟨w1.heap.size,1,none⟩=some (.string {data:=#[]}):=bP.cell 1;have g0:wq.frozen? ⟨w1.heap.size,0,none⟩=false:=bP.frozen 0;have g1:wq.frozen? ⟨w1.heap.size,1,none⟩=false:=bP.frozen 1)|skip)))
  all_goals
   first
    | (obtain⟨w6,hw6⟩:=zqe wq 34 #[.int .i64 RK,.string RS];rw[← hw6];have bX:Blk w6 wq.heap.size 34 #[.int .i64 RK,.string RS]:=(by rw[hw6];exact Blk.new wq _ _);have hb6:Below w1.heap.size w1 w6:=(by rw[hw6];exact hbW.alloc hbW.size _);obtain⟨rx,hrx⟩:∃ r,r=wq.heap.size:=⟨_,rfl⟩;have aiq:w1.heap.size≤rx:=(by rw[hrx];exact hbW.size);rw[← hrx] at bX ⊢;clear hw6 hrx)
    | (obtain⟨w6,hw6⟩:∃ V,V=(wq.setCell ⟨w1.heap.size,0,none⟩ (.int .i64 RK)).setCell ⟨w1.heap.size,1,none⟩ (.string RS):=⟨_,rfl⟩;rw[← hw6];have bX:Blk w6 (w1.heap.size) 34 #[.int .i64 RK,.string RS]:=(by rw[hw6];have:=(bP.aam 0 (.int .i64 RK)).aam 1 (.string RS);simpa using this);have hb6:Below w1.heap.size w1 w6:=(by rw[hw6];exact(hbW.setCell (p:=⟨w1.heap.size,0,none⟩) (by first|exact zql _|exact aak.size|exact hbW.size) _).setCell (p:=⟨w1.heap.size,1,none⟩) (by first|exact zql _|exact aak.size|exact hbW.size) _);obtain⟨rx,hrx⟩:∃ r,r=w1.heap.size:=⟨_,rfl⟩;have aiq:w1.heap.size≤rx:=(by rw[hrx];first|exact zql _|exact hbW.size|exact aak.size);rw[← hrx] at bX ⊢;clear hw6 hrx)
   have hB6:=hB1.trans (hb6.mono (by omega))
   have bR6:=bR1.step hb6
   have hs6:=hb6.size
   cases RN
   case false=>
    have HQ:Hid (zq (aio rec 5 at_ labels kids eu jk) (k+1)=none):=by show _=_;exact ae4 HP.out (by rw[HK2.out];exact af0 HRN.out)
    go_wp2_with fail
    go_roundw
    case rel=>exact⟨k+1,by omega,by go_num,HQ,avt.trans (hb6.mono (by omega))⟩
    case measure=>simp[intOf];omega
   case true=>
    have HF:Hid (R=some (RK,RS)):=by show _=_;rw[HF0.out,← HRK.out,← HRS.out];exact ada HP.out (by rw[HK2.out];exact af2 HRN.out) _ hlt
    obtain⟨q0,q1⟩:=rq bX
    obtain⟨r0,r1,f0,f1⟩:=zr bR6
    go_wp2_with fail
    obtain⟨n0,n1,nB⟩:=aaw bR6 hB6 (by omega) (RK) (RS)
    exact bodyPost_ret (v:=.tuple #[.agg #[.int .i64 RK,.string RS],.bool true]) (by simp[results,Tryz.results107,go_sem,n0,n1]) rfl ⟨qc (by rw[HF.out];rfl) (by rw[HF.out];rfl) (by rw[HF.out];rfl),nB⟩
end Go.Proofs.YtbafphecjijdmaaGreatDoor
