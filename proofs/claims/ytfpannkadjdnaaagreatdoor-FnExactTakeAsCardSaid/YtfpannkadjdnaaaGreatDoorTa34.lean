/-
  Why one type cannot stand for another: spec.l08Number, l08Within, l08No, l08Label, l08Tuple, l08Record, l08Variant, l08Why (by program: gen_why.py).
-/
import Derived.Test.YtfpannkadjdnaaaGreatDoorTa11
import Derived.Test.YtfpannkadjdnaaaGreatDoorTa10
import Derived.Test.YtfpannkadjdnaaaGreatDoorTa23
import Derived.Deep.RegionHeld3
import Derived.Test.YtfpannkadjdnaaaGreatDoorTa14
import Derived.Shelf.Abstract
namespace Go.Proofs.YtfpannkadjdnaaaGreatDoor
open Go.RowKit
set_option linter.all false
set_option maxRecDepth 16000
theorem aki (k:Int) (w:World):Calls Tryz.prog 55 #[.int .i64 k] w fun e w'=>e=.returned (.tuple #[.int .i64 (zu k),.int .i64 (zx k),.bool (isNum k)])∧w=w':=by
 by_cases h:k=3∨k=4∨k=5∨k=6∨k=7∨k=8∨k=9
 ·rcases h with rfl|rfl|rfl|rfl|rfl|rfl|rfl
  all_goals
   go_enter Tryz.func55,Tryz.ntmps55
   go_wp2_with fail
   go_ret3
   exact⟨rfl,rfl⟩
 ·have h3:(k ==3)=false:=by simp;omega
  have h4:(k ==4)=false:=by simp;omega
  have h5:(k ==5)=false:=by simp;omega
  have h6:(k ==6)=false:=by simp;omega
  have h7:(k ==7)=false:=by simp;omega
  have h8:(k ==8)=false:=by simp;omega
  have h9:(k ==9)=false:=by simp;omega
  have e1:Hid (zu k=0):=by show _=_;rw[zu,if_neg (by omega),if_neg (by omega),if_neg (by omega),if_neg (by omega)]
  have e2:Hid (zx k=0):=by show _=_;rw[zx,if_neg (by omega),if_neg (by omega),if_neg (by omega),if_neg (by omega),if_neg (by omega),if_neg (by omega),if_neg (by omega)]
  have e3:Hid (isNum k=false):=by show _=_;rw[isNum,aec];omega
  go_enter Tryz.func55,Tryz.ntmps55
  go_wp2_with fail
  go_ret3
  exact⟨by rw[e1.out,e2.out,e3.out];rfl,rfl⟩
theorem acr (k:Int) {v:Bool} (w:World) (h:isNum k=v):Calls Tryz.prog 58 #[.int .i64 k] w fun e w'=>e=.returned (.bool v)∧w=w':=by
 rw[← h];go_enter Tryz.func58,Tryz.ntmps58
 go_wp2_with fail
 refine(oz _ _ _ _).mono ?_;rintro e w1 ⟨rfl,rfl⟩;go_wp2_with fail
 go_ret
 exact⟨rfl,rfl⟩
theorem ax5 (a b:Int) {v:Bool} (w:World) (h:decide (zu b≤zu a∧zx a≤zx b)=v):Calls Tryz.prog 59 #[.int .i64 a,.int .i64 b] w fun e w'=>e=.returned (.bool v)∧w=w':=by
 have HV:=zqd h;clear h;by_cases h1:zu b≤zu a<;>by_cases h2:zx a≤zx b
 all_goals
  have H1:=zqd h1;have H2:=zqd h2;go_enter Tryz.func59,Tryz.ntmps59
  go_wp2_with fail
  refine(aki a _).mono ?_;rintro e w1 ⟨rfl,rfl⟩;go_wp2_with fail
  refine(aki b _).mono ?_;rintro e w1 ⟨rfl,rfl⟩;go_wp2_with fail
  go_ret
  exact⟨au (by rw[← HV.out];simp[H1.out,H2.out]),rfl⟩
theorem ag4 (kind:Int) (s:ByteArray) (w:World):Calls Tryz.prog 60 #[.int .i64 kind,.string s] w fun e w'=>e=.returned (.tuple #[.agg #[.int .i64 kind,.string s],.bool true])∧Below w.heap.size w w':=by
 go_enter Tryz.func60,Tryz.ntmps60
 go_wp2_with fail
 have bN:Blk (w.alloc (.cells #[.int .i64 kind,.string s] 61)) w.heap.size 61 #[.int .i64 kind,.string s]:=Blk.new w _ _;have n0:=bN.cell 0;have n1:=bN.cell 1;refine bodyPost_ret (v:=.tuple #[.agg #[.int .i64 kind,.string s],.bool true]) (by simp[results,Tryz.results60,go_sem,n0,n1]) rfl ⟨rfl,?_⟩;exact(zqf _ _).alloc (zql _) _
theorem ahf {B:Nat} {v:Value} {ls:List ByteArray} {t:ByteArray} {w:World} (h:Rep w B (.row 1 (ls.flatMap aam)) v):Calls Tryz.prog 39 #[v,.string t] w fun e w'=>e=.returned (.int .i64 (aav (strEq t) ls))∧w=w':=by
 obtain⟨A,n,c,rfl,hnl,hm,hat⟩:=bf jo (by decide) h;unfold maxLen at hm;have HN:=zqd hnl;clear h hnl;go_enter Tryz.func39,Tryz.ntmps39
 go_wp2_with fail
 go_loop [5] (fun i=>∃ k:Nat,k≤n∧i=.int .i64 k∧Hid (∀ (j:Nat) (x:ByteArray),j < k→ls[j]?=some x→strEq t x=false)) (fun i=>n - (intOf i).toNat)
 case atStart=>exact⟨0,Nat.zero_le _,rfl,zqd fun j x h=>absurd h (by omega)⟩
 case round=>
  obtain⟨k,hk,rfl,HP⟩:=hrel;by_cases hlt:k < n
  ·obtain⟨g,off,rfl,hg,hcell⟩:=hat (by omega)
   obtain⟨x,hx,_⟩:=uo HN.out hlt
   have cx:w.cell? ⟨g,off+k,none⟩=some (.string x):=by
    obtain⟨u,hu,hr⟩:=hcell k 0 _ _ hx rfl;rw[hr.ab2] at hu;simpa using hu
   have HX:=zqd hx;clear hx hcell hat;by_cases hb:x=t
   ·have HI:Hid (aav (strEq t) ls=(k:Int)):=am7 HP.out HX.out (by simp[strEq,hb])
    subst hb;go_wp2_with fail
    go_ret
    exact⟨aa2 HI.out.symm,rfl⟩
   ·have HQ:=zqd (aij HP.out HX.out (show strEq t x=false by simp[strEq];exact fun e=>hb e.symm))
    have hs:=ag8 hb;clear hb;go_wp2_with fail
    go_round
    case rel=>exact⟨k+1,by omega,by go_num,HQ⟩
    case measure=>simp[intOf];omega
  ·have HI:Hid (aav (strEq t) ls=-1):=al9 fun j x hx=>HP.out j x (by have:=(List.getElem?_eq_some_iff.1 hx).1;have:=HN.out;omega) hx
   have hkn:k=n:=by omega
   subst hkn;go_wp2_with fail
   go_ret
   exact⟨aa2 HI.out.symm,rfl⟩
set_option maxHeartbeats 12800000 in
theorem ax6 {rec:Ty→Ty→ByteArray→Why} {n M:Nat} (hM:M≤1000000) (hrec:afb 38 rec n M) {name cu at_:ByteArray} {labels dw:List ByteArray} {kids je:List Ty} (hat:at_.size+32≤M) {B:Nat} {cs ds:List Value} {w:World} (hB:B≤w.heap.size) (hT:ad2 w) (hx:OkT (n+1) ⟨15,name,labels,kids⟩) (hy:OkT (n+1) ⟨15,cu,dw,je⟩) (h:jq w B (Ty.pd ⟨15,name,labels,kids⟩) cs) (k:jq w B (Ty.pd ⟨15,cu,dw,je⟩) ds):
  Calls Tryz.prog 61 #[.agg cs.toArray,.agg ds.toArray,.string at_] w fun e w'=>WQ (ami rec at_ kids je) w e w':=by
 obtain⟨iy,iw,rfl,dh,dn⟩:=Ty.open_ h;obtain⟨jy,jc,jl,rfl⟩:=dh.form;have pz:=zqd dh;clear dh;obtain⟨l9,iq,ku,rfl⟩:=dn.form;have pq:=zqd dn;clear dn;obtain⟨oh,tq,rfl,ig,jh⟩:=Ty.open_ k;obtain⟨lg,jg,jm,rfl⟩:=ig.form;have qy:=zqd ig;clear ig;obtain⟨mg,jd,jr,rfl⟩:=jh.form;have xu:=zqd jh;clear jh;clear h k;have aes:=zqd (qg hx);have aeu:=zqd (qg hy);have SX:=zqd (shF hx.2);have SY:=zqd (shF hy.2);clear hx hy;have abl:=zqd hrec;clear hrec;obtain⟨R,hR⟩:∃ R:Why,R=ami rec at_ kids je:=⟨_,rfl⟩;rw[← hR];have HR:=zqd hR;clear hR;obtain⟨_,_,_,he,aa3,ac7,ab6⟩:=bf Ty.ay (by decide) pq.out;injection he with e1 e2 e3
 subst e1 e2 e3;unfold maxLen at ac7;have zo:=zqd aa3;clear aa3;obtain⟨_,_,_,he,aao,ab9,abk⟩:=bf Ty.ay (by decide) xu.out;injection he with e1 e2 e3
 subst e1 e2 e3;unfold maxLen at ab9;have zf:=zqd aao;clear aao;have h6:iq≤6:=by have:=asz SX.out.right;have:=zo.out;omega
 obtain⟨w0,hw0,bA,bC,bR,hB0,hs0⟩:=aex w 39 #[.int .i64 15,.string name,.slice jy jc jl,.slice l9 iq ku] #[.int .i64 15,.string cu,.slice lg jg jm,.slice mg jd jr];have HW0:=zqd hw0;clear hw0;by_cases hl:iq=jd
 case neg=>
  have HF:Hid (R=some (3,at_)):=by show _=_;rw[HR.out,ami,if_neg (by have:=zo.out;have:=zf.out;omega)]
  have hne:((iq:Int) != (jd:Int))=true:=by simp;omega
  go_enter Tryz.func61,Tryz.ntmps61
  go_wp2_with fail
  try rw[← HW0.out]
  refine(ag4 3 at_ _).mono ?_;rintro e wz ⟨rfl,hbz⟩;have hBz:=hB0.trans (hbz.mono (by omega));have bRz:=bR.step hbz;have hsz:=hbz.size;obtain⟨r0,r1,f0,f1⟩:=zr bRz;go_wp2_with fail
  obtain⟨n0,n1,nB⟩:=acw bRz hBz (by omega) (3) (at_);exact bodyPost_ret (v:=.tuple #[.agg #[.int .i64 3,.string at_],.bool true]) (by simp[results,Tryz.results61,go_sem,n0,n1]) rfl ⟨zl (by rw[HF.out];rfl) (by rw[HF.out];rfl) (by rw[HF.out];rfl),nB⟩
 subst hl;have HF0:Hid (R=ab3 (aj9 rec at_ kids je) iq):=by show _=_;rw[HR.out,ami,if_pos (by have:=zo.out;have:=zf.out;omega),← zo.out]
 go_enter Tryz.func61,Tryz.ntmps61
 go_wp2_with fail
 rw[← HW0.out];clear HW0;go_loopw [8] (fun i wr=>∃ k:Nat,k≤iq∧i=.int .i64 k∧Hid (ab3 (aj9 rec at_ kids je) k=none)∧Below w0.heap.size w0 wr) (fun i _=>iq - (intOf i).toNat)
 case atStart=>exact⟨0,Nat.zero_le _,rfl,zqd rfl,zqf _ _⟩
 case round=>
  obtain⟨k,hk,rfl,HP,hbr⟩:=hrel;have hBr:=hB0.trans (hbr.mono (by omega));have hsr:=hbr.size;have bRr:=bR.step hbr;have bAr:=bA.step hbr;have bCr:=bC.step hbr;clear bA bC bR;have a3:wr.cell? ⟨w.heap.size,3,none⟩=some (.slice l9 iq ku):=bAr.cell 3;have z3:wr.cell? ⟨w.heap.size+1,3,none⟩=some (.slice mg iq jr):=bCr.cell 3;by_cases hlt:k < iq
  case neg=>
   have hkn:k=iq:=by omega
   subst hkn;have HF:Hid (R=none):=by show _=_;rw[HF0.out,HP.out]
   obtain⟨r0,r1,f0,f1⟩:=zr bRr;go_wp2_with fail
   obtain⟨n0,n1,nB⟩:=acw bRr hBr (by omega) (0) (⟨#[]⟩);exact bodyPost_ret (v:=.tuple #[.agg #[.int .i64 0,.string {data:=#[]}],.bool false]) (by simp[results,Tryz.results61,go_sem,n0,n1]) rfl ⟨zl (by rw[HF.out];rfl) (by rw[HF.out];rfl) (by rw[HF.out];rfl),nB⟩
  have azq:(k:Int) < (iq:Int):=by omega
  have hk0:(0:Int)≤(k:Int):=by omega
  have byp:(k:Int)+1≤7:=by omega
  obtain⟨g,off,rfl,ac9,abe⟩:=ab6 (by omega);obtain⟨x,ac3,ab4⟩:=uo zo.out hlt;obtain⟨eu,gq,lq,oq⟩:=x;obtain⟨uh,y8,acd,acf,aa9,ach,qo,x9⟩:=acs (k:=k) (a0:=off+k * 4) (a1:=off+k * 4+1) (a2:=off+k * 4+2) (a3:=off+k * 4+3) (hBr.mono (zql _)) ac9 hB abe ac3 ⟨rfl,rfl,rfl,rfl⟩;replace qo:=zqd qo;replace x9:=zqd x9;have ags:=zqd ac3;have ahc:=zqd ab4;clear ac3 ab4;obtain⟨g2,off2,rfl,aco,aaw⟩:=abk (by omega);obtain⟨y,ac4,ab5⟩:=uo zf.out hlt;obtain⟨jv,jw,qc,um⟩:=y;obtain⟨uj,y9,ace,acg,abb,aci,qp,yc⟩:=acs (k:=k) (a0:=off2+k * 4) (a1:=off2+k * 4+1) (a2:=off2+k * 4+2) (a3:=off2+k * 4+3) (hBr.mono (zql _)) aco hB aaw ac4 ⟨rfl,rfl,rfl,rfl⟩;replace qp:=zqd qp;replace yc:=zqd yc;have agt:=zqd ac4;have ahd:=zqd ab5;clear ac4 ab5;have DG:=zqd (fun W=>a2f (k:Int) (WalkArith.wf_i64 (by omega)) W);have l_d:(ae3 (k:Int)).size≤21:=amy (by omega) (by omega);obtain⟨d,hd⟩:∃ z,ae3 (k:Int)=z:=⟨_,rfl⟩;rw[hd] at DG l_d;have HD:=zqd hd;clear hd;have anj:(9223372036854775807 < at_.size+(⟨#[46]⟩:ByteArray).size)=False:=eq_false (by have z_:(⟨#[46]⟩:ByteArray).size=1:=rfl;omega);have ank:(9223372036854775807 < at_.size+1)=False:=eq_false (by omega);obtain⟨p1,aev⟩:∃ p,at_ ++(⟨#[46]⟩:ByteArray)=p:=⟨_,rfl⟩;have anl:p1.size≤at_.size+1:=by rw[← aev,ByteArray.size_append];have z_:(⟨#[46]⟩:ByteArray).size=1:=rfl;omega
  have as8:(9223372036854775807 < p1.size+d.size)=False:=eq_false (by omega);obtain⟨p2,ahe⟩:∃ p,p1 ++d=p:=⟨_,rfl⟩;have as9:p2.size≤at_.size+22:=by rw[← ahe,ByteArray.size_append];omega
  obtain⟨R2,hR2⟩:∃ r,rec ⟨eu,gq,lq,oq⟩ ⟨jv,jw,qc,um⟩ p2=r:=⟨_,rfl⟩;have HC:=fun(V:World) (hV:Keep (w.heap.size+1+1) (w.heap.size+1+1+1) wr V)=>abl.out ⟨eu,gq,lq,oq⟩ ⟨jv,jw,qc,um⟩ p2 B [.int .i64 eu,.string gq,uh,y8] [.int .i64 jv,.string jw,uj,y9] V (Nat.le_trans (Nat.le_trans hB hBr.size) hV.size) (hT.below (hBr.trans (kb hV (by omega)))) (aes.out _ ahc.out) (aeu.out _ ahd.out) (by omega) ((Ty.close_ qo.out x9.out).below (kb hV (by omega))) ((Ty.close_ qp.out yc.out).below (kb hV (by omega)));unfold WQ at HC;rw[hR2] at HC;obtain⟨RK,RS,RN,HRK,HRS,HRN⟩:=aha R2;rw[HRK.out,HRS.out,HRN.out] at HC;replace HC:=zqd HC;have HR2:=zqd hR2;clear hR2;have HK2:Hid (aj9 rec at_ kids je k=R2):=by show _=_;rw[avt ags.out agt.out,HD.out,← HR2.out,← ahe,← aev];rfl
  have HS:Hid (∀ V,Keep (w.heap.size+1+1) (w.heap.size+1+1+1) wr V→V.cell? ⟨w.heap.size,3,none⟩=some (.slice (some ⟨g,off,none⟩) iq ku)∧V.cell? ⟨w.heap.size+1,3,none⟩=some (.slice (some ⟨g2,off2,none⟩) iq jr)∧V.cell? ⟨g,off+k * 4,none⟩=some (.int .i64 eu)∧V.cell? ⟨g,off+k * 4+1,none⟩=some (.string gq)∧V.cell? ⟨g,off+k * 4+2,none⟩=some (uh)∧V.cell? ⟨g,off+k * 4+3,none⟩=some (y8)∧V.cell? ⟨g2,off2+k * 4,none⟩=some (.int .i64 jv)∧V.cell? ⟨g2,off2+k * 4+1,none⟩=some (.string jw)∧V.cell? ⟨g2,off2+k * 4+2,none⟩=some (uj)∧V.cell? ⟨g2,off2+k * 4+3,none⟩=some (y9)):=zqd fun V hV=>⟨(hV.cell (p:=⟨w.heap.size,3,none⟩) (by simp only;omega) (by simp only;omega)).trans a3,(hV.cell (p:=⟨w.heap.size+1,3,none⟩) (by simp only;omega) (by simp only;omega)).trans z3,(hV.cell (p:=⟨g,off+k * 4,none⟩) (by simp only;omega) (by simp only;omega)).trans acd,(hV.cell (p:=⟨g,off+k * 4+1,none⟩) (by simp only;omega) (by simp only;omega)).trans acf,(hV.cell (p:=⟨g,off+k * 4+2,none⟩) (by simp only;omega) (by simp only;omega)).trans aa9,(hV.cell (p:=⟨g,off+k * 4+3,none⟩) (by simp only;omega) (by simp only;omega)).trans ach,(hV.cell (p:=⟨g2,off2+k * 4,none⟩) (by simp only;omega) (by simp only;omega)).trans ace,(hV.cell (p:=⟨g2,off2+k * 4+1,none⟩) (by simp only;omega) (by simp only;omega)).trans acg,(hV.cell (p:=⟨g2,off2+k * 4+2,none⟩) (by simp only;omega) (by simp only;omega)).trans abb,(hV.cell (p:=⟨g2,off2+k * 4+3,none⟩) (by simp only;omega) (by simp only;omega)).trans aci⟩;clear bAr bCr;go_wp2_with fail
  go_region_held3 (fun w'=>w'.cell? ⟨w.heap.size,3,none⟩=some (.slice (some ⟨g,off,none⟩) iq ku)∧w'.cell? ⟨w.heap.size+1,3,none⟩=some (.slice (some ⟨g2,off2,none⟩) iq jr)∧w'.cell? ⟨g,off+k * 4,none⟩=some (.int .i64 eu)∧w'.cell? ⟨g,off+k * 4+1,none⟩=some (.string gq)∧w'.cell? ⟨g,off+k * 4+2,none⟩=some (uh)∧w'.cell? ⟨g,off+k * 4+3,none⟩=some (y8)∧w'.cell? ⟨g2,off2+k * 4,none⟩=some (.int .i64 jv)∧w'.cell? ⟨g2,off2+k * 4+1,none⟩=some (.string jw)∧w'.cell? ⟨g2,off2+k * 4+2,none⟩=some (uj)∧w'.cell? ⟨g2,off2+k * 4+3,none⟩=some (y9))
   (first|exact HS.out _ (by repeat(first|exact hq1|exact hq2|exact Keep.refl _ _ _|refine Keep.drew ?_|refine Keep.alloc ?_ _|refine Keep.setAt ?_ _ _|refine Keep.newAt ?_ (zql _) _ _|refine Keep.newAt ?_ aau.size _ _|refine Keep.newAt ?_ hbW.size _ _)))
   (first|(go_at_call 89;refine(DG.out _).mono ?_;rintro e wd ⟨rfl,hbd⟩;have aau:Below wr.heap.size wr wd:=(by first|exact(zqf _ _).drew.trans hbd|exact((zqf _ _).drew.alloc (zql _) _).trans (hbd.mono (by simp)));have hq1:Keep (w.heap.size+1+1) (w.heap.size+1+1+1) wr wd:=Keep.of_below aau;(first|(have bP0:Blk wd wr.heap.size 61 #[.int .i64 0,.string {data:=#[]}]:=(Blk.new wr.drew _ _).step hbd)|skip))|(go_at_call 38;refine(HC.out _ (by repeat(first|exact hq1|exact hq2|exact Keep.refl _ _ _|refine Keep.drew ?_|refine Keep.alloc ?_ _|refine Keep.setAt ?_ _ _|refine Keep.newAt ?_ (zql _) _ _|refine Keep.newAt ?_ aau.size _ _|refine Keep.newAt ?_ hbW.size _ _))).mono ?_;rintro e wq ⟨rfl,hbq⟩;have hbW:Below wr.heap.size wr wq:=(by first|exact aau.trans (hbq.mono aau.size)|exact(aau.alloc aau.size _).trans (hbq.mono (by simp;have:=aau.size;omega)));have hq2:Keep (w.heap.size+1+1) (w.heap.size+1+1+1) wr wq:=Keep.of_below hbW;(first|(have bP:Blk wq wr.heap.size 61 #[.int .i64 0,.string {data:=#[]}]:=bP0.step hbq;have p0:wq.cell? ⟨wr.heap.size,0,none⟩=some (.int .i64 0):=bP.cell 0;have p1:wq.cell? ⟨wr.heap.size,1,none⟩=some (.string {data:=#[]}):=bP.cell 1;have g0:wq.frozen? ⟨wr.heap.size,0,none⟩=false:=bP.frozen 0;have g1:wq.frozen? ⟨wr.heap.size,1,none⟩=false:=bP.frozen 1)|(have bP:Blk wq wd.heap.size 61 #[.int .i64 0,.string {data:=#[]}]:=(Blk.new wd _ _).step hbq;have p0:wq.cell? ⟨wd.heap.size,0,none⟩=some (.int .i64 0):=bP.cell 0;have p1:wq.cell? ⟨wd.heap.size,1,none⟩=some (.string {data:=#[]}):=bP.cell 1;have g0:wq.frozen? ⟨wd.heap.size,0,none⟩=false:=bP.frozen 0;have g1:wq.frozen? ⟨wd.heap.size,1,none⟩=false:=bP.frozen 1)|skip)))
  all_goals
   first
    | (obtain⟨w6,hw6⟩:=zqe wq 61 #[.int .i64 RK,.string RS];rw[← hw6];have bX:Blk w6 wq.heap.size 61 #[.int .i64 RK,.string RS]:=(by rw[hw6];exact Blk.new wq _ _);have hb6:Below wr.heap.size wr w6:=(by rw[hw6];exact hbW.alloc hbW.size _);obtain⟨rx,hrx⟩:∃ r,r=wq.heap.size:=⟨_,rfl⟩;have ake:wr.heap.size≤rx:=(by rw[hrx];exact hbW.size);rw[← hrx] at bX ⊢;clear hw6 hrx)
    | (obtain⟨w6,hw6⟩:∃ V,V=(wq.setCell ⟨wr.heap.size,0,none⟩ (.int .i64 RK)).setCell ⟨wr.heap.size,1,none⟩ (.string RS):=⟨_,rfl⟩;rw[← hw6];have bX:Blk w6 (wr.heap.size) 61 #[.int .i64 RK,.string RS]:=(by rw[hw6];have:=(bP.l7 0 (.int .i64 RK)).l7 1 (.string RS);simpa using this);have hb6:Below wr.heap.size wr w6:=(by rw[hw6];exact(hbW.setCell (p:=⟨wr.heap.size,0,none⟩) (by first|exact zql _|exact aau.size|exact hbW.size) _).setCell (p:=⟨wr.heap.size,1,none⟩) (by first|exact zql _|exact aau.size|exact hbW.size) _);obtain⟨rx,hrx⟩:∃ r,r=wr.heap.size:=⟨_,rfl⟩;have ake:wr.heap.size≤rx:=(by rw[hrx];first|exact zql _|exact hbW.size|exact aau.size);rw[← hrx] at bX ⊢;clear hw6 hrx)
    | (obtain⟨w6,hw6⟩:∃ V,V=(wq.setCell ⟨wd.heap.size,0,none⟩ (.int .i64 RK)).setCell ⟨wd.heap.size,1,none⟩ (.string RS):=⟨_,rfl⟩;rw[← hw6];have bX:Blk w6 (wd.heap.size) 61 #[.int .i64 RK,.string RS]:=(by rw[hw6];have:=(bP.l7 0 (.int .i64 RK)).l7 1 (.string RS);simpa using this);have hb6:Below wr.heap.size wr w6:=(by rw[hw6];exact(hbW.setCell (p:=⟨wd.heap.size,0,none⟩) (by first|exact zql _|exact aau.size|exact hbW.size) _).setCell (p:=⟨wd.heap.size,1,none⟩) (by first|exact zql _|exact aau.size|exact hbW.size) _);obtain⟨rx,hrx⟩:∃ r,r=wd.heap.size:=⟨_,rfl⟩;have ake:wr.heap.size≤rx:=(by rw[hrx];first|exact zql _|exact hbW.size|exact aau.size);rw[← hrx] at bX ⊢;clear hw6 hrx)
   have hB6:=hBr.trans (hb6.mono (by omega));have bR6:=bRr.step hb6;have hs6:=hb6.size;cases RN
   case false=>
    have HQ:Hid (ab3 (aj9 rec at_ kids je) (k+1)=none):=by show _=_;exact ahr HP.out (by rw[HK2.out];exact aj7 HRN.out)
    go_wp2_with fail
    go_roundw
    case rel=>exact⟨k+1,by omega,by go_num,HQ,hbr.trans (hb6.mono hsr)⟩
    case measure=>simp[intOf];omega
   case true=>
    have HF:Hid (R=some (RK,RS)):=by show _=_;rw[HF0.out,← HRK.out,← HRS.out];exact agj HP.out (by rw[HK2.out];exact aj8 HRN.out) _ hlt
    obtain⟨q0,q1⟩:=rq bX;obtain⟨r0,r1,f0,f1⟩:=zr bR6;go_wp2_with fail
    obtain⟨n0,n1,nB⟩:=acw bR6 hB6 (by omega) (RK) (RS);exact bodyPost_ret (v:=.tuple #[.agg #[.int .i64 RK,.string RS],.bool true]) (by simp[results,Tryz.results61,go_sem,n0,n1]) rfl ⟨zl (by rw[HF.out];rfl) (by rw[HF.out];rfl) (by rw[HF.out];rfl),nB⟩
set_option maxHeartbeats 12800000 in
theorem awj {rec:Ty→Ty→ByteArray→Why} {n M:Nat} (hM:M≤1000000) (hrec:afb 38 rec n M) {name cu at_:ByteArray} {labels dw:List ByteArray} {kids je:List Ty} (hat:at_.size+32≤M) {B:Nat} {cs ds:List Value} {w:World} (hB:B≤w.heap.size) (hT:ad2 w) (hx:OkT (n+1) ⟨16,name,labels,kids⟩) (hy:OkT (n+1) ⟨16,cu,dw,je⟩) (h:jq w B (Ty.pd ⟨16,name,labels,kids⟩) cs) (k:jq w B (Ty.pd ⟨16,cu,dw,je⟩) ds):
  Calls Tryz.prog 62 #[.agg cs.toArray,.agg ds.toArray,.string at_] w fun e w'=>WQ (agy (fun x y=>rec y x) 4 at_ dw je labels kids) w e w':=by
 obtain⟨iy,iw,rfl,dh,dn⟩:=Ty.open_ h;obtain⟨jy,jc,jl,rfl⟩:=dh.form;have pz:=zqd dh;clear dh;obtain⟨l9,iq,ku,rfl⟩:=dn.form;have pq:=zqd dn;clear dn;obtain⟨oh,tq,rfl,ig,jh⟩:=Ty.open_ k;obtain⟨lg,jg,jm,rfl⟩:=ig.form;have qy:=zqd ig;clear ig;obtain⟨mg,jd,jr,rfl⟩:=jh.form;have xu:=zqd jh;clear jh;clear h k;have aes:=zqd (qg hx);have aeu:=zqd (qg hy);have SX:=zqd (shF hx.2);have SY:=zqd (shF hy.2);clear hx hy;have abl:=zqd hrec;clear hrec;obtain⟨R,hR⟩:∃ R:Why,R=agy (fun x y=>rec y x) 4 at_ dw je labels kids:=⟨_,rfl⟩;rw[← hR];have HR:=zqd hR;clear hR;obtain⟨_,_,_,he,agm,ajc,ajp⟩:=bf jo (by decide) pz.out;injection he with e1 e2 e3
 subst e1 e2 e3;unfold maxLen at ajc;have aem:=zqd agm;clear agm;obtain⟨_,_,_,he,af6,ail,al2⟩:=bf jo (by decide) qy.out;injection he with e1 e2 e3
 subst e1 e2 e3;unfold maxLen at ail;have af7:=zqd af6;clear af6;obtain⟨_,_,_,he,aa3,ac7,ab6⟩:=bf Ty.ay (by decide) pq.out;injection he with e1 e2 e3
 subst e1 e2 e3;unfold maxLen at ac7;have zo:=zqd aa3;clear aa3;obtain⟨_,_,_,he,aao,ab9,abk⟩:=bf Ty.ay (by decide) xu.out;injection he with e1 e2 e3
 subst e1 e2 e3;unfold maxLen at ab9;have zf:=zqd aao;clear aao;have hlx:iq=jc:=by have:=afz (.inl rfl) SX.out.right;have:=zo.out;have:=aem.out;omega
 have hly:jd=jg:=by have:=afz (.inl rfl) SY.out.right;have:=zf.out;have:=af7.out;omega
 have HLX:=zqd hlx;have HLY:=zqd hly;clear hlx hly;have SI:=zqd (SY.out.asy (by decide));have h16:jg≤16:=by have:=SI.out.1;have:=af7.out;omega
 obtain⟨w0,hw0,bA,bC,bR,hB0,hs0⟩:=aex w 39 #[.int .i64 16,.string name,.slice jy jc jl,.slice l9 iq ku] #[.int .i64 16,.string cu,.slice lg jg jm,.slice mg jd jr];have HW0:=zqd hw0;clear hw0;have HF0:Hid (R=ab3 (agx (fun x y=>rec y x) 4 at_ dw je labels kids) jg):=by show _=_;rw[HR.out,agy,← af7.out]
 go_enter Tryz.func62,Tryz.ntmps62
 go_wp2_with fail
 rw[← HW0.out];clear HW0;go_loopw [8] (fun i wr=>∃ k:Nat,k≤jg∧i=.int .i64 k∧Hid (ab3 (agx (fun x y=>rec y x) 4 at_ dw je labels kids) k=none)∧Below w0.heap.size w0 wr) (fun i _=>jg - (intOf i).toNat)
 case atStart=>exact⟨0,Nat.zero_le _,rfl,zqd rfl,zqf _ _⟩
 case round=>
  obtain⟨k,hk,rfl,HP,hbr⟩:=hrel;have hBr:=hB0.trans (hbr.mono (by omega));have hsr:=hbr.size;have bRr:=bR.step hbr;have bAr:=bA.step hbr;have bCr:=bC.step hbr;clear bA bC bR;have i2:wr.cell? ⟨w.heap.size+1,2,none⟩=some (.slice lg jg jm):=bCr.cell 2;have o2:wr.cell? ⟨w.heap.size,2,none⟩=some (.slice jy jc jl):=bAr.cell 2;by_cases hlt:k < jg
  case neg=>
   have hkn:k=jg:=by omega
   subst hkn;have HF:Hid (R=none):=by show _=_;rw[HF0.out,HP.out]
   obtain⟨r0,r1,f0,f1⟩:=zr bRr;go_wp2_with fail
   obtain⟨n0,n1,nB⟩:=acw bRr hBr (by omega) (0) (⟨#[]⟩);exact bodyPost_ret (v:=.tuple #[.agg #[.int .i64 0,.string {data:=#[]}],.bool false]) (by simp[results,Tryz.results62,go_sem,n0,n1]) rfl ⟨zl (by rw[HF.out];rfl) (by rw[HF.out];rfl) (by rw[HF.out];rfl),nB⟩
  have azq:(k:Int) < (jg:Int):=by omega
  have hk0:(0:Int)≤(k:Int):=by omega
  obtain⟨gl,ad9,rfl,bv9,ax7⟩:=al2 (by omega);obtain⟨l,akf,aje⟩:=uo af7.out hlt;have cl:wr.cell? ⟨gl,ad9+k,none⟩=some (.string l):=ng hBr (by omega) (by have:=ax7 k 0 _ _ akf rfl;simpa using this);have amk:=zqd akf;have ata:=zqd aje;clear akf aje;have l_l:l.size≤12:=SI.out.2 l ata.out;have anj:(9223372036854775807 < at_.size+(⟨#[46]⟩:ByteArray).size)=False:=eq_false (by have z_:(⟨#[46]⟩:ByteArray).size=1:=rfl;omega);have ank:(9223372036854775807 < at_.size+1)=False:=eq_false (by omega);obtain⟨p1,aev⟩:∃ p,at_ ++(⟨#[46]⟩:ByteArray)=p:=⟨_,rfl⟩;have anl:p1.size≤at_.size+1:=by rw[← aev,ByteArray.size_append];have z_:(⟨#[46]⟩:ByteArray).size=1:=rfl;omega
  have as8:(9223372036854775807 < p1.size+l.size)=False:=eq_false (by omega);obtain⟨p2,ahe⟩:∃ p,p1 ++l=p:=⟨_,rfl⟩;have as9:p2.size≤at_.size+13:=by rw[← ahe,ByteArray.size_append];omega
  have HP2:Hid (alo at_ l=p2):=by show _=_;rw[← ahe,← aev];rfl
  have LB:=zqd (fun(V:World) (hV:Keep (w.heap.size+1+1) (w.heap.size+1+1+1) wr V)=>ahf (t:=l) (pz.out.below ((hBr.trans (kb hV (by omega))).mono hB)));have ge:=ark (t:=l) (ls:=labels);obtain⟨ix,hix⟩:∃ i,aav (strEq l) labels=i:=⟨_,rfl⟩;rw[hix] at LB ge;have GE:=zqd ge;have HIX:=zqd hix;have hlo:=aou (strEq l) labels;rw[hix] at hlo;clear hix ge;have HS:Hid (∀ V,Keep (w.heap.size+1+1) (w.heap.size+1+1+1) wr V→V.cell? ⟨w.heap.size+1,2,none⟩=some (.slice (some ⟨gl,ad9,none⟩) jg jm)∧V.cell? ⟨w.heap.size,2,none⟩=some (.slice jy jc jl)∧V.cell? ⟨gl,ad9+k,none⟩=some (.string l)):=zqd fun V hV=>⟨(hV.cell (p:=⟨w.heap.size+1,2,none⟩) (by simp only;omega) (by simp only;omega)).trans i2,(hV.cell (p:=⟨w.heap.size,2,none⟩) (by simp only;omega) (by simp only;omega)).trans o2,(hV.cell (p:=⟨gl,ad9+k,none⟩) (by simp only;omega) (by simp only;omega)).trans cl⟩;go_wp2_with fail
  go_region_held3 (fun w'=>w'.cell? ⟨w.heap.size+1,2,none⟩=some (.slice (some ⟨gl,ad9,none⟩) jg jm)∧w'.cell? ⟨w.heap.size,2,none⟩=some (.slice jy jc jl)∧w'.cell? ⟨gl,ad9+k,none⟩=some (.string l))
   (first|exact HS.out _ (by repeat(first|exact hq1|exact hq2|exact Keep.refl _ _ _|refine Keep.drew ?_|refine Keep.alloc ?_ _|refine Keep.setAt ?_ _ _|refine Keep.newAt ?_ (zql _) _ _|refine Keep.newAt ?_ aau.size _ _|refine Keep.newAt ?_ hbW.size _ _)))
   (first|(go_at_call 39;refine(LB.out _ (by repeat(first|exact hq1|exact hq2|exact Keep.refl _ _ _|refine Keep.drew ?_|refine Keep.alloc ?_ _|refine Keep.setAt ?_ _ _|refine Keep.newAt ?_ (zql _) _ _|refine Keep.newAt ?_ aau.size _ _|refine Keep.newAt ?_ hbW.size _ _))).mono ?_;rintro e wl ⟨rfl,hwl⟩;subst hwl))
  obtain⟨w1,hw1⟩:∃ V,V=wr.drew:=⟨_,rfl⟩;rw[← hw1];have hb1:Below wr.heap.size wr w1:=by rw[hw1];exact(zqf _ _).drew
  clear hw1 HS i2 o2 LB;have hB1:=hBr.trans (hb1.mono (by omega));have aat:=hbr.trans (hb1.mono hsr);have hs1:=hb1.size;have bA1:=bAr.step hb1;have bC1:=bCr.step hb1;have bR1:=bRr.step hb1;have cl1:w1.cell? ⟨gl,ad9+k,none⟩=some (.string l):=zqk hb1 cl;clear cl bAr bCr bRr;have i2:w1.cell? ⟨w.heap.size+1,2,none⟩=some (.slice (some ⟨gl,ad9,none⟩) jg jm):=bC1.cell 2;by_cases hneg:ix < 0
  case pos=>
   have HF:Hid (R=some (4,p2)):=by show _=_;rw[HF0.out,← HP2.out];exact agj HP.out (akr amk.out (by rw[HIX.out];exact hneg)) _ hlt
   go_wp2_with fail
   refine(ag4 4 p2 _).mono ?_;rintro e wz ⟨rfl,hbz⟩;have hBz:=hB1.trans (hbz.mono (by omega));have bRz:=bR1.step hbz;have hsz:=hbz.size;obtain⟨r0,r1,f0,f1⟩:=zr bRz;go_wp2_with fail
   obtain⟨n0,n1,nB⟩:=acw bRz hBz (by omega) (4) (p2);exact bodyPost_ret (v:=.tuple #[.agg #[.int .i64 4,.string p2],.bool true]) (by simp[results,Tryz.results62,go_sem,n0,n1]) rfl ⟨zl (by rw[HF.out];rfl) (by rw[HF.out];rfl) (by rw[HF.out];rfl),nB⟩
  obtain⟨j,hj,hjl⟩:=GE.out (by omega);have azr:j < iq:=by have:=aem.out;have:=HLX.out;have:=HLY.out;omega
  subst hj;have hjI:(j:Int) < (iq:Int):=by omega
  have hj0:(0:Int)≤(j:Int):=by omega
  have hltk:k < jd:=by have:=HLX.out;have:=HLY.out;omega
  have boq:(k:Int) < (jd:Int):=by omega
  have a3:w1.cell? ⟨w.heap.size,3,none⟩=some (.slice l9 iq ku):=bA1.cell 3;have z3:w1.cell? ⟨w.heap.size+1,3,none⟩=some (.slice mg jd jr):=bC1.cell 3;obtain⟨g,off,rfl,ac9,abe⟩:=ab6 (by omega);obtain⟨x,ac3,ab4⟩:=uo zo.out azr;obtain⟨eu,gq,lq,oq⟩:=x;obtain⟨uh,y8,acd,acf,aa9,ach,qo,x9⟩:=acs (k:=j) (a0:=off+j * 4) (a1:=off+j * 4+1) (a2:=off+j * 4+2) (a3:=off+j * 4+3) (hB1.mono (zql _)) ac9 hB abe ac3 ⟨rfl,rfl,rfl,rfl⟩;replace qo:=zqd qo;replace x9:=zqd x9;have ags:=zqd ac3;have ahc:=zqd ab4;clear ac3 ab4;obtain⟨g2,off2,rfl,aco,aaw⟩:=abk (by omega);obtain⟨y,ac4,ab5⟩:=uo zf.out hltk;obtain⟨jv,jw,qc,um⟩:=y;obtain⟨uj,y9,ace,acg,abb,aci,qp,yc⟩:=acs (k:=k) (a0:=off2+k * 4) (a1:=off2+k * 4+1) (a2:=off2+k * 4+2) (a3:=off2+k * 4+3) (hB1.mono (zql _)) aco hB aaw ac4 ⟨rfl,rfl,rfl,rfl⟩;replace qp:=zqd qp;replace yc:=zqd yc;have agt:=zqd ac4;have ahd:=zqd ab5;clear ac4 ab5;obtain⟨R2,hR2⟩:∃ r,rec ⟨eu,gq,lq,oq⟩ ⟨jv,jw,qc,um⟩ p2=r:=⟨_,rfl⟩;have HC:=fun(V:World) (hV:Keep (w.heap.size+1+1) (w.heap.size+1+1+1) w1 V)=>abl.out ⟨eu,gq,lq,oq⟩ ⟨jv,jw,qc,um⟩ p2 B [.int .i64 eu,.string gq,uh,y8] [.int .i64 jv,.string jw,uj,y9] V (Nat.le_trans (Nat.le_trans hB hB1.size) hV.size) (hT.below (hB1.trans (kb hV (by omega)))) (aes.out _ ahc.out) (aeu.out _ ahd.out) (by omega) ((Ty.close_ qo.out x9.out).below (kb hV (by omega))) ((Ty.close_ qp.out yc.out).below (kb hV (by omega)));unfold WQ at HC;rw[hR2] at HC;obtain⟨RK,RS,RN,HRK,HRS,HRN⟩:=aha R2;rw[HRK.out,HRS.out,HRN.out] at HC;replace HC:=zqd HC;have HR2:=zqd hR2;clear hR2;have HK2:Hid (agx (fun x y=>rec y x) 4 at_ dw je labels kids k=R2):=by show _=_;rw[ana amk.out HIX.out agt.out ags.out,HP2.out,← HR2.out]
  have HS:Hid (∀ V,Keep (w.heap.size+1+1) (w.heap.size+1+1+1) w1 V→V.cell? ⟨w.heap.size,3,none⟩=some (.slice (some ⟨g,off,none⟩) iq ku)∧V.cell? ⟨w.heap.size+1,3,none⟩=some (.slice (some ⟨g2,off2,none⟩) jd jr)∧V.cell? ⟨w.heap.size+1,2,none⟩=some (.slice (some ⟨gl,ad9,none⟩) jg jm)∧V.cell? ⟨gl,ad9+k,none⟩=some (.string l)∧V.cell? ⟨g,off+j * 4,none⟩=some (.int .i64 eu)∧V.cell? ⟨g,off+j * 4+1,none⟩=some (.string gq)∧V.cell? ⟨g,off+j * 4+2,none⟩=some (uh)∧V.cell? ⟨g,off+j * 4+3,none⟩=some (y8)∧V.cell? ⟨g2,off2+k * 4,none⟩=some (.int .i64 jv)∧V.cell? ⟨g2,off2+k * 4+1,none⟩=some (.string jw)∧V.cell? ⟨g2,off2+k * 4+2,none⟩=some (uj)∧V.cell? ⟨g2,off2+k * 4+3,none⟩=some (y9)):=zqd fun V hV=>⟨(hV.cell (p:=⟨w.heap.size,3,none⟩) (by simp only;omega) (by simp only;omega)).trans a3,(hV.cell (p:=⟨w.heap.size+1,3,none⟩) (by simp only;omega) (by simp only;omega)).trans z3,(hV.cell (p:=⟨w.heap.size+1,2,none⟩) (by simp only;omega) (by simp only;omega)).trans i2,(hV.cell (p:=⟨gl,ad9+k,none⟩) (by simp only;omega) (by simp only;omega)).trans cl1,(hV.cell (p:=⟨g,off+j * 4,none⟩) (by simp only;omega) (by simp only;omega)).trans acd,(hV.cell (p:=⟨g,off+j * 4+1,none⟩) (by simp only;omega) (by simp only;omega)).trans acf,(hV.cell (p:=⟨g,off+j * 4+2,none⟩) (by simp only;omega) (by simp only;omega)).trans aa9,(hV.cell (p:=⟨g,off+j * 4+3,none⟩) (by simp only;omega) (by simp only;omega)).trans ach,(hV.cell (p:=⟨g2,off2+k * 4,none⟩) (by simp only;omega) (by simp only;omega)).trans ace,(hV.cell (p:=⟨g2,off2+k * 4+1,none⟩) (by simp only;omega) (by simp only;omega)).trans acg,(hV.cell (p:=⟨g2,off2+k * 4+2,none⟩) (by simp only;omega) (by simp only;omega)).trans abb,(hV.cell (p:=⟨g2,off2+k * 4+3,none⟩) (by simp only;omega) (by simp only;omega)).trans aci⟩;clear bA1 bC1;go_wp2_with fail
  go_region_held3 (fun w'=>w'.cell? ⟨w.heap.size,3,none⟩=some (.slice (some ⟨g,off,none⟩) iq ku)∧w'.cell? ⟨w.heap.size+1,3,none⟩=some (.slice (some ⟨g2,off2,none⟩) jd jr)∧w'.cell? ⟨w.heap.size+1,2,none⟩=some (.slice (some ⟨gl,ad9,none⟩) jg jm)∧w'.cell? ⟨gl,ad9+k,none⟩=some (.string l)∧w'.cell? ⟨g,off+j * 4,none⟩=some (.int .i64 eu)∧w'.cell? ⟨g,off+j * 4+1,none⟩=some (.string gq)∧w'.cell? ⟨g,off+j * 4+2,none⟩=some (uh)∧w'.cell? ⟨g,off+j * 4+3,none⟩=some (y8)∧w'.cell? ⟨g2,off2+k * 4,none⟩=some (.int .i64 jv)∧w'.cell? ⟨g2,off2+k * 4+1,none⟩=some (.string jw)∧w'.cell? ⟨g2,off2+k * 4+2,none⟩=some (uj)∧w'.cell? ⟨g2,off2+k * 4+3,none⟩=some (y9))
   (first|exact HS.out _ (by repeat(first|exact hq1|exact hq2|exact Keep.refl _ _ _|refine Keep.drew ?_|refine Keep.alloc ?_ _|refine Keep.setAt ?_ _ _|refine Keep.newAt ?_ (zql _) _ _|refine Keep.newAt ?_ aau.size _ _|refine Keep.newAt ?_ hbW.size _ _)))
   (first|(go_at_call 38;refine(HC.out _ (by repeat(first|exact hq1|exact hq2|exact Keep.refl _ _ _|refine Keep.drew ?_|refine Keep.alloc ?_ _|refine Keep.setAt ?_ _ _|refine Keep.newAt ?_ (zql _) _ _|refine Keep.newAt ?_ aau.size _ _|refine Keep.newAt ?_ hbW.size _ _))).mono ?_;rintro e wq ⟨rfl,hbq⟩;have hbW:Below w1.heap.size w1 wq:=(by first|exact(zqf _ _).drew.trans hbq|exact((zqf _ _).drew.alloc (zql _) _).trans (hbq.mono (by simp)));have hq2:Keep (w.heap.size+1+1) (w.heap.size+1+1+1) w1 wq:=Keep.of_below hbW;(first|(have bP:Blk wq w1.heap.size 61 #[.int .i64 0,.string {data:=#[]}]:=(Blk.new w1.drew _ _).step hbq;have p0:wq.cell? ⟨w1.heap.size,0,none⟩=some (.int .i64 0):=bP.cell 0;have p1:wq.cell? ⟨w1.heap.size,1,none⟩=some (.string {data:=#[]}):=bP.cell 1;have g0:wq.frozen? ⟨w1.heap.size,0,none⟩=false:=bP.frozen 0;have g1:wq.frozen? ⟨w1.heap.size,1,none⟩=false:=bP.frozen 1)|skip)))
  all_goals
   first
    | (obtain⟨w6,hw6⟩:=zqe wq 61 #[.int .i64 RK,.string RS];rw[← hw6];have bX:Blk w6 wq.heap.size 61 #[.int .i64 RK,.string RS]:=(by rw[hw6];exact Blk.new wq _ _);have hb6:Below w1.heap.size w1 w6:=(by rw[hw6];exact hbW.alloc hbW.size _);obtain⟨rx,hrx⟩:∃ r,r=wq.heap.size:=⟨_,rfl⟩;have ake:w1.heap.size≤rx:=(by rw[hrx];exact hbW.size);rw[← hrx] at bX ⊢;clear hw6 hrx)
    | (obtain⟨w6,hw6⟩:∃ V,V=(wq.setCell ⟨w1.heap.size,0,none⟩ (.int .i64 RK)).setCell ⟨w1.heap.size,1,none⟩ (.string RS):=⟨_,rfl⟩;rw[← hw6];have bX:Blk w6 (w1.heap.size) 61 #[.int .i64 RK,.string RS]:=(by rw[hw6];have:=(bP.l7 0 (.int .i64 RK)).l7 1 (.string RS);simpa using this);have hb6:Below w1.heap.size w1 w6:=(by rw[hw6];exact(hbW.setCell (p:=⟨w1.heap.size,0,none⟩) (by first|exact zql _|exact aau.size|exact hbW.size) _).setCell (p:=⟨w1.heap.size,1,none⟩) (by first|exact zql _|exact aau.size|exact hbW.size) _);obtain⟨rx,hrx⟩:∃ r,r=w1.heap.size:=⟨_,rfl⟩;have ake:w1.heap.size≤rx:=(by rw[hrx];first|exact zql _|exact hbW.size|exact aau.size);rw[← hrx] at bX ⊢;clear hw6 hrx)
   have hB6:=hB1.trans (hb6.mono (by omega));have bR6:=bR1.step hb6;have hs6:=hb6.size;cases RN
   case false=>
    have HQ:Hid (ab3 (agx (fun x y=>rec y x) 4 at_ dw je labels kids) (k+1)=none):=by show _=_;exact ahr HP.out (by rw[HK2.out];exact aj7 HRN.out)
    go_wp2_with fail
    go_roundw
    case rel=>exact⟨k+1,by omega,by go_num,HQ,aat.trans (hb6.mono (by omega))⟩
    case measure=>simp[intOf];omega
   case true=>
    have HF:Hid (R=some (RK,RS)):=by show _=_;rw[HF0.out,← HRK.out,← HRS.out];exact agj HP.out (by rw[HK2.out];exact aj8 HRN.out) _ hlt
    obtain⟨q0,q1⟩:=rq bX;obtain⟨r0,r1,f0,f1⟩:=zr bR6;go_wp2_with fail
    obtain⟨n0,n1,nB⟩:=acw bR6 hB6 (by omega) (RK) (RS);exact bodyPost_ret (v:=.tuple #[.agg #[.int .i64 RK,.string RS],.bool true]) (by simp[results,Tryz.results62,go_sem,n0,n1]) rfl ⟨zl (by rw[HF.out];rfl) (by rw[HF.out];rfl) (by rw[HF.out];rfl),nB⟩
set_option maxHeartbeats 12800000 in
theorem au2 {rec:Ty→Ty→ByteArray→Why} {n M:Nat} (hM:M≤1000000) (hrec:afb 38 rec n M) {name cu at_:ByteArray} {labels dw:List ByteArray} {kids je:List Ty} (hat:at_.size+32≤M) {B:Nat} {cs ds:List Value} {w:World} (hB:B≤w.heap.size) (hT:ad2 w) (hx:OkT (n+1) ⟨17,name,labels,kids⟩) (hy:OkT (n+1) ⟨17,cu,dw,je⟩) (h:jq w B (Ty.pd ⟨17,name,labels,kids⟩) cs) (k:jq w B (Ty.pd ⟨17,cu,dw,je⟩) ds):
  Calls Tryz.prog 63 #[.agg cs.toArray,.agg ds.toArray,.string at_] w fun e w'=>WQ (agy rec 5 at_ labels kids dw je) w e w':=by
 obtain⟨iy,iw,rfl,dh,dn⟩:=Ty.open_ h;obtain⟨jy,jc,jl,rfl⟩:=dh.form;have pz:=zqd dh;clear dh;obtain⟨l9,iq,ku,rfl⟩:=dn.form;have pq:=zqd dn;clear dn;obtain⟨oh,tq,rfl,ig,jh⟩:=Ty.open_ k;obtain⟨lg,jg,jm,rfl⟩:=ig.form;have qy:=zqd ig;clear ig;obtain⟨mg,jd,jr,rfl⟩:=jh.form;have xu:=zqd jh;clear jh;clear h k;have aes:=zqd (qg hx);have aeu:=zqd (qg hy);have SX:=zqd (shF hx.2);have SY:=zqd (shF hy.2);clear hx hy;have abl:=zqd hrec;clear hrec;obtain⟨R,hR⟩:∃ R:Why,R=agy rec 5 at_ labels kids dw je:=⟨_,rfl⟩;rw[← hR];have HR:=zqd hR;clear hR;obtain⟨_,_,_,he,agm,ajc,ajp⟩:=bf jo (by decide) pz.out;injection he with e1 e2 e3
 subst e1 e2 e3;unfold maxLen at ajc;have aem:=zqd agm;clear agm;obtain⟨_,_,_,he,af6,ail,al2⟩:=bf jo (by decide) qy.out;injection he with e1 e2 e3
 subst e1 e2 e3;unfold maxLen at ail;have af7:=zqd af6;clear af6;obtain⟨_,_,_,he,aa3,ac7,ab6⟩:=bf Ty.ay (by decide) pq.out;injection he with e1 e2 e3
 subst e1 e2 e3;unfold maxLen at ac7;have zo:=zqd aa3;clear aa3;obtain⟨_,_,_,he,aao,ab9,abk⟩:=bf Ty.ay (by decide) xu.out;injection he with e1 e2 e3
 subst e1 e2 e3;unfold maxLen at ab9;have zf:=zqd aao;clear aao;have hlx:iq=jc:=by have:=afz (.inr rfl) SX.out.right;have:=zo.out;have:=aem.out;omega
 have hly:jd=jg:=by have:=afz (.inr rfl) SY.out.right;have:=zf.out;have:=af7.out;omega
 have HLX:=zqd hlx;have HLY:=zqd hly;clear hlx hly;have SI:=zqd (SX.out.asy (by decide));have h16:jc≤16:=by have:=SI.out.1;have:=aem.out;omega
 obtain⟨w0,hw0,bA,bC,bR,hB0,hs0⟩:=aex w 39 #[.int .i64 17,.string name,.slice jy jc jl,.slice l9 iq ku] #[.int .i64 17,.string cu,.slice lg jg jm,.slice mg jd jr];have HW0:=zqd hw0;clear hw0;have HF0:Hid (R=ab3 (agx rec 5 at_ labels kids dw je) jc):=by show _=_;rw[HR.out,agy,← aem.out]
 go_enter Tryz.func63,Tryz.ntmps63
 go_wp2_with fail
 rw[← HW0.out];clear HW0;go_loopw [8] (fun i wr=>∃ k:Nat,k≤jc∧i=.int .i64 k∧Hid (ab3 (agx rec 5 at_ labels kids dw je) k=none)∧Below w0.heap.size w0 wr) (fun i _=>jc - (intOf i).toNat)
 case atStart=>exact⟨0,Nat.zero_le _,rfl,zqd rfl,zqf _ _⟩
 case round=>
  obtain⟨k,hk,rfl,HP,hbr⟩:=hrel;have hBr:=hB0.trans (hbr.mono (by omega));have hsr:=hbr.size;have bRr:=bR.step hbr;have bAr:=bA.step hbr;have bCr:=bC.step hbr;clear bA bC bR;have i2:wr.cell? ⟨w.heap.size,2,none⟩=some (.slice jy jc jl):=bAr.cell 2;have o2:wr.cell? ⟨w.heap.size+1,2,none⟩=some (.slice lg jg jm):=bCr.cell 2;by_cases hlt:k < jc
  case neg=>
   have hkn:k=jc:=by omega
   subst hkn;have HF:Hid (R=none):=by show _=_;rw[HF0.out,HP.out]
   obtain⟨r0,r1,f0,f1⟩:=zr bRr;go_wp2_with fail
   obtain⟨n0,n1,nB⟩:=acw bRr hBr (by omega) (0) (⟨#[]⟩);exact bodyPost_ret (v:=.tuple #[.agg #[.int .i64 0,.string {data:=#[]}],.bool false]) (by simp[results,Tryz.results63,go_sem,n0,n1]) rfl ⟨zl (by rw[HF.out];rfl) (by rw[HF.out];rfl) (by rw[HF.out];rfl),nB⟩
  have azq:(k:Int) < (jc:Int):=by omega
  have hk0:(0:Int)≤(k:Int):=by omega
  obtain⟨gl,ad9,rfl,aw9,ajd⟩:=ajp (by omega);obtain⟨l,akf,aje⟩:=uo aem.out hlt;have cl:wr.cell? ⟨gl,ad9+k,none⟩=some (.string l):=ng hBr (by omega) (by have:=ajd k 0 _ _ akf rfl;simpa using this);have amk:=zqd akf;have ata:=zqd aje;clear akf aje;have l_l:l.size≤12:=SI.out.2 l ata.out;have anj:(9223372036854775807 < at_.size+(⟨#[46]⟩:ByteArray).size)=False:=eq_false (by have z_:(⟨#[46]⟩:ByteArray).size=1:=rfl;omega);have ank:(9223372036854775807 < at_.size+1)=False:=eq_false (by omega);obtain⟨p1,aev⟩:∃ p,at_ ++(⟨#[46]⟩:ByteArray)=p:=⟨_,rfl⟩;have anl:p1.size≤at_.size+1:=by rw[← aev,ByteArray.size_append];have z_:(⟨#[46]⟩:ByteArray).size=1:=rfl;omega
  have as8:(9223372036854775807 < p1.size+l.size)=False:=eq_false (by omega);obtain⟨p2,ahe⟩:∃ p,p1 ++l=p:=⟨_,rfl⟩;have as9:p2.size≤at_.size+13:=by rw[← ahe,ByteArray.size_append];omega
  have HP2:Hid (alo at_ l=p2):=by show _=_;rw[← ahe,← aev];rfl
  have LB:=zqd (fun(V:World) (hV:Keep (w.heap.size+1+1) (w.heap.size+1+1+1) wr V)=>ahf (t:=l) (qy.out.below ((hBr.trans (kb hV (by omega))).mono hB)));have ge:=ark (t:=l) (ls:=dw);obtain⟨ix,hix⟩:∃ i,aav (strEq l) dw=i:=⟨_,rfl⟩;rw[hix] at LB ge;have GE:=zqd ge;have HIX:=zqd hix;have hlo:=aou (strEq l) dw;rw[hix] at hlo;clear hix ge;have HS:Hid (∀ V,Keep (w.heap.size+1+1) (w.heap.size+1+1+1) wr V→V.cell? ⟨w.heap.size,2,none⟩=some (.slice (some ⟨gl,ad9,none⟩) jc jl)∧V.cell? ⟨w.heap.size+1,2,none⟩=some (.slice lg jg jm)∧V.cell? ⟨gl,ad9+k,none⟩=some (.string l)):=zqd fun V hV=>⟨(hV.cell (p:=⟨w.heap.size,2,none⟩) (by simp only;omega) (by simp only;omega)).trans i2,(hV.cell (p:=⟨w.heap.size+1,2,none⟩) (by simp only;omega) (by simp only;omega)).trans o2,(hV.cell (p:=⟨gl,ad9+k,none⟩) (by simp only;omega) (by simp only;omega)).trans cl⟩;go_wp2_with fail
  go_region_held3 (fun w'=>w'.cell? ⟨w.heap.size,2,none⟩=some (.slice (some ⟨gl,ad9,none⟩) jc jl)∧w'.cell? ⟨w.heap.size+1,2,none⟩=some (.slice lg jg jm)∧w'.cell? ⟨gl,ad9+k,none⟩=some (.string l))
   (first|exact HS.out _ (by repeat(first|exact hq1|exact hq2|exact Keep.refl _ _ _|refine Keep.drew ?_|refine Keep.alloc ?_ _|refine Keep.setAt ?_ _ _|refine Keep.newAt ?_ (zql _) _ _|refine Keep.newAt ?_ aau.size _ _|refine Keep.newAt ?_ hbW.size _ _)))
   (first|(go_at_call 39;refine(LB.out _ (by repeat(first|exact hq1|exact hq2|exact Keep.refl _ _ _|refine Keep.drew ?_|refine Keep.alloc ?_ _|refine Keep.setAt ?_ _ _|refine Keep.newAt ?_ (zql _) _ _|refine Keep.newAt ?_ aau.size _ _|refine Keep.newAt ?_ hbW.size _ _))).mono ?_;rintro e wl ⟨rfl,hwl⟩;subst hwl))
  obtain⟨w1,hw1⟩:∃ V,V=wr.drew:=⟨_,rfl⟩;rw[← hw1];have hb1:Below wr.heap.size wr w1:=by rw[hw1];exact(zqf _ _).drew
  clear hw1 HS i2 o2 LB;have hB1:=hBr.trans (hb1.mono (by omega));have aat:=hbr.trans (hb1.mono hsr);have hs1:=hb1.size;have bA1:=bAr.step hb1;have bC1:=bCr.step hb1;have bR1:=bRr.step hb1;have cl1:w1.cell? ⟨gl,ad9+k,none⟩=some (.string l):=zqk hb1 cl;clear cl bAr bCr bRr;have i2:w1.cell? ⟨w.heap.size,2,none⟩=some (.slice (some ⟨gl,ad9,none⟩) jc jl):=bA1.cell 2;by_cases hneg:ix < 0
  case pos=>
   have HF:Hid (R=some (5,p2)):=by show _=_;rw[HF0.out,← HP2.out];exact agj HP.out (akr amk.out (by rw[HIX.out];exact hneg)) _ hlt
   go_wp2_with fail
   refine(ag4 5 p2 _).mono ?_;rintro e wz ⟨rfl,hbz⟩;have hBz:=hB1.trans (hbz.mono (by omega));have bRz:=bR1.step hbz;have hsz:=hbz.size;obtain⟨r0,r1,f0,f1⟩:=zr bRz;go_wp2_with fail
   obtain⟨n0,n1,nB⟩:=acw bRz hBz (by omega) (5) (p2);exact bodyPost_ret (v:=.tuple #[.agg #[.int .i64 5,.string p2],.bool true]) (by simp[results,Tryz.results63,go_sem,n0,n1]) rfl ⟨zl (by rw[HF.out];rfl) (by rw[HF.out];rfl) (by rw[HF.out];rfl),nB⟩
  obtain⟨j,hj,hjl⟩:=GE.out (by omega);have azr:j < jd:=by have:=af7.out;have:=HLX.out;have:=HLY.out;omega
  subst hj;have hjI:(j:Int) < (jd:Int):=by omega
  have hj0:(0:Int)≤(j:Int):=by omega
  have hltk:k < iq:=by have:=HLX.out;have:=HLY.out;omega
  have boq:(k:Int) < (iq:Int):=by omega
  have a3:w1.cell? ⟨w.heap.size,3,none⟩=some (.slice l9 iq ku):=bA1.cell 3;have z3:w1.cell? ⟨w.heap.size+1,3,none⟩=some (.slice mg jd jr):=bC1.cell 3;obtain⟨g,off,rfl,ac9,abe⟩:=ab6 (by omega);obtain⟨x,ac3,ab4⟩:=uo zo.out hltk;obtain⟨eu,gq,lq,oq⟩:=x;obtain⟨uh,y8,acd,acf,aa9,ach,qo,x9⟩:=acs (k:=k) (a0:=off+k * 4) (a1:=off+k * 4+1) (a2:=off+k * 4+2) (a3:=off+k * 4+3) (hB1.mono (zql _)) ac9 hB abe ac3 ⟨rfl,rfl,rfl,rfl⟩;replace qo:=zqd qo;replace x9:=zqd x9;have ags:=zqd ac3;have ahc:=zqd ab4;clear ac3 ab4;obtain⟨g2,off2,rfl,aco,aaw⟩:=abk (by omega);obtain⟨y,ac4,ab5⟩:=uo zf.out azr;obtain⟨jv,jw,qc,um⟩:=y;obtain⟨uj,y9,ace,acg,abb,aci,qp,yc⟩:=acs (k:=j) (a0:=off2+j * 4) (a1:=off2+j * 4+1) (a2:=off2+j * 4+2) (a3:=off2+j * 4+3) (hB1.mono (zql _)) aco hB aaw ac4 ⟨rfl,rfl,rfl,rfl⟩;replace qp:=zqd qp;replace yc:=zqd yc;have agt:=zqd ac4;have ahd:=zqd ab5;clear ac4 ab5;obtain⟨R2,hR2⟩:∃ r,rec ⟨eu,gq,lq,oq⟩ ⟨jv,jw,qc,um⟩ p2=r:=⟨_,rfl⟩;have HC:=fun(V:World) (hV:Keep (w.heap.size+1+1) (w.heap.size+1+1+1) w1 V)=>abl.out ⟨eu,gq,lq,oq⟩ ⟨jv,jw,qc,um⟩ p2 B [.int .i64 eu,.string gq,uh,y8] [.int .i64 jv,.string jw,uj,y9] V (Nat.le_trans (Nat.le_trans hB hB1.size) hV.size) (hT.below (hB1.trans (kb hV (by omega)))) (aes.out _ ahc.out) (aeu.out _ ahd.out) (by omega) ((Ty.close_ qo.out x9.out).below (kb hV (by omega))) ((Ty.close_ qp.out yc.out).below (kb hV (by omega)));unfold WQ at HC;rw[hR2] at HC;obtain⟨RK,RS,RN,HRK,HRS,HRN⟩:=aha R2;rw[HRK.out,HRS.out,HRN.out] at HC;replace HC:=zqd HC;have HR2:=zqd hR2;clear hR2;have HK2:Hid (agx rec 5 at_ labels kids dw je k=R2):=by show _=_;rw[ana amk.out HIX.out ags.out agt.out,HP2.out,← HR2.out]
  have HS:Hid (∀ V,Keep (w.heap.size+1+1) (w.heap.size+1+1+1) w1 V→V.cell? ⟨w.heap.size,3,none⟩=some (.slice (some ⟨g,off,none⟩) iq ku)∧V.cell? ⟨w.heap.size+1,3,none⟩=some (.slice (some ⟨g2,off2,none⟩) jd jr)∧V.cell? ⟨w.heap.size,2,none⟩=some (.slice (some ⟨gl,ad9,none⟩) jc jl)∧V.cell? ⟨gl,ad9+k,none⟩=some (.string l)∧V.cell? ⟨g,off+k * 4,none⟩=some (.int .i64 eu)∧V.cell? ⟨g,off+k * 4+1,none⟩=some (.string gq)∧V.cell? ⟨g,off+k * 4+2,none⟩=some (uh)∧V.cell? ⟨g,off+k * 4+3,none⟩=some (y8)∧V.cell? ⟨g2,off2+j * 4,none⟩=some (.int .i64 jv)∧V.cell? ⟨g2,off2+j * 4+1,none⟩=some (.string jw)∧V.cell? ⟨g2,off2+j * 4+2,none⟩=some (uj)∧V.cell? ⟨g2,off2+j * 4+3,none⟩=some (y9)):=zqd fun V hV=>⟨(hV.cell (p:=⟨w.heap.size,3,none⟩) (by simp only;omega) (by simp only;omega)).trans a3,(hV.cell (p:=⟨w.heap.size+1,3,none⟩) (by simp only;omega) (by simp only;omega)).trans z3,(hV.cell (p:=⟨w.heap.size,2,none⟩) (by simp only;omega) (by simp only;omega)).trans i2,(hV.cell (p:=⟨gl,ad9+k,none⟩) (by simp only;omega) (by simp only;omega)).trans cl1,(hV.cell (p:=⟨g,off+k * 4,none⟩) (by simp only;omega) (by simp only;omega)).trans acd,(hV.cell (p:=⟨g,off+k * 4+1,none⟩) (by simp only;omega) (by simp only;omega)).trans acf,(hV.cell (p:=⟨g,off+k * 4+2,none⟩) (by simp only;omega) (by simp only;omega)).trans aa9,(hV.cell (p:=⟨g,off+k * 4+3,none⟩) (by simp only;omega) (by simp only;omega)).trans ach,(hV.cell (p:=⟨g2,off2+j * 4,none⟩) (by simp only;omega) (by simp only;omega)).trans ace,(hV.cell (p:=⟨g2,off2+j * 4+1,none⟩) (by simp only;omega) (by simp only;omega)).trans acg,(hV.cell (p:=⟨g2,off2+j * 4+2,none⟩) (by simp only;omega) (by simp only;omega)).trans abb,(hV.cell (p:=⟨g2,off2+j * 4+3,none⟩) (by simp only;omega) (by simp only;omega)).trans aci⟩;clear bA1 bC1;go_wp2_with fail
  go_region_held3 (fun w'=>w'.cell? ⟨w.heap.size,3,none⟩=some (.slice (some ⟨g,off,none⟩) iq ku)∧w'.cell? ⟨w.heap.size+1,3,none⟩=some (.slice (some ⟨g2,off2,none⟩) jd jr)∧w'.cell? ⟨w.heap.size,2,none⟩=some (.slice (some ⟨gl,ad9,none⟩) jc jl)∧w'.cell? ⟨gl,ad9+k,none⟩=some (.string l)∧w'.cell? ⟨g,off+k * 4,none⟩=some (.int .i64 eu)∧w'.cell? ⟨g,off+k * 4+1,none⟩=some (.string gq)∧w'.cell? ⟨g,off+k * 4+2,none⟩=some (uh)∧w'.cell? ⟨g,off+k * 4+3,none⟩=some (y8)∧w'.cell? ⟨g2,off2+j * 4,none⟩=some (.int .i64 jv)∧w'.cell? ⟨g2,off2+j * 4+1,none⟩=some (.string jw)∧w'.cell? ⟨g2,off2+j * 4+2,none⟩=some (uj)∧w'.cell? ⟨g2,off2+j * 4+3,none⟩=some (y9))
   (first|exact HS.out _ (by repeat(first|exact hq1|exact hq2|exact Keep.refl _ _ _|refine Keep.drew ?_|refine Keep.alloc ?_ _|refine Keep.setAt ?_ _ _|refine Keep.newAt ?_ (zql _) _ _|refine Keep.newAt ?_ aau.size _ _|refine Keep.newAt ?_ hbW.size _ _)))
   (first|(go_at_call 38;refine(HC.out _ (by repeat(first|exact hq1|exact hq2|exact Keep.refl _ _ _|refine Keep.drew ?_|refine Keep.alloc ?_ _|refine Keep.setAt ?_ _ _|refine Keep.newAt ?_ (zql _) _ _|refine Keep.newAt ?_ aau.size _ _|refine Keep.newAt ?_ hbW.size _ _))).mono ?_;rintro e wq ⟨rfl,hbq⟩;have hbW:Below w1.heap.size w1 wq:=(by first|exact(zqf _ _).drew.trans hbq|exact((zqf _ _).drew.alloc (zql _) _).trans (hbq.mono (by simp)));have hq2:Keep (w.heap.size+1+1) (w.heap.size+1+1+1) w1 wq:=Keep.of_below hbW;(first|(have bP:Blk wq w1.heap.size 61 #[.int .i64 0,.string {data:=#[]}]:=(Blk.new w1.drew _ _).step hbq;have p0:wq.cell? ⟨w1.heap.size,0,none⟩=some (.int .i64 0):=bP.cell 0;have p1:wq.cell? ⟨w1.heap.size,1,none⟩=some (.string {data:=#[]}):=bP.cell 1;have g0:wq.frozen? ⟨w1.heap.size,0,none⟩=false:=bP.frozen 0;have g1:wq.frozen? ⟨w1.heap.size,1,none⟩=false:=bP.frozen 1)|skip)))
  all_goals
   first
    | (obtain⟨w6,hw6⟩:=zqe wq 61 #[.int .i64 RK,.string RS];rw[← hw6];have bX:Blk w6 wq.heap.size 61 #[.int .i64 RK,.string RS]:=(by rw[hw6];exact Blk.new wq _ _);have hb6:Below w1.heap.size w1 w6:=(by rw[hw6];exact hbW.alloc hbW.size _);obtain⟨rx,hrx⟩:∃ r,r=wq.heap.size:=⟨_,rfl⟩;have ake:w1.heap.size≤rx:=(by rw[hrx];exact hbW.size);rw[← hrx] at bX ⊢;clear hw6 hrx)
    | (obtain⟨w6,hw6⟩:∃ V,V=(wq.setCell ⟨w1.heap.size,0,none⟩ (.int .i64 RK)).setCell ⟨w1.heap.size,1,none⟩ (.string RS):=⟨_,rfl⟩;rw[← hw6];have bX:Blk w6 (w1.heap.size) 61 #[.int .i64 RK,.string RS]:=(by rw[hw6];have:=(bP.l7 0 (.int .i64 RK)).l7 1 (.string RS);simpa using this);have hb6:Below w1.heap.size w1 w6:=(by rw[hw6];exact(hbW.setCell (p:=⟨w1.heap.size,0,none⟩) (by first|exact zql _|exact aau.size|exact hbW.size) _).setCell (p:=⟨w1.heap.size,1,none⟩) (by first|exact zql _|exact aau.size|exact hbW.size) _);obtain⟨rx,hrx⟩:∃ r,r=w1.heap.size:=⟨_,rfl⟩;have ake:w1.heap.size≤rx:=(by rw[hrx];first|exact zql _|exact hbW.size|exact aau.size);rw[← hrx] at bX ⊢;clear hw6 hrx)
   have hB6:=hB1.trans (hb6.mono (by omega));have bR6:=bR1.step hb6;have hs6:=hb6.size;cases RN
   case false=>
    have HQ:Hid (ab3 (agx rec 5 at_ labels kids dw je) (k+1)=none):=by show _=_;exact ahr HP.out (by rw[HK2.out];exact aj7 HRN.out)
    go_wp2_with fail
    go_roundw
    case rel=>exact⟨k+1,by omega,by go_num,HQ,aat.trans (hb6.mono (by omega))⟩
    case measure=>simp[intOf];omega
   case true=>
    have HF:Hid (R=some (RK,RS)):=by show _=_;rw[HF0.out,← HRK.out,← HRS.out];exact agj HP.out (by rw[HK2.out];exact aj8 HRN.out) _ hlt
    obtain⟨q0,q1⟩:=rq bX;obtain⟨r0,r1,f0,f1⟩:=zr bR6;go_wp2_with fail
    obtain⟨n0,n1,nB⟩:=acw bR6 hB6 (by omega) (RK) (RS);exact bodyPost_ret (v:=.tuple #[.agg #[.int .i64 RK,.string RS],.bool true]) (by simp[results,Tryz.results63,go_sem,n0,n1]) rfl ⟨zl (by rw[HF.out];rfl) (by rw[HF.out];rfl) (by rw[HF.out];rfl),nB⟩
end Go.Proofs.YtfpannkadjdnaaaGreatDoor
