/-
  Interfaces of the reference: l03Face, FaceOk.
-/
import Derived.Test.YtbafphecjijdmaaGreatDoorWa28
import Derived.Test.YtbafphecjijdmaaGreatDoorWa29
import Derived.Test.YtbafphecjijdmaaGreatDoorWa25
import Derived.Deep.RegionWith
namespace Go.Proofs.YtbafphecjijdmaaGreatDoor
open Go.RowKit
set_option linter.unusedVariables false
set_option linter.unusedSimpArgs false
set_option linter.unnecessarySimpa false
set_option maxRecDepth 16000
theorem ba2 {p n v:ByteArray} {res:List ByteArray} {fs:List Fun} (h:PD.wfL (qg.pd ⟨p,n,v,res,fs⟩)):p.size≤maxLen∧n.size≤maxLen∧v.size≤maxLen∧(∀ s ∈ res,s.size≤maxLen)∧∀ x ∈ fs,PD.wfL (Fun.pd x):=by
 rw[qg.ay] at h
 simp only[PD.wfL,PD.wf] at h
 refine⟨h.1,h.2.1,h.2.2.1,fun s hs=>?_,agr.1 h.2.2.2.2.1⟩
 have:=agr.1 h.2.2.2.1 s hs
 simp only[tu,PD.wfL,PD.wf] at this
 exact this.1
theorem blg {n:ByteArray} {ps:List Param} {a:Int} {b:ByteArray} {c:List ByteArray} {d:List Ty} {z:Bool} (h:PD.wfL (Fun.pd ⟨n,⟨ps,⟨a,b,c,d⟩,z⟩⟩)):n.size≤maxLen∧PD.wfL (jh.pd ⟨ps,⟨a,b,c,d⟩,z⟩):=by
 rw[Fun.ay] at h
 rw[jh.ay]
 simp only[PD.wfL,PD.wf] at h ⊢
 exact⟨h.1,h.2⟩
theorem apk (x:ByteArray) (hs:x.size≤maxLen) {b:Bool} (h:aag x=b) (w:World):Calls Tryz.prog 89 #[.string x] w fun e w'=>e=.returned (.bool b)∧w'=w:=by
 subst h
 exact(afs x hs w).mono fun e w' h=>⟨h.1,h.2.symm⟩
theorem bdu {res:List ByteArray} {k:Nat} {x:ByteArray} (h:res[k]?=some x):axf res k=(aag x && aio res k):=by rw[axf,h]
theorem ate {f:Nat→Bool} {k:Nat} (hp:∀ j,j < k→f j=true) (h:f k=true):∀ j,j < k+1→f j=true:=fun j hj=>by
 by_cases e:j=k
 ·subst e;exact h
 ·exact hp j (by omega)
set_option maxHeartbeats 12800000 in
theorem axg (f:qg) {B:Nat} {cs:List Value} {w:World} (hB:B≤w.heap.size) (hwf:PD.wfL (qg.pd f)) (h:jy w B (qg.pd f) cs):
  Calls Tryz.prog 54 #[.agg cs.toArray] w fun e w'=>e=.returned (.bool (agc f))∧Below w.heap.size w w':=by
 obtain⟨package,name,version,resources,funcs⟩:=f
 obtain⟨w1_,w2_,w3_,w4_,w5_⟩:=ba2 hwf
 have HWR:=Lib.hid w4_
 have HWF:=Lib.hid w5_
 obtain⟨R,hR⟩:∃ R:Bool,R=agc ⟨package,name,version,resources,funcs⟩:=⟨_,rfl⟩
 rw[← hR]
 rw[agc] at hR
 simp only at hR
 have HR:=Lib.hid hR
 clear hR w4_ w5_ hwf
 obtain⟨oz,aaq,rfl,aa8,ad4⟩:=qg.open_ h
 have adq:=Lib.hid aa8
 clear aa8
 have af0:=Lib.hid ad4
 clear ad4
 obtain⟨A,n,c,rfl,hnl,hm,hat⟩:=ny Fun.jw (by decide) af0.out
 obtain⟨RA,rn,rc,rfl,hrl,hrm,a8h⟩:=ajd adq.out
 unfold maxLen at hm
 have HN:=Lib.hid hnl
 have HRN:=Lib.hid hrl
 clear h hnl hrl
 go_enter Tryz.func54,Tryz.ntmps54
 go_wp2_with fail
 obtain⟨w0,hw0⟩:∃ W,W=w.alloc (.cells #[.string package,.string name,.string version,.slice RA rn rc,.slice A n c] 30):=⟨_,rfl⟩
 rw[← hw0]
 have bA:Blk w0 w.heap.size 30 #[.string package,.string name,.string version,.slice RA rn rc,.slice A n c]:=by rw[hw0];exact Blk.new w _ _
 have hB0:Below w.heap.size w w0:=by rw[hw0];exact(Below.refl _ _).alloc (Nat.le_refl _) _
 clear hw0
 have ag5:w0.cell? ⟨w.heap.size,0,none⟩=some (.string package):=bA.cell 0
 have akb:w0.cell? ⟨w.heap.size,1,none⟩=some (.string name):=bA.cell 1
 have ag6:w0.cell? ⟨w.heap.size,2,none⟩=some (.string version):=bA.cell 2
 have afx:w0.cell? ⟨w.heap.size,3,none⟩=some (.slice RA rn rc):=bA.cell 3
 have aia:w0.cell? ⟨w.heap.size,4,none⟩=some (.slice A n c):=bA.cell 4
 cases hp:aag package
 case false=>
  have HF:Hid (R=false):=by show _=_;rw[HR.out,hp];rfl
  refine(apk package w1_ hp _).mono ?_
  rintro e w' ⟨rfl,rfl⟩
  clear hp
  go_wp2_with fail
  go_ret
  exact⟨ah HF.out.symm,hB0⟩
 refine(apk package w1_ hp _).mono ?_
 rintro e w' ⟨rfl,hw'⟩
 subst hw'
 obtain⟨w0,rfl⟩:∃ W,W=w':=⟨_,rfl⟩
 go_wp2_with fail
 cases hq:aag name
 case false=>
  have HF:Hid (R=false):=by show _=_;rw[HR.out,hp,hq];rfl
  refine(apk name w2_ hq _).mono ?_
  rintro e w' ⟨rfl,rfl⟩
  clear hp hq
  go_wp2_with fail
  go_ret
  exact⟨ah HF.out.symm,hB0⟩
 refine(apk name w2_ hq _).mono ?_
 rintro e w' ⟨rfl,hw'⟩
 subst hw'
 obtain⟨w0,rfl⟩:∃ W,W=w':=⟨_,rfl⟩
 go_wp2_with fail
 refine(a4z version w3_ _).mono ?_
 rintro e w1 ⟨rfl,hb1⟩
 have hB1:=hB0.trans (hb1.mono hB0.size)
 have bA1:=bA.step hb1
 clear bA ag5 akb ag6 afx aia
 cases hv:decide (0≤afb version)
 case false=>
  have HF:Hid (R=false):=by show _=_;rw[HR.out,hp,hq,hv];rfl
  clear hp hq hv
  go_wp2_with fail
  go_ret
  exact⟨ah HF.out.symm,hB1⟩
 have ag5:w1.cell? ⟨w.heap.size,0,none⟩=some (.string package):=bA1.cell 0
 have akb:w1.cell? ⟨w.heap.size,1,none⟩=some (.string name):=bA1.cell 1
 have ag6:w1.cell? ⟨w.heap.size,2,none⟩=some (.string version):=bA1.cell 2
 have afx:w1.cell? ⟨w.heap.size,3,none⟩=some (.slice RA rn rc):=bA1.cell 3
 have aia:w1.cell? ⟨w.heap.size,4,none⟩=some (.slice A n c):=bA1.cell 4
 by_cases hr4:rn≤4
 case neg=>
  have HF:Hid (R=false):=by show _=_;rw[HR.out,hp,hq,hv,decide_eq_false (show ¬ resources.length≤4 by have:=HRN.out;omega)];rfl
  clear hp hq hv
  go_wp2_with fail
  go_ret
  exact⟨ah HF.out.symm,hB1⟩
 by_cases hn8:n≤8
 case neg=>
  have HF:Hid (R=false):=by show _=_;rw[HR.out,hp,hq,hv,decide_eq_true (show resources.length≤4 by have:=HRN.out;omega),decide_eq_false (show ¬ funcs.length≤8 by have:=HN.out;omega)];rfl
  clear hp hq hv
  go_wp2_with fail
  go_ret
  exact⟨ah HF.out.symm,hB1⟩
 have HF:Hid (R=(ao2 resources && (funcs.all (fnB resources) && amv (funcs.map Fun.name)))):=by show _=_;rw[HR.out,hp,hq,hv,decide_eq_true (show resources.length≤4 by have:=HRN.out;omega),decide_eq_true (show funcs.length≤8 by have:=HN.out;omega)];rfl
 clear hp hq hv HR
 go_wp2_with fail
 go_loopw [3] (fun i wr=>∃ k:Nat,k≤rn∧i=.int .i64 k∧Hid (∀ j,j < k→axf resources j=true)∧Below w1.heap.size w1 wr) (fun i _=>rn - (intOf i).toNat)
 case atStart=>exact⟨0,Nat.zero_le _,rfl,Lib.hid fun j h=>absurd h (by omega),Below.refl _ _⟩
 case round=>
  obtain⟨k,hk,rfl,HP,hbr⟩:=hrel
  have hBr:=hB1.trans (hbr.mono hB1.size)
  have bR:=bA1.step hbr
  have b_r:wr.cell? ⟨w.heap.size,3,none⟩=some (.slice RA rn rc):=bR.cell 3
  by_cases hlt:k < rn
  ·obtain⟨g,off,rfl,hg,hcell⟩:=a8h (by omega)
   obtain⟨x,hx,hmem⟩:=xg HRN.out hlt
   have c_x:wr.cell? ⟨g,off+k,none⟩=some (.string x):=(hBr.cell (p:=⟨g,off+k,none⟩) (by simp only;omega)).trans (hcell k x hx)
   have HX:=Lib.hid hx
   have HSA:=Lib.hid (bdu hx)
   have hxs:=HWR.out x hmem
   clear hx hmem a8h
   cases hnm:aag x
   case false=>
    have HF2:Hid (R=false):=by show _=_;rw[HF.out,a6g HX.out (.inl hnm)];rfl
    have HNM:=Lib.hid (fun W=>apk x hxs hnm W)
    clear hnm
    go_wp2_with fail
    go_quiet (first|(go_at_call 89;exact Calls.quiet_of_same (HNM.out _)))
    go_wp2_with fail
    go_ret
    exact⟨ah HF2.out.symm,below_drewN hBr _⟩
   have HNM:=Lib.hid (fun W=>apk x hxs hnm W)
   rcases Nat.eq_zero_or_pos k with hk0|hk0
   ·have HQ:=Lib.hid (ate HP.out (by rw[HSA.out,hnm,hk0,aq8];rfl))
    have hkf:decide (0 < k)=false:=decide_eq_false (by omega)
    clear hnm hk0 hcell
    go_wp2_with fail
    go_quiet (first|(go_at_call 89;exact Calls.quiet_of_same (HNM.out _)))
    go_wp2_with fail
    go_roundw
    case rel=>exact⟨k+1,by omega,by go_num,HQ,below_drewN hbr _⟩
    case measure=>simp[intOf];omega
   obtain⟨y,hy,_⟩:=xg HRN.out (show k - 1 < rn by omega)
   have c_y:wr.cell? ⟨g,off+(k - 1),none⟩=some (.string y):=(hBr.cell (p:=⟨g,off+(k - 1),none⟩) (by simp only;omega)).trans (hcell (k - 1) y hy)
   have HIN:=Lib.hid (av1 hk0 HX.out hy)
   have hkt:decide (0 < k)=true:=decide_eq_true (by omega)
   have hki:((k:Int) - 1).toNat=k - 1:=by omega
   have hkp:(0:Int)≤(k:Int) - 1:=by omega
   have hkn:(k:Int) - 1 < (rn:Int):=by omega
   clear hy hcell
   cases hlx:Op.bytesLess y.toList x.toList
   case false=>
    have HF2:Hid (R=false):=by show _=_;rw[HF.out,a6g HX.out (.inr (HIN.out.trans hlx))];rfl
    clear hnm hk0
    go_wp2_with fail
    go_quiet (first|(go_at_call 89;exact Calls.quiet_of_same (HNM.out _)))
    go_wp2_with fail
    go_ret
    exact⟨ah HF2.out.symm,below_drewN hBr _⟩
   case true=>
    have HQ:=Lib.hid (ate HP.out (by rw[HSA.out,hnm,HIN.out];exact hlx))
    clear hnm hk0
    go_wp2_with fail
    go_quiet (first|(go_at_call 89;exact Calls.quiet_of_same (HNM.out _)))
    go_wp2_with fail
    go_roundw
    case rel=>exact⟨k+1,by omega,by go_num,HQ,below_drewN hbr _⟩
    case measure=>simp[intOf];omega
  have hkn:k=rn:=by omega
  have HRB:=Lib.hid (bk6 fun j hj=>HP.out j (by have:=HRN.out;omega))
  have HG:Hid (R=(funcs.all (fnB resources) && amv (funcs.map Fun.name))):=by show _=_;rw[HF.out,HRB.out];rfl
  subst hkn
  clear a8h HP
  go_wp2_with fail
  obtain⟨W,rfl⟩:∃ V,V=wr:=⟨_,rfl⟩
  have hBW:=hBr
  have bW:=bR
  clear hBr bR hbr b_r bA1
  go_loopw [4] (fun i ws=>∃ k2:Nat,k2≤n∧i=.int .i64 k2∧Hid (∀ (j:Nat) (x:Fun),j < k2→funcs[j]?=some x→fnB resources x=true∧aio (funcs.map Fun.name) j=true)∧Below W.heap.size W ws) (fun i _=>n - (intOf i).toNat)
  case atStart=>exact⟨0,Nat.zero_le _,rfl,Lib.hid fun j x h=>absurd h (by omega),Below.refl _ _⟩
  case round=>
   obtain⟨k2,hk2,rfl,HP,hbs⟩:=hrel
   have hBs:=hBW.trans (hbs.mono hBW.size)
   have bS:=bW.step hbs
   have b_r:wr.cell? ⟨w.heap.size,3,none⟩=some (.slice RA k rc):=bS.cell 3
   have b_f:wr.cell? ⟨w.heap.size,4,none⟩=some (.slice A n c):=bS.cell 4
   by_cases hlt2:k2 < n
   case neg=>
    have HF2:Hid (R=true):=by show _=_;rw[HG.out,bk7 fun j x hx=>HP.out j x (by have:=(List.getElem?_eq_some_iff.1 hx).1;have:=HN.out;omega) hx]
    go_wp2_with fail
    go_ret
    exact⟨ah HF2.out.symm,hBs⟩
   obtain⟨g,off,rfl,hg,hcell⟩:=hat (by omega)
   obtain⟨t,hx,hmem⟩:=xg HN.out hlt2
   obtain⟨name,⟨ql,⟨aj,au,iw,jl⟩,jg⟩⟩:=t
   have an3:wr.cell? ⟨g,off+k2 * 7,none⟩=some (.string name):=gq hBs (by omega) (hcell k2 0 _ _ hx (by rw[Fun.ay];rfl))
   obtain⟨aav,amy,ab8⟩:∃ u,wr.cell? ⟨g,off+k2 * 7+1,none⟩=some u∧Rep wr B (.row 5 (ql.flatMap Param.pd)) u:=ku hBs (by omega) hB (hcell k2 1 _ _ hx (by rw[Fun.ay];rfl))
   have ae8:=Lib.hid ab8
   clear ab8
   have ai3:wr.cell? ⟨g,off+k2 * 7+2,none⟩=some (.int .i64 aj):=gq hBs (by omega) (hcell k2 2 _ _ hx (by rw[Fun.ay];rfl))
   have ai4:wr.cell? ⟨g,off+k2 * 7+3,none⟩=some (.string au):=gq hBs (by omega) (hcell k2 3 _ _ hx (by rw[Fun.ay];rfl))
   obtain⟨tq,ah6,zk⟩:∃ u,wr.cell? ⟨g,off+k2 * 7+4,none⟩=some u∧Rep wr B (.row 1 (iw.flatMap tu)) u:=ku hBs (by omega) hB (hcell k2 4 _ _ hx (by rw[Fun.ay];rfl))
   have ac7:=Lib.hid zk
   clear zk
   obtain⟨vk,ai5,aai⟩:∃ u,wr.cell? ⟨g,off+k2 * 7+5,none⟩=some u∧Rep wr B (.row 4 (jl.flatMap Ty.pd)) u:=ku hBs (by omega) hB (hcell k2 5 _ _ hx (by rw[Fun.ay];rfl))
   have adx:=Lib.hid aai
   clear aai
   have anl:wr.cell? ⟨g,off+k2 * 7+6,none⟩=some (.bool jg):=gq hBs (by omega) (hcell k2 6 _ _ hx (by rw[Fun.ay];rfl))
   obtain⟨abt,abu,abv,rfl⟩:=ae8.out.form
   obtain⟨yh,yj,yt,rfl⟩:=ac7.out.form
   obtain⟨zn,zo,zq,rfl⟩:=adx.out.form
   have HX:=Lib.hid hx
   have HM:=Lib.hid hmem
   clear hx hmem
   have hfw:=blg (HWF.out _ HM.out)
   have hns:=hfw.1
   have hft:=hfw.2
   have hsz:=hBs.size
   have a8i:=Lib.hid (adq.out.below (hBs.mono hB))
   have amz:Hid (jy wr B (jh.pd ⟨ql,⟨aj,au,iw,jl⟩,jg⟩) [.slice abt abu abv,.int .i64 aj,.string au,.slice yh yj yt,.slice zn zo zq,.bool jg]):=(jh.close_ ae8.out ac7.out adx.out)
   have HFU:=Lib.hid (fun(V:World) (hV:Below wr.heap.size wr V)=>a2d ⟨ql,⟨aj,au,iw,jl⟩,jg⟩ (B:=B) (cs:=[.slice abt abu abv,.int .i64 aj,.string au,.slice yh yj yt,.slice zn zo zq,.bool jg]) (w:=V) (Nat.le_trans hB (Nat.le_trans hsz hV.size)) hft (amz.out.below (hV.mono (Nat.le_trans hB hsz))))
   have HCE:=Lib.hid (fun(V:World) (hV:Below wr.heap.size wr V)=>(⟨(hV.cell (p:=⟨w.heap.size,3,none⟩) bS.lt).trans b_r,(hV.cell (p:=⟨w.heap.size,4,none⟩) bS.lt).trans b_f,(hV.cell (p:=⟨g,off+k2 * 7,none⟩) (by simp only;omega)).trans an3,(hV.cell (p:=⟨g,off+k2 * 7+1,none⟩) (by simp only;omega)).trans amy,(hV.cell (p:=⟨g,off+k2 * 7+2,none⟩) (by simp only;omega)).trans ai3,(hV.cell (p:=⟨g,off+k2 * 7+3,none⟩) (by simp only;omega)).trans ai4,(hV.cell (p:=⟨g,off+k2 * 7+4,none⟩) (by simp only;omega)).trans ah6,(hV.cell (p:=⟨g,off+k2 * 7+5,none⟩) (by simp only;omega)).trans ai5,(hV.cell (p:=⟨g,off+k2 * 7+6,none⟩) (by simp only;omega)).trans anl⟩:V.cell? ⟨w.heap.size,3,none⟩=some (.slice RA k rc)∧V.cell? ⟨w.heap.size,4,none⟩=some (.slice (some ⟨g,off,none⟩) n c)∧V.cell? ⟨g,off+k2 * 7,none⟩=some (.string name)∧V.cell? ⟨g,off+k2 * 7+1,none⟩=some (.slice abt abu abv)∧V.cell? ⟨g,off+k2 * 7+2,none⟩=some (.int .i64 aj)∧V.cell? ⟨g,off+k2 * 7+3,none⟩=some (.string au)∧V.cell? ⟨g,off+k2 * 7+4,none⟩=some (.slice yh yj yt)∧V.cell? ⟨g,off+k2 * 7+5,none⟩=some (.slice zn zo zq)∧V.cell? ⟨g,off+k2 * 7+6,none⟩=some (.bool jg)))
   have HFB:Hid (fnB resources ⟨name,⟨ql,⟨aj,au,iw,jl⟩,jg⟩⟩=(aag name && (ah5 ⟨ql,⟨aj,au,iw,jl⟩,jg⟩ && ajc ⟨ql,⟨aj,au,iw,jl⟩,jg⟩ resources))):=rfl
   clear hfw
   cases hnm:aag name
   case false=>
    have HF2:Hid (R=false):=by show _=_;rw[HG.out,ak9 HX.out (.inl (by rw[HFB.out,hnm];rfl))]
    have HNM:=Lib.hid (fun V=>apk name hns hnm V)
    clear hnm hcell
    go_wp2_with fail
    go_quiet (first|(go_at_call 89;exact Calls.quiet_of_same (HNM.out _)))
    go_wp2_with fail
    go_ret
    exact⟨ah HF2.out.symm,below_drewN hBs _⟩
   have HNM:=Lib.hid (fun V=>apk name hns hnm V)
   have ayp:Hid (fnB resources ⟨name,⟨ql,⟨aj,au,iw,jl⟩,jg⟩⟩=(ah5 ⟨ql,⟨aj,au,iw,jl⟩,jg⟩ && ajc ⟨ql,⟨aj,au,iw,jl⟩,jg⟩ resources)):=by show _=_;rw[HFB.out,hnm];rfl
   clear hnm
   rcases Nat.eq_zero_or_pos k2 with hk0|hk0
   ·have HZ:Hid (k2=0):=hk0
    have hkf:decide (0 < k2)=false:=decide_eq_false (by omega)
    clear hk0 hcell
    have anh:=HCE
    have hdr:Below wr.heap.size wr wr.drew:=(Below.refl _ _).drew
    go_wp2_with fail
    refine wp_region_held_drew (S:=(fun w'=>w'.cell? ⟨w.heap.size,3,none⟩=some (.slice RA k rc)∧w'.cell? ⟨w.heap.size,4,none⟩=some (.slice (some ⟨g,off,none⟩) n c)∧w'.cell? ⟨g,off+k2 * 7,none⟩=some (.string name)∧w'.cell? ⟨g,off+k2 * 7+1,none⟩=some (.slice abt abu abv)∧w'.cell? ⟨g,off+k2 * 7+2,none⟩=some (.int .i64 aj)∧w'.cell? ⟨g,off+k2 * 7+3,none⟩=some (.string au)∧w'.cell? ⟨g,off+k2 * 7+4,none⟩=some (.slice yh yj yt)∧w'.cell? ⟨g,off+k2 * 7+5,none⟩=some (.slice zn zo zq)∧w'.cell? ⟨g,off+k2 * 7+6,none⟩=some (.bool jg))) (by kernel_rfl) (anh.out _ hdr) (fun hHeld=>?_)
    refine wpAnyH_take (i:=0) (oi:=_) (v:=_) (by simp only[List.getElem?_toArray,List.getElem?_cons_succ,List.getElem?_cons_zero];rfl) (by kernel_rfl) (by kernel_rfl) (by kernel_rfl) (by exact fun _ _ _ h=>h) (Or.inl ⟨by rfl,by intro w hSw;(try dsimp only at hSw);go_simp;try with_reducible rfl⟩) (by assumption) ?_
    try simp only[Act.put,List.setIfInBounds_toArray,List.set_cons_zero,List.set_cons_succ]
    refine wpAnyH_take (i:=1) (oi:=_) (v:=_) (by simp only[List.getElem?_toArray,List.getElem?_cons_succ,List.getElem?_cons_zero];rfl) (by kernel_rfl) (by kernel_rfl) (by kernel_rfl) (by exact fun _ _ _ h=>h) (Or.inl ⟨by rfl,by intro w hSw;(try dsimp only at hSw);go_simp;try with_reducible rfl⟩) (by assumption) ?_
    try simp only[Act.put,List.setIfInBounds_toArray,List.set_cons_zero,List.set_cons_succ]
    refine wpAnyH_take (i:=2) (oi:=_) (v:=_) (by simp only[List.getElem?_toArray,List.getElem?_cons_succ,List.getElem?_cons_zero];rfl) (by kernel_rfl) (by kernel_rfl) (by kernel_rfl) (by exact fun _ _ _ h=>h) (Or.inl ⟨by rfl,by intro w hSw;(try dsimp only at hSw);go_simp;try with_reducible rfl⟩) (by assumption) ?_
    try simp only[Act.put,List.setIfInBounds_toArray,List.set_cons_zero,List.set_cons_succ]
    refine wpAnyH_take (i:=3) (oi:=_) (v:=_) (by simp only[List.getElem?_toArray,List.getElem?_cons_succ,List.getElem?_cons_zero];rfl) (by kernel_rfl) (by kernel_rfl) (by kernel_rfl) (by exact fun _ _ _ h=>h) (Or.inl ⟨by rfl,by intro w hSw;(try dsimp only at hSw);go_simp;try with_reducible rfl⟩) (by assumption) ?_
    try simp only[Act.put,List.setIfInBounds_toArray,List.set_cons_zero,List.set_cons_succ]
    refine wpAnyH_take (i:=4) (oi:=_) (v:=_) (by simp only[List.getElem?_toArray,List.getElem?_cons_succ,List.getElem?_cons_zero];rfl) (by kernel_rfl) (by kernel_rfl) (by kernel_rfl) (by exact fun _ _ _ h=>h) (Or.inl ⟨by rfl,by intro w hSw;(try dsimp only at hSw);go_simp;try with_reducible rfl⟩) (by assumption) ?_
    try simp only[Act.put,List.setIfInBounds_toArray,List.set_cons_zero,List.set_cons_succ]
    refine wpAnyH_take (i:=5) (oi:=_) (v:=_) (by simp only[List.getElem?_toArray,List.getElem?_cons_succ,List.getElem?_cons_zero];rfl) (by kernel_rfl) (by kernel_rfl) (by kernel_rfl) (by exact fun _ _ _ h=>h) (Or.inl ⟨by rfl,by intro w hSw;(try dsimp only at hSw);go_simp;try with_reducible rfl⟩) (by assumption) ?_
    try simp only[Act.put,List.setIfInBounds_toArray,List.set_cons_zero,List.set_cons_succ]
    refine wpAnyH_ready (rs:=[6]) (by kernel_rfl) (by simp) ?_
    refine AllReadyH.cons (o:=?o1) ?h1 (fun K hK=>?k1) AllReadyH.nil
    case h1=>
     simp only[List.getElem?_toArray,List.getElem?_cons_succ,List.getElem?_cons_zero];rfl
    go_simp
    go_at_call 89
    refine(HNM.out _).mono ?_
    rintro e wn ⟨rfl,hwn⟩
    subst hwn
    refine hK.out _ _ (by first|exact(anh.out _ hdr)|go_keep) (fun hHeld=>?_)
    clear hK K
    try simp only[Act.put,List.setIfInBounds_toArray,List.set_cons_zero,List.set_cons_succ]
    refine wpAnyH_take (i:=7) (oi:=_) (v:=_) (by simp only[List.getElem?_toArray,List.getElem?_cons_succ,List.getElem?_cons_zero];rfl) (by kernel_rfl) (by kernel_rfl) (by kernel_rfl) (by exact fun _ _ _ h=>h) (Or.inl ⟨by rfl,by intro w hSw;(try dsimp only at hSw);go_simp;try with_reducible rfl⟩) (by assumption) ?_
    try simp only[Act.put,List.setIfInBounds_toArray,List.set_cons_zero,List.set_cons_succ]
    refine wpAnyH_take (i:=8) (oi:=_) (v:=_) (by simp only[List.getElem?_toArray,List.getElem?_cons_succ,List.getElem?_cons_zero];rfl) (by kernel_rfl) (by kernel_rfl) (by kernel_rfl) (by exact fun _ _ _ h=>h) (Or.inl ⟨by rfl,by intro w hSw;(try dsimp only at hSw);go_simp;try with_reducible rfl⟩) (by assumption) ?_
    try simp only[Act.put,List.setIfInBounds_toArray,List.set_cons_zero,List.set_cons_succ]
    refine wpAnyH_take (i:=9) (oi:=_) (v:=_) (by simp only[List.getElem?_toArray,List.getElem?_cons_succ,List.getElem?_cons_zero];rfl) (by kernel_rfl) (by kernel_rfl) (by kernel_rfl) (by exact fun _ _ _ h=>h) (Or.inl ⟨by rfl,by intro w hSw;(try dsimp only at hSw);go_simp;try with_reducible rfl⟩) (by assumption) ?_
    try simp only[Act.put,List.setIfInBounds_toArray,List.set_cons_zero,List.set_cons_succ]
    refine wpAnyH_take (i:=10) (oi:=_) (v:=_) (by simp only[List.getElem?_toArray,List.getElem?_cons_succ,List.getElem?_cons_zero];rfl) (by kernel_rfl) (by kernel_rfl) (by kernel_rfl) (by exact fun _ _ _ h=>h) (Or.inl ⟨by rfl,by intro w hSw;(try dsimp only at hSw);go_simp;try with_reducible rfl⟩) (by assumption) ?_
    try simp only[Act.put,List.setIfInBounds_toArray,List.set_cons_zero,List.set_cons_succ]
    refine wpAnyH_take (i:=11) (oi:=_) (v:=_) (by simp only[List.getElem?_toArray,List.getElem?_cons_succ,List.getElem?_cons_zero];rfl) (by kernel_rfl) (by kernel_rfl) (by kernel_rfl) (by exact fun _ _ _ h=>h) (Or.inl ⟨by rfl,by intro w hSw;(try dsimp only at hSw);go_simp;try with_reducible rfl⟩) (by assumption) ?_
    try simp only[Act.put,List.setIfInBounds_toArray,List.set_cons_zero,List.set_cons_succ]
    refine wpAnyH_take (i:=12) (oi:=_) (v:=undef) (by simp only[List.getElem?_toArray,List.getElem?_cons_succ,List.getElem?_cons_zero];rfl) (by kernel_rfl) (by kernel_rfl) (by kernel_rfl) (by exact fun _ _ _ h=>h) (Or.inr ⟨by rfl,rfl⟩) (by assumption) ?_
    try simp only[Act.put,List.setIfInBounds_toArray,List.set_cons_zero,List.set_cons_succ]
    refine wpAnyH_take (i:=13) (oi:=_) (v:=undef) (by simp only[List.getElem?_toArray,List.getElem?_cons_succ,List.getElem?_cons_zero];rfl) (by kernel_rfl) (by kernel_rfl) (by kernel_rfl) (by exact fun _ _ _ h=>h) (Or.inr ⟨by rfl,rfl⟩) (by assumption) ?_
    try simp only[Act.put,List.setIfInBounds_toArray,List.set_cons_zero,List.set_cons_succ]
    refine wpAnyH_take (i:=14) (oi:=_) (v:=undef) (by simp only[List.getElem?_toArray,List.getElem?_cons_succ,List.getElem?_cons_zero];rfl) (by kernel_rfl) (by kernel_rfl) (by kernel_rfl) (by exact fun _ _ _ h=>h) (Or.inr ⟨by rfl,rfl⟩) (by assumption) ?_
    try simp only[Act.put,List.setIfInBounds_toArray,List.set_cons_zero,List.set_cons_succ]
    refine wpAnyH_take (i:=15) (oi:=_) (v:=undef) (by simp only[List.getElem?_toArray,List.getElem?_cons_succ,List.getElem?_cons_zero];rfl) (by kernel_rfl) (by kernel_rfl) (by kernel_rfl) (by exact fun _ _ _ h=>h) (Or.inr ⟨by rfl,rfl⟩) (by assumption) ?_
    try simp only[Act.put,List.setIfInBounds_toArray,List.set_cons_zero,List.set_cons_succ]
    refine wpAnyH_take (i:=16) (oi:=_) (v:=undef) (by simp only[List.getElem?_toArray,List.getElem?_cons_succ,List.getElem?_cons_zero];rfl) (by kernel_rfl) (by kernel_rfl) (by kernel_rfl) (by exact fun _ _ _ h=>h) (Or.inr ⟨by rfl,rfl⟩) (by assumption) ?_
    try simp only[Act.put,List.setIfInBounds_toArray,List.set_cons_zero,List.set_cons_succ]
    refine wpAnyH_take (i:=17) (oi:=_) (v:=undef) (by simp only[List.getElem?_toArray,List.getElem?_cons_succ,List.getElem?_cons_zero];rfl) (by kernel_rfl) (by kernel_rfl) (by kernel_rfl) (by exact fun _ _ _ h=>h) (Or.inr ⟨by rfl,rfl⟩) (by assumption) ?_
    try simp only[Act.put,List.setIfInBounds_toArray,List.set_cons_zero,List.set_cons_succ]
    refine wpAnyH_take (i:=18) (oi:=_) (v:=undef) (by simp only[List.getElem?_toArray,List.getElem?_cons_succ,List.getElem?_cons_zero];rfl) (by kernel_rfl) (by kernel_rfl) (by kernel_rfl) (by exact fun _ _ _ h=>h) (Or.inr ⟨by rfl,rfl⟩) (by assumption) ?_
    try simp only[Act.put,List.setIfInBounds_toArray,List.set_cons_zero,List.set_cons_succ]
    refine wpAnyH_take (i:=19) (oi:=_) (v:=undef) (by simp only[List.getElem?_toArray,List.getElem?_cons_succ,List.getElem?_cons_zero];rfl) (by kernel_rfl) (by kernel_rfl) (by kernel_rfl) (by exact fun _ _ _ h=>h) (Or.inr ⟨by rfl,rfl⟩) (by assumption) ?_
    try simp only[Act.put,List.setIfInBounds_toArray,List.set_cons_zero,List.set_cons_succ]
    refine wpAnyH_take (i:=20) (oi:=_) (v:=undef) (by simp only[List.getElem?_toArray,List.getElem?_cons_succ,List.getElem?_cons_zero];rfl) (by kernel_rfl) (by kernel_rfl) (by kernel_rfl) (by exact fun _ _ _ h=>h) (Or.inr ⟨by rfl,rfl⟩) (by assumption) ?_
    try simp only[Act.put,List.setIfInBounds_toArray,List.set_cons_zero,List.set_cons_succ]
    refine wpAnyH_take (i:=21) (oi:=_) (v:=undef) (by simp only[List.getElem?_toArray,List.getElem?_cons_succ,List.getElem?_cons_zero];rfl) (by kernel_rfl) (by kernel_rfl) (by kernel_rfl) (by exact fun _ _ _ h=>h) (Or.inr ⟨by rfl,rfl⟩) (by assumption) ?_
    try simp only[Act.put,List.setIfInBounds_toArray,List.set_cons_zero,List.set_cons_succ]
    refine wpAnyH_take (i:=22) (oi:=_) (v:=undef) (by simp only[List.getElem?_toArray,List.getElem?_cons_succ,List.getElem?_cons_zero];rfl) (by kernel_rfl) (by kernel_rfl) (by kernel_rfl) (by exact fun _ _ _ h=>h) (Or.inr ⟨by rfl,rfl⟩) (by assumption) ?_
    try simp only[Act.put,List.setIfInBounds_toArray,List.set_cons_zero,List.set_cons_succ]
    refine wpAnyH_take (i:=23) (oi:=_) (v:=undef) (by simp only[List.getElem?_toArray,List.getElem?_cons_succ,List.getElem?_cons_zero];rfl) (by kernel_rfl) (by kernel_rfl) (by kernel_rfl) (by exact fun _ _ _ h=>h) (Or.inr ⟨by rfl,rfl⟩) (by assumption) ?_
    try simp only[Act.put,List.setIfInBounds_toArray,List.set_cons_zero,List.set_cons_succ]
    refine wpAnyH_take (i:=24) (oi:=_) (v:=undef) (by simp only[List.getElem?_toArray,List.getElem?_cons_succ,List.getElem?_cons_zero];rfl) (by kernel_rfl) (by kernel_rfl) (by kernel_rfl) (by exact fun _ _ _ h=>h) (Or.inr ⟨by rfl,rfl⟩) (by assumption) ?_
    try simp only[Act.put,List.setIfInBounds_toArray,List.set_cons_zero,List.set_cons_succ]
    refine wpAnyH_take (i:=25) (oi:=_) (v:=undef) (by simp only[List.getElem?_toArray,List.getElem?_cons_succ,List.getElem?_cons_zero];rfl) (by kernel_rfl) (by kernel_rfl) (by kernel_rfl) (by exact fun _ _ _ h=>h) (Or.inr ⟨by rfl,rfl⟩) (by assumption) ?_
    try simp only[Act.put,List.setIfInBounds_toArray,List.set_cons_zero,List.set_cons_succ]
    refine wpAnyH_take (i:=26) (oi:=_) (v:=_) (by simp only[List.getElem?_toArray,List.getElem?_cons_succ,List.getElem?_cons_zero];rfl) (by kernel_rfl) (by kernel_rfl) (by kernel_rfl) (by exact fun _ _ _ h=>h) (Or.inl ⟨by rfl,by intro w hSw;(try dsimp only at hSw);go_simp;try with_reducible rfl⟩) (by assumption) ?_
    try simp only[Act.put,List.setIfInBounds_toArray,List.set_cons_zero,List.set_cons_succ]
    refine wpAnyH_take (i:=27) (oi:=_) (v:=_) (by simp only[List.getElem?_toArray,List.getElem?_cons_succ,List.getElem?_cons_zero];rfl) (by kernel_rfl) (by kernel_rfl) (by kernel_rfl) (by exact fun _ _ _ h=>h) (Or.inl ⟨by rfl,by intro w hSw;(try dsimp only at hSw);go_simp;try with_reducible rfl⟩) (by assumption) ?_
    try simp only[Act.put,List.setIfInBounds_toArray,List.set_cons_zero,List.set_cons_succ]
    refine wpAnyH_take (i:=28) (oi:=_) (v:=_) (by simp only[List.getElem?_toArray,List.getElem?_cons_succ,List.getElem?_cons_zero];rfl) (by kernel_rfl) (by kernel_rfl) (by kernel_rfl) (by exact fun _ _ _ h=>h) (Or.inl ⟨by rfl,by intro w hSw;(try dsimp only at hSw);go_simp;try with_reducible rfl⟩) (by assumption) ?_
    try simp only[Act.put,List.setIfInBounds_toArray,List.set_cons_zero,List.set_cons_succ]
    refine wpAnyH_take (i:=29) (oi:=_) (v:=_) (by simp only[List.getElem?_toArray,List.getElem?_cons_succ,List.getElem?_cons_zero];rfl) (by kernel_rfl) (by kernel_rfl) (by kernel_rfl) (by exact fun _ _ _ h=>h) (Or.inl ⟨by rfl,by intro w hSw;(try dsimp only at hSw);go_simp;try with_reducible rfl⟩) (by assumption) ?_
    try simp only[Act.put,List.setIfInBounds_toArray,List.set_cons_zero,List.set_cons_succ]
    refine wpAnyH_take (i:=30) (oi:=_) (v:=_) (by simp only[List.getElem?_toArray,List.getElem?_cons_succ,List.getElem?_cons_zero];rfl) (by kernel_rfl) (by kernel_rfl) (by kernel_rfl) (by exact fun _ _ _ h=>h) (Or.inl ⟨by rfl,by intro w hSw;(try dsimp only at hSw);go_simp;try with_reducible rfl⟩) (by assumption) ?_
    try simp only[Act.put,List.setIfInBounds_toArray,List.set_cons_zero,List.set_cons_succ]
    refine wpAnyH_take (i:=31) (oi:=_) (v:=_) (by simp only[List.getElem?_toArray,List.getElem?_cons_succ,List.getElem?_cons_zero];rfl) (by kernel_rfl) (by kernel_rfl) (by kernel_rfl) (by exact fun _ _ _ h=>h) (Or.inl ⟨by rfl,by intro w hSw;(try dsimp only at hSw);go_simp;try with_reducible rfl⟩) (by assumption) ?_
    try simp only[Act.put,List.setIfInBounds_toArray,List.set_cons_zero,List.set_cons_succ]
    refine wpAnyH_take (i:=32) (oi:=_) (v:=_) (by simp only[List.getElem?_toArray,List.getElem?_cons_succ,List.getElem?_cons_zero];rfl) (by kernel_rfl) (by kernel_rfl) (by kernel_rfl) (by exact fun _ _ _ h=>h) (Or.inl ⟨by rfl,by intro w hSw;(try dsimp only at hSw);go_simp;try with_reducible rfl⟩) (by assumption) ?_
    try simp only[Act.put,List.setIfInBounds_toArray,List.set_cons_zero,List.set_cons_succ]
    refine wpAnyH_take (i:=33) (oi:=_) (v:=_) (by simp only[List.getElem?_toArray,List.getElem?_cons_succ,List.getElem?_cons_zero];rfl) (by kernel_rfl) (by kernel_rfl) (by kernel_rfl) (by exact fun _ _ _ h=>h) (Or.inl ⟨by rfl,by intro w hSw;(try dsimp only at hSw);go_simp;try with_reducible rfl⟩) (by assumption) ?_
    try simp only[Act.put,List.setIfInBounds_toArray,List.set_cons_zero,List.set_cons_succ]
    refine wpAnyH_take (i:=34) (oi:=_) (v:=_) (by simp only[List.getElem?_toArray,List.getElem?_cons_succ,List.getElem?_cons_zero];rfl) (by kernel_rfl) (by kernel_rfl) (by kernel_rfl) (by exact fun _ _ _ h=>h) (Or.inl ⟨by rfl,by intro w hSw;(try dsimp only at hSw);go_simp;try with_reducible rfl⟩) (by assumption) ?_
    try simp only[Act.put,List.setIfInBounds_toArray,List.set_cons_zero,List.set_cons_succ]
    refine wpAnyH_ready (rs:=[35]) (by kernel_rfl) (by simp) ?_
    refine AllReadyH.cons (o:=?o2) ?h2 (fun K hK=>?k2) AllReadyH.nil
    case h2=>
     simp only[List.getElem?_toArray,List.getElem?_cons_succ,List.getElem?_cons_zero];rfl
    go_simp
    go_at_call 79
    refine(HFU.out _ hdr).mono ?_
    rintro e wq ⟨rfl,hbq⟩
    have hq1:=hdr.trans (hbq.mono hdr.size)
    cases hfb:ah5 ⟨ql,⟨aj,au,iw,jl⟩,jg⟩
    case false=>
     refine hK.out _ _ (by first|exact(anh.out _ hq1)|go_keep) (fun hHeld=>?_)
     clear hK K
     try simp only[Act.put,List.setIfInBounds_toArray,List.set_cons_zero,List.set_cons_succ]
     have HF2:Hid (R=false):=by show _=_;rw[HG.out,ak9 HX.out (.inl (by rw[ayp.out,hfb];rfl))]
     refine wpAnyH_take (i:=36) (oi:=_) (v:=_) (by simp only[List.getElem?_toArray,List.getElem?_cons_succ,List.getElem?_cons_zero];rfl) (by kernel_rfl) (by kernel_rfl) (by kernel_rfl) (by exact fun _ _ _ h=>h) (Or.inl ⟨by rfl,by intro w hSw;(try dsimp only at hSw);go_simp;try with_reducible rfl⟩) (by assumption) ?_
     try simp only[Act.put,List.setIfInBounds_toArray,List.set_cons_zero,List.set_cons_succ]
     refine wpAnyH_take (i:=37) (oi:=_) (v:=_) (by simp only[List.getElem?_toArray,List.getElem?_cons_succ,List.getElem?_cons_zero];rfl) (by kernel_rfl) (by kernel_rfl) (by kernel_rfl) (by exact fun _ _ _ h=>h) (Or.inl ⟨by rfl,by intro w hSw;(try dsimp only at hSw);go_simp;try with_reducible rfl⟩) (by assumption) ?_
     try simp only[Act.put,List.setIfInBounds_toArray,List.set_cons_zero,List.set_cons_succ]
     refine wpAnyH_take (i:=38) (oi:=_) (v:=_) (by simp only[List.getElem?_toArray,List.getElem?_cons_succ,List.getElem?_cons_zero];rfl) (by kernel_rfl) (by kernel_rfl) (by kernel_rfl) (by exact fun _ _ _ h=>h) (Or.inl ⟨by rfl,by intro w hSw;(try dsimp only at hSw);go_simp;try with_reducible rfl⟩) (by assumption) ?_
     try simp only[Act.put,List.setIfInBounds_toArray,List.set_cons_zero,List.set_cons_succ]
     refine wpAnyH_take (i:=39) (oi:=_) (v:=undef) (by simp only[List.getElem?_toArray,List.getElem?_cons_succ,List.getElem?_cons_zero];rfl) (by kernel_rfl) (by kernel_rfl) (by kernel_rfl) (by exact fun _ _ _ h=>h) (Or.inr ⟨by rfl,rfl⟩) (by assumption) ?_
     try simp only[Act.put,List.setIfInBounds_toArray,List.set_cons_zero,List.set_cons_succ]
     refine wpAnyH_take (i:=40) (oi:=_) (v:=undef) (by simp only[List.getElem?_toArray,List.getElem?_cons_succ,List.getElem?_cons_zero];rfl) (by kernel_rfl) (by kernel_rfl) (by kernel_rfl) (by exact fun _ _ _ h=>h) (Or.inr ⟨by rfl,rfl⟩) (by assumption) ?_
     try simp only[Act.put,List.setIfInBounds_toArray,List.set_cons_zero,List.set_cons_succ]
     refine wpAnyH_take (i:=41) (oi:=_) (v:=undef) (by simp only[List.getElem?_toArray,List.getElem?_cons_succ,List.getElem?_cons_zero];rfl) (by kernel_rfl) (by kernel_rfl) (by kernel_rfl) (by exact fun _ _ _ h=>h) (Or.inr ⟨by rfl,rfl⟩) (by assumption) ?_
     try simp only[Act.put,List.setIfInBounds_toArray,List.set_cons_zero,List.set_cons_succ]
     refine wpAnyH_take (i:=42) (oi:=_) (v:=undef) (by simp only[List.getElem?_toArray,List.getElem?_cons_succ,List.getElem?_cons_zero];rfl) (by kernel_rfl) (by kernel_rfl) (by kernel_rfl) (by exact fun _ _ _ h=>h) (Or.inr ⟨by rfl,rfl⟩) (by assumption) ?_
     try simp only[Act.put,List.setIfInBounds_toArray,List.set_cons_zero,List.set_cons_succ]
     refine wpAnyH_take (i:=43) (oi:=_) (v:=undef) (by simp only[List.getElem?_toArray,List.getElem?_cons_succ,List.getElem?_cons_zero];rfl) (by kernel_rfl) (by kernel_rfl) (by kernel_rfl) (by exact fun _ _ _ h=>h) (Or.inr ⟨by rfl,rfl⟩) (by assumption) ?_
     try simp only[Act.put,List.setIfInBounds_toArray,List.set_cons_zero,List.set_cons_succ]
     refine wpAnyH_take (i:=44) (oi:=_) (v:=undef) (by simp only[List.getElem?_toArray,List.getElem?_cons_succ,List.getElem?_cons_zero];rfl) (by kernel_rfl) (by kernel_rfl) (by kernel_rfl) (by exact fun _ _ _ h=>h) (Or.inr ⟨by rfl,rfl⟩) (by assumption) ?_
     try simp only[Act.put,List.setIfInBounds_toArray,List.set_cons_zero,List.set_cons_succ]
     refine wpAnyH_take (i:=45) (oi:=_) (v:=undef) (by simp only[List.getElem?_toArray,List.getElem?_cons_succ,List.getElem?_cons_zero];rfl) (by kernel_rfl) (by kernel_rfl) (by kernel_rfl) (by exact fun _ _ _ h=>h) (Or.inr ⟨by rfl,rfl⟩) (by assumption) ?_
     try simp only[Act.put,List.setIfInBounds_toArray,List.set_cons_zero,List.set_cons_succ]
     refine wpAnyH_take (i:=46) (oi:=_) (v:=undef) (by simp only[List.getElem?_toArray,List.getElem?_cons_succ,List.getElem?_cons_zero];rfl) (by kernel_rfl) (by kernel_rfl) (by kernel_rfl) (by exact fun _ _ _ h=>h) (Or.inr ⟨by rfl,rfl⟩) (by assumption) ?_
     try simp only[Act.put,List.setIfInBounds_toArray,List.set_cons_zero,List.set_cons_succ]
     refine wpAnyH_take (i:=47) (oi:=_) (v:=undef) (by simp only[List.getElem?_toArray,List.getElem?_cons_succ,List.getElem?_cons_zero];rfl) (by kernel_rfl) (by kernel_rfl) (by kernel_rfl) (by exact fun _ _ _ h=>h) (Or.inr ⟨by rfl,rfl⟩) (by assumption) ?_
     try simp only[Act.put,List.setIfInBounds_toArray,List.set_cons_zero,List.set_cons_succ]
     refine wpAnyH_take (i:=48) (oi:=_) (v:=undef) (by simp only[List.getElem?_toArray,List.getElem?_cons_succ,List.getElem?_cons_zero];rfl) (by kernel_rfl) (by kernel_rfl) (by kernel_rfl) (by exact fun _ _ _ h=>h) (Or.inr ⟨by rfl,rfl⟩) (by assumption) ?_
     try simp only[Act.put,List.setIfInBounds_toArray,List.set_cons_zero,List.set_cons_succ]
     refine wpAnyH_take (i:=49) (oi:=_) (v:=_) (by simp only[List.getElem?_toArray,List.getElem?_cons_succ,List.getElem?_cons_zero];rfl) (by kernel_rfl) (by kernel_rfl) (by kernel_rfl) (by exact fun _ _ _ h=>h) (Or.inl ⟨by rfl,by intro w hSw;(try dsimp only at hSw);go_simp;try with_reducible rfl⟩) (by assumption) ?_
     try simp only[Act.put,List.setIfInBounds_toArray,List.set_cons_zero,List.set_cons_succ]
     refine wpAnyH_done (by kernel_rfl) ?_ _
     go_wp2_with fail
     go_ret
     exact⟨ah HF2.out.symm,hBs.trans (hq1.mono hsz)⟩
    case true=>
     refine hK.out _ _ (by first|exact(anh.out _ hq1)|go_keep) (fun hHeld=>?_)
     clear hK K
     try simp only[Act.put,List.setIfInBounds_toArray,List.set_cons_zero,List.set_cons_succ]
     have HKN:=Lib.hid (fun(V:World) (hV:Below wr.heap.size wr V)=>avg ⟨ql,⟨aj,au,iw,jl⟩,jg⟩ (a2p hfb) (res:=resources) (B:=B) (B2:=B) (cs:=[.slice abt abu abv,.int .i64 aj,.string au,.slice yh yj yt,.slice zn zo zq,.bool jg]) (v:=.slice RA k rc) (w:=V) (Nat.le_trans hB (Nat.le_trans hsz hV.size)) (Nat.le_trans hB (Nat.le_trans hsz hV.size)) (amz.out.below (hV.mono (Nat.le_trans hB hsz))) (a8i.out.below (hV.mono (Nat.le_trans hB hsz))))
     refine wpAnyH_take (i:=36) (oi:=_) (v:=_) (by simp only[List.getElem?_toArray,List.getElem?_cons_succ,List.getElem?_cons_zero];rfl) (by kernel_rfl) (by kernel_rfl) (by kernel_rfl) (by exact fun _ _ _ h=>h) (Or.inl ⟨by rfl,by intro w hSw;(try dsimp only at hSw);go_simp;try with_reducible rfl⟩) (by assumption) ?_
     try simp only[Act.put,List.setIfInBounds_toArray,List.set_cons_zero,List.set_cons_succ]
     refine wpAnyH_take (i:=37) (oi:=_) (v:=_) (by simp only[List.getElem?_toArray,List.getElem?_cons_succ,List.getElem?_cons_zero];rfl) (by kernel_rfl) (by kernel_rfl) (by kernel_rfl) (by exact fun _ _ _ h=>h) (Or.inl ⟨by rfl,by intro w hSw;(try dsimp only at hSw);go_simp;try with_reducible rfl⟩) (by assumption) ?_
     try simp only[Act.put,List.setIfInBounds_toArray,List.set_cons_zero,List.set_cons_succ]
     refine wpAnyH_take (i:=38) (oi:=_) (v:=_) (by simp only[List.getElem?_toArray,List.getElem?_cons_succ,List.getElem?_cons_zero];rfl) (by kernel_rfl) (by kernel_rfl) (by kernel_rfl) (by exact fun _ _ _ h=>h) (Or.inl ⟨by rfl,by intro w hSw;(try dsimp only at hSw);go_simp;try with_reducible rfl⟩) (by assumption) ?_
     try simp only[Act.put,List.setIfInBounds_toArray,List.set_cons_zero,List.set_cons_succ]
     refine wpAnyH_take (i:=39) (oi:=_) (v:=_) (by simp only[List.getElem?_toArray,List.getElem?_cons_succ,List.getElem?_cons_zero];rfl) (by kernel_rfl) (by kernel_rfl) (by kernel_rfl) (by exact fun _ _ _ h=>h) (Or.inl ⟨by rfl,by intro w hSw;(try dsimp only at hSw);go_simp;try with_reducible rfl⟩) (by assumption) ?_
     try simp only[Act.put,List.setIfInBounds_toArray,List.set_cons_zero,List.set_cons_succ]
     refine wpAnyH_take (i:=40) (oi:=_) (v:=_) (by simp only[List.getElem?_toArray,List.getElem?_cons_succ,List.getElem?_cons_zero];rfl) (by kernel_rfl) (by kernel_rfl) (by kernel_rfl) (by exact fun _ _ _ h=>h) (Or.inl ⟨by rfl,by intro w hSw;(try dsimp only at hSw);go_simp;try with_reducible rfl⟩) (by assumption) ?_
     try simp only[Act.put,List.setIfInBounds_toArray,List.set_cons_zero,List.set_cons_succ]
     refine wpAnyH_take (i:=41) (oi:=_) (v:=_) (by simp only[List.getElem?_toArray,List.getElem?_cons_succ,List.getElem?_cons_zero];rfl) (by kernel_rfl) (by kernel_rfl) (by kernel_rfl) (by exact fun _ _ _ h=>h) (Or.inl ⟨by rfl,by intro w hSw;(try dsimp only at hSw);go_simp;try with_reducible rfl⟩) (by assumption) ?_
     try simp only[Act.put,List.setIfInBounds_toArray,List.set_cons_zero,List.set_cons_succ]
     refine wpAnyH_take (i:=42) (oi:=_) (v:=_) (by simp only[List.getElem?_toArray,List.getElem?_cons_succ,List.getElem?_cons_zero];rfl) (by kernel_rfl) (by kernel_rfl) (by kernel_rfl) (by exact fun _ _ _ h=>h) (Or.inl ⟨by rfl,by intro w hSw;(try dsimp only at hSw);go_simp;try with_reducible rfl⟩) (by assumption) ?_
     try simp only[Act.put,List.setIfInBounds_toArray,List.set_cons_zero,List.set_cons_succ]
     refine wpAnyH_take (i:=43) (oi:=_) (v:=_) (by simp only[List.getElem?_toArray,List.getElem?_cons_succ,List.getElem?_cons_zero];rfl) (by kernel_rfl) (by kernel_rfl) (by kernel_rfl) (by exact fun _ _ _ h=>h) (Or.inl ⟨by rfl,by intro w hSw;(try dsimp only at hSw);go_simp;try with_reducible rfl⟩) (by assumption) ?_
     try simp only[Act.put,List.setIfInBounds_toArray,List.set_cons_zero,List.set_cons_succ]
     refine wpAnyH_take (i:=44) (oi:=_) (v:=_) (by simp only[List.getElem?_toArray,List.getElem?_cons_succ,List.getElem?_cons_zero];rfl) (by kernel_rfl) (by kernel_rfl) (by kernel_rfl) (by exact fun _ _ _ h=>h) (Or.inl ⟨by rfl,by intro w hSw;(try dsimp only at hSw);go_simp;try with_reducible rfl⟩) (by assumption) ?_
     try simp only[Act.put,List.setIfInBounds_toArray,List.set_cons_zero,List.set_cons_succ]
     refine wpAnyH_take (i:=45) (oi:=_) (v:=_) (by simp only[List.getElem?_toArray,List.getElem?_cons_succ,List.getElem?_cons_zero];rfl) (by kernel_rfl) (by kernel_rfl) (by kernel_rfl) (by exact fun _ _ _ h=>h) (Or.inl ⟨by rfl,by intro w hSw;(try dsimp only at hSw);go_simp;try with_reducible rfl⟩) (by assumption) ?_
     try simp only[Act.put,List.setIfInBounds_toArray,List.set_cons_zero,List.set_cons_succ]
     refine wpAnyH_take (i:=46) (oi:=_) (v:=_) (by simp only[List.getElem?_toArray,List.getElem?_cons_succ,List.getElem?_cons_zero];rfl) (by kernel_rfl) (by kernel_rfl) (by kernel_rfl) (by exact fun _ _ _ h=>h) (Or.inl ⟨by rfl,by intro w hSw;(try dsimp only at hSw);go_simp;try with_reducible rfl⟩) (by assumption) ?_
     try simp only[Act.put,List.setIfInBounds_toArray,List.set_cons_zero,List.set_cons_succ]
     refine wpAnyH_ready (rs:=[47]) (by kernel_rfl) (by simp) ?_
     refine AllReadyH.cons (o:=?o3) ?h3 (fun K hK=>?k3) AllReadyH.nil
     case h3=>
      simp only[List.getElem?_toArray,List.getElem?_cons_succ,List.getElem?_cons_zero];rfl
     go_simp
     go_at_call 90
     refine(HKN.out _ hq1).mono ?_
     rintro e wz ⟨rfl,hbz⟩
     have hq2:=hq1.trans (hbz.mono hq1.size)
     cases hkn2:ajc ⟨ql,⟨aj,au,iw,jl⟩,jg⟩ resources
     case false=>
      refine hK.out _ _ (by first|exact(anh.out _ hq2)|go_keep) (fun hHeld=>?_)
      clear hK K
      try simp only[Act.put,List.setIfInBounds_toArray,List.set_cons_zero,List.set_cons_succ]
      refine wpAnyH_take (i:=48) (oi:=_) (v:=_) (by simp only[List.getElem?_toArray,List.getElem?_cons_succ,List.getElem?_cons_zero];rfl) (by kernel_rfl) (by kernel_rfl) (by kernel_rfl) (by exact fun _ _ _ h=>h) (Or.inl ⟨by rfl,by intro w hSw;(try dsimp only at hSw);go_simp;try with_reducible rfl⟩) (by assumption) ?_
      try simp only[Act.put,List.setIfInBounds_toArray,List.set_cons_zero,List.set_cons_succ]
      refine wpAnyH_take (i:=49) (oi:=_) (v:=_) (by simp only[List.getElem?_toArray,List.getElem?_cons_succ,List.getElem?_cons_zero];rfl) (by kernel_rfl) (by kernel_rfl) (by kernel_rfl) (by exact fun _ _ _ h=>h) (Or.inl ⟨by rfl,by intro w hSw;(try dsimp only at hSw);go_simp;try with_reducible rfl⟩) (by assumption) ?_
      try simp only[Act.put,List.setIfInBounds_toArray,List.set_cons_zero,List.set_cons_succ]
      have HF2:Hid (R=false):=by show _=_;rw[HG.out,ak9 HX.out (.inl (by rw[ayp.out,hfb,hkn2];rfl))]
      refine wpAnyH_done (by kernel_rfl) ?_ _
      go_wp2_with fail
      go_ret
      exact⟨ah HF2.out.symm,hBs.trans (hq2.mono hsz)⟩
     case true=>
      refine hK.out _ _ (by first|exact(anh.out _ hq2)|go_keep) (fun hHeld=>?_)
      clear hK K
      try simp only[Act.put,List.setIfInBounds_toArray,List.set_cons_zero,List.set_cons_succ]
      refine wpAnyH_take (i:=48) (oi:=_) (v:=_) (by simp only[List.getElem?_toArray,List.getElem?_cons_succ,List.getElem?_cons_zero];rfl) (by kernel_rfl) (by kernel_rfl) (by kernel_rfl) (by exact fun _ _ _ h=>h) (Or.inl ⟨by rfl,by intro w hSw;(try dsimp only at hSw);go_simp;try with_reducible rfl⟩) (by assumption) ?_
      try simp only[Act.put,List.setIfInBounds_toArray,List.set_cons_zero,List.set_cons_succ]
      refine wpAnyH_take (i:=49) (oi:=_) (v:=_) (by simp only[List.getElem?_toArray,List.getElem?_cons_succ,List.getElem?_cons_zero];rfl) (by kernel_rfl) (by kernel_rfl) (by kernel_rfl) (by exact fun _ _ _ h=>h) (Or.inl ⟨by rfl,by intro w hSw;(try dsimp only at hSw);go_simp;try with_reducible rfl⟩) (by assumption) ?_
      try simp only[Act.put,List.setIfInBounds_toArray,List.set_cons_zero,List.set_cons_succ]
      have HQ:Hid (∀ (j:Nat) (x:Fun),j < k2+1→funcs[j]?=some x→fnB resources x=true∧aio (funcs.map Fun.name) j=true):=fun j x hj hx=>by
       by_cases e:j=k2
       ·subst e
        obtain rfl:=Option.some.inj (HX.out.symm.trans hx)
        exact⟨by rw[ayp.out,hfb,hkn2];rfl,by rw[HZ.out];exact aq8 _⟩
       ·exact HP.out j x (by omega) hx
      refine wpAnyH_done (by kernel_rfl) ?_ _
      have bdv:=hbs.trans (hq2.mono hbs.size)
      go_wp2_with fail
      go_roundw
      case rel=>exact⟨k2+1,by omega,by go_num,HQ,bdv⟩
      case measure=>simp[intOf];omega
   obtain⟨y,hy,_⟩:=xg HN.out (show k2 - 1 < n by omega)
   have c_y:wr.cell? ⟨g,off+(k2 - 1) * 7,none⟩=some (.string y.name):=by
    have:=hcell (k2 - 1) 0 y (.lit (.string y.name)) hy (by obtain⟨a,⟨b,⟨c1,c2,c3,c4⟩,d⟩⟩:=y;rw[Fun.ay];rfl)
    exact gq hBs (by omega) this
   have HIN:=Lib.hid (av1 hk0 (a2m HX.out) (a2m hy))
   obtain⟨yn,hyn⟩:∃ s,y.name=s:=⟨_,rfl⟩
   rw[hyn] at c_y HIN
   have hkt:decide (0 < k2)=true:=decide_eq_true (by omega)
   have hki:((k2:Int) - 1).toNat=k2 - 1:=by omega
   have hkw:IntKind.i64.wrap ((k2:Int) - 1)=(k2:Int) - 1:=IntWalk.i64_in _ (by omega)
   have hkp:(0:Int)≤(k2:Int) - 1:=by omega
   have hk1:(1:Int)≤(k2:Int):=by omega
   have hkn:(k2:Int) - 1 < (n:Int):=by omega
   clear hy hyn hcell
   cases hlx:Op.bytesLess yn.toList name.toList
   case false=>
    have HF2:Hid (R=false):=by show _=_;rw[HG.out,ak9 HX.out (.inr (HIN.out.trans hlx))]
    clear hk0
    go_wp2_with fail
    go_quiet (first|(go_at_call 89;exact Calls.quiet_of_same (HNM.out _)))
    go_wp2_with fail
    go_ret
    exact⟨ah HF2.out.symm,below_drewN hBs _⟩
   have bo9:=Lib.hid (HIN.out.trans hlx)
   clear hk0
   have anh:Hid (∀ (V:World),Below wr.heap.size wr V→V.cell? ⟨w.heap.size,3,none⟩=some (.slice RA k rc)∧V.cell? ⟨w.heap.size,4,none⟩=some (.slice (some ⟨g,off,none⟩) n c)∧V.cell? ⟨g,off+k2 * 7,none⟩=some (.string name)∧V.cell? ⟨g,off+k2 * 7+1,none⟩=some (.slice abt abu abv)∧V.cell? ⟨g,off+k2 * 7+2,none⟩=some (.int .i64 aj)∧V.cell? ⟨g,off+k2 * 7+3,none⟩=some (.string au)∧V.cell? ⟨g,off+k2 * 7+4,none⟩=some (.slice yh yj yt)∧V.cell? ⟨g,off+k2 * 7+5,none⟩=some (.slice zn zo zq)∧V.cell? ⟨g,off+k2 * 7+6,none⟩=some (.bool jg)∧V.cell? ⟨g,off+(k2 - 1) * 7,none⟩=some (.string yn)):=fun V hV=>by
    obtain⟨z1,z2,z3,z4,z5,z6,z7,z8,z9⟩:=HCE.out V hV
    exact⟨z1,z2,z3,z4,z5,z6,z7,z8,z9,(hV.cell (p:=⟨g,off+(k2 - 1) * 7,none⟩) (by simp only;omega)).trans c_y⟩
   have hdr:Below wr.heap.size wr wr.drew:=(Below.refl _ _).drew
   go_wp2_with fail
   refine wp_region_held_drew (S:=(fun w'=>w'.cell? ⟨w.heap.size,3,none⟩=some (.slice RA k rc)∧w'.cell? ⟨w.heap.size,4,none⟩=some (.slice (some ⟨g,off,none⟩) n c)∧w'.cell? ⟨g,off+k2 * 7,none⟩=some (.string name)∧w'.cell? ⟨g,off+k2 * 7+1,none⟩=some (.slice abt abu abv)∧w'.cell? ⟨g,off+k2 * 7+2,none⟩=some (.int .i64 aj)∧w'.cell? ⟨g,off+k2 * 7+3,none⟩=some (.string au)∧w'.cell? ⟨g,off+k2 * 7+4,none⟩=some (.slice yh yj yt)∧w'.cell? ⟨g,off+k2 * 7+5,none⟩=some (.slice zn zo zq)∧w'.cell? ⟨g,off+k2 * 7+6,none⟩=some (.bool jg)∧w'.cell? ⟨g,off+(k2 - 1) * 7,none⟩=some (.string yn))) (by kernel_rfl) (anh.out _ hdr) (fun hHeld=>?_)
   refine wpAnyH_take (i:=0) (oi:=_) (v:=_) (by simp only[List.getElem?_toArray,List.getElem?_cons_succ,List.getElem?_cons_zero];rfl) (by kernel_rfl) (by kernel_rfl) (by kernel_rfl) (by exact fun _ _ _ h=>h) (Or.inl ⟨by rfl,by intro w hSw;(try dsimp only at hSw);go_simp;try with_reducible rfl⟩) (by assumption) ?_
   try simp only[Act.put,List.setIfInBounds_toArray,List.set_cons_zero,List.set_cons_succ]
   refine wpAnyH_take (i:=1) (oi:=_) (v:=_) (by simp only[List.getElem?_toArray,List.getElem?_cons_succ,List.getElem?_cons_zero];rfl) (by kernel_rfl) (by kernel_rfl) (by kernel_rfl) (by exact fun _ _ _ h=>h) (Or.inl ⟨by rfl,by intro w hSw;(try dsimp only at hSw);go_simp;try with_reducible rfl⟩) (by assumption) ?_
   try simp only[Act.put,List.setIfInBounds_toArray,List.set_cons_zero,List.set_cons_succ]
   refine wpAnyH_take (i:=2) (oi:=_) (v:=_) (by simp only[List.getElem?_toArray,List.getElem?_cons_succ,List.getElem?_cons_zero];rfl) (by kernel_rfl) (by kernel_rfl) (by kernel_rfl) (by exact fun _ _ _ h=>h) (Or.inl ⟨by rfl,by intro w hSw;(try dsimp only at hSw);go_simp;try with_reducible rfl⟩) (by assumption) ?_
   try simp only[Act.put,List.setIfInBounds_toArray,List.set_cons_zero,List.set_cons_succ]
   refine wpAnyH_take (i:=3) (oi:=_) (v:=_) (by simp only[List.getElem?_toArray,List.getElem?_cons_succ,List.getElem?_cons_zero];rfl) (by kernel_rfl) (by kernel_rfl) (by kernel_rfl) (by exact fun _ _ _ h=>h) (Or.inl ⟨by rfl,by intro w hSw;(try dsimp only at hSw);go_simp;try with_reducible rfl⟩) (by assumption) ?_
   try simp only[Act.put,List.setIfInBounds_toArray,List.set_cons_zero,List.set_cons_succ]
   refine wpAnyH_take (i:=4) (oi:=_) (v:=_) (by simp only[List.getElem?_toArray,List.getElem?_cons_succ,List.getElem?_cons_zero];rfl) (by kernel_rfl) (by kernel_rfl) (by kernel_rfl) (by exact fun _ _ _ h=>h) (Or.inl ⟨by rfl,by intro w hSw;(try dsimp only at hSw);go_simp;try with_reducible rfl⟩) (by assumption) ?_
   try simp only[Act.put,List.setIfInBounds_toArray,List.set_cons_zero,List.set_cons_succ]
   refine wpAnyH_take (i:=5) (oi:=_) (v:=_) (by simp only[List.getElem?_toArray,List.getElem?_cons_succ,List.getElem?_cons_zero];rfl) (by kernel_rfl) (by kernel_rfl) (by kernel_rfl) (by exact fun _ _ _ h=>h) (Or.inl ⟨by rfl,by intro w hSw;(try dsimp only at hSw);go_simp;try with_reducible rfl⟩) (by assumption) ?_
   try simp only[Act.put,List.setIfInBounds_toArray,List.set_cons_zero,List.set_cons_succ]
   refine wpAnyH_ready (rs:=[6]) (by kernel_rfl) (by simp) ?_
   refine AllReadyH.cons (o:=?o4) ?h4 (fun K hK=>?k4) AllReadyH.nil
   case h4=>
    simp only[List.getElem?_toArray,List.getElem?_cons_succ,List.getElem?_cons_zero];rfl
   go_simp
   go_at_call 89
   refine(HNM.out _).mono ?_
   rintro e wn ⟨rfl,hwn⟩
   subst hwn
   refine hK.out _ _ (by first|exact(anh.out _ hdr)|go_keep) (fun hHeld=>?_)
   clear hK K
   try simp only[Act.put,List.setIfInBounds_toArray,List.set_cons_zero,List.set_cons_succ]
   refine wpAnyH_take (i:=7) (oi:=_) (v:=_) (by simp only[List.getElem?_toArray,List.getElem?_cons_succ,List.getElem?_cons_zero];rfl) (by kernel_rfl) (by kernel_rfl) (by kernel_rfl) (by exact fun _ _ _ h=>h) (Or.inl ⟨by rfl,by intro w hSw;(try dsimp only at hSw);go_simp;try with_reducible rfl⟩) (by assumption) ?_
   try simp only[Act.put,List.setIfInBounds_toArray,List.set_cons_zero,List.set_cons_succ]
   refine wpAnyH_take (i:=8) (oi:=_) (v:=_) (by simp only[List.getElem?_toArray,List.getElem?_cons_succ,List.getElem?_cons_zero];rfl) (by kernel_rfl) (by kernel_rfl) (by kernel_rfl) (by exact fun _ _ _ h=>h) (Or.inl ⟨by rfl,by intro w hSw;(try dsimp only at hSw);go_simp;try with_reducible rfl⟩) (by assumption) ?_
   try simp only[Act.put,List.setIfInBounds_toArray,List.set_cons_zero,List.set_cons_succ]
   refine wpAnyH_take (i:=9) (oi:=_) (v:=_) (by simp only[List.getElem?_toArray,List.getElem?_cons_succ,List.getElem?_cons_zero];rfl) (by kernel_rfl) (by kernel_rfl) (by kernel_rfl) (by exact fun _ _ _ h=>h) (Or.inl ⟨by rfl,by intro w hSw;(try dsimp only at hSw);go_simp;try with_reducible rfl⟩) (by assumption) ?_
   try simp only[Act.put,List.setIfInBounds_toArray,List.set_cons_zero,List.set_cons_succ]
   refine wpAnyH_take (i:=10) (oi:=_) (v:=_) (by simp only[List.getElem?_toArray,List.getElem?_cons_succ,List.getElem?_cons_zero];rfl) (by kernel_rfl) (by kernel_rfl) (by kernel_rfl) (by exact fun _ _ _ h=>h) (Or.inl ⟨by rfl,by intro w hSw;(try dsimp only at hSw);go_simp;try with_reducible rfl⟩) (by assumption) ?_
   try simp only[Act.put,List.setIfInBounds_toArray,List.set_cons_zero,List.set_cons_succ]
   refine wpAnyH_take (i:=11) (oi:=_) (v:=_) (by simp only[List.getElem?_toArray,List.getElem?_cons_succ,List.getElem?_cons_zero];rfl) (by kernel_rfl) (by kernel_rfl) (by kernel_rfl) (by exact fun _ _ _ h=>h) (Or.inl ⟨by rfl,by intro w hSw;(try dsimp only at hSw);go_simp;try with_reducible rfl⟩) (by assumption) ?_
   try simp only[Act.put,List.setIfInBounds_toArray,List.set_cons_zero,List.set_cons_succ]
   refine wpAnyH_take (i:=12) (oi:=_) (v:=_) (by simp only[List.getElem?_toArray,List.getElem?_cons_succ,List.getElem?_cons_zero];rfl) (by kernel_rfl) (by kernel_rfl) (by kernel_rfl) (by exact fun _ _ _ h=>h) (Or.inl ⟨by rfl,by intro w hSw;(try dsimp only at hSw);go_simp;try with_reducible rfl⟩) (by assumption) ?_
   try simp only[Act.put,List.setIfInBounds_toArray,List.set_cons_zero,List.set_cons_succ]
   refine wpAnyH_take (i:=13) (oi:=_) (v:=_) (by simp only[List.getElem?_toArray,List.getElem?_cons_succ,List.getElem?_cons_zero];rfl) (by kernel_rfl) (by kernel_rfl) (by kernel_rfl) (by exact fun _ _ _ h=>h) (Or.inl ⟨by rfl,by intro w hSw;(try dsimp only at hSw);go_simp;try with_reducible rfl⟩) (by assumption) ?_
   try simp only[Act.put,List.setIfInBounds_toArray,List.set_cons_zero,List.set_cons_succ]
   refine wpAnyH_take (i:=14) (oi:=_) (v:=_) (by simp only[List.getElem?_toArray,List.getElem?_cons_succ,List.getElem?_cons_zero];rfl) (by kernel_rfl) (by kernel_rfl) (by kernel_rfl) (by exact fun _ _ _ h=>h) (Or.inl ⟨by rfl,by intro w hSw;(try dsimp only at hSw);go_simp;try with_reducible rfl⟩) (by assumption) ?_
   try simp only[Act.put,List.setIfInBounds_toArray,List.set_cons_zero,List.set_cons_succ]
   refine wpAnyH_take (i:=15) (oi:=_) (v:=_) (by simp only[List.getElem?_toArray,List.getElem?_cons_succ,List.getElem?_cons_zero];rfl) (by kernel_rfl) (by kernel_rfl) (by kernel_rfl) (by exact fun _ _ _ h=>h) (Or.inl ⟨by rfl,by intro w hSw;(try dsimp only at hSw);go_simp;try with_reducible rfl⟩) (by assumption) ?_
   try simp only[Act.put,List.setIfInBounds_toArray,List.set_cons_zero,List.set_cons_succ]
   refine wpAnyH_take (i:=16) (oi:=_) (v:=_) (by simp only[List.getElem?_toArray,List.getElem?_cons_succ,List.getElem?_cons_zero];rfl) (by kernel_rfl) (by kernel_rfl) (by kernel_rfl) (by exact fun _ _ _ h=>h) (Or.inl ⟨by rfl,by intro w hSw;(try dsimp only at hSw);go_simp;try with_reducible rfl⟩) (by assumption) ?_
   try simp only[Act.put,List.setIfInBounds_toArray,List.set_cons_zero,List.set_cons_succ]
   refine wpAnyH_take (i:=17) (oi:=_) (v:=_) (by simp only[List.getElem?_toArray,List.getElem?_cons_succ,List.getElem?_cons_zero];rfl) (by kernel_rfl) (by kernel_rfl) (by kernel_rfl) (by exact fun _ _ _ h=>h) (Or.inl ⟨by rfl,by intro w hSw;(try dsimp only at hSw);go_simp;try with_reducible rfl⟩) (by assumption) ?_
   try simp only[Act.put,List.setIfInBounds_toArray,List.set_cons_zero,List.set_cons_succ]
   refine wpAnyH_take (i:=18) (oi:=_) (v:=_) (by simp only[List.getElem?_toArray,List.getElem?_cons_succ,List.getElem?_cons_zero];rfl) (by kernel_rfl) (by kernel_rfl) (by kernel_rfl) (by exact fun _ _ _ h=>h) (Or.inl ⟨by rfl,by intro w hSw;(try dsimp only at hSw);go_simp;try with_reducible rfl⟩) (by assumption) ?_
   try simp only[Act.put,List.setIfInBounds_toArray,List.set_cons_zero,List.set_cons_succ]
   refine wpAnyH_take (i:=19) (oi:=_) (v:=_) (by simp only[List.getElem?_toArray,List.getElem?_cons_succ,List.getElem?_cons_zero];rfl) (by kernel_rfl) (by kernel_rfl) (by kernel_rfl) (by exact fun _ _ _ h=>h) (Or.inl ⟨by rfl,by intro w hSw;(try dsimp only at hSw);go_simp;try with_reducible rfl⟩) (by assumption) ?_
   try simp only[Act.put,List.setIfInBounds_toArray,List.set_cons_zero,List.set_cons_succ]
   refine wpAnyH_take (i:=20) (oi:=_) (v:=_) (by simp only[List.getElem?_toArray,List.getElem?_cons_succ,List.getElem?_cons_zero];rfl) (by kernel_rfl) (by kernel_rfl) (by kernel_rfl) (by exact fun _ _ _ h=>h) (Or.inl ⟨by rfl,by intro w hSw;(try dsimp only at hSw);go_simp;try with_reducible rfl⟩) (by assumption) ?_
   try simp only[Act.put,List.setIfInBounds_toArray,List.set_cons_zero,List.set_cons_succ]
   refine wpAnyH_take (i:=21) (oi:=_) (v:=_) (by simp only[List.getElem?_toArray,List.getElem?_cons_succ,List.getElem?_cons_zero];rfl) (by kernel_rfl) (by kernel_rfl) (by kernel_rfl) (by exact fun _ _ _ h=>h) (Or.inl ⟨by rfl,by intro w hSw;(try dsimp only at hSw);go_simp;try with_reducible rfl⟩) (by assumption) ?_
   try simp only[Act.put,List.setIfInBounds_toArray,List.set_cons_zero,List.set_cons_succ]
   refine wpAnyH_take (i:=22) (oi:=_) (v:=_) (by simp only[List.getElem?_toArray,List.getElem?_cons_succ,List.getElem?_cons_zero];rfl) (by kernel_rfl) (by kernel_rfl) (by kernel_rfl) (by exact fun _ _ _ h=>h) (Or.inl ⟨by rfl,by intro w hSw;(try dsimp only at hSw);go_simp;try with_reducible rfl⟩) (by assumption) ?_
   try simp only[Act.put,List.setIfInBounds_toArray,List.set_cons_zero,List.set_cons_succ]
   refine wpAnyH_take (i:=23) (oi:=_) (v:=_) (by simp only[List.getElem?_toArray,List.getElem?_cons_succ,List.getElem?_cons_zero];rfl) (by kernel_rfl) (by kernel_rfl) (by kernel_rfl) (by exact fun _ _ _ h=>h) (Or.inl ⟨by rfl,by intro w hSw;(try dsimp only at hSw);go_simp;try with_reducible rfl⟩) (by assumption) ?_
   try simp only[Act.put,List.setIfInBounds_toArray,List.set_cons_zero,List.set_cons_succ]
   refine wpAnyH_take (i:=24) (oi:=_) (v:=_) (by simp only[List.getElem?_toArray,List.getElem?_cons_succ,List.getElem?_cons_zero];rfl) (by kernel_rfl) (by kernel_rfl) (by kernel_rfl) (by exact fun _ _ _ h=>h) (Or.inl ⟨by rfl,by intro w hSw;(try dsimp only at hSw);go_simp;try with_reducible rfl⟩) (by assumption) ?_
   try simp only[Act.put,List.setIfInBounds_toArray,List.set_cons_zero,List.set_cons_succ]
   refine wpAnyH_take (i:=25) (oi:=_) (v:=_) (by simp only[List.getElem?_toArray,List.getElem?_cons_succ,List.getElem?_cons_zero];rfl) (by kernel_rfl) (by kernel_rfl) (by kernel_rfl) (by exact fun _ _ _ h=>h) (Or.inl ⟨by rfl,by intro w hSw;(try dsimp only at hSw);go_simp;try with_reducible rfl⟩) (by assumption) ?_
   try simp only[Act.put,List.setIfInBounds_toArray,List.set_cons_zero,List.set_cons_succ]
   refine wpAnyH_take (i:=26) (oi:=_) (v:=_) (by simp only[List.getElem?_toArray,List.getElem?_cons_succ,List.getElem?_cons_zero];rfl) (by kernel_rfl) (by kernel_rfl) (by kernel_rfl) (by exact fun _ _ _ h=>h) (Or.inl ⟨by rfl,by intro w hSw;(try dsimp only at hSw);go_simp;try with_reducible rfl⟩) (by assumption) ?_
   try simp only[Act.put,List.setIfInBounds_toArray,List.set_cons_zero,List.set_cons_succ]
   refine wpAnyH_take (i:=27) (oi:=_) (v:=_) (by simp only[List.getElem?_toArray,List.getElem?_cons_succ,List.getElem?_cons_zero];rfl) (by kernel_rfl) (by kernel_rfl) (by kernel_rfl) (by exact fun _ _ _ h=>h) (Or.inl ⟨by rfl,by intro w hSw;(try dsimp only at hSw);go_simp;try with_reducible rfl⟩) (by assumption) ?_
   try simp only[Act.put,List.setIfInBounds_toArray,List.set_cons_zero,List.set_cons_succ]
   refine wpAnyH_take (i:=28) (oi:=_) (v:=_) (by simp only[List.getElem?_toArray,List.getElem?_cons_succ,List.getElem?_cons_zero];rfl) (by kernel_rfl) (by kernel_rfl) (by kernel_rfl) (by exact fun _ _ _ h=>h) (Or.inl ⟨by rfl,by intro w hSw;(try dsimp only at hSw);go_simp;try with_reducible rfl⟩) (by assumption) ?_
   try simp only[Act.put,List.setIfInBounds_toArray,List.set_cons_zero,List.set_cons_succ]
   refine wpAnyH_take (i:=29) (oi:=_) (v:=_) (by simp only[List.getElem?_toArray,List.getElem?_cons_succ,List.getElem?_cons_zero];rfl) (by kernel_rfl) (by kernel_rfl) (by kernel_rfl) (by exact fun _ _ _ h=>h) (Or.inl ⟨by rfl,by intro w hSw;(try dsimp only at hSw);go_simp;try with_reducible rfl⟩) (by assumption) ?_
   try simp only[Act.put,List.setIfInBounds_toArray,List.set_cons_zero,List.set_cons_succ]
   refine wpAnyH_take (i:=30) (oi:=_) (v:=_) (by simp only[List.getElem?_toArray,List.getElem?_cons_succ,List.getElem?_cons_zero];rfl) (by kernel_rfl) (by kernel_rfl) (by kernel_rfl) (by exact fun _ _ _ h=>h) (Or.inl ⟨by rfl,by intro w hSw;(try dsimp only at hSw);go_simp;try with_reducible rfl⟩) (by assumption) ?_
   try simp only[Act.put,List.setIfInBounds_toArray,List.set_cons_zero,List.set_cons_succ]
   refine wpAnyH_take (i:=31) (oi:=_) (v:=_) (by simp only[List.getElem?_toArray,List.getElem?_cons_succ,List.getElem?_cons_zero];rfl) (by kernel_rfl) (by kernel_rfl) (by kernel_rfl) (by exact fun _ _ _ h=>h) (Or.inl ⟨by rfl,by intro w hSw;(try dsimp only at hSw);go_simp;try with_reducible rfl⟩) (by assumption) ?_
   try simp only[Act.put,List.setIfInBounds_toArray,List.set_cons_zero,List.set_cons_succ]
   refine wpAnyH_take (i:=32) (oi:=_) (v:=_) (by simp only[List.getElem?_toArray,List.getElem?_cons_succ,List.getElem?_cons_zero];rfl) (by kernel_rfl) (by kernel_rfl) (by kernel_rfl) (by exact fun _ _ _ h=>h) (Or.inl ⟨by rfl,by intro w hSw;(try dsimp only at hSw);go_simp;try with_reducible rfl⟩) (by assumption) ?_
   try simp only[Act.put,List.setIfInBounds_toArray,List.set_cons_zero,List.set_cons_succ]
   refine wpAnyH_take (i:=33) (oi:=_) (v:=_) (by simp only[List.getElem?_toArray,List.getElem?_cons_succ,List.getElem?_cons_zero];rfl) (by kernel_rfl) (by kernel_rfl) (by kernel_rfl) (by exact fun _ _ _ h=>h) (Or.inl ⟨by rfl,by intro w hSw;(try dsimp only at hSw);go_simp;try with_reducible rfl⟩) (by assumption) ?_
   try simp only[Act.put,List.setIfInBounds_toArray,List.set_cons_zero,List.set_cons_succ]
   refine wpAnyH_take (i:=34) (oi:=_) (v:=_) (by simp only[List.getElem?_toArray,List.getElem?_cons_succ,List.getElem?_cons_zero];rfl) (by kernel_rfl) (by kernel_rfl) (by kernel_rfl) (by exact fun _ _ _ h=>h) (Or.inl ⟨by rfl,by intro w hSw;(try dsimp only at hSw);go_simp;try with_reducible rfl⟩) (by assumption) ?_
   try simp only[Act.put,List.setIfInBounds_toArray,List.set_cons_zero,List.set_cons_succ]
   refine wpAnyH_ready (rs:=[35]) (by kernel_rfl) (by simp) ?_
   refine AllReadyH.cons (o:=?o5) ?h5 (fun K hK=>?k5) AllReadyH.nil
   case h5=>
    simp only[List.getElem?_toArray,List.getElem?_cons_succ,List.getElem?_cons_zero];rfl
   go_simp
   go_at_call 79
   refine(HFU.out _ hdr).mono ?_
   rintro e wq ⟨rfl,hbq⟩
   have hq1:=hdr.trans (hbq.mono hdr.size)
   cases hfb:ah5 ⟨ql,⟨aj,au,iw,jl⟩,jg⟩
   case false=>
    refine hK.out _ _ (by first|exact(anh.out _ hq1)|go_keep) (fun hHeld=>?_)
    clear hK K
    try simp only[Act.put,List.setIfInBounds_toArray,List.set_cons_zero,List.set_cons_succ]
    have HF2:Hid (R=false):=by show _=_;rw[HG.out,ak9 HX.out (.inl (by rw[ayp.out,hfb];rfl))]
    refine wpAnyH_take (i:=36) (oi:=_) (v:=_) (by simp only[List.getElem?_toArray,List.getElem?_cons_succ,List.getElem?_cons_zero];rfl) (by kernel_rfl) (by kernel_rfl) (by kernel_rfl) (by exact fun _ _ _ h=>h) (Or.inl ⟨by rfl,by intro w hSw;(try dsimp only at hSw);go_simp;try with_reducible rfl⟩) (by assumption) ?_
    try simp only[Act.put,List.setIfInBounds_toArray,List.set_cons_zero,List.set_cons_succ]
    refine wpAnyH_take (i:=37) (oi:=_) (v:=_) (by simp only[List.getElem?_toArray,List.getElem?_cons_succ,List.getElem?_cons_zero];rfl) (by kernel_rfl) (by kernel_rfl) (by kernel_rfl) (by exact fun _ _ _ h=>h) (Or.inl ⟨by rfl,by intro w hSw;(try dsimp only at hSw);go_simp;try with_reducible rfl⟩) (by assumption) ?_
    try simp only[Act.put,List.setIfInBounds_toArray,List.set_cons_zero,List.set_cons_succ]
    refine wpAnyH_take (i:=38) (oi:=_) (v:=_) (by simp only[List.getElem?_toArray,List.getElem?_cons_succ,List.getElem?_cons_zero];rfl) (by kernel_rfl) (by kernel_rfl) (by kernel_rfl) (by exact fun _ _ _ h=>h) (Or.inl ⟨by rfl,by intro w hSw;(try dsimp only at hSw);go_simp;try with_reducible rfl⟩) (by assumption) ?_
    try simp only[Act.put,List.setIfInBounds_toArray,List.set_cons_zero,List.set_cons_succ]
    refine wpAnyH_take (i:=39) (oi:=_) (v:=undef) (by simp only[List.getElem?_toArray,List.getElem?_cons_succ,List.getElem?_cons_zero];rfl) (by kernel_rfl) (by kernel_rfl) (by kernel_rfl) (by exact fun _ _ _ h=>h) (Or.inr ⟨by rfl,rfl⟩) (by assumption) ?_
    try simp only[Act.put,List.setIfInBounds_toArray,List.set_cons_zero,List.set_cons_succ]
    refine wpAnyH_take (i:=40) (oi:=_) (v:=undef) (by simp only[List.getElem?_toArray,List.getElem?_cons_succ,List.getElem?_cons_zero];rfl) (by kernel_rfl) (by kernel_rfl) (by kernel_rfl) (by exact fun _ _ _ h=>h) (Or.inr ⟨by rfl,rfl⟩) (by assumption) ?_
    try simp only[Act.put,List.setIfInBounds_toArray,List.set_cons_zero,List.set_cons_succ]
    refine wpAnyH_take (i:=41) (oi:=_) (v:=undef) (by simp only[List.getElem?_toArray,List.getElem?_cons_succ,List.getElem?_cons_zero];rfl) (by kernel_rfl) (by kernel_rfl) (by kernel_rfl) (by exact fun _ _ _ h=>h) (Or.inr ⟨by rfl,rfl⟩) (by assumption) ?_
    try simp only[Act.put,List.setIfInBounds_toArray,List.set_cons_zero,List.set_cons_succ]
    refine wpAnyH_take (i:=42) (oi:=_) (v:=undef) (by simp only[List.getElem?_toArray,List.getElem?_cons_succ,List.getElem?_cons_zero];rfl) (by kernel_rfl) (by kernel_rfl) (by kernel_rfl) (by exact fun _ _ _ h=>h) (Or.inr ⟨by rfl,rfl⟩) (by assumption) ?_
    try simp only[Act.put,List.setIfInBounds_toArray,List.set_cons_zero,List.set_cons_succ]
    refine wpAnyH_take (i:=43) (oi:=_) (v:=undef) (by simp only[List.getElem?_toArray,List.getElem?_cons_succ,List.getElem?_cons_zero];rfl) (by kernel_rfl) (by kernel_rfl) (by kernel_rfl) (by exact fun _ _ _ h=>h) (Or.inr ⟨by rfl,rfl⟩) (by assumption) ?_
    try simp only[Act.put,List.setIfInBounds_toArray,List.set_cons_zero,List.set_cons_succ]
    refine wpAnyH_take (i:=44) (oi:=_) (v:=undef) (by simp only[List.getElem?_toArray,List.getElem?_cons_succ,List.getElem?_cons_zero];rfl) (by kernel_rfl) (by kernel_rfl) (by kernel_rfl) (by exact fun _ _ _ h=>h) (Or.inr ⟨by rfl,rfl⟩) (by assumption) ?_
    try simp only[Act.put,List.setIfInBounds_toArray,List.set_cons_zero,List.set_cons_succ]
    refine wpAnyH_take (i:=45) (oi:=_) (v:=undef) (by simp only[List.getElem?_toArray,List.getElem?_cons_succ,List.getElem?_cons_zero];rfl) (by kernel_rfl) (by kernel_rfl) (by kernel_rfl) (by exact fun _ _ _ h=>h) (Or.inr ⟨by rfl,rfl⟩) (by assumption) ?_
    try simp only[Act.put,List.setIfInBounds_toArray,List.set_cons_zero,List.set_cons_succ]
    refine wpAnyH_take (i:=46) (oi:=_) (v:=undef) (by simp only[List.getElem?_toArray,List.getElem?_cons_succ,List.getElem?_cons_zero];rfl) (by kernel_rfl) (by kernel_rfl) (by kernel_rfl) (by exact fun _ _ _ h=>h) (Or.inr ⟨by rfl,rfl⟩) (by assumption) ?_
    try simp only[Act.put,List.setIfInBounds_toArray,List.set_cons_zero,List.set_cons_succ]
    refine wpAnyH_take (i:=47) (oi:=_) (v:=undef) (by simp only[List.getElem?_toArray,List.getElem?_cons_succ,List.getElem?_cons_zero];rfl) (by kernel_rfl) (by kernel_rfl) (by kernel_rfl) (by exact fun _ _ _ h=>h) (Or.inr ⟨by rfl,rfl⟩) (by assumption) ?_
    try simp only[Act.put,List.setIfInBounds_toArray,List.set_cons_zero,List.set_cons_succ]
    refine wpAnyH_take (i:=48) (oi:=_) (v:=undef) (by simp only[List.getElem?_toArray,List.getElem?_cons_succ,List.getElem?_cons_zero];rfl) (by kernel_rfl) (by kernel_rfl) (by kernel_rfl) (by exact fun _ _ _ h=>h) (Or.inr ⟨by rfl,rfl⟩) (by assumption) ?_
    try simp only[Act.put,List.setIfInBounds_toArray,List.set_cons_zero,List.set_cons_succ]
    refine wpAnyH_take (i:=49) (oi:=_) (v:=_) (by simp only[List.getElem?_toArray,List.getElem?_cons_succ,List.getElem?_cons_zero];rfl) (by kernel_rfl) (by kernel_rfl) (by kernel_rfl) (by exact fun _ _ _ h=>h) (Or.inl ⟨by rfl,by intro w hSw;(try dsimp only at hSw);go_simp;try with_reducible rfl⟩) (by assumption) ?_
    try simp only[Act.put,List.setIfInBounds_toArray,List.set_cons_zero,List.set_cons_succ]
    refine wpAnyH_done (by kernel_rfl) ?_ _
    go_wp2_with fail
    go_ret
    exact⟨ah HF2.out.symm,hBs.trans (hq1.mono hsz)⟩
   case true=>
    refine hK.out _ _ (by first|exact(anh.out _ hq1)|go_keep) (fun hHeld=>?_)
    clear hK K
    try simp only[Act.put,List.setIfInBounds_toArray,List.set_cons_zero,List.set_cons_succ]
    have HKN:=Lib.hid (fun(V:World) (hV:Below wr.heap.size wr V)=>avg ⟨ql,⟨aj,au,iw,jl⟩,jg⟩ (a2p hfb) (res:=resources) (B:=B) (B2:=B) (cs:=[.slice abt abu abv,.int .i64 aj,.string au,.slice yh yj yt,.slice zn zo zq,.bool jg]) (v:=.slice RA k rc) (w:=V) (Nat.le_trans hB (Nat.le_trans hsz hV.size)) (Nat.le_trans hB (Nat.le_trans hsz hV.size)) (amz.out.below (hV.mono (Nat.le_trans hB hsz))) (a8i.out.below (hV.mono (Nat.le_trans hB hsz))))
    refine wpAnyH_take (i:=36) (oi:=_) (v:=_) (by simp only[List.getElem?_toArray,List.getElem?_cons_succ,List.getElem?_cons_zero];rfl) (by kernel_rfl) (by kernel_rfl) (by kernel_rfl) (by exact fun _ _ _ h=>h) (Or.inl ⟨by rfl,by intro w hSw;(try dsimp only at hSw);go_simp;try with_reducible rfl⟩) (by assumption) ?_
    try simp only[Act.put,List.setIfInBounds_toArray,List.set_cons_zero,List.set_cons_succ]
    refine wpAnyH_take (i:=37) (oi:=_) (v:=_) (by simp only[List.getElem?_toArray,List.getElem?_cons_succ,List.getElem?_cons_zero];rfl) (by kernel_rfl) (by kernel_rfl) (by kernel_rfl) (by exact fun _ _ _ h=>h) (Or.inl ⟨by rfl,by intro w hSw;(try dsimp only at hSw);go_simp;try with_reducible rfl⟩) (by assumption) ?_
    try simp only[Act.put,List.setIfInBounds_toArray,List.set_cons_zero,List.set_cons_succ]
    refine wpAnyH_take (i:=38) (oi:=_) (v:=_) (by simp only[List.getElem?_toArray,List.getElem?_cons_succ,List.getElem?_cons_zero];rfl) (by kernel_rfl) (by kernel_rfl) (by kernel_rfl) (by exact fun _ _ _ h=>h) (Or.inl ⟨by rfl,by intro w hSw;(try dsimp only at hSw);go_simp;try with_reducible rfl⟩) (by assumption) ?_
    try simp only[Act.put,List.setIfInBounds_toArray,List.set_cons_zero,List.set_cons_succ]
    refine wpAnyH_take (i:=39) (oi:=_) (v:=_) (by simp only[List.getElem?_toArray,List.getElem?_cons_succ,List.getElem?_cons_zero];rfl) (by kernel_rfl) (by kernel_rfl) (by kernel_rfl) (by exact fun _ _ _ h=>h) (Or.inl ⟨by rfl,by intro w hSw;(try dsimp only at hSw);go_simp;try with_reducible rfl⟩) (by assumption) ?_
    try simp only[Act.put,List.setIfInBounds_toArray,List.set_cons_zero,List.set_cons_succ]
    refine wpAnyH_take (i:=40) (oi:=_) (v:=_) (by simp only[List.getElem?_toArray,List.getElem?_cons_succ,List.getElem?_cons_zero];rfl) (by kernel_rfl) (by kernel_rfl) (by kernel_rfl) (by exact fun _ _ _ h=>h) (Or.inl ⟨by rfl,by intro w hSw;(try dsimp only at hSw);go_simp;try with_reducible rfl⟩) (by assumption) ?_
    try simp only[Act.put,List.setIfInBounds_toArray,List.set_cons_zero,List.set_cons_succ]
    refine wpAnyH_take (i:=41) (oi:=_) (v:=_) (by simp only[List.getElem?_toArray,List.getElem?_cons_succ,List.getElem?_cons_zero];rfl) (by kernel_rfl) (by kernel_rfl) (by kernel_rfl) (by exact fun _ _ _ h=>h) (Or.inl ⟨by rfl,by intro w hSw;(try dsimp only at hSw);go_simp;try with_reducible rfl⟩) (by assumption) ?_
    try simp only[Act.put,List.setIfInBounds_toArray,List.set_cons_zero,List.set_cons_succ]
    refine wpAnyH_take (i:=42) (oi:=_) (v:=_) (by simp only[List.getElem?_toArray,List.getElem?_cons_succ,List.getElem?_cons_zero];rfl) (by kernel_rfl) (by kernel_rfl) (by kernel_rfl) (by exact fun _ _ _ h=>h) (Or.inl ⟨by rfl,by intro w hSw;(try dsimp only at hSw);go_simp;try with_reducible rfl⟩) (by assumption) ?_
    try simp only[Act.put,List.setIfInBounds_toArray,List.set_cons_zero,List.set_cons_succ]
    refine wpAnyH_take (i:=43) (oi:=_) (v:=_) (by simp only[List.getElem?_toArray,List.getElem?_cons_succ,List.getElem?_cons_zero];rfl) (by kernel_rfl) (by kernel_rfl) (by kernel_rfl) (by exact fun _ _ _ h=>h) (Or.inl ⟨by rfl,by intro w hSw;(try dsimp only at hSw);go_simp;try with_reducible rfl⟩) (by assumption) ?_
    try simp only[Act.put,List.setIfInBounds_toArray,List.set_cons_zero,List.set_cons_succ]
    refine wpAnyH_take (i:=44) (oi:=_) (v:=_) (by simp only[List.getElem?_toArray,List.getElem?_cons_succ,List.getElem?_cons_zero];rfl) (by kernel_rfl) (by kernel_rfl) (by kernel_rfl) (by exact fun _ _ _ h=>h) (Or.inl ⟨by rfl,by intro w hSw;(try dsimp only at hSw);go_simp;try with_reducible rfl⟩) (by assumption) ?_
    try simp only[Act.put,List.setIfInBounds_toArray,List.set_cons_zero,List.set_cons_succ]
    refine wpAnyH_take (i:=45) (oi:=_) (v:=_) (by simp only[List.getElem?_toArray,List.getElem?_cons_succ,List.getElem?_cons_zero];rfl) (by kernel_rfl) (by kernel_rfl) (by kernel_rfl) (by exact fun _ _ _ h=>h) (Or.inl ⟨by rfl,by intro w hSw;(try dsimp only at hSw);go_simp;try with_reducible rfl⟩) (by assumption) ?_
    try simp only[Act.put,List.setIfInBounds_toArray,List.set_cons_zero,List.set_cons_succ]
    refine wpAnyH_take (i:=46) (oi:=_) (v:=_) (by simp only[List.getElem?_toArray,List.getElem?_cons_succ,List.getElem?_cons_zero];rfl) (by kernel_rfl) (by kernel_rfl) (by kernel_rfl) (by exact fun _ _ _ h=>h) (Or.inl ⟨by rfl,by intro w hSw;(try dsimp only at hSw);go_simp;try with_reducible rfl⟩) (by assumption) ?_
    try simp only[Act.put,List.setIfInBounds_toArray,List.set_cons_zero,List.set_cons_succ]
    refine wpAnyH_ready (rs:=[47]) (by kernel_rfl) (by simp) ?_
    refine AllReadyH.cons (o:=?o6) ?h6 (fun K hK=>?k6) AllReadyH.nil
    case h6=>
     simp only[List.getElem?_toArray,List.getElem?_cons_succ,List.getElem?_cons_zero];rfl
    go_simp
    go_at_call 90
    refine(HKN.out _ hq1).mono ?_
    rintro e wz ⟨rfl,hbz⟩
    have hq2:=hq1.trans (hbz.mono hq1.size)
    cases hkn2:ajc ⟨ql,⟨aj,au,iw,jl⟩,jg⟩ resources
    case false=>
     refine hK.out _ _ (by first|exact(anh.out _ hq2)|go_keep) (fun hHeld=>?_)
     clear hK K
     try simp only[Act.put,List.setIfInBounds_toArray,List.set_cons_zero,List.set_cons_succ]
     refine wpAnyH_take (i:=48) (oi:=_) (v:=_) (by simp only[List.getElem?_toArray,List.getElem?_cons_succ,List.getElem?_cons_zero];rfl) (by kernel_rfl) (by kernel_rfl) (by kernel_rfl) (by exact fun _ _ _ h=>h) (Or.inl ⟨by rfl,by intro w hSw;(try dsimp only at hSw);go_simp;try with_reducible rfl⟩) (by assumption) ?_
     try simp only[Act.put,List.setIfInBounds_toArray,List.set_cons_zero,List.set_cons_succ]
     refine wpAnyH_take (i:=49) (oi:=_) (v:=_) (by simp only[List.getElem?_toArray,List.getElem?_cons_succ,List.getElem?_cons_zero];rfl) (by kernel_rfl) (by kernel_rfl) (by kernel_rfl) (by exact fun _ _ _ h=>h) (Or.inl ⟨by rfl,by intro w hSw;(try dsimp only at hSw);go_simp;try with_reducible rfl⟩) (by assumption) ?_
     try simp only[Act.put,List.setIfInBounds_toArray,List.set_cons_zero,List.set_cons_succ]
     have HF2:Hid (R=false):=by show _=_;rw[HG.out,ak9 HX.out (.inl (by rw[ayp.out,hfb,hkn2];rfl))]
     refine wpAnyH_done (by kernel_rfl) ?_ _
     go_wp2_with fail
     go_ret
     exact⟨ah HF2.out.symm,hBs.trans (hq2.mono hsz)⟩
    case true=>
     refine hK.out _ _ (by first|exact(anh.out _ hq2)|go_keep) (fun hHeld=>?_)
     clear hK K
     try simp only[Act.put,List.setIfInBounds_toArray,List.set_cons_zero,List.set_cons_succ]
     refine wpAnyH_take (i:=48) (oi:=_) (v:=_) (by simp only[List.getElem?_toArray,List.getElem?_cons_succ,List.getElem?_cons_zero];rfl) (by kernel_rfl) (by kernel_rfl) (by kernel_rfl) (by exact fun _ _ _ h=>h) (Or.inl ⟨by rfl,by intro w hSw;(try dsimp only at hSw);go_simp;try with_reducible rfl⟩) (by assumption) ?_
     try simp only[Act.put,List.setIfInBounds_toArray,List.set_cons_zero,List.set_cons_succ]
     refine wpAnyH_take (i:=49) (oi:=_) (v:=_) (by simp only[List.getElem?_toArray,List.getElem?_cons_succ,List.getElem?_cons_zero];rfl) (by kernel_rfl) (by kernel_rfl) (by kernel_rfl) (by exact fun _ _ _ h=>h) (Or.inl ⟨by rfl,by intro w hSw;(try dsimp only at hSw);go_simp;try with_reducible rfl⟩) (by assumption) ?_
     try simp only[Act.put,List.setIfInBounds_toArray,List.set_cons_zero,List.set_cons_succ]
     have HQ:Hid (∀ (j:Nat) (x:Fun),j < k2+1→funcs[j]?=some x→fnB resources x=true∧aio (funcs.map Fun.name) j=true):=fun j x hj hx=>by
      by_cases e:j=k2
      ·subst e
       obtain rfl:=Option.some.inj (HX.out.symm.trans hx)
       exact⟨by rw[ayp.out,hfb,hkn2];rfl,bo9.out⟩
      ·exact HP.out j x (by omega) hx
     refine wpAnyH_done (by kernel_rfl) ?_ _
     have bdv:=hbs.trans (hq2.mono hbs.size)
     go_wp2_with fail
     go_roundw
     case rel=>exact⟨k2+1,by omega,by go_num,HQ,bdv⟩
     case measure=>simp[intOf];omega
theorem avh (f:qg) {B:Nat} {cs:List Value} {w:World} (hB:B≤w.heap.size) (hwf:PD.wfL (qg.pd f)) (h:jy w B (qg.pd f) cs):
  Calls Tryz.prog 27 #[.agg cs.toArray] w fun e w'=>e=.returned (.bool (agc f))∧Below w.heap.size w w':=by
 have HW:=Lib.hid hwf
 have HC:=Lib.hid (fun(V:World) (hV:Below w.heap.size w V) cs (k:jy V B (qg.pd f) cs)=>axg f (B:=B) (Nat.le_trans hB hV.size) HW.out k)
 obtain⟨b,hb⟩:∃ b,agc f=b:=⟨_,rfl⟩
 rw[hb] at HC ⊢
 obtain⟨package,name,version,resources,funcs⟩:=f
 obtain⟨oz,aaq,rfl,aa8,ad4⟩:=qg.open_ h
 have adq:=Lib.hid aa8
 clear aa8
 have af0:=Lib.hid ad4
 clear ad4
 clear h hwf hb HW
 go_enter Tryz.func27,Tryz.ntmps27
 go_wp2_with fail
 obtain⟨w0,hw0⟩:∃ W,W=w.alloc (.cells #[.string package,.string name,.string version,oz,aaq] 30):=⟨_,rfl⟩
 rw[← hw0]
 have bA:Blk w0 w.heap.size 30 #[.string package,.string name,.string version,oz,aaq]:=by rw[hw0];exact Blk.new w _ _
 have hB0:Below w.heap.size w w0:=by rw[hw0];exact(Below.refl _ _).alloc (Nat.le_refl _) _
 clear hw0
 refine(HC.out w0 hB0 _ (qg.close_ (adq.out.below (hB0.mono hB)) (af0.out.below (hB0.mono hB)))).mono ?_
 rintro e w1 ⟨rfl,hb1⟩
 go_wp2_with fail
 go_ret
 exact⟨rfl,hB0.trans (hb1.mono hB0.size)⟩
end Go.Proofs.YtbafphecjijdmaaGreatDoor
