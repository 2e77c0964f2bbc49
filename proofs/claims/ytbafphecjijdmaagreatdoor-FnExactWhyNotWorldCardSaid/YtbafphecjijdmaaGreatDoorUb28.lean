/-
  Interfaces of the reference: l03Face, FaceOk.
-/
import Derived.Test.YtbafphecjijdmaaGreatDoorUb26
import Derived.Test.YtbafphecjijdmaaGreatDoorUb27
import Derived.Test.YtbafphecjijdmaaGreatDoorUb23
import Derived.Deep.RegionWith
namespace Go.Proofs.YtbafphecjijdmaaGreatDoor
open Go.RowKit
set_option linter.all false
set_option maxRecDepth 16000
theorem bgv {p n v:ByteArray} {res:List ByteArray} {fs:List Fun} (h:PD.wfL (cu.pd ⟨p,n,v,res,fs⟩)):p.size≤maxLen∧n.size≤maxLen∧v.size≤maxLen∧(∀ s ∈ res,s.size≤maxLen)∧∀ x ∈ fs,PD.wfL (Fun.pd x):=by
 rw[cu.aj] at h
 simp only[PD.wfL,PD.wf] at h
 refine⟨h.1,h.2.1,h.2.2.1,fun s hs=>?_,afx.1 h.2.2.2.2.1⟩
 have:=afx.1 h.2.2.2.1 s hs
 simp only[qj,PD.wfL,PD.wf] at this
 exact this.1
theorem brm {n:ByteArray} {ps:List Param} {a:Int} {b:ByteArray} {c:List ByteArray} {d:List Ty} {z:Bool} (h:PD.wfL (Fun.pd ⟨n,⟨ps,⟨a,b,c,d⟩,z⟩⟩)):n.size≤maxLen∧PD.wfL (jh.pd ⟨ps,⟨a,b,c,d⟩,z⟩):=by
 rw[Fun.aj] at h
 rw[jh.aj]
 simp only[PD.wfL,PD.wf] at h ⊢
 exact⟨h.1,h.2⟩
theorem ara (x:ByteArray) (hs:x.size≤maxLen) {b:Bool} (h:zn x=b) (w:World):Calls Tryz.prog 89 #[.string x] w fun e w'=>e=.returned (.bool b)∧w'=w:=by
 subst h
 exact(afr x hs w).mono fun e w' h=>⟨h.1,h.2.symm⟩
theorem bjq {res:List ByteArray} {k:Nat} {x:ByteArray} (h:res[k]?=some x):a0o res k=(zn x && ajn res k):=by rw[a0o,h]
theorem ako {f:Nat→Bool} {k:Nat} (hp:∀ j,j < k→f j=true) (h:f k=true):∀ j,j < k+1→f j=true:=fun j hj=>by
 by_cases e:j=k
 ·subst e;exact h
 ·exact hp j (by omega)
set_option maxHeartbeats 12800000 in
theorem a0q (f:cu) {B:Nat} {cs:List Value} {w:World} (hB:B≤w.heap.size) (hwf:PD.wfL (cu.pd f)) (h:lq w B (cu.pd f) cs):
  Calls Tryz.prog 54 #[.agg cs.toArray] w fun e w'=>e=.returned (.bool (ag9 f))∧Below w.heap.size w w':=by
 obtain⟨package,name,version,resources,funcs⟩:=f
 obtain⟨w1_,w2_,w3_,w4_,w5_⟩:=bgv hwf
 have HWR:=zqd w4_
 have HWF:=zqd w5_
 obtain⟨R,hR⟩:∃ R:Bool,R=ag9 ⟨package,name,version,resources,funcs⟩:=⟨_,rfl⟩
 rw[← hR]
 rw[ag9] at hR
 simp only at hR
 have HR:=zqd hR
 clear hR w4_ w5_ hwf
 obtain⟨aai,adq,rfl,abl,aei⟩:=cu.open_ h
 have ad4:=zqd abl
 clear abl
 have agn:=zqd aei
 clear aei
 obtain⟨A,n,c,rfl,hnl,hm,hat⟩:=ni Fun.jd (by decide) agn.out
 obtain⟨RA,rn,rc,rfl,hrl,hrm,bd8⟩:=akg ad4.out
 unfold maxLen at hm
 have HN:=zqd hnl
 have HRN:=zqd hrl
 clear h hnl hrl
 go_enter Tryz.func54,Tryz.ntmps54
 go_wp2_with fail
 obtain⟨w0,hw0⟩:=zqe w 30 #[.string package,.string name,.string version,.slice RA rn rc,.slice A n c]
 rw[← hw0]
 have bA:=zqn hw0
 have hB0:=zqb hw0
 clear hw0
 obtain⟨ahs,ak6,aht,agl,ajd⟩:=zc5 bA
 cases hp:zn package
 case false=>
  have HF:Hid (R=false):=by show _=_;rw[HR.out,hp];rfl
  refine(ara package w1_ hp _).mono ?_
  rintro e w' ⟨rfl,rfl⟩
  clear hp
  go_wp2_with fail
  go_ret
  exact⟨ah HF.out.symm,hB0⟩
 refine(ara package w1_ hp _).mono ?_
 rintro e w' ⟨rfl,hw'⟩
 subst hw'
 obtain⟨w0,rfl⟩:∃ W,W=w':=⟨_,rfl⟩
 go_wp2_with fail
 cases hq:zn name
 case false=>
  have HF:Hid (R=false):=by show _=_;rw[HR.out,hp,hq];rfl
  refine(ara name w2_ hq _).mono ?_
  rintro e w' ⟨rfl,rfl⟩
  clear hp hq
  go_wp2_with fail
  go_ret
  exact⟨ah HF.out.symm,hB0⟩
 refine(ara name w2_ hq _).mono ?_
 rintro e w' ⟨rfl,hw'⟩
 subst hw'
 obtain⟨w0,rfl⟩:∃ W,W=w':=⟨_,rfl⟩
 go_wp2_with fail
 refine(ax3 version w3_ _).mono ?_
 rintro e w1 ⟨rfl,hb1⟩
 have hB1:=hB0.trans (hb1.mono hB0.size)
 have bA1:=bA.step hb1
 clear bA ahs ak6 aht agl ajd
 cases hv:decide (0≤afh version)
 case false=>
  have HF:Hid (R=false):=by show _=_;rw[HR.out,hp,hq,hv];rfl
  clear hp hq hv
  go_wp2_with fail
  go_ret
  exact⟨ah HF.out.symm,hB1⟩
 obtain⟨ahs,ak6,aht,agl,ajd⟩:=zc5 bA1
 by_cases hr4:rn≤4
 case neg=>
  have HF:Hid (R=false):=by show _=_;rw[HR.out,hp,hq,hv,decide_eq_false (show ¬ resources.length≤4 by have:=HRN.out;omega)];rfl
  clear hp hq hv
  go_wp2_with fail
  go_ret
  exact⟨ah HF.out.symm,hB1⟩
 by_cases hn8:n≤8
 case neg=>
  have HF:Hid (R=false):=by show _=_;rw[HR.out,hp,hq,hv,decide_eq_true (show resources.length≤4 by have:=HRN.out;omega),decide_eq_false (show ¬ funcs.length≤8 by have:=HN.out;omega)];rfl
  clear hp hq hv
  go_wp2_with fail
  go_ret
  exact⟨ah HF.out.symm,hB1⟩
 have HF:Hid (R=(aqp resources && (funcs.all (fnB resources) && an1 (funcs.map Fun.name)))):=by show _=_;rw[HR.out,hp,hq,hv,decide_eq_true (show resources.length≤4 by have:=HRN.out;omega),decide_eq_true (show funcs.length≤8 by have:=HN.out;omega)];rfl
 clear hp hq hv HR
 go_wp2_with fail
 go_loopw [3] (fun i wr=>∃ k:Nat,k≤rn∧i=.int .i64 k∧Hid (∀ j,j < k→a0o resources j=true)∧Below w1.heap.size w1 wr) (fun i _=>rn - (intOf i).toNat)
 case atStart=>exact⟨0,Nat.zero_le _,rfl,zqd fun j h=>absurd h (by omega),zqf _ _⟩
 case round=>
  obtain⟨k,hk,rfl,HP,hbr⟩:=hrel
  have hBr:=hB1.trans (hbr.mono hB1.size)
  have bR:=bA1.step hbr
  have b_r:wr.cell? ⟨w.heap.size,3,none⟩=some (.slice RA rn rc):=bR.cell 3
  by_cases hlt:k < rn
  ·obtain⟨g,off,rfl,hg,hcell⟩:=bd8 (by omega)
   obtain⟨x,hx,hmem⟩:=um HRN.out hlt
   have c_x:wr.cell? ⟨g,off+k,none⟩=some (.string x):=(hBr.cell (p:=⟨g,off+k,none⟩) (by simp only;omega)).trans (hcell k x hx)
   have HX:=zqd hx
   have HSA:=zqd (bjq hx)
   have hxs:=HWR.out x hmem
   clear hx hmem bd8
   cases hnm:zn x
   case false=>
    have HF2:Hid (R=false):=by show _=_;rw[HF.out,bci HX.out (.inl hnm)];rfl
    have HNM:=zqd (fun W=>ara x hxs hnm W)
    clear hnm
    go_wp2_with fail
    go_quiet (first|(go_at_call 89;exact Calls.quiet_of_same (HNM.out _)))
    go_wp2_with fail
    go_ret
    exact⟨ah HF2.out.symm,below_drewN hBr _⟩
   have HNM:=zqd (fun W=>ara x hxs hnm W)
   rcases Nat.eq_zero_or_pos k with hk0|hk0
   ·have HQ:=zqd (ako HP.out (by rw[HSA.out,hnm,hk0,atc];rfl))
    have hkf:decide (0 < k)=false:=decide_eq_false (by omega)
    clear hnm hk0 hcell
    go_wp2_with fail
    go_quiet (first|(go_at_call 89;exact Calls.quiet_of_same (HNM.out _)))
    go_wp2_with fail
    go_roundw
    case rel=>exact⟨k+1,by omega,by go_num,HQ,below_drewN hbr _⟩
    case measure=>simp[intOf];omega
   obtain⟨y,hy,_⟩:=um HRN.out (show k - 1 < rn by omega)
   have c_y:wr.cell? ⟨g,off+(k - 1),none⟩=some (.string y):=(hBr.cell (p:=⟨g,off+(k - 1),none⟩) (by simp only;omega)).trans (hcell (k - 1) y hy)
   have HIN:=zqd (ayq hk0 HX.out hy)
   have hkt:decide (0 < k)=true:=decide_eq_true (by omega)
   have hki:((k:Int) - 1).toNat=k - 1:=by omega
   have hkp:(0:Int)≤(k:Int) - 1:=by omega
   have hkn:(k:Int) - 1 < (rn:Int):=by omega
   clear hy hcell
   cases hlx:Op.bytesLess y.toList x.toList
   case false=>
    have HF2:Hid (R=false):=by show _=_;rw[HF.out,bci HX.out (.inr (HIN.out.trans hlx))];rfl
    clear hnm hk0
    go_wp2_with fail
    go_quiet (first|(go_at_call 89;exact Calls.quiet_of_same (HNM.out _)))
    go_wp2_with fail
    go_ret
    exact⟨ah HF2.out.symm,below_drewN hBr _⟩
   case true=>
    have HQ:=zqd (ako HP.out (by rw[HSA.out,hnm,HIN.out];exact hlx))
    clear hnm hk0
    go_wp2_with fail
    go_quiet (first|(go_at_call 89;exact Calls.quiet_of_same (HNM.out _)))
    go_wp2_with fail
    go_roundw
    case rel=>exact⟨k+1,by omega,by go_num,HQ,below_drewN hbr _⟩
    case measure=>simp[intOf];omega
  have hkn:k=rn:=by omega
  have HRB:=zqd (brc fun j hj=>HP.out j (by have:=HRN.out;omega))
  have HG:Hid (R=(funcs.all (fnB resources) && an1 (funcs.map Fun.name))):=by show _=_;rw[HF.out,HRB.out];rfl
  subst hkn
  clear bd8 HP
  go_wp2_with fail
  obtain⟨W,rfl⟩:∃ V,V=wr:=⟨_,rfl⟩
  have hBW:=hBr
  have bW:=bR
  clear hBr bR hbr b_r bA1
  go_loopw [4] (fun i ws=>∃ k2:Nat,k2≤n∧i=.int .i64 k2∧Hid (∀ (j:Nat) (x:Fun),j < k2→funcs[j]?=some x→fnB resources x=true∧ajn (funcs.map Fun.name) j=true)∧Below W.heap.size W ws) (fun i _=>n - (intOf i).toNat)
  case atStart=>exact⟨0,Nat.zero_le _,rfl,zqd fun j x h=>absurd h (by omega),zqf _ _⟩
  case round=>
   obtain⟨k2,hk2,rfl,HP,hbs⟩:=hrel
   have hBs:=hBW.trans (hbs.mono hBW.size)
   have bS:=bW.step hbs
   have b_r:wr.cell? ⟨w.heap.size,3,none⟩=some (.slice RA k rc):=bS.cell 3
   have b_f:wr.cell? ⟨w.heap.size,4,none⟩=some (.slice A n c):=bS.cell 4
   by_cases hlt2:k2 < n
   case neg=>
    have HF2:Hid (R=true):=by show _=_;rw[HG.out,brd fun j x hx=>HP.out j x (by have:=(List.getElem?_eq_some_iff.1 hx).1;have:=HN.out;omega) hx]
    go_wp2_with fail
    go_ret
    exact⟨ah HF2.out.symm,hBs⟩
   obtain⟨g,off,rfl,hg,hcell⟩:=hat (by omega)
   obtain⟨t,hx,hmem⟩:=um HN.out hlt2
   obtain⟨name,⟨qm,⟨au,ay,iy,jq⟩,jl⟩⟩:=t
   have ape:wr.cell? ⟨g,off+k2 * 7,none⟩=some (.string name):=bg hBs (by omega) (hcell k2 0 _ _ hx (by rw[Fun.aj];rfl))
   obtain⟨aa1,an4,acr⟩:∃ u,wr.cell? ⟨g,off+k2 * 7+1,none⟩=some u∧Rep wr B (.row 5 (qm.flatMap Param.pd)) u:=jc hBs (by omega) hB (hcell k2 1 _ _ hx (by rw[Fun.aj];rfl))
   have afo:=zqd acr
   clear acr
   have aj1:wr.cell? ⟨g,off+k2 * 7+2,none⟩=some (.int .i64 au):=bg hBs (by omega) (hcell k2 2 _ _ hx (by rw[Fun.aj];rfl))
   have aj2:wr.cell? ⟨g,off+k2 * 7+3,none⟩=some (.string ay):=bg hBs (by omega) (hcell k2 3 _ _ hx (by rw[Fun.aj];rfl))
   obtain⟨su,ai8,zy⟩:∃ u,wr.cell? ⟨g,off+k2 * 7+4,none⟩=some u∧Rep wr B (.row 1 (iy.flatMap qj)) u:=jc hBs (by omega) hB (hcell k2 4 _ _ hx (by rw[Fun.aj];rfl))
   have adp:=zqd zy
   clear zy
   obtain⟨xu,aj3,aar⟩:∃ u,wr.cell? ⟨g,off+k2 * 7+5,none⟩=some u∧Rep wr B (.row 4 (jq.flatMap Ty.pd)) u:=jc hBs (by omega) hB (hcell k2 5 _ _ hx (by rw[Fun.aj];rfl))
   have aed:=zqd aar
   clear aar
   have aor:wr.cell? ⟨g,off+k2 * 7+6,none⟩=some (.bool jl):=bg hBs (by omega) (hcell k2 6 _ _ hx (by rw[Fun.aj];rfl))
   obtain⟨ab3,ab4,ab5,rfl⟩:=afo.out.form
   obtain⟨yu,yw,yx,rfl⟩:=adp.out.form
   obtain⟨aad,aae,aaf,rfl⟩:=aed.out.form
   have HX:=zqd hx
   have HM:=zqd hmem
   clear hx hmem
   have hfw:=brm (HWF.out _ HM.out)
   have hns:=hfw.1
   have hft:=hfw.2
   have hsz:=hBs.size
   have bd9:=zqd (ad4.out.below (hBs.mono hB))
   have alq:Hid (lq wr B (jh.pd ⟨qm,⟨au,ay,iy,jq⟩,jl⟩) [.slice ab3 ab4 ab5,.int .i64 au,.string ay,.slice yu yw yx,.slice aad aae aaf,.bool jl]):=(jh.close_ afo.out adp.out aed.out)
   have HFU:=zqd (fun(V:World) (hV:Below wr.heap.size wr V)=>a7t ⟨qm,⟨au,ay,iy,jq⟩,jl⟩ (B:=B) (cs:=[.slice ab3 ab4 ab5,.int .i64 au,.string ay,.slice yu yw yx,.slice aad aae aaf,.bool jl]) (w:=V) (Nat.le_trans hB (Nat.le_trans hsz hV.size)) hft (alq.out.below (hV.mono (Nat.le_trans hB hsz))))
   have HCE:=zqd (fun(V:World) (hV:Below wr.heap.size wr V)=>(⟨(hV.cell (p:=⟨w.heap.size,3,none⟩) bS.lt).trans b_r,(hV.cell (p:=⟨w.heap.size,4,none⟩) bS.lt).trans b_f,(hV.cell (p:=⟨g,off+k2 * 7,none⟩) (by simp only;omega)).trans ape,(hV.cell (p:=⟨g,off+k2 * 7+1,none⟩) (by simp only;omega)).trans an4,(hV.cell (p:=⟨g,off+k2 * 7+2,none⟩) (by simp only;omega)).trans aj1,(hV.cell (p:=⟨g,off+k2 * 7+3,none⟩) (by simp only;omega)).trans aj2,(hV.cell (p:=⟨g,off+k2 * 7+4,none⟩) (by simp only;omega)).trans ai8,(hV.cell (p:=⟨g,off+k2 * 7+5,none⟩) (by simp only;omega)).trans aj3,(hV.cell (p:=⟨g,off+k2 * 7+6,none⟩) (by simp only;omega)).trans aor⟩:V.cell? ⟨w.heap.size,3,none⟩=some (.slice RA k rc)∧V.cell? ⟨w.heap.size,4,none⟩=some (.slice (some ⟨g,off,none⟩) n c)∧V.cell? ⟨g,off+k2 * 7,none⟩=some (.string name)∧V.cell? ⟨g,off+k2 * 7+1,none⟩=some (.slice ab3 ab4 ab5)∧V.cell? ⟨g,off+k2 * 7+2,none⟩=some (.int .i64 au)∧V.cell? ⟨g,off+k2 * 7+3,none⟩=some (.string ay)∧V.cell? ⟨g,off+k2 * 7+4,none⟩=some (.slice yu yw yx)∧V.cell? ⟨g,off+k2 * 7+5,none⟩=some (.slice aad aae aaf)∧V.cell? ⟨g,off+k2 * 7+6,none⟩=some (.bool jl)))
   have HFB:Hid (fnB resources ⟨name,⟨qm,⟨au,ay,iy,jq⟩,jl⟩⟩=(zn name && (ai7 ⟨qm,⟨au,ay,iy,jq⟩,jl⟩ && akf ⟨qm,⟨au,ay,iy,jq⟩,jl⟩ resources))):=rfl
   clear hfw
   cases hnm:zn name
   case false=>
    have HF2:Hid (R=false):=by show _=_;rw[HG.out,amc HX.out (.inl (by rw[HFB.out,hnm];rfl))]
    have HNM:=zqd (fun V=>ara name hns hnm V)
    clear hnm hcell
    go_wp2_with fail
    go_quiet (first|(go_at_call 89;exact Calls.quiet_of_same (HNM.out _)))
    go_wp2_with fail
    go_ret
    exact⟨ah HF2.out.symm,below_drewN hBs _⟩
   have HNM:=zqd (fun V=>ara name hns hnm V)
   have a2e:Hid (fnB resources ⟨name,⟨qm,⟨au,ay,iy,jq⟩,jl⟩⟩=(ai7 ⟨qm,⟨au,ay,iy,jq⟩,jl⟩ && akf ⟨qm,⟨au,ay,iy,jq⟩,jl⟩ resources)):=by show _=_;rw[HFB.out,hnm];rfl
   clear hnm
   rcases Nat.eq_zero_or_pos k2 with hk0|hk0
   ·have HZ:Hid (k2=0):=hk0
    have hkf:decide (0 < k2)=false:=decide_eq_false (by omega)
    clear hk0 hcell
    have aom:=HCE
    have hdr:Below wr.heap.size wr wr.drew:=(zqf _ _).drew
    go_wp2_with fail
    refine wp_region_held_drew (S:=(fun w'=>w'.cell? ⟨w.heap.size,3,none⟩=some (.slice RA k rc)∧w'.cell? ⟨w.heap.size,4,none⟩=some (.slice (some ⟨g,off,none⟩) n c)∧w'.cell? ⟨g,off+k2 * 7,none⟩=some (.string name)∧w'.cell? ⟨g,off+k2 * 7+1,none⟩=some (.slice ab3 ab4 ab5)∧w'.cell? ⟨g,off+k2 * 7+2,none⟩=some (.int .i64 au)∧w'.cell? ⟨g,off+k2 * 7+3,none⟩=some (.string ay)∧w'.cell? ⟨g,off+k2 * 7+4,none⟩=some (.slice yu yw yx)∧w'.cell? ⟨g,off+k2 * 7+5,none⟩=some (.slice aad aae aaf)∧w'.cell? ⟨g,off+k2 * 7+6,none⟩=some (.bool jl))) (by kernel_rfl) (aom.out _ hdr) (fun hHeld=>?_)
    refine zqt 0 ?_
    try simp only[Act.put,zs1,zs2,zs3]
    refine zqt 1 ?_
    try simp only[Act.put,zs1,zs2,zs3]
    refine zqt 2 ?_
    try simp only[Act.put,zs1,zs2,zs3]
    refine zqt 3 ?_
    try simp only[Act.put,zs1,zs2,zs3]
    refine zqt 4 ?_
    try simp only[Act.put,zs1,zs2,zs3]
    refine zqt 5 ?_
    try simp only[Act.put,zs1,zs2,zs3]
    refine zqr 6 fun K hK=>?_
    go_simp
    go_at_call 89
    refine(HNM.out _).mono ?_
    rintro e wn ⟨rfl,hwn⟩
    subst hwn
    refine hK.out _ _ (by first|exact(aom.out _ hdr)|go_keep) (fun hHeld=>?_)
    clear hK K
    try simp only[Act.put,zs1,zs2,zs3]
    refine zqt 7 ?_
    try simp only[Act.put,zs1,zs2,zs3]
    refine zqt 8 ?_
    try simp only[Act.put,zs1,zs2,zs3]
    refine zqt 9 ?_
    try simp only[Act.put,zs1,zs2,zs3]
    refine zqt 10 ?_
    try simp only[Act.put,zs1,zs2,zs3]
    refine zqt 11 ?_
    try simp only[Act.put,zs1,zs2,zs3]
    refine zqo 12 ?_
    try simp only[Act.put,zs1,zs2,zs3]
    refine zqo 13 ?_
    try simp only[Act.put,zs1,zs2,zs3]
    refine zqo 14 ?_
    try simp only[Act.put,zs1,zs2,zs3]
    refine zqo 15 ?_
    try simp only[Act.put,zs1,zs2,zs3]
    refine zqo 16 ?_
    try simp only[Act.put,zs1,zs2,zs3]
    refine zqo 17 ?_
    try simp only[Act.put,zs1,zs2,zs3]
    refine zqo 18 ?_
    try simp only[Act.put,zs1,zs2,zs3]
    refine zqo 19 ?_
    try simp only[Act.put,zs1,zs2,zs3]
    refine zqo 20 ?_
    try simp only[Act.put,zs1,zs2,zs3]
    refine zqo 21 ?_
    try simp only[Act.put,zs1,zs2,zs3]
    refine zqo 22 ?_
    try simp only[Act.put,zs1,zs2,zs3]
    refine zqo 23 ?_
    try simp only[Act.put,zs1,zs2,zs3]
    refine zqo 24 ?_
    try simp only[Act.put,zs1,zs2,zs3]
    refine zqo 25 ?_
    try simp only[Act.put,zs1,zs2,zs3]
    refine zqt 26 ?_
    try simp only[Act.put,zs1,zs2,zs3]
    refine zqt 27 ?_
    try simp only[Act.put,zs1,zs2,zs3]
    refine zqt 28 ?_
    try simp only[Act.put,zs1,zs2,zs3]
    refine zqt 29 ?_
    try simp only[Act.put,zs1,zs2,zs3]
    refine zqt 30 ?_
    try simp only[Act.put,zs1,zs2,zs3]
    refine zqt 31 ?_
    try simp only[Act.put,zs1,zs2,zs3]
    refine zqt 32 ?_
    try simp only[Act.put,zs1,zs2,zs3]
    refine zqt 33 ?_
    try simp only[Act.put,zs1,zs2,zs3]
    refine zqt 34 ?_
    try simp only[Act.put,zs1,zs2,zs3]
    refine zqr 35 fun K hK=>?_
    go_simp
    go_at_call 79
    refine(HFU.out _ hdr).mono ?_
    rintro e wq ⟨rfl,hbq⟩
    have hq1:=hdr.trans (hbq.mono hdr.size)
    cases hfb:ai7 ⟨qm,⟨au,ay,iy,jq⟩,jl⟩
    case false=>
     refine hK.out _ _ (by first|exact(aom.out _ hq1)|go_keep) (fun hHeld=>?_)
     clear hK K
     try simp only[Act.put,zs1,zs2,zs3]
     have HF2:Hid (R=false):=by show _=_;rw[HG.out,amc HX.out (.inl (by rw[a2e.out,hfb];rfl))]
     refine zqt 36 ?_
     try simp only[Act.put,zs1,zs2,zs3]
     refine zqt 37 ?_
     try simp only[Act.put,zs1,zs2,zs3]
     refine zqt 38 ?_
     try simp only[Act.put,zs1,zs2,zs3]
     refine zqo 39 ?_
     try simp only[Act.put,zs1,zs2,zs3]
     refine zqo 40 ?_
     try simp only[Act.put,zs1,zs2,zs3]
     refine zqo 41 ?_
     try simp only[Act.put,zs1,zs2,zs3]
     refine zqo 42 ?_
     try simp only[Act.put,zs1,zs2,zs3]
     refine zqo 43 ?_
     try simp only[Act.put,zs1,zs2,zs3]
     refine zqo 44 ?_
     try simp only[Act.put,zs1,zs2,zs3]
     refine zqo 45 ?_
     try simp only[Act.put,zs1,zs2,zs3]
     refine zqo 46 ?_
     try simp only[Act.put,zs1,zs2,zs3]
     refine zqo 47 ?_
     try simp only[Act.put,zs1,zs2,zs3]
     refine zqo 48 ?_
     try simp only[Act.put,zs1,zs2,zs3]
     refine zqt 49 ?_
     try simp only[Act.put,zs1,zs2,zs3]
     refine wpAnyH_done (by kernel_rfl) ?_ _
     go_wp2_with fail
     go_ret
     exact⟨ah HF2.out.symm,hBs.trans (hq1.mono hsz)⟩
    case true=>
     refine hK.out _ _ (by first|exact(aom.out _ hq1)|go_keep) (fun hHeld=>?_)
     clear hK K
     try simp only[Act.put,zs1,zs2,zs3]
     have HKN:=zqd (fun(V:World) (hV:Below wr.heap.size wr V)=>ax2 ⟨qm,⟨au,ay,iy,jq⟩,jl⟩ (a8f hfb) (res:=resources) (B:=B) (B2:=B) (cs:=[.slice ab3 ab4 ab5,.int .i64 au,.string ay,.slice yu yw yx,.slice aad aae aaf,.bool jl]) (v:=.slice RA k rc) (w:=V) (Nat.le_trans hB (Nat.le_trans hsz hV.size)) (Nat.le_trans hB (Nat.le_trans hsz hV.size)) (alq.out.below (hV.mono (Nat.le_trans hB hsz))) (bd9.out.below (hV.mono (Nat.le_trans hB hsz))))
     refine zqt 36 ?_
     try simp only[Act.put,zs1,zs2,zs3]
     refine zqt 37 ?_
     try simp only[Act.put,zs1,zs2,zs3]
     refine zqt 38 ?_
     try simp only[Act.put,zs1,zs2,zs3]
     refine zqt 39 ?_
     try simp only[Act.put,zs1,zs2,zs3]
     refine zqt 40 ?_
     try simp only[Act.put,zs1,zs2,zs3]
     refine zqt 41 ?_
     try simp only[Act.put,zs1,zs2,zs3]
     refine zqt 42 ?_
     try simp only[Act.put,zs1,zs2,zs3]
     refine zqt 43 ?_
     try simp only[Act.put,zs1,zs2,zs3]
     refine zqt 44 ?_
     try simp only[Act.put,zs1,zs2,zs3]
     refine zqt 45 ?_
     try simp only[Act.put,zs1,zs2,zs3]
     refine zqt 46 ?_
     try simp only[Act.put,zs1,zs2,zs3]
     refine zqr 47 fun K hK=>?_
     go_simp
     go_at_call 90
     refine(HKN.out _ hq1).mono ?_
     rintro e wz ⟨rfl,hbz⟩
     have hq2:=hq1.trans (hbz.mono hq1.size)
     cases hkn2:akf ⟨qm,⟨au,ay,iy,jq⟩,jl⟩ resources
     case false=>
      refine hK.out _ _ (by first|exact(aom.out _ hq2)|go_keep) (fun hHeld=>?_)
      clear hK K
      try simp only[Act.put,zs1,zs2,zs3]
      refine zqt 48 ?_
      try simp only[Act.put,zs1,zs2,zs3]
      refine zqt 49 ?_
      try simp only[Act.put,zs1,zs2,zs3]
      have HF2:Hid (R=false):=by show _=_;rw[HG.out,amc HX.out (.inl (by rw[a2e.out,hfb,hkn2];rfl))]
      refine wpAnyH_done (by kernel_rfl) ?_ _
      go_wp2_with fail
      go_ret
      exact⟨ah HF2.out.symm,hBs.trans (hq2.mono hsz)⟩
     case true=>
      refine hK.out _ _ (by first|exact(aom.out _ hq2)|go_keep) (fun hHeld=>?_)
      clear hK K
      try simp only[Act.put,zs1,zs2,zs3]
      refine zqt 48 ?_
      try simp only[Act.put,zs1,zs2,zs3]
      refine zqt 49 ?_
      try simp only[Act.put,zs1,zs2,zs3]
      have HQ:Hid (∀ (j:Nat) (x:Fun),j < k2+1→funcs[j]?=some x→fnB resources x=true∧ajn (funcs.map Fun.name) j=true):=fun j x hj hx=>by
       by_cases e:j=k2
       ·subst e
        obtain rfl:=Option.some.inj (HX.out.symm.trans hx)
        exact⟨by rw[a2e.out,hfb,hkn2];rfl,by rw[HZ.out];exact atc _⟩
       ·exact HP.out j x (by omega) hx
      refine wpAnyH_done (by kernel_rfl) ?_ _
      have bjr:=hbs.trans (hq2.mono hbs.size)
      go_wp2_with fail
      go_roundw
      case rel=>exact⟨k2+1,by omega,by go_num,HQ,bjr⟩
      case measure=>simp[intOf];omega
   obtain⟨y,hy,_⟩:=um HN.out (show k2 - 1 < n by omega)
   have c_y:wr.cell? ⟨g,off+(k2 - 1) * 7,none⟩=some (.string y.name):=by
    have:=hcell (k2 - 1) 0 y (.lit (.string y.name)) hy (by obtain⟨a,⟨b,⟨c1,c2,c3,c4⟩,d⟩⟩:=y;rw[Fun.aj];rfl)
    exact bg hBs (by omega) this
   have HIN:=zqd (ayq hk0 (a8c HX.out) (a8c hy))
   obtain⟨yn,hyn⟩:∃ s,y.name=s:=⟨_,rfl⟩
   rw[hyn] at c_y HIN
   have hkt:decide (0 < k2)=true:=decide_eq_true (by omega)
   have hki:((k2:Int) - 1).toNat=k2 - 1:=by omega
   have hkw:IntKind.i64.wrap ((k2:Int) - 1)=(k2:Int) - 1:=IntWalk.i64_in _ (by omega)
   have hkp:(0:Int)≤(k2:Int) - 1:=by omega
   have hk1:(1:Int)≤(k2:Int):=by omega
   have hkn:(k2:Int) - 1 < (n:Int):=by omega
   clear hy hyn hcell
   cases hlx:Op.bytesLess yn.toList name.toList
   case false=>
    have HF2:Hid (R=false):=by show _=_;rw[HG.out,amc HX.out (.inr (HIN.out.trans hlx))]
    clear hk0
    go_wp2_with fail
    go_quiet (first|(go_at_call 89;exact Calls.quiet_of_same (HNM.out _)))
    go_wp2_with fail
    go_ret
    exact⟨ah HF2.out.symm,below_drewN hBs _⟩
   have bvq:=zqd (HIN.out.trans hlx)
   clear hk0
   have aom:Hid (∀ (V:World),Below wr.heap.size wr V→V.cell? ⟨w.heap.size,3,none⟩=some (.slice RA k rc)∧V.cell? ⟨w.heap.size,4,none⟩=some (.slice (some ⟨g,off,none⟩) n c)∧V.cell? ⟨g,off+k2 * 7,none⟩=some (.string name)∧V.cell? ⟨g,off+k2 * 7+1,none⟩=some (.slice ab3 ab4 ab5)∧V.cell? ⟨g,off+k2 * 7+2,none⟩=some (.int .i64 au)∧V.cell? ⟨g,off+k2 * 7+3,none⟩=some (.string ay)∧V.cell? ⟨g,off+k2 * 7+4,none⟩=some (.slice yu yw yx)∧V.cell? ⟨g,off+k2 * 7+5,none⟩=some (.slice aad aae aaf)∧V.cell? ⟨g,off+k2 * 7+6,none⟩=some (.bool jl)∧V.cell? ⟨g,off+(k2 - 1) * 7,none⟩=some (.string yn)):=fun V hV=>by
    obtain⟨z1,z2,z3,z4,z5,z6,z7,z8,z9⟩:=HCE.out V hV
    exact⟨z1,z2,z3,z4,z5,z6,z7,z8,z9,(hV.cell (p:=⟨g,off+(k2 - 1) * 7,none⟩) (by simp only;omega)).trans c_y⟩
   have hdr:Below wr.heap.size wr wr.drew:=(zqf _ _).drew
   go_wp2_with fail
   refine wp_region_held_drew (S:=(fun w'=>w'.cell? ⟨w.heap.size,3,none⟩=some (.slice RA k rc)∧w'.cell? ⟨w.heap.size,4,none⟩=some (.slice (some ⟨g,off,none⟩) n c)∧w'.cell? ⟨g,off+k2 * 7,none⟩=some (.string name)∧w'.cell? ⟨g,off+k2 * 7+1,none⟩=some (.slice ab3 ab4 ab5)∧w'.cell? ⟨g,off+k2 * 7+2,none⟩=some (.int .i64 au)∧w'.cell? ⟨g,off+k2 * 7+3,none⟩=some (.string ay)∧w'.cell? ⟨g,off+k2 * 7+4,none⟩=some (.slice yu yw yx)∧w'.cell? ⟨g,off+k2 * 7+5,none⟩=some (.slice aad aae aaf)∧w'.cell? ⟨g,off+k2 * 7+6,none⟩=some (.bool jl)∧w'.cell? ⟨g,off+(k2 - 1) * 7,none⟩=some (.string yn))) (by kernel_rfl) (aom.out _ hdr) (fun hHeld=>?_)
   refine zqt 0 ?_
   try simp only[Act.put,zs1,zs2,zs3]
   refine zqt 1 ?_
   try simp only[Act.put,zs1,zs2,zs3]
   refine zqt 2 ?_
   try simp only[Act.put,zs1,zs2,zs3]
   refine zqt 3 ?_
   try simp only[Act.put,zs1,zs2,zs3]
   refine zqt 4 ?_
   try simp only[Act.put,zs1,zs2,zs3]
   refine zqt 5 ?_
   try simp only[Act.put,zs1,zs2,zs3]
   refine zqr 6 fun K hK=>?_
   go_simp
   go_at_call 89
   refine(HNM.out _).mono ?_
   rintro e wn ⟨rfl,hwn⟩
   subst hwn
   refine hK.out _ _ (by first|exact(aom.out _ hdr)|go_keep) (fun hHeld=>?_)
   clear hK K
   try simp only[Act.put,zs1,zs2,zs3]
   refine zqt 7 ?_
   try simp only[Act.put,zs1,zs2,zs3]
   refine zqt 8 ?_
   try simp only[Act.put,zs1,zs2,zs3]
   refine zqt 9 ?_
   try simp only[Act.put,zs1,zs2,zs3]
   refine zqt 10 ?_
   try simp only[Act.put,zs1,zs2,zs3]
   refine zqt 11 ?_
   try simp only[Act.put,zs1,zs2,zs3]
   refine zqt 12 ?_
   try simp only[Act.put,zs1,zs2,zs3]
   refine zqt 13 ?_
   try simp only[Act.put,zs1,zs2,zs3]
   refine zqt 14 ?_
   try simp only[Act.put,zs1,zs2,zs3]
   refine zqt 15 ?_
   try simp only[Act.put,zs1,zs2,zs3]
   refine zqt 16 ?_
   try simp only[Act.put,zs1,zs2,zs3]
   refine zqt 17 ?_
   try simp only[Act.put,zs1,zs2,zs3]
   refine zqt 18 ?_
   try simp only[Act.put,zs1,zs2,zs3]
   refine zqt 19 ?_
   try simp only[Act.put,zs1,zs2,zs3]
   refine zqt 20 ?_
   try simp only[Act.put,zs1,zs2,zs3]
   refine zqt 21 ?_
   try simp only[Act.put,zs1,zs2,zs3]
   refine zqt 22 ?_
   try simp only[Act.put,zs1,zs2,zs3]
   refine zqt 23 ?_
   try simp only[Act.put,zs1,zs2,zs3]
   refine zqt 24 ?_
   try simp only[Act.put,zs1,zs2,zs3]
   refine zqt 25 ?_
   try simp only[Act.put,zs1,zs2,zs3]
   refine zqt 26 ?_
   try simp only[Act.put,zs1,zs2,zs3]
   refine zqt 27 ?_
   try simp only[Act.put,zs1,zs2,zs3]
   refine zqt 28 ?_
   try simp only[Act.put,zs1,zs2,zs3]
   refine zqt 29 ?_
   try simp only[Act.put,zs1,zs2,zs3]
   refine zqt 30 ?_
   try simp only[Act.put,zs1,zs2,zs3]
   refine zqt 31 ?_
   try simp only[Act.put,zs1,zs2,zs3]
   refine zqt 32 ?_
   try simp only[Act.put,zs1,zs2,zs3]
   refine zqt 33 ?_
   try simp only[Act.put,zs1,zs2,zs3]
   refine zqt 34 ?_
   try simp only[Act.put,zs1,zs2,zs3]
   refine zqr 35 fun K hK=>?_
   go_simp
   go_at_call 79
   refine(HFU.out _ hdr).mono ?_
   rintro e wq ⟨rfl,hbq⟩
   have hq1:=hdr.trans (hbq.mono hdr.size)
   cases hfb:ai7 ⟨qm,⟨au,ay,iy,jq⟩,jl⟩
   case false=>
    refine hK.out _ _ (by first|exact(aom.out _ hq1)|go_keep) (fun hHeld=>?_)
    clear hK K
    try simp only[Act.put,zs1,zs2,zs3]
    have HF2:Hid (R=false):=by show _=_;rw[HG.out,amc HX.out (.inl (by rw[a2e.out,hfb];rfl))]
    refine zqt 36 ?_
    try simp only[Act.put,zs1,zs2,zs3]
    refine zqt 37 ?_
    try simp only[Act.put,zs1,zs2,zs3]
    refine zqt 38 ?_
    try simp only[Act.put,zs1,zs2,zs3]
    refine zqo 39 ?_
    try simp only[Act.put,zs1,zs2,zs3]
    refine zqo 40 ?_
    try simp only[Act.put,zs1,zs2,zs3]
    refine zqo 41 ?_
    try simp only[Act.put,zs1,zs2,zs3]
    refine zqo 42 ?_
    try simp only[Act.put,zs1,zs2,zs3]
    refine zqo 43 ?_
    try simp only[Act.put,zs1,zs2,zs3]
    refine zqo 44 ?_
    try simp only[Act.put,zs1,zs2,zs3]
    refine zqo 45 ?_
    try simp only[Act.put,zs1,zs2,zs3]
    refine zqo 46 ?_
    try simp only[Act.put,zs1,zs2,zs3]
    refine zqo 47 ?_
    try simp only[Act.put,zs1,zs2,zs3]
    refine zqo 48 ?_
    try simp only[Act.put,zs1,zs2,zs3]
    refine zqt 49 ?_
    try simp only[Act.put,zs1,zs2,zs3]
    refine wpAnyH_done (by kernel_rfl) ?_ _
    go_wp2_with fail
    go_ret
    exact⟨ah HF2.out.symm,hBs.trans (hq1.mono hsz)⟩
   case true=>
    refine hK.out _ _ (by first|exact(aom.out _ hq1)|go_keep) (fun hHeld=>?_)
    clear hK K
    try simp only[Act.put,zs1,zs2,zs3]
    have HKN:=zqd (fun(V:World) (hV:Below wr.heap.size wr V)=>ax2 ⟨qm,⟨au,ay,iy,jq⟩,jl⟩ (a8f hfb) (res:=resources) (B:=B) (B2:=B) (cs:=[.slice ab3 ab4 ab5,.int .i64 au,.string ay,.slice yu yw yx,.slice aad aae aaf,.bool jl]) (v:=.slice RA k rc) (w:=V) (Nat.le_trans hB (Nat.le_trans hsz hV.size)) (Nat.le_trans hB (Nat.le_trans hsz hV.size)) (alq.out.below (hV.mono (Nat.le_trans hB hsz))) (bd9.out.below (hV.mono (Nat.le_trans hB hsz))))
    refine zqt 36 ?_
    try simp only[Act.put,zs1,zs2,zs3]
    refine zqt 37 ?_
    try simp only[Act.put,zs1,zs2,zs3]
    refine zqt 38 ?_
    try simp only[Act.put,zs1,zs2,zs3]
    refine zqt 39 ?_
    try simp only[Act.put,zs1,zs2,zs3]
    refine zqt 40 ?_
    try simp only[Act.put,zs1,zs2,zs3]
    refine zqt 41 ?_
    try simp only[Act.put,zs1,zs2,zs3]
    refine zqt 42 ?_
    try simp only[Act.put,zs1,zs2,zs3]
    refine zqt 43 ?_
    try simp only[Act.put,zs1,zs2,zs3]
    refine zqt 44 ?_
    try simp only[Act.put,zs1,zs2,zs3]
    refine zqt 45 ?_
    try simp only[Act.put,zs1,zs2,zs3]
    refine zqt 46 ?_
    try simp only[Act.put,zs1,zs2,zs3]
    refine zqr 47 fun K hK=>?_
    go_simp
    go_at_call 90
    refine(HKN.out _ hq1).mono ?_
    rintro e wz ⟨rfl,hbz⟩
    have hq2:=hq1.trans (hbz.mono hq1.size)
    cases hkn2:akf ⟨qm,⟨au,ay,iy,jq⟩,jl⟩ resources
    case false=>
     refine hK.out _ _ (by first|exact(aom.out _ hq2)|go_keep) (fun hHeld=>?_)
     clear hK K
     try simp only[Act.put,zs1,zs2,zs3]
     refine zqt 48 ?_
     try simp only[Act.put,zs1,zs2,zs3]
     refine zqt 49 ?_
     try simp only[Act.put,zs1,zs2,zs3]
     have HF2:Hid (R=false):=by show _=_;rw[HG.out,amc HX.out (.inl (by rw[a2e.out,hfb,hkn2];rfl))]
     refine wpAnyH_done (by kernel_rfl) ?_ _
     go_wp2_with fail
     go_ret
     exact⟨ah HF2.out.symm,hBs.trans (hq2.mono hsz)⟩
    case true=>
     refine hK.out _ _ (by first|exact(aom.out _ hq2)|go_keep) (fun hHeld=>?_)
     clear hK K
     try simp only[Act.put,zs1,zs2,zs3]
     refine zqt 48 ?_
     try simp only[Act.put,zs1,zs2,zs3]
     refine zqt 49 ?_
     try simp only[Act.put,zs1,zs2,zs3]
     have HQ:Hid (∀ (j:Nat) (x:Fun),j < k2+1→funcs[j]?=some x→fnB resources x=true∧ajn (funcs.map Fun.name) j=true):=fun j x hj hx=>by
      by_cases e:j=k2
      ·subst e
       obtain rfl:=Option.some.inj (HX.out.symm.trans hx)
       exact⟨by rw[a2e.out,hfb,hkn2];rfl,bvq.out⟩
      ·exact HP.out j x (by omega) hx
     refine wpAnyH_done (by kernel_rfl) ?_ _
     have bjr:=hbs.trans (hq2.mono hbs.size)
     go_wp2_with fail
     go_roundw
     case rel=>exact⟨k2+1,by omega,by go_num,HQ,bjr⟩
     case measure=>simp[intOf];omega
theorem ba5 (f:cu) {B:Nat} {cs:List Value} {w:World} (hB:B≤w.heap.size) (hwf:PD.wfL (cu.pd f)) (h:lq w B (cu.pd f) cs):
  Calls Tryz.prog 27 #[.agg cs.toArray] w fun e w'=>e=.returned (.bool (ag9 f))∧Below w.heap.size w w':=by
 have HW:=zqd hwf
 have HC:=zqd (fun(V:World) (hV:Below w.heap.size w V) cs (k:lq V B (cu.pd f) cs)=>a0q f (B:=B) (Nat.le_trans hB hV.size) HW.out k)
 obtain⟨b,hb⟩:∃ b,ag9 f=b:=⟨_,rfl⟩
 rw[hb] at HC ⊢
 obtain⟨package,name,version,resources,funcs⟩:=f
 obtain⟨aai,adq,rfl,abl,aei⟩:=cu.open_ h
 have ad4:=zqd abl
 clear abl
 have agn:=zqd aei
 clear aei
 clear h hwf hb HW
 go_enter Tryz.func27,Tryz.ntmps27
 go_wp2_with fail
 obtain⟨w0,hw0⟩:=zqe w 30 #[.string package,.string name,.string version,aai,adq]
 rw[← hw0]
 have bA:=zqn hw0
 have hB0:=zqb hw0
 clear hw0
 refine(HC.out w0 hB0 _ (cu.close_ (ad4.out.below (hB0.mono hB)) (agn.out.below (hB0.mono hB)))).mono ?_
 rintro e w1 ⟨rfl,hb1⟩
 go_wp2_with fail
 go_ret
 exact⟨rfl,hB0.trans (hb1.mono hB0.size)⟩
end Go.Proofs.YtbafphecjijdmaaGreatDoor
