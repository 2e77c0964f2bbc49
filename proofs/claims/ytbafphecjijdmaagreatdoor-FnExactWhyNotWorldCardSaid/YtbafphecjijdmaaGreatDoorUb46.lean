/-
  Rows of interfaces of a world: impl.facesOk (by program: gen_wdi.py).
-/
import Derived.Test.YtbafphecjijdmaaGreatDoorUb30
import Derived.Test.YtbafphecjijdmaaGreatDoorUb45
namespace Go.Proofs.YtbafphecjijdmaaGreatDoor
open Go.RowKit
set_option linter.all false
set_option maxRecDepth 16000
set_option maxHeartbeats 3200000 in
theorem a1d (fs:List cu) (hwf:∀ f ∈ fs,PD.wfL (cu.pd f)) (hsz:∀ f ∈ fs,PD.szL (cu.pd f)≤1048576) {B:Nat} {v:Value} {w:World} (hB:B≤w.heap.size) (hT:akm w) (h:Rep w B (.row 5 (fs.flatMap cu.pd)) v):
  Calls Tryz.prog 75 #[v] w fun e w'=>e=.returned (.bool (afa fs))∧Below w.heap.size w w':=by
 obtain⟨R,hR⟩:∃ R:Bool,R=afa fs:=⟨_,rfl⟩
 rw[← hR]
 have HR:=zqd hR
 obtain⟨A,n,c,rfl,hnl,hm,hat⟩:=ni cu.jd (by decide) h
 unfold maxLen at hm
 have HN:=zqd hnl
 have HWF:=zqd hwf
 have HSZ:=zqd hsz
 have HT:=zqd hT
 clear h hnl hR hwf hsz hT
 go_enter Tryz.func75,Tryz.ntmps75
 go_wp2_with fail
 go_loopw [7] (fun i wr=>∃ k:Nat,k≤n∧i=.int .i64 k∧Hid (∀ j,j < k→aot fs j=true)∧Below w.heap.size w wr) (fun i _=>n - (intOf i).toNat)
 case atStart=>exact⟨0,Nat.zero_le _,rfl,zqd fun j h=>absurd h (by omega),zqf _ _⟩
 case round=>
  obtain⟨k,hk,rfl,HP,hbr⟩:=hrel
  have hsz:=hbr.size
  by_cases hlt:k < n
  case neg=>
   obtain rfl:k=n:=by omega
   by_cases h6:k≤6
   ·have HF:Hid (R=true):=by show _=_;rw[HR.out];exact a8p (by have:=HN.out;omega) fun j hj=>HP.out j (by have:=HN.out;omega)
    go_wp2_with fail
    go_ret
    exact⟨ah ((decide_eq_true (show((k:Nat):Int)≤6 by omega)).trans HF.out.symm),hbr⟩
   ·have HF:Hid (R=false):=by show _=_;rw[HR.out];exact a0s (by have:=HN.out;omega)
    go_wp2_with fail
    go_ret
    exact⟨ah ((decide_eq_false (show ¬ ((k:Nat):Int)≤6 by omega)).trans HF.out.symm),hbr⟩
  obtain⟨g,off,rfl,hg2,hcell2⟩:=hat (by omega)
  obtain⟨t2,hx2,ab1⟩:=um HN.out hlt
  obtain⟨lu,name2,tq,ac3,afj⟩:=t2
  have ah5:wr.cell? ⟨g,off+k * 5,none⟩=some (.string lu):=bg hbr (by omega) (hcell2 k 0 _ _ hx2 (by rw[cu.aj];rfl))
  have ad5:wr.cell? ⟨g,off+k * 5+1,none⟩=some (.string name2):=bg hbr (by omega) (hcell2 k 1 _ _ hx2 (by rw[cu.aj];rfl))
  have aiu:wr.cell? ⟨g,off+k * 5+2,none⟩=some (.string tq):=bg hbr (by omega) (hcell2 k 2 _ _ hx2 (by rw[cu.aj];rfl))
  obtain⟨aou,ahj,ae5⟩:∃ u,wr.cell? ⟨g,off+k * 5+3,none⟩=some u∧Rep wr B (.row 1 (ac3.flatMap qj)) u:=jc hbr (by omega) hB (hcell2 k 3 _ _ hx2 (by rw[cu.aj];rfl))
  have aej:=zqd ae5
  clear ae5
  obtain⟨aw2,akz,ahk⟩:∃ u,wr.cell? ⟨g,off+k * 5+4,none⟩=some u∧Rep wr B (.row 7 (afj.flatMap Fun.pd)) u:=jc hbr (by omega) hB (hcell2 k 4 _ _ hx2 (by rw[cu.aj];rfl))
  have agk:=zqd ahk
  clear ahk
  obtain⟨uo,uq,uw,rfl⟩:=aej.out.form
  obtain⟨abd,abe,abf,rfl⟩:=agk.out.form
  have HX2:=zqd hx2
  have HM2:=zqd ab1
  clear hx2 ab1
  obtain⟨b,hb⟩:∃ b,ag9 ⟨lu,name2,tq,ac3,afj⟩=b:=⟨_,rfl⟩
  have HFB:=zqd hb
  clear hb
  obtain⟨wb,hwb⟩:=zqe wr 30 #[.string lu,.string name2,.string tq,.slice uo uq uw,.slice abd abe abf]
  have bE:=zqn hwb
  have hbb:=zqb hwb
  have hBb:=hbr.trans (hbb.mono hsz)
  have HOK:=zqd (fun(V:World) (hV:Below wb.heap.size wb V)=>bbh ⟨lu,name2,tq,ac3,afj⟩ (a9o (HSZ.out _ HM2.out)).1 (a9o (HSZ.out _ HM2.out)).2 (B:=B) (w:=V) (Nat.le_trans hB (Nat.le_trans hBb.size hV.size)) (HT.out.below (hBb.trans (hV.mono hBb.size))) (HWF.out _ HM2.out) (cu.close_ (aej.out.below ((hbb.trans (hV.mono hbb.size)).mono (Nat.le_trans hB hsz))) (agk.out.below ((hbb.trans (hV.mono hbb.size)).mono (Nat.le_trans hB hsz)))))
  rw[HFB.out] at HOK
  have HAT:Hid (b=true→ah9 fs k=true→aot fs k=true):=fun hb hh=>by rw[aot,HX2.out];simp only;rw[HFB.out,hb,hh];rfl
  have HBAD:Hid (b=false→R=false):=fun hb=>by rw[HR.out];exact apf HX2.out (.inl (HFB.out.trans hb))
  have hkA:Below wb.heap.size wb wb.drew:=(zqf _ _).drew
  have HBb:=zqd hBb
  by_cases hk0:k=0
  ·have HI0:Hid (ah9 fs k=true):=by show _=_;rw[hk0];exact ax5 fs
   have hkt:decide (0 < k)=false:=decide_eq_false (by omega)
   have HS:Hid (∀ V,Below wb.heap.size wb V→V.cell? ⟨wr.heap.size,0,none⟩=some (.string lu)∧V.cell? ⟨wr.heap.size,1,none⟩=some (.string name2)∧V.cell? ⟨wr.heap.size,2,none⟩=some (.string tq)∧V.cell? ⟨wr.heap.size,3,none⟩=some (.slice uo uq uw)∧V.cell? ⟨wr.heap.size,4,none⟩=some (.slice abd abe abf)):=zqd fun V hV=>⟨(hV.cell (p:=⟨wr.heap.size,0,none⟩) bE.lt).trans (bE.cell 0),(hV.cell (p:=⟨wr.heap.size,1,none⟩) bE.lt).trans (bE.cell 1),(hV.cell (p:=⟨wr.heap.size,2,none⟩) bE.lt).trans (bE.cell 2),(hV.cell (p:=⟨wr.heap.size,3,none⟩) bE.lt).trans (bE.cell 3),(hV.cell (p:=⟨wr.heap.size,4,none⟩) bE.lt).trans (bE.cell 4)⟩
   clear hk0 bE hbb hBb hat hcell2 hbr
   go_wp2_with fail
   rw[← hwb]
   clear hwb ah5 ad5 aiu ahj akz aej agk
   refine wp_region_held_drew (S:=(fun w'=>w'.cell? ⟨wr.heap.size,0,none⟩=some (.string lu)∧w'.cell? ⟨wr.heap.size,1,none⟩=some (.string name2)∧w'.cell? ⟨wr.heap.size,2,none⟩=some (.string tq)∧w'.cell? ⟨wr.heap.size,3,none⟩=some (.slice uo uq uw)∧w'.cell? ⟨wr.heap.size,4,none⟩=some (.slice abd abe abf))) (by kernel_rfl) (HS.out _ hkA) (fun hHeld=>?_)
   refine zqt 0 ?_
   try simp only[Act.put,zs1,zs2,zs3]
   refine zqr 1 fun K hK=>?_
   go_simp
   go_at_call 31
   refine(HOK.out _ hkA).mono ?_
   rintro e wq ⟨rfl,hbq⟩
   have hkB:=hkA.trans (hbq.mono hkA.size)
   cases hbv:b
   case false=>
    refine hK.out _ _ (by first|exact(HS.out _ hkB)|go_keep) (fun hHeld=>?_)
    clear hK K
    try simp only[Act.put,zs1,zs2,zs3]
    refine zqt 2 ?_
    try simp only[Act.put,zs1,zs2,zs3]
    refine zqt 3 ?_
    try simp only[Act.put,zs1,zs2,zs3]
    refine zqo 4 ?_
    try simp only[Act.put,zs1,zs2,zs3]
    refine zqo 5 ?_
    try simp only[Act.put,zs1,zs2,zs3]
    refine zqo 6 ?_
    try simp only[Act.put,zs1,zs2,zs3]
    refine zqo 7 ?_
    try simp only[Act.put,zs1,zs2,zs3]
    refine zqo 8 ?_
    try simp only[Act.put,zs1,zs2,zs3]
    refine zqo 9 ?_
    try simp only[Act.put,zs1,zs2,zs3]
    refine zqo 10 ?_
    try simp only[Act.put,zs1,zs2,zs3]
    refine zqo 11 ?_
    try simp only[Act.put,zs1,zs2,zs3]
    refine zqo 12 ?_
    try simp only[Act.put,zs1,zs2,zs3]
    refine zqo 13 ?_
    try simp only[Act.put,zs1,zs2,zs3]
    refine zqo 14 ?_
    try simp only[Act.put,zs1,zs2,zs3]
    refine zqo 15 ?_
    try simp only[Act.put,zs1,zs2,zs3]
    refine zqt 16 ?_
    try simp only[Act.put,zs1,zs2,zs3]
    refine wpAnyH_done (by kernel_rfl) ?_ _
    go_wp2_with fail
    go_ret
    exact⟨ah (HBAD.out hbv).symm,HBb.out.trans (hkB.mono HBb.out.size)⟩
   case true=>
    refine hK.out _ _ (by first|exact(HS.out _ hkB)|go_keep) (fun hHeld=>?_)
    clear hK K
    try simp only[Act.put,zs1,zs2,zs3]
    refine zqt 2 ?_
    try simp only[Act.put,zs1,zs2,zs3]
    refine zqt 3 ?_
    try simp only[Act.put,zs1,zs2,zs3]
    refine zqt 4 ?_
    try simp only[Act.put,zs1,zs2,zs3]
    refine zqt 5 ?_
    try simp only[Act.put,zs1,zs2,zs3]
    refine zqt 6 ?_
    try simp only[Act.put,zs1,zs2,zs3]
    refine zqo 7 ?_
    try simp only[Act.put,zs1,zs2,zs3]
    refine zqo 8 ?_
    try simp only[Act.put,zs1,zs2,zs3]
    refine zqo 9 ?_
    try simp only[Act.put,zs1,zs2,zs3]
    refine zqo 10 ?_
    try simp only[Act.put,zs1,zs2,zs3]
    refine zqo 11 ?_
    try simp only[Act.put,zs1,zs2,zs3]
    refine zqo 12 ?_
    try simp only[Act.put,zs1,zs2,zs3]
    refine zqo 13 ?_
    try simp only[Act.put,zs1,zs2,zs3]
    refine zqo 14 ?_
    try simp only[Act.put,zs1,zs2,zs3]
    refine zqt 15 ?_
    try simp only[Act.put,zs1,zs2,zs3]
    refine zqt 16 ?_
    try simp only[Act.put,zs1,zs2,zs3]
    refine wpAnyH_done (by kernel_rfl) ?_ _
    have HQ:=zqd (ako HP.out (HAT.out hbv HI0.out))
    go_wp2_with fail
    go_roundw
    case rel=>exact⟨k+1,by omega,by go_num,HQ,HBb.out.trans (hkB.mono HBb.out.size)⟩
    case measure=>simp[intOf];omega
  obtain⟨y,hy,_⟩:=um HN.out (show k - 1 < n by omega)
  obtain⟨yp,yn,yv,yr,yf⟩:=y
  have HIN:Hid (ah9 fs k=ah4 ⟨yp,yn,yv,yr,yf⟩ ⟨lu,name2,tq,ac3,afj⟩):=by
   obtain⟨q,rfl⟩:∃ q,k=q+1:=⟨k - 1,by omega⟩
   exact avp HX2.out hy
  have d0:wr.cell? ⟨g,off+(k - 1) * 5,none⟩=some (.string yp):=bg hbr (by omega) (hcell2 (k - 1) 0 _ _ hy (by rw[cu.aj];rfl))
  have d1:wr.cell? ⟨g,off+(k - 1) * 5+1,none⟩=some (.string yn):=bg hbr (by omega) (hcell2 (k - 1) 1 _ _ hy (by rw[cu.aj];rfl))
  have d2:wr.cell? ⟨g,off+(k - 1) * 5+2,none⟩=some (.string yv):=bg hbr (by omega) (hcell2 (k - 1) 2 _ _ hy (by rw[cu.aj];rfl))
  obtain⟨u3,d3,r3⟩:∃ u,wr.cell? ⟨g,off+(k - 1) * 5+3,none⟩=some u∧Rep wr B _ u:=jc hbr (by omega) hB (hcell2 (k - 1) 3 _ _ hy (by rw[cu.aj];rfl))
  obtain⟨A3,n3,c3,rfl⟩:=r3.form
  clear r3
  obtain⟨u4,d4,r4⟩:∃ u,wr.cell? ⟨g,off+(k - 1) * 5+4,none⟩=some u∧Rep wr B _ u:=jc hbr (by omega) hB (hcell2 (k - 1) 4 _ _ hy (by rw[cu.aj];rfl))
  obtain⟨A4,n4,c4,rfl⟩:=r4.form
  clear r4
  have hkt:decide (0 < k)=true:=decide_eq_true (by omega)
  have hki:((k:Int) - 1).toNat=k - 1:=by omega
  have hkw:IntKind.i64.wrap ((k:Int) - 1)=(k:Int) - 1:=IntWalk.i64_in _ (by omega)
  have hkp:(0:Int)≤(k:Int) - 1:=by omega
  have hk1:(1:Int)≤(k:Int):=by omega
  have hkn:(k:Int) - 1 < (n:Int):=by omega
  have HC:=zqd (fun V:World=>ayt (p:=yp) (n:=yn) (v:=yv) (p2:=lu) (n2:=name2) (v2:=tq) (A:=A3) (A':=A4) (A2:=uo) (A2':=abd) (l:=n3) (c:=c3) (l':=n4) (c':=c4) (l2:=uq) (c2:=uw) (l2':=abe) (c2':=abf) V)
  obtain⟨X,hX⟩:∃ X:Int,a2g yp yn lu name2=X:=⟨_,rfl⟩
  rw[hX] at HC
  have HXL:Hid (decide (0≤X)=!ah9 fs k):=by show _=_;rw[HIN.out,← hX];exact bn7 (y:=⟨yp,yn,yv,yr,yf⟩) (x:=⟨lu,name2,tq,ac3,afj⟩)
  clear hX
  have HS:Hid (∀ V,Below wb.heap.size wb V→V.cell? ⟨wr.heap.size,0,none⟩=some (.string lu)∧V.cell? ⟨wr.heap.size,1,none⟩=some (.string name2)∧V.cell? ⟨wr.heap.size,2,none⟩=some (.string tq)∧V.cell? ⟨wr.heap.size,3,none⟩=some (.slice uo uq uw)∧V.cell? ⟨wr.heap.size,4,none⟩=some (.slice abd abe abf)∧V.cell? ⟨g,off+(k - 1) * 5,none⟩=some (.string yp)∧V.cell? ⟨g,off+(k - 1) * 5+1,none⟩=some (.string yn)∧V.cell? ⟨g,off+(k - 1) * 5+2,none⟩=some (.string yv)∧V.cell? ⟨g,off+(k - 1) * 5+3,none⟩=some (.slice A3 n3 c3)∧V.cell? ⟨g,off+(k - 1) * 5+4,none⟩=some (.slice A4 n4 c4)):=zqd fun V hV=>⟨(hV.cell (p:=⟨wr.heap.size,0,none⟩) bE.lt).trans (bE.cell 0),(hV.cell (p:=⟨wr.heap.size,1,none⟩) bE.lt).trans (bE.cell 1),(hV.cell (p:=⟨wr.heap.size,2,none⟩) bE.lt).trans (bE.cell 2),(hV.cell (p:=⟨wr.heap.size,3,none⟩) bE.lt).trans (bE.cell 3),(hV.cell (p:=⟨wr.heap.size,4,none⟩) bE.lt).trans (bE.cell 4),(hV.cell (p:=⟨g,off+(k - 1) * 5,none⟩) (by have:=hbb.size;simp only;omega)).trans ((hbb.cell (p:=⟨g,off+(k - 1) * 5,none⟩) (by simp only;omega)).trans d0),(hV.cell (p:=⟨g,off+(k - 1) * 5+1,none⟩) (by have:=hbb.size;simp only;omega)).trans ((hbb.cell (p:=⟨g,off+(k - 1) * 5+1,none⟩) (by simp only;omega)).trans d1),(hV.cell (p:=⟨g,off+(k - 1) * 5+2,none⟩) (by have:=hbb.size;simp only;omega)).trans ((hbb.cell (p:=⟨g,off+(k - 1) * 5+2,none⟩) (by simp only;omega)).trans d2),(hV.cell (p:=⟨g,off+(k - 1) * 5+3,none⟩) (by have:=hbb.size;simp only;omega)).trans ((hbb.cell (p:=⟨g,off+(k - 1) * 5+3,none⟩) (by simp only;omega)).trans d3),(hV.cell (p:=⟨g,off+(k - 1) * 5+4,none⟩) (by have:=hbb.size;simp only;omega)).trans ((hbb.cell (p:=⟨g,off+(k - 1) * 5+4,none⟩) (by simp only;omega)).trans d4)⟩
  clear hk0 bE hbb hBb hat hcell2 hbr d0 d1 d2 d3 d4 hy
  go_wp2_with fail
  rw[← hwb]
  clear hwb ah5 ad5 aiu ahj akz aej agk
  refine wp_region_held_drew (S:=(fun w'=>w'.cell? ⟨wr.heap.size,0,none⟩=some (.string lu)∧w'.cell? ⟨wr.heap.size,1,none⟩=some (.string name2)∧w'.cell? ⟨wr.heap.size,2,none⟩=some (.string tq)∧w'.cell? ⟨wr.heap.size,3,none⟩=some (.slice uo uq uw)∧w'.cell? ⟨wr.heap.size,4,none⟩=some (.slice abd abe abf)∧w'.cell? ⟨g,off+(k - 1) * 5,none⟩=some (.string yp)∧w'.cell? ⟨g,off+(k - 1) * 5+1,none⟩=some (.string yn)∧w'.cell? ⟨g,off+(k - 1) * 5+2,none⟩=some (.string yv)∧w'.cell? ⟨g,off+(k - 1) * 5+3,none⟩=some (.slice A3 n3 c3)∧w'.cell? ⟨g,off+(k - 1) * 5+4,none⟩=some (.slice A4 n4 c4))) (by kernel_rfl) (HS.out _ hkA) (fun hHeld=>?_)
  refine zqt 0 ?_
  try simp only[Act.put,zs1,zs2,zs3]
  refine zqr 1 fun K hK=>?_
  go_simp
  go_at_call 31
  refine(HOK.out _ hkA).mono ?_
  rintro e wq ⟨rfl,hbq⟩
  have hkB:=hkA.trans (hbq.mono hkA.size)
  cases hbv:b
  case false=>
   refine hK.out _ _ (by first|exact(HS.out _ hkB)|go_keep) (fun hHeld=>?_)
   clear hK K
   try simp only[Act.put,zs1,zs2,zs3]
   refine zqt 2 ?_
   try simp only[Act.put,zs1,zs2,zs3]
   refine zqt 3 ?_
   try simp only[Act.put,zs1,zs2,zs3]
   refine zqo 4 ?_
   try simp only[Act.put,zs1,zs2,zs3]
   refine zqo 5 ?_
   try simp only[Act.put,zs1,zs2,zs3]
   refine zqo 6 ?_
   try simp only[Act.put,zs1,zs2,zs3]
   refine zqo 7 ?_
   try simp only[Act.put,zs1,zs2,zs3]
   refine zqo 8 ?_
   try simp only[Act.put,zs1,zs2,zs3]
   refine zqo 9 ?_
   try simp only[Act.put,zs1,zs2,zs3]
   refine zqo 10 ?_
   try simp only[Act.put,zs1,zs2,zs3]
   refine zqo 11 ?_
   try simp only[Act.put,zs1,zs2,zs3]
   refine zqo 12 ?_
   try simp only[Act.put,zs1,zs2,zs3]
   refine zqo 13 ?_
   try simp only[Act.put,zs1,zs2,zs3]
   refine zqo 14 ?_
   try simp only[Act.put,zs1,zs2,zs3]
   refine zqo 15 ?_
   try simp only[Act.put,zs1,zs2,zs3]
   refine zqt 16 ?_
   try simp only[Act.put,zs1,zs2,zs3]
   refine wpAnyH_done (by kernel_rfl) ?_ _
   go_wp2_with fail
   go_ret
   exact⟨ah (HBAD.out hbv).symm,HBb.out.trans (hkB.mono HBb.out.size)⟩
  case true=>
   refine hK.out _ _ (by first|exact(HS.out _ hkB)|go_keep) (fun hHeld=>?_)
   clear hK K
   try simp only[Act.put,zs1,zs2,zs3]
   refine zqt 2 ?_
   try simp only[Act.put,zs1,zs2,zs3]
   refine zqt 3 ?_
   try simp only[Act.put,zs1,zs2,zs3]
   refine zqt 4 ?_
   try simp only[Act.put,zs1,zs2,zs3]
   refine zqt 5 ?_
   try simp only[Act.put,zs1,zs2,zs3]
   refine zqt 6 ?_
   try simp only[Act.put,zs1,zs2,zs3]
   refine zqt 7 ?_
   try simp only[Act.put,zs1,zs2,zs3]
   refine zqt 8 ?_
   try simp only[Act.put,zs1,zs2,zs3]
   refine zqt 9 ?_
   try simp only[Act.put,zs1,zs2,zs3]
   refine zqt 10 ?_
   try simp only[Act.put,zs1,zs2,zs3]
   refine zqt 11 ?_
   try simp only[Act.put,zs1,zs2,zs3]
   refine zqt 12 ?_
   try simp only[Act.put,zs1,zs2,zs3]
   refine zqr 13 fun K hK=>?_
   go_simp
   go_at_call 100
   refine(HC.out _).mono ?_
   rintro e wz ⟨rfl,hbz⟩
   have hkC:=hkB.trans (hbz.mono hkB.size)
   refine hK.out _ _ (by first|exact(HS.out _ hkC)|go_keep) (fun hHeld=>?_)
   clear hK K
   try simp only[Act.put,zs1,zs2,zs3]
   by_cases h0X:0≤X
   case' pos=>have HF:Hid (R=false):=by show _=_;rw[HR.out];exact apf HX2.out (.inr (bn1 HXL.out (decide_eq_true h0X)))
   case' neg=>have HG:Hid (ah9 fs k=true):=bn2 HXL.out (decide_eq_false h0X)
   case pos=>
    refine zqt 14 ?_
    try simp only[Act.put,zs1,zs2,zs3]
    refine zqt 15 ?_
    try simp only[Act.put,zs1,zs2,zs3]
    refine zqt 16 ?_
    try simp only[Act.put,zs1,zs2,zs3]
    refine wpAnyH_done (by kernel_rfl) ?_ _
    go_wp2_with fail
    go_ret
    exact⟨ah (HF.out).symm,HBb.out.trans (hkC.mono HBb.out.size)⟩
   case neg=>
    refine zqt 14 ?_
    try simp only[Act.put,zs1,zs2,zs3]
    refine zqt 15 ?_
    try simp only[Act.put,zs1,zs2,zs3]
    refine zqt 16 ?_
    try simp only[Act.put,zs1,zs2,zs3]
    refine wpAnyH_done (by kernel_rfl) ?_ _
    have HQ:=zqd (ako HP.out (HAT.out hbv HG.out))
    go_wp2_with fail
    go_roundw
    case rel=>exact⟨k+1,by omega,by go_num,HQ,HBb.out.trans (hkC.mono HBb.out.size)⟩
    case measure=>simp[intOf];omega
end Go.Proofs.YtbafphecjijdmaaGreatDoor
