/-
  A module's text, read: spec.ReadModule (by program: gen_rs.py) (by program: gen_why.py).
-/
import Derived.Test.YtlpcocfadppkhaaGreatDoorRa18
import Derived.Test.YtlpcocfadppkhaaGreatDoorRa16
import Derived.Test.YtlpcocfadppkhaaGreatDoorRa19
import Derived.Test.YtlpcocfadppkhaaGreatDoorRa20
namespace Go.Proofs.YtlpcocfadppkhaaGreatDoor
open Go.RowKit
set_option linter.unusedVariables false
set_option linter.unusedSimpArgs false
set_option linter.unnecessarySimpa false
set_option maxRecDepth 16000
theorem acn (a b:ByteArray):(a.toList ==b.toList)=decide (a=b):=by
 have h:(⟨b.toList.toArray⟩:ByteArray)=b:=by rw[ByteArray.toList_eq]
 rw[yw,h]
theorem av5 {W:World} {lo t sz n m c:Nat} {A:Option Addr} {cs:List Value} (h:W.ownsRow lo t sz (.slice A n c) m cs):n≤c:=by
 rcases h.2 with ⟨h1,h2⟩|⟨g,cap,cur,hv,_,_,hnc,_⟩
 ·injection h1 with _ e2 e3;omega
 ·injection hv with _ e2 e3;omega
def anx (s:ByteArray) (w:World) (e:Ending) (w':World):Prop:=∃ us,e=.returned (.tuple #[.agg us.toArray,.int .i64 (tq s).2])∧LvC w' w.heap.size w'.heap.size (Mod.pd (tq s).1) us∧Below w.heap.size w w'
set_option maxHeartbeats 12800000 in
theorem amb {s:ByteArray} (hs:s.size≤1048576) (w:World):Calls Tryz.prog 4 #[.string s] w fun e w'=>anx s w e w':=by
 unfold anx
 obtain⟨w0,hw0⟩:∃ V,V=w.alloc (.cells #[.int .i64 0,.slice none 0 0,.slice none 0 0] 25):=⟨_,rfl⟩
 have bR0:Blk w0 (w.heap.size) 25 #[.int .i64 0,.slice none 0 0,.slice none 0 0]:=by rw[hw0];exact Blk.new w _ _
 have hB0:Below w.heap.size w w0:=by rw[hw0];exact(Below.refl _ _).alloc (Nat.le_refl _) _
 have HW0:=Lib.hid hw0
 clear hw0
 by_cases h3:30000 < s.size
 case pos=>
  have n0:(30000:Int) < (s.size:Int):=by omega
  go_enter Tryz.func4,Tryz.ntmps4
  go_upto_region 2 with fail
  rw[← HW0.out]
  clear HW0
  have y0:w0.cell? ⟨w.heap.size,0,none⟩=some (.int .i64 0):=(bR0).cell 0
  have f0:=(bR0).frozen 0
  have y1:w0.cell? ⟨w.heap.size,1,none⟩=some (.slice none 0 0):=(bR0).cell 1
  have f1:=(bR0).frozen 1
  have y2:w0.cell? ⟨w.heap.size,2,none⟩=some (.slice none 0 0):=(bR0).cell 2
  have f2:=(bR0).frozen 2
  go_wp2_with fail
  have bN:Blk (((w0.setCell ⟨w.heap.size,0,none⟩ (.int .i64 0)).setCell ⟨w.heap.size,1,none⟩ (.slice none 0 0)).setCell ⟨w.heap.size,2,none⟩ (.slice none 0 0)) (w.heap.size) 25 #[.int .i64 0,.slice none 0 0,.slice none 0 0]:=by
   have:=(((bR0.dh 0 (.int .i64 0)).dh 1 (.slice none 0 0)).dh 2 (.slice none 0 0))
   simpa using this
  have m0:=bN.cell 0
  have m1:=bN.cell 1
  have m2:=bN.cell 2
  have k1:Below w.heap.size w (((w0.setCell ⟨w.heap.size,0,none⟩ (.int .i64 0)).setCell ⟨w.heap.size,1,none⟩ (.slice none 0 0)).setCell ⟨w.heap.size,2,none⟩ (.slice none 0 0)):=by
   iterate 3 (refine Below.setCell ?_ (by simp) _)
   exact hB0
  refine bodyPost_ret (v:=.tuple #[.agg #[.int .i64 0,.slice none 0 0,.slice none 0 0],.int .i64 4]) (by simp[results,Tryz.results4,go_sem,m0,m1,m2]) rfl ⟨_,by rw[ac5 h3],by rw[ac5 h3];exact abe _,k1⟩
 case neg=>
  have n0:¬ (30000:Int) < (s.size:Int):=by omega
  have hlen:(bn 10 s).length≤30001:=Nat.le_trans (agm 10 s) (by omega)
  have HCU:=Lib.hid (ajz (sp:=10) hs w0)
  unfold am0 at HCU
  go_enter Tryz.func4,Tryz.ntmps4
  go_wp2_with fail
  rw[← HW0.out]
  clear HW0
  refine HCU.out.mono ?_
  rintro e wa ⟨u,rfl,hu,hba⟩
  clear HCU
  have hrow:=(ay0 hu hba.size (arn (bn 10 s))).is
  have HGU:=Lib.hid (ang (bn 10 s) hlen (ahk hs 10) (Nat.le_refl _) hrow)
  clear hrow hu
  obtain⟨m,hm⟩:∃ m,m=aaf s:=⟨_,rfl⟩
  rw[show(bn 10 s).foldl lineS jk=m from hm.symm] at HGU
  have HM:=Lib.hid hm
  clear hm
  unfold anf at HGU
  obtain⟨p,is,cs⟩:=m
  go_wp2_with fail
  refine HGU.out.mono ?_
  rintro e wb ⟨vi,vc,vs,rfl,hgm,hbb⟩
  clear HGU
  obtain⟨lo,hlo⟩:∃ l,l=wa.heap.size+1+1:=⟨_,rfl⟩
  rw[← hlo] at hgm
  have bRb:=bR0.step (hba.trans (hbb.mono hba.size))
  have hBb:=hB0.trans ((hba.trans (hbb.mono hba.size)).mono hB0.size)
  have hla:w.heap.size < lo:=by have:=bR0.lt;have:=hba.size;omega
  obtain⟨iA,iC,rfl,hvi⟩:=zl hgm.aby
  obtain⟨cA,cC,rfl,hvc⟩:=zl hgm.pq
  clear hvi
  have HGB:=Lib.hid hgm
  have HVC:=Lib.hid hvc
  clear hgm hvc hlo
  by_cases h0:cs=[]
  case pos=>
   subst h0
   have HMT:Hid (trimS (aaf s)=⟨p,is,[]⟩):=by show _=_;rw[← HM.out];rfl
   clear HM HVC
   have e0:(Mod.mk p is []).cores.length=0:=rfl
   rw[e0] at HGB
   rw[e0]
   clear e0
   go_upto_region 4 with fail
   obtain⟨wx,hwx⟩:∃ V,V=(wb.alloc (.cells #[.int .i64 p,.slice iA is.length iC,.slice cA 0 cC] 25)):=⟨_,rfl⟩
   rw[← hwx]
   have hbx:Below wb.heap.size wb wx:=by rw[hwx];exact(Below.refl _ _).alloc (Nat.le_refl _) _
   have bMx:Blk wx (wb.heap.size) 25 #[.int .i64 p,.slice iA is.length iC,.slice cA 0 cC]:=by rw[hwx];exact Blk.new wb _ _
   have bRx:=bRb.step hbx
   have hBx:=hBb.trans (hbx.mono hBb.size)
   have HGM:=Lib.hid (HGB.out.step hbx)
   clear hwx bRb hBb HGB
   have z2:wx.cell? ⟨wb.heap.size,2,none⟩=some (.slice cA 0 cC):=bMx.cell 2
   go_upto_region 8 with fail
   have x0:wx.cell? ⟨wb.heap.size,0,none⟩=some (.int .i64 p):=bMx.cell 0
   have x1:wx.cell? ⟨wb.heap.size,1,none⟩=some (.slice iA is.length iC):=bMx.cell 1
   have x2:wx.cell? ⟨wb.heap.size,2,none⟩=some (.slice cA 0 cC):=bMx.cell 2
   have hwf:PD.wfL (Mod.pd ⟨p,is,[]⟩):=by rw[← HMT.out];exact(ak6 (ai9 hs)).wf
   have hln:aao ⟨p,is,[]⟩ 30001:=by rw[← HMT.out];exact agl (abu hlen)
   have HLN:=Lib.hid hln
   have hrp:=HGM.out.done.is
   have HRP:=Lib.hid hrp
   have hcap:=HGM.out.cap
   have HSH:=Lib.hid (adk ⟨p,is,[]⟩ (Nat.le_refl _) hwf hcap hrp)
   clear hwf hln hrp hcap
   obtain⟨b,hb⟩:∃ b,b=uy ⟨p,is,[]⟩:=⟨_,rfl⟩
   rw[← hb] at HSH
   have HBB:=Lib.hid hb
   clear hb
   go_wp2_with fail
   refine HSH.out.mono ?_
   rintro e wy ⟨rfl,hby⟩
   have bMy:=bMx.step hby
   have bRy:=bRx.step hby
   have hBy:=hBx.trans (hby.mono hBx.size)
   clear HSH
   have u0:wy.cell? ⟨wb.heap.size,0,none⟩=some (.int .i64 p):=bMy.cell 0
   have u1:wy.cell? ⟨wb.heap.size,1,none⟩=some (.slice iA is.length iC):=bMy.cell 1
   have u2:wy.cell? ⟨wb.heap.size,2,none⟩=some (.slice cA 0 cC):=bMy.cell 2
   cases b with
   | false=>
    have y0:wy.cell? ⟨w.heap.size,0,none⟩=some (.int .i64 0):=(bRy).cell 0
    have f0:=(bRy).frozen 0
    have y1:wy.cell? ⟨w.heap.size,1,none⟩=some (.slice none 0 0):=(bRy).cell 1
    have f1:=(bRy).frozen 1
    have y2:wy.cell? ⟨w.heap.size,2,none⟩=some (.slice none 0 0):=(bRy).cell 2
    have f2:=(bRy).frozen 2
    go_wp2_with fail
    have bN:Blk (((wy.setCell ⟨w.heap.size,0,none⟩ (.int .i64 0)).setCell ⟨w.heap.size,1,none⟩ (.slice none 0 0)).setCell ⟨w.heap.size,2,none⟩ (.slice none 0 0)) (w.heap.size) 25 #[.int .i64 0,.slice none 0 0,.slice none 0 0]:=by
     have:=(((bRy.dh 0 (.int .i64 0)).dh 1 (.slice none 0 0)).dh 2 (.slice none 0 0))
     simpa using this
    have m0:=bN.cell 0
    have m1:=bN.cell 1
    have m2:=bN.cell 2
    have k1:Below w.heap.size w (((wy.setCell ⟨w.heap.size,0,none⟩ (.int .i64 0)).setCell ⟨w.heap.size,1,none⟩ (.slice none 0 0)).setCell ⟨w.heap.size,2,none⟩ (.slice none 0 0)):=by
     iterate 3 (refine Below.setCell ?_ (by simp) _)
     exact hBy
    refine bodyPost_ret (v:=.tuple #[.agg #[.int .i64 0,.slice none 0 0,.slice none 0 0],.int .i64 6]) (by simp[results,Tryz.results4,go_sem,m0,m1,m2]) rfl ⟨_,by rw[aci (by omega) (by rw[HMT.out];exact HBB.out.symm)],by rw[aci (by omega) (by rw[HMT.out];exact HBB.out.symm)];exact abe _,k1⟩
   | true=>
    have HTX:=Lib.hid (afh ⟨p,is,[]⟩ (Nat.le_trans (Nat.le_refl _) hby.size) HBB.out.symm (HRP.out.below hby))
    obtain⟨tx,htx⟩:∃ t,t=aak ⟨p,is,[]⟩:=⟨_,rfl⟩
    rw[← htx] at HTX
    have HTT:=Lib.hid htx
    clear htx
    go_wp2_with fail
    refine HTX.out.mono ?_
    rintro e wz ⟨rfl,hbz⟩
    have bMz:=bMy.step hbz
    have bRz:=bRy.step hbz
    have hBz:=hBy.trans (hbz.mono hBy.size)
    clear HTX
    have v0:wz.cell? ⟨wb.heap.size,0,none⟩=some (.int .i64 p):=bMz.cell 0
    have v1:wz.cell? ⟨wb.heap.size,1,none⟩=some (.slice iA is.length iC):=bMz.cell 1
    have v2:wz.cell? ⟨wb.heap.size,2,none⟩=some (.slice cA 0 cC):=bMz.cell 2
    by_cases ht:tx=s
    case neg=>
     have t0:(tx.toList ==s.toList)=false:=(acn _ _).trans (decide_eq_false ht)
     have y0:wz.cell? ⟨w.heap.size,0,none⟩=some (.int .i64 0):=(bRz).cell 0
     have f0:=(bRz).frozen 0
     have y1:wz.cell? ⟨w.heap.size,1,none⟩=some (.slice none 0 0):=(bRz).cell 1
     have f1:=(bRz).frozen 1
     have y2:wz.cell? ⟨w.heap.size,2,none⟩=some (.slice none 0 0):=(bRz).cell 2
     have f2:=(bRz).frozen 2
     go_wp2_with fail
     have bN:Blk (((wz.setCell ⟨w.heap.size,0,none⟩ (.int .i64 0)).setCell ⟨w.heap.size,1,none⟩ (.slice none 0 0)).setCell ⟨w.heap.size,2,none⟩ (.slice none 0 0)) (w.heap.size) 25 #[.int .i64 0,.slice none 0 0,.slice none 0 0]:=by
      have:=(((bRz.dh 0 (.int .i64 0)).dh 1 (.slice none 0 0)).dh 2 (.slice none 0 0))
      simpa using this
     have m0:=bN.cell 0
     have m1:=bN.cell 1
     have m2:=bN.cell 2
     have k1:Below w.heap.size w (((wz.setCell ⟨w.heap.size,0,none⟩ (.int .i64 0)).setCell ⟨w.heap.size,1,none⟩ (.slice none 0 0)).setCell ⟨w.heap.size,2,none⟩ (.slice none 0 0)):=by
      iterate 3 (refine Below.setCell ?_ (by simp) _)
      exact hBz
     refine bodyPost_ret (v:=.tuple #[.agg #[.int .i64 0,.slice none 0 0,.slice none 0 0],.int .i64 6]) (by simp[results,Tryz.results4,go_sem,m0,m1,m2]) rfl ⟨_,by rw[acj (by omega) (by rw[HMT.out,← HTT.out];exact ht)],by rw[acj (by omega) (by rw[HMT.out,← HTT.out];exact ht)];exact abe _,k1⟩
    case pos=>
     have t0:(tx.toList ==s.toList)=true:=(acn _ _).trans (decide_eq_true ht)
     have HOW:=Lib.hid (agq ⟨p,is,[]⟩ HLN.out (Nat.le_trans hby.size hbz.size) ((HRP.out.below hby).below (hbz.mono hby.size)))
     go_wp2_with fail
     refine HOW.out.mono ?_
     rintro e wv ⟨us,rfl,hlv,hbv⟩
     have bRv:=bRz.step hbv
     have hBv:=hBz.trans (hbv.mono hBz.size)
     clear HOW
     obtain⟨us1,rfl,hl1⟩:=(show LvC wv wz.heap.size wv.heap.size (.lit (.int .i64 p) ::_ ::_ ::[]) us from hlv).ajj
     obtain⟨A1,n1,c1,us2,rfl,hl2⟩:=hl1.adr
     obtain⟨A2,n2,c2,us3,rfl,hl3⟩:=hl2.adr
     obtain rfl:=hl3.nil_
     clear hl1 hl2 hl3
     have HLV:=Lib.hid hlv
     clear hlv
     have y0:wv.cell? ⟨w.heap.size,0,none⟩=some (.int .i64 0):=bRv.cell 0
     have f0:=bRv.frozen 0
     have y1:wv.cell? ⟨w.heap.size,1,none⟩=some (.slice none 0 0):=bRv.cell 1
     have f1:=bRv.frozen 1
     have y2:wv.cell? ⟨w.heap.size,2,none⟩=some (.slice none 0 0):=bRv.cell 2
     have f2:=bRv.frozen 2
     have hRz:w.heap.size < wz.heap.size:=bRz.lt
     go_wp2_with fail
     have bN:Blk (((wv.setCell ⟨w.heap.size,0,none⟩ (.int .i64 p)).setCell ⟨w.heap.size,1,none⟩ (.slice A1 n1 c1)).setCell ⟨w.heap.size,2,none⟩ (.slice A2 n2 c2)) (w.heap.size) 25 #[.int .i64 p,.slice A1 n1 c1,.slice A2 n2 c2]:=by
      have:=(((bRv.dh 0 (.int .i64 p)).dh 1 (.slice A1 n1 c1)).dh 2 (.slice A2 n2 c2))
      simpa using this
     have m0:=bN.cell 0
     have m1:=bN.cell 1
     have m2:=bN.cell 2
     have k1:Below w.heap.size w (((wv.setCell ⟨w.heap.size,0,none⟩ (.int .i64 p)).setCell ⟨w.heap.size,1,none⟩ (.slice A1 n1 c1)).setCell ⟨w.heap.size,2,none⟩ (.slice A2 n2 c2)):=by
      iterate 3 (refine Below.setCell ?_ (by simp) _)
      exact hBv
     have k2:LvC (((wv.setCell ⟨w.heap.size,0,none⟩ (.int .i64 p)).setCell ⟨w.heap.size,1,none⟩ (.slice A1 n1 c1)).setCell ⟨w.heap.size,2,none⟩ (.slice A2 n2 c2)) w.heap.size ((((wv.setCell ⟨w.heap.size,0,none⟩ (.int .i64 p)).setCell ⟨w.heap.size,1,none⟩ (.slice A1 n1 c1)).setCell ⟨w.heap.size,2,none⟩ (.slice A2 n2 c2))).heap.size (Mod.pd ⟨p,is,[]⟩) [.int .i64 p,.slice A1 n1 c1,.slice A2 n2 c2]:=by
      rw[show((((wv.setCell ⟨w.heap.size,0,none⟩ (.int .i64 p)).setCell ⟨w.heap.size,1,none⟩ (.slice A1 n1 c1)).setCell ⟨w.heap.size,2,none⟩ (.slice A2 n2 c2))).heap.size=wv.heap.size by simp[World.setCell]]
      exact(((HLV.out.setCell (p:=⟨w.heap.size,0,none⟩) (.inl hRz) (.int .i64 p)).setCell (p:=⟨w.heap.size,1,none⟩) (.inl hRz) (.slice A1 n1 c1)).setCell (p:=⟨w.heap.size,2,none⟩) (.inl hRz) (.slice A2 n2 c2)).low (by omega)
     have heq:tq s=(⟨p,is,[]⟩,0):=by rw[ahl (by omega) (by rw[HMT.out];exact HBB.out.symm) (by rw[HMT.out,← HTT.out];exact ht),HMT.out]
     refine bodyPost_ret (v:=.tuple #[.agg #[.int .i64 p,.slice A1 n1 c1,.slice A2 n2 c2],.int .i64 0]) (by simp[results,Tryz.results4,go_sem,m0,m1,m2]) rfl ⟨_,by rw[heq],by rw[heq];exact k2,k1⟩
  case neg=>
   obtain⟨cs0,c0,us,v0,h1,h2,hul⟩:=agi (m:=⟨p,is,cs⟩) HGB.out.1 h0
   replace h1:cs=cs0 ++[c0]:=h1
   subst h1 h2
   obtain⟨oname,jg,jh,ji,jc⟩:=c0
   obtain⟨d,hd⟩:∃ d,d=cs0.length:=⟨_,rfl⟩
   have hcd:(cs0 ++[Core.mk oname jg jh ji jc]).length=d+1:=by rw[List.length_append,← hd];rfl
   have e0:(Mod.mk p is (cs0 ++[Core.mk oname jg jh ji jc])).cores.length=d+1:=hcd
   rw[e0] at HGB HVC
   rw[e0]
   have HD:=Lib.hid hd
   have HUL:=Lib.hid hul
   have HCD:=Lib.hid hcd
   clear hd hul h0 e0 hcd
   have hd3:d+1≤30001:=by have q:=(abu hlen).2.1;rw[← HM.out,show(Mod.mk p is (cs0 ++[Core.mk oname jg jh ji jc])).cores.length=d+1 from HCD.out] at q;exact q
   have hoc:jc.length≤30001:=by have q:=(abu hlen).2.2 (Core.mk oname jg jh ji jc) (by rw[← HM.out];simp);exact q
   obtain⟨oA,oC,rfl,hov⟩:=zl HGB.out.gy
   have a0f:=av5 HGB.out.gy
   clear hov
   obtain⟨gc,hgc,as4,ax7,aqc⟩:=HVC.out (by omega)
   subst hgc
   clear aqc HVC
   go_upto_region 4 with fail
   obtain⟨wx,hwx⟩:∃ V,V=(wb.alloc (.cells #[.int .i64 p,.slice iA is.length iC,.slice (some ⟨gc,0,none⟩) (d+1) cC] 25)):=⟨_,rfl⟩
   rw[← hwx]
   have hbx:Below wb.heap.size wb wx:=by rw[hwx];exact(Below.refl _ _).alloc (Nat.le_refl _) _
   have bMx:Blk wx (wb.heap.size) 25 #[.int .i64 p,.slice iA is.length iC,.slice (some ⟨gc,0,none⟩) (d+1) cC]:=by rw[hwx];exact Blk.new wb _ _
   have bRx:=bRb.step hbx
   have hBx:=hBb.trans (hbx.mono hBb.size)
   have HGM:=Lib.hid (HGB.out.step hbx)
   clear hwx bRb hBb HGB
   have z2:wx.cell? ⟨wb.heap.size,2,none⟩=some (.slice (some ⟨gc,0,none⟩) (d+1) cC):=bMx.cell 2
   have hbm:lo≤wb.heap.size:=by omega
   have hgm:gc≠wb.heap.size:=by omega
   have HCO:Hid (∀ V:World,GM lo V ⟨p,is,cs0 ++[(Core.mk oname jg jh ji jc)]⟩ (.slice iA is.length iC) (.slice (some ⟨gc,0,none⟩) (d+1) cC) (us ++[.slice oA jc.length oC])→V.cell? ⟨gc,d * 5+4,none⟩=some (.slice oA jc.length oC)∧V.frozen? ⟨gc,d * 5+4,none⟩=false):=Lib.hid fun V hV=>by
    have hV:=hV.pq
    rw[HCD.out] at hV
    refine⟨(hV.cellAt (d * 5+4) (by omega)).trans ?_,hV.frozenAt _⟩
    rw[HD.out]
    exact aeo HUL.out
   have hld:=HCO.out wx HGM.out
   have ld:=hld.1
   have lf:=hld.2
   clear hld
   have as3:IntKind.i64.wrap (((d+1:Nat):Int) - 1)=(d:Int):=by rw[IntWalk.i64_in _ (by omega)];omega
   have hcw2:IntKind.i64.wrap ((d:Int)+1 - 1)=(d:Int):=by rw[IntWalk.i64_in _ (by omega)];omega
   have hpos:(0:Int) < ((d+1:Nat):Int):=by omega
   have auo:(0:Int) < (d:Int)+1:=by omega
   have hdi:(d:Int) < ((d+1:Nat):Int):=by omega
   have as6:(d:Int) < (d:Int)+1:=by omega
   have hd0:(0:Int)≤(d:Int):=by omega
   rcases List.eq_nil_or_concat jc with h0|⟨code,i,h0⟩
   case inl=>
    subst h0
    have HMT:Hid (trimS (aaf s)=⟨p,is,cs0 ++[Core.mk oname jg jh ji []]⟩):=by
     show _=_
     rw[← HM.out,trimS,aa6]
     rfl
    clear HM
    have e0:([]:List Ins).length=0:=rfl
    rw[e0] at ld HGM HCO
    go_upto_region 8 with fail
    clear ld lf HCO as3 hcw2 hpos auo hdi as6 hd0
    have x0:wx.cell? ⟨wb.heap.size,0,none⟩=some (.int .i64 p):=bMx.cell 0
    have x1:wx.cell? ⟨wb.heap.size,1,none⟩=some (.slice iA is.length iC):=bMx.cell 1
    have x2:wx.cell? ⟨wb.heap.size,2,none⟩=some (.slice (some ⟨gc,0,none⟩) (d+1) cC):=bMx.cell 2
    have hwf:PD.wfL (Mod.pd ⟨p,is,cs0 ++[Core.mk oname jg jh ji []]⟩):=by rw[← HMT.out];exact(ak6 (ai9 hs)).wf
    have hln:aao ⟨p,is,cs0 ++[Core.mk oname jg jh ji []]⟩ 30001:=by rw[← HMT.out];exact agl (abu hlen)
    have HLN:=Lib.hid hln
    have hrp:=HGM.out.done.is
    have HRP:=Lib.hid hrp
    have hcap:=HGM.out.cap
    have HSH:=Lib.hid (adk ⟨p,is,cs0 ++[Core.mk oname jg jh ji []]⟩ (Nat.le_refl _) hwf hcap hrp)
    clear hwf hln hrp hcap
    obtain⟨b,hb⟩:∃ b,b=uy ⟨p,is,cs0 ++[Core.mk oname jg jh ji []]⟩:=⟨_,rfl⟩
    rw[← hb] at HSH
    have HBB:=Lib.hid hb
    clear hb
    go_wp2_with fail
    refine HSH.out.mono ?_
    rintro e wy ⟨rfl,hby⟩
    have bMy:=bMx.step hby
    have bRy:=bRx.step hby
    have hBy:=hBx.trans (hby.mono hBx.size)
    clear HSH
    have u0:wy.cell? ⟨wb.heap.size,0,none⟩=some (.int .i64 p):=bMy.cell 0
    have u1:wy.cell? ⟨wb.heap.size,1,none⟩=some (.slice iA is.length iC):=bMy.cell 1
    have u2:wy.cell? ⟨wb.heap.size,2,none⟩=some (.slice (some ⟨gc,0,none⟩) (d+1) cC):=bMy.cell 2
    cases b with
    | false=>
     have y0:wy.cell? ⟨w.heap.size,0,none⟩=some (.int .i64 0):=(bRy).cell 0
     have f0:=(bRy).frozen 0
     have y1:wy.cell? ⟨w.heap.size,1,none⟩=some (.slice none 0 0):=(bRy).cell 1
     have f1:=(bRy).frozen 1
     have y2:wy.cell? ⟨w.heap.size,2,none⟩=some (.slice none 0 0):=(bRy).cell 2
     have f2:=(bRy).frozen 2
     go_wp2_with fail
     have bN:Blk (((wy.setCell ⟨w.heap.size,0,none⟩ (.int .i64 0)).setCell ⟨w.heap.size,1,none⟩ (.slice none 0 0)).setCell ⟨w.heap.size,2,none⟩ (.slice none 0 0)) (w.heap.size) 25 #[.int .i64 0,.slice none 0 0,.slice none 0 0]:=by
      have:=(((bRy.dh 0 (.int .i64 0)).dh 1 (.slice none 0 0)).dh 2 (.slice none 0 0))
      simpa using this
     have m0:=bN.cell 0
     have m1:=bN.cell 1
     have m2:=bN.cell 2
     have k1:Below w.heap.size w (((wy.setCell ⟨w.heap.size,0,none⟩ (.int .i64 0)).setCell ⟨w.heap.size,1,none⟩ (.slice none 0 0)).setCell ⟨w.heap.size,2,none⟩ (.slice none 0 0)):=by
      iterate 3 (refine Below.setCell ?_ (by simp) _)
      exact hBy
     refine bodyPost_ret (v:=.tuple #[.agg #[.int .i64 0,.slice none 0 0,.slice none 0 0],.int .i64 6]) (by simp[results,Tryz.results4,go_sem,m0,m1,m2]) rfl ⟨_,by rw[aci (by omega) (by rw[HMT.out];exact HBB.out.symm)],by rw[aci (by omega) (by rw[HMT.out];exact HBB.out.symm)];exact abe _,k1⟩
    | true=>
     have HTX:=Lib.hid (afh ⟨p,is,cs0 ++[Core.mk oname jg jh ji []]⟩ (Nat.le_trans (Nat.le_refl _) hby.size) HBB.out.symm (HRP.out.below hby))
     obtain⟨tx,htx⟩:∃ t,t=aak ⟨p,is,cs0 ++[Core.mk oname jg jh ji []]⟩:=⟨_,rfl⟩
     rw[← htx] at HTX
     have HTT:=Lib.hid htx
     clear htx
     go_wp2_with fail
     refine HTX.out.mono ?_
     rintro e wz ⟨rfl,hbz⟩
     have bMz:=bMy.step hbz
     have bRz:=bRy.step hbz
     have hBz:=hBy.trans (hbz.mono hBy.size)
     clear HTX
     have v0:wz.cell? ⟨wb.heap.size,0,none⟩=some (.int .i64 p):=bMz.cell 0
     have v1:wz.cell? ⟨wb.heap.size,1,none⟩=some (.slice iA is.length iC):=bMz.cell 1
     have v2:wz.cell? ⟨wb.heap.size,2,none⟩=some (.slice (some ⟨gc,0,none⟩) (d+1) cC):=bMz.cell 2
     by_cases ht:tx=s
     case neg=>
      have t0:(tx.toList ==s.toList)=false:=(acn _ _).trans (decide_eq_false ht)
      have y0:wz.cell? ⟨w.heap.size,0,none⟩=some (.int .i64 0):=(bRz).cell 0
      have f0:=(bRz).frozen 0
      have y1:wz.cell? ⟨w.heap.size,1,none⟩=some (.slice none 0 0):=(bRz).cell 1
      have f1:=(bRz).frozen 1
      have y2:wz.cell? ⟨w.heap.size,2,none⟩=some (.slice none 0 0):=(bRz).cell 2
      have f2:=(bRz).frozen 2
      go_wp2_with fail
      have bN:Blk (((wz.setCell ⟨w.heap.size,0,none⟩ (.int .i64 0)).setCell ⟨w.heap.size,1,none⟩ (.slice none 0 0)).setCell ⟨w.heap.size,2,none⟩ (.slice none 0 0)) (w.heap.size) 25 #[.int .i64 0,.slice none 0 0,.slice none 0 0]:=by
       have:=(((bRz.dh 0 (.int .i64 0)).dh 1 (.slice none 0 0)).dh 2 (.slice none 0 0))
       simpa using this
      have m0:=bN.cell 0
      have m1:=bN.cell 1
      have m2:=bN.cell 2
      have k1:Below w.heap.size w (((wz.setCell ⟨w.heap.size,0,none⟩ (.int .i64 0)).setCell ⟨w.heap.size,1,none⟩ (.slice none 0 0)).setCell ⟨w.heap.size,2,none⟩ (.slice none 0 0)):=by
       iterate 3 (refine Below.setCell ?_ (by simp) _)
       exact hBz
      refine bodyPost_ret (v:=.tuple #[.agg #[.int .i64 0,.slice none 0 0,.slice none 0 0],.int .i64 6]) (by simp[results,Tryz.results4,go_sem,m0,m1,m2]) rfl ⟨_,by rw[acj (by omega) (by rw[HMT.out,← HTT.out];exact ht)],by rw[acj (by omega) (by rw[HMT.out,← HTT.out];exact ht)];exact abe _,k1⟩
     case pos=>
      have t0:(tx.toList ==s.toList)=true:=(acn _ _).trans (decide_eq_true ht)
      have HOW:=Lib.hid (agq ⟨p,is,cs0 ++[Core.mk oname jg jh ji []]⟩ HLN.out (Nat.le_trans hby.size hbz.size) ((HRP.out.below hby).below (hbz.mono hby.size)))
      go_wp2_with fail
      refine HOW.out.mono ?_
      rintro e wv ⟨us,rfl,hlv,hbv⟩
      have bRv:=bRz.step hbv
      have hBv:=hBz.trans (hbv.mono hBz.size)
      clear HOW
      obtain⟨us1,rfl,hl1⟩:=(show LvC wv wz.heap.size wv.heap.size (.lit (.int .i64 p) ::_ ::_ ::[]) us from hlv).ajj
      obtain⟨A1,n1,c1,us2,rfl,hl2⟩:=hl1.adr
      obtain⟨A2,n2,c2,us3,rfl,hl3⟩:=hl2.adr
      obtain rfl:=hl3.nil_
      clear hl1 hl2 hl3
      have HLV:=Lib.hid hlv
      clear hlv
      have y0:wv.cell? ⟨w.heap.size,0,none⟩=some (.int .i64 0):=bRv.cell 0
      have f0:=bRv.frozen 0
      have y1:wv.cell? ⟨w.heap.size,1,none⟩=some (.slice none 0 0):=bRv.cell 1
      have f1:=bRv.frozen 1
      have y2:wv.cell? ⟨w.heap.size,2,none⟩=some (.slice none 0 0):=bRv.cell 2
      have f2:=bRv.frozen 2
      have hRz:w.heap.size < wz.heap.size:=bRz.lt
      go_wp2_with fail
      have bN:Blk (((wv.setCell ⟨w.heap.size,0,none⟩ (.int .i64 p)).setCell ⟨w.heap.size,1,none⟩ (.slice A1 n1 c1)).setCell ⟨w.heap.size,2,none⟩ (.slice A2 n2 c2)) (w.heap.size) 25 #[.int .i64 p,.slice A1 n1 c1,.slice A2 n2 c2]:=by
       have:=(((bRv.dh 0 (.int .i64 p)).dh 1 (.slice A1 n1 c1)).dh 2 (.slice A2 n2 c2))
       simpa using this
      have m0:=bN.cell 0
      have m1:=bN.cell 1
      have m2:=bN.cell 2
      have k1:Below w.heap.size w (((wv.setCell ⟨w.heap.size,0,none⟩ (.int .i64 p)).setCell ⟨w.heap.size,1,none⟩ (.slice A1 n1 c1)).setCell ⟨w.heap.size,2,none⟩ (.slice A2 n2 c2)):=by
       iterate 3 (refine Below.setCell ?_ (by simp) _)
       exact hBv
      have k2:LvC (((wv.setCell ⟨w.heap.size,0,none⟩ (.int .i64 p)).setCell ⟨w.heap.size,1,none⟩ (.slice A1 n1 c1)).setCell ⟨w.heap.size,2,none⟩ (.slice A2 n2 c2)) w.heap.size ((((wv.setCell ⟨w.heap.size,0,none⟩ (.int .i64 p)).setCell ⟨w.heap.size,1,none⟩ (.slice A1 n1 c1)).setCell ⟨w.heap.size,2,none⟩ (.slice A2 n2 c2))).heap.size (Mod.pd ⟨p,is,cs0 ++[Core.mk oname jg jh ji []]⟩) [.int .i64 p,.slice A1 n1 c1,.slice A2 n2 c2]:=by
       rw[show((((wv.setCell ⟨w.heap.size,0,none⟩ (.int .i64 p)).setCell ⟨w.heap.size,1,none⟩ (.slice A1 n1 c1)).setCell ⟨w.heap.size,2,none⟩ (.slice A2 n2 c2))).heap.size=wv.heap.size by simp[World.setCell]]
       exact(((HLV.out.setCell (p:=⟨w.heap.size,0,none⟩) (.inl hRz) (.int .i64 p)).setCell (p:=⟨w.heap.size,1,none⟩) (.inl hRz) (.slice A1 n1 c1)).setCell (p:=⟨w.heap.size,2,none⟩) (.inl hRz) (.slice A2 n2 c2)).low (by omega)
      have heq:tq s=(⟨p,is,cs0 ++[Core.mk oname jg jh ji []]⟩,0):=by rw[ahl (by omega) (by rw[HMT.out];exact HBB.out.symm) (by rw[HMT.out,← HTT.out];exact ht),HMT.out]
      refine bodyPost_ret (v:=.tuple #[.agg #[.int .i64 p,.slice A1 n1 c1,.slice A2 n2 c2],.int .i64 0]) (by simp[results,Tryz.results4,go_sem,m0,m1,m2]) rfl ⟨_,by rw[heq],by rw[heq];exact k2,k1⟩
   case inr=>
    have h0:jc=code ++[i]:=by simpa using h0
    subst h0
    obtain⟨e,he⟩:∃ e,e=code.length:=⟨_,rfl⟩
    have e0:(code ++[i]).length=e+1:=by rw[List.length_append,← he];rfl
    rw[e0] at ld HGM HCO a0f hoc
    have HE:=Lib.hid he
    clear he e0
    have HMT:Hid (trimS (aaf s)=⟨p,is,cs0 ++[Core.mk oname jg jh ji code]⟩):=by
     show _=_
     rw[← HM.out,trimS,aa6]
     simp
    clear HM
    have a7l:IntKind.i64.wrap (((e+1:Nat):Int) - 1)=(e:Int):=by rw[IntWalk.i64_in _ (by omega)];omega
    have a7m:IntKind.i64.wrap ((e:Int)+1 - 1)=(e:Int):=by rw[IntWalk.i64_in _ (by omega)];omega
    have hep:(0:Int) < ((e+1:Nat):Int):=by omega
    have a7n:(0:Int) < (e:Int)+1:=by omega
    have he0:(0:Int)≤(e:Int):=by omega
    have hec:(e:Int)≤(oC:Int):=by omega
    have a7o:e≤oC:=by omega
    go_upto_region 7 with fail
    have hcw3:IntKind.i64.wrap (d:Int)=(d:Int):=IntWalk.i64_in _ (by omega)
    have a7p:IntKind.i64.wrap (e:Int)=(e:Int):=IntWalk.i64_in _ (by omega)
    have hdr:Below wx.heap.size wx wx.drew:=(Below.refl _ _).drew
    have k0:wx.drew.cell? ⟨wb.heap.size,2,none⟩=some (.slice (some ⟨gc,0,none⟩) (d+1) cC):=z2
    have ldd:wx.drew.cell? ⟨gc,d * 5+4,none⟩=some (.slice oA (e+1) oC):=ld
    have lfd:wx.drew.frozen? ⟨gc,d * 5+4,none⟩=false:=lf
    have bMs:Blk (wx.setCell ⟨gc,d * 5+4,none⟩ (.slice oA e oC)).drew (wb.heap.size) 25 #[.int .i64 p,.slice iA is.length iC,.slice (some ⟨gc,0,none⟩) (d+1) cC]:=(bMx.far (p:=⟨gc,d * 5+4,none⟩) (by simp only;omega) _).drew
    have hgw:w.heap.size < gc:=by omega
    have bRs:Blk (wx.setCell ⟨gc,d * 5+4,none⟩ (.slice oA e oC)).drew (w.heap.size) 25 #[.int .i64 0,.slice none 0 0,.slice none 0 0]:=(bRx.far (p:=⟨gc,d * 5+4,none⟩) (by simp only;omega) _).drew
    have hBs:Below w.heap.size w (wx.setCell ⟨gc,d * 5+4,none⟩ (.slice oA e oC)).drew:=(hBx.setCell (by simp only;omega) _).drew
    have HGS:Hid (GM lo (wx.setCell ⟨gc,d * 5+4,none⟩ (.slice oA e oC)).drew ⟨p,is,cs0 ++[Core.mk oname jg jh ji code]⟩ (.slice iA is.length iC) (.slice (some ⟨gc,0,none⟩) (d+1) cC) (us ++[.slice oA e oC])):=Lib.hid (by have q:=GM.cut HGM.out rfl rfl;rw[← HD.out] at q;exact q.step (Below.refl _ _).drew)
    have kS:(wx.setCell ⟨gc,d * 5+4,none⟩ (.slice oA e oC)).drew.cell? ⟨wb.heap.size,2,none⟩=some (.slice (some ⟨gc,0,none⟩) (d+1) cC):=bMs.cell 2
    refine wp_region_held_drew (S:=(fun w'=>w'.cell? ⟨wb.heap.size,2,none⟩=some (.slice (some ⟨gc,0,none⟩) (d+1) cC))) (by kernel_rfl) k0 (fun hHeld=>?_)
    refine wpAnyH_take (i:=0) (oi:=_) (v:=_) (by simp only[List.getElem?_toArray,List.getElem?_cons_succ,List.getElem?_cons_zero];rfl) (by kernel_rfl) (by kernel_rfl) (by kernel_rfl) (by exact fun _ _ _ h=>h) (Or.inl ⟨by rfl,by intro w hSw;(try dsimp only at hSw);go_simp;try with_reducible rfl⟩) (by assumption) ?_
    try simp only[Act.put,List.setIfInBounds_toArray,List.set_cons_zero,List.set_cons_succ]
    refine wpAnyH_take (i:=1) (oi:=_) (v:=_) (by simp only[List.getElem?_toArray,List.getElem?_cons_succ,List.getElem?_cons_zero];rfl) (by kernel_rfl) (by kernel_rfl) (by kernel_rfl) (by exact fun _ _ _ h=>h) (Or.inl ⟨by rfl,by intro w hSw;(try dsimp only at hSw);go_simp;try with_reducible rfl⟩) (by assumption) ?_
    try simp only[Act.put,List.setIfInBounds_toArray,List.set_cons_zero,List.set_cons_succ]
    refine wpAnyH_take (i:=2) (oi:=_) (v:=_) (by simp only[List.getElem?_toArray,List.getElem?_cons_succ,List.getElem?_cons_zero];rfl) (by kernel_rfl) (by kernel_rfl) (by kernel_rfl) (by exact fun _ _ _ h=>h) (Or.inl ⟨by rfl,by intro w hSw;(try dsimp only at hSw);go_simp;try with_reducible rfl⟩) (by assumption) ?_
    try simp only[Act.put,List.setIfInBounds_toArray,List.set_cons_zero,List.set_cons_succ]
    refine wpAnyH_take (i:=3) (oi:=_) (v:=_) (by simp only[List.getElem?_toArray,List.getElem?_cons_succ,List.getElem?_cons_zero];rfl) (by kernel_rfl) (by kernel_rfl) (by kernel_rfl) (by exact fun _ _ _ h=>h) (Or.inl ⟨by rfl,by intro w hSw;(try dsimp only at hSw);go_simp;try with_reducible rfl⟩) (by assumption) ?_
    try simp only[Act.put,List.setIfInBounds_toArray,List.set_cons_zero,List.set_cons_succ]
    refine wpAnyH_take (i:=4) (oi:=_) (v:=_) (by simp only[List.getElem?_toArray,List.getElem?_cons_succ,List.getElem?_cons_zero];rfl) (by kernel_rfl) (by kernel_rfl) (by kernel_rfl) (by exact fun _ _ _ h=>h) (Or.inl ⟨by rfl,by intro w hSw;(try dsimp only at hSw);go_simp;try with_reducible rfl⟩) (by assumption) ?_
    try simp only[Act.put,List.setIfInBounds_toArray,List.set_cons_zero,List.set_cons_succ]
    refine wpAnyH_take (i:=5) (oi:=_) (v:=_) (by simp only[List.getElem?_toArray,List.getElem?_cons_succ,List.getElem?_cons_zero];rfl) (by kernel_rfl) (by kernel_rfl) (by kernel_rfl) (by exact fun _ _ _ h=>h) (Or.inl ⟨by rfl,by intro w hSw;(try dsimp only at hSw);go_simp;try with_reducible rfl⟩) (by assumption) ?_
    try simp only[Act.put,List.setIfInBounds_toArray,List.set_cons_zero,List.set_cons_succ]
    refine wpAnyH_take (i:=6) (oi:=_) (v:=_) (by simp only[List.getElem?_toArray,List.getElem?_cons_succ,List.getElem?_cons_zero];rfl) (by kernel_rfl) (by kernel_rfl) (by kernel_rfl) (by exact fun _ _ _ h=>h) (Or.inl ⟨by rfl,by intro w hSw;(try dsimp only at hSw);go_simp;try with_reducible rfl⟩) (by assumption) ?_
    try simp only[Act.put,List.setIfInBounds_toArray,List.set_cons_zero,List.set_cons_succ]
    refine wpAnyH_take (i:=7) (oi:=_) (v:=_) (by simp only[List.getElem?_toArray,List.getElem?_cons_succ,List.getElem?_cons_zero];rfl) (by kernel_rfl) (by kernel_rfl) (by kernel_rfl) (by exact fun _ _ _ h=>h) (Or.inl ⟨by rfl,by intro w hSw;(try dsimp only at hSw);go_simp;try with_reducible rfl⟩) (by assumption) ?_
    try simp only[Act.put,List.setIfInBounds_toArray,List.set_cons_zero,List.set_cons_succ]
    refine wpAnyH_take (i:=8) (oi:=_) (v:=_) (by simp only[List.getElem?_toArray,List.getElem?_cons_succ,List.getElem?_cons_zero];rfl) (by kernel_rfl) (by kernel_rfl) (by kernel_rfl) (by exact fun _ _ _ h=>h) (Or.inl ⟨by rfl,by intro w hSw;(try dsimp only at hSw);go_simp;try with_reducible rfl⟩) (by assumption) ?_
    try simp only[Act.put,List.setIfInBounds_toArray,List.set_cons_zero,List.set_cons_succ]
    refine wpAnyH_take (i:=9) (oi:=_) (v:=_) (by simp only[List.getElem?_toArray,List.getElem?_cons_succ,List.getElem?_cons_zero];rfl) (by kernel_rfl) (by kernel_rfl) (by kernel_rfl) (by exact fun _ _ _ h=>h) (Or.inl ⟨by rfl,by intro w hSw;(try dsimp only at hSw);go_simp;try with_reducible rfl⟩) (by assumption) ?_
    try simp only[Act.put,List.setIfInBounds_toArray,List.set_cons_zero,List.set_cons_succ]
    refine wpAnyH_take (i:=11) (oi:=_) (v:=_) (by simp only[List.getElem?_toArray,List.getElem?_cons_succ,List.getElem?_cons_zero];rfl) (by kernel_rfl) (by kernel_rfl) (by kernel_rfl) (by exact fun _ _ _ h=>h) (Or.inl ⟨by rfl,by intro w hSw;(try dsimp only at hSw);go_simp;try with_reducible rfl⟩) (by assumption) ?_
    try simp only[Act.put,List.setIfInBounds_toArray,List.set_cons_zero,List.set_cons_succ]
    refine wpAnyH_ready (rs:=[10]) (by kernel_rfl) (by simp) ?_
    refine AllReadyH.cons (o:=?o1) ?h1 (fun K hK=>?k1) AllReadyH.nil
    case h1=>
     simp only[List.getElem?_toArray,List.getElem?_cons_succ,List.getElem?_cons_zero];rfl
    go_simp
    refine hK.out _ _ (by first|exact k0|go_keep) (fun hHeld=>?_)
    clear hK K
    try simp only[Act.put,List.setIfInBounds_toArray,List.set_cons_zero,List.set_cons_succ]
    refine wpAnyH_take (i:=12) (oi:=_) (v:=_) (by simp only[List.getElem?_toArray,List.getElem?_cons_succ,List.getElem?_cons_zero];rfl) (by kernel_rfl) (by kernel_rfl) (by kernel_rfl) (by exact fun _ _ _ h=>h) (Or.inl ⟨by rfl,by intro w hSw;(try dsimp only at hSw);go_simp;try with_reducible rfl⟩) (by assumption) ?_
    try simp only[Act.put,List.setIfInBounds_toArray,List.set_cons_zero,List.set_cons_succ]
    refine wpAnyH_take (i:=13) (oi:=_) (v:=_) (by simp only[List.getElem?_toArray,List.getElem?_cons_succ,List.getElem?_cons_zero];rfl) (by kernel_rfl) (by kernel_rfl) (by kernel_rfl) (by exact fun _ _ _ h=>h) (Or.inl ⟨by rfl,by intro w hSw;(try dsimp only at hSw);go_simp;try with_reducible rfl⟩) (by assumption) ?_
    try simp only[Act.put,List.setIfInBounds_toArray,List.set_cons_zero,List.set_cons_succ]
    refine wpAnyH_take (i:=14) (oi:=_) (v:=_) (by simp only[List.getElem?_toArray,List.getElem?_cons_succ,List.getElem?_cons_zero];rfl) (by kernel_rfl) (by kernel_rfl) (by kernel_rfl) (by exact fun _ _ _ h=>h) (Or.inl ⟨by rfl,by intro w hSw;(try dsimp only at hSw);go_simp;try with_reducible rfl⟩) (by assumption) ?_
    try simp only[Act.put,List.setIfInBounds_toArray,List.set_cons_zero,List.set_cons_succ]
    refine wpAnyH_ready (rs:=[15]) (by kernel_rfl) (by simp) ?_
    refine AllReadyH.cons (o:=?o2) ?h2 (fun K hK=>?k2) AllReadyH.nil
    case h2=>
     simp only[List.getElem?_toArray,List.getElem?_cons_succ,List.getElem?_cons_zero];rfl
    go_simp
    refine hK.out _ _ (by first|exact kS|go_keep) (fun hHeld=>?_)
    clear hK K
    try simp only[Act.put,List.setIfInBounds_toArray,List.set_cons_zero,List.set_cons_succ]
    refine wpAnyH_done (by kernel_rfl) ?_ _
    go_upto_region 8 with fail
    have a7q:=hBx.size
    obtain⟨wq,hwq⟩:∃ V,V=(wx.setCell ⟨gc,d * 5+4,none⟩ (.slice oA e oC)).drew:=⟨_,rfl⟩
    rw[← hwq] at bMs bRs hBs HGS
    rw[← hwq]
    clear hwq bMx bRx hBx HGM HCO ld lf ldd lfd k0 kS z2 hdr
    have bMx:=bMs
    have bRx:=bRs
    have hBx:=hBs
    have HGM:=HGS
    clear bMs bRs hBs HGS
    have x0:wq.cell? ⟨wb.heap.size,0,none⟩=some (.int .i64 p):=bMx.cell 0
    have x1:wq.cell? ⟨wb.heap.size,1,none⟩=some (.slice iA is.length iC):=bMx.cell 1
    have x2:wq.cell? ⟨wb.heap.size,2,none⟩=some (.slice (some ⟨gc,0,none⟩) (d+1) cC):=bMx.cell 2
    have hwf:PD.wfL (Mod.pd ⟨p,is,cs0 ++[Core.mk oname jg jh ji code]⟩):=by rw[← HMT.out];exact(ak6 (ai9 hs)).wf
    have hln:aao ⟨p,is,cs0 ++[Core.mk oname jg jh ji code]⟩ 30001:=by rw[← HMT.out];exact agl (abu hlen)
    have HLN:=Lib.hid hln
    have hrp:=HGM.out.done.is
    have HRP:=Lib.hid hrp
    have hcap:=HGM.out.cap
    have HSH:=Lib.hid (adk ⟨p,is,cs0 ++[Core.mk oname jg jh ji code]⟩ (Nat.le_refl _) hwf hcap hrp)
    clear hwf hln hrp hcap
    obtain⟨b,hb⟩:∃ b,b=uy ⟨p,is,cs0 ++[Core.mk oname jg jh ji code]⟩:=⟨_,rfl⟩
    rw[← hb] at HSH
    have HBB:=Lib.hid hb
    clear hb
    go_wp2_with fail
    refine HSH.out.mono ?_
    rintro e wy ⟨rfl,hby⟩
    have bMy:=bMx.step hby
    have bRy:=bRx.step hby
    have hBy:=hBx.trans (hby.mono hBx.size)
    clear HSH
    have u0:wy.cell? ⟨wb.heap.size,0,none⟩=some (.int .i64 p):=bMy.cell 0
    have u1:wy.cell? ⟨wb.heap.size,1,none⟩=some (.slice iA is.length iC):=bMy.cell 1
    have u2:wy.cell? ⟨wb.heap.size,2,none⟩=some (.slice (some ⟨gc,0,none⟩) (d+1) cC):=bMy.cell 2
    cases b with
    | false=>
     have y0:wy.cell? ⟨w.heap.size,0,none⟩=some (.int .i64 0):=(bRy).cell 0
     have f0:=(bRy).frozen 0
     have y1:wy.cell? ⟨w.heap.size,1,none⟩=some (.slice none 0 0):=(bRy).cell 1
     have f1:=(bRy).frozen 1
     have y2:wy.cell? ⟨w.heap.size,2,none⟩=some (.slice none 0 0):=(bRy).cell 2
     have f2:=(bRy).frozen 2
     go_wp2_with fail
     have bN:Blk (((wy.setCell ⟨w.heap.size,0,none⟩ (.int .i64 0)).setCell ⟨w.heap.size,1,none⟩ (.slice none 0 0)).setCell ⟨w.heap.size,2,none⟩ (.slice none 0 0)) (w.heap.size) 25 #[.int .i64 0,.slice none 0 0,.slice none 0 0]:=by
      have:=(((bRy.dh 0 (.int .i64 0)).dh 1 (.slice none 0 0)).dh 2 (.slice none 0 0))
      simpa using this
     have m0:=bN.cell 0
     have m1:=bN.cell 1
     have m2:=bN.cell 2
     have k1:Below w.heap.size w (((wy.setCell ⟨w.heap.size,0,none⟩ (.int .i64 0)).setCell ⟨w.heap.size,1,none⟩ (.slice none 0 0)).setCell ⟨w.heap.size,2,none⟩ (.slice none 0 0)):=by
      iterate 3 (refine Below.setCell ?_ (by simp) _)
      exact hBy
     refine bodyPost_ret (v:=.tuple #[.agg #[.int .i64 0,.slice none 0 0,.slice none 0 0],.int .i64 6]) (by simp[results,Tryz.results4,go_sem,m0,m1,m2]) rfl ⟨_,by rw[aci (by omega) (by rw[HMT.out];exact HBB.out.symm)],by rw[aci (by omega) (by rw[HMT.out];exact HBB.out.symm)];exact abe _,k1⟩
    | true=>
     have HTX:=Lib.hid (afh ⟨p,is,cs0 ++[Core.mk oname jg jh ji code]⟩ (Nat.le_trans (Nat.le_refl _) hby.size) HBB.out.symm (HRP.out.below hby))
     obtain⟨tx,htx⟩:∃ t,t=aak ⟨p,is,cs0 ++[Core.mk oname jg jh ji code]⟩:=⟨_,rfl⟩
     rw[← htx] at HTX
     have HTT:=Lib.hid htx
     clear htx
     go_wp2_with fail
     refine HTX.out.mono ?_
     rintro e wz ⟨rfl,hbz⟩
     have bMz:=bMy.step hbz
     have bRz:=bRy.step hbz
     have hBz:=hBy.trans (hbz.mono hBy.size)
     clear HTX
     have v0:wz.cell? ⟨wb.heap.size,0,none⟩=some (.int .i64 p):=bMz.cell 0
     have v1:wz.cell? ⟨wb.heap.size,1,none⟩=some (.slice iA is.length iC):=bMz.cell 1
     have v2:wz.cell? ⟨wb.heap.size,2,none⟩=some (.slice (some ⟨gc,0,none⟩) (d+1) cC):=bMz.cell 2
     by_cases ht:tx=s
     case neg=>
      have t0:(tx.toList ==s.toList)=false:=(acn _ _).trans (decide_eq_false ht)
      have y0:wz.cell? ⟨w.heap.size,0,none⟩=some (.int .i64 0):=(bRz).cell 0
      have f0:=(bRz).frozen 0
      have y1:wz.cell? ⟨w.heap.size,1,none⟩=some (.slice none 0 0):=(bRz).cell 1
      have f1:=(bRz).frozen 1
      have y2:wz.cell? ⟨w.heap.size,2,none⟩=some (.slice none 0 0):=(bRz).cell 2
      have f2:=(bRz).frozen 2
      go_wp2_with fail
      have bN:Blk (((wz.setCell ⟨w.heap.size,0,none⟩ (.int .i64 0)).setCell ⟨w.heap.size,1,none⟩ (.slice none 0 0)).setCell ⟨w.heap.size,2,none⟩ (.slice none 0 0)) (w.heap.size) 25 #[.int .i64 0,.slice none 0 0,.slice none 0 0]:=by
       have:=(((bRz.dh 0 (.int .i64 0)).dh 1 (.slice none 0 0)).dh 2 (.slice none 0 0))
       simpa using this
      have m0:=bN.cell 0
      have m1:=bN.cell 1
      have m2:=bN.cell 2
      have k1:Below w.heap.size w (((wz.setCell ⟨w.heap.size,0,none⟩ (.int .i64 0)).setCell ⟨w.heap.size,1,none⟩ (.slice none 0 0)).setCell ⟨w.heap.size,2,none⟩ (.slice none 0 0)):=by
       iterate 3 (refine Below.setCell ?_ (by simp) _)
       exact hBz
      refine bodyPost_ret (v:=.tuple #[.agg #[.int .i64 0,.slice none 0 0,.slice none 0 0],.int .i64 6]) (by simp[results,Tryz.results4,go_sem,m0,m1,m2]) rfl ⟨_,by rw[acj (by omega) (by rw[HMT.out,← HTT.out];exact ht)],by rw[acj (by omega) (by rw[HMT.out,← HTT.out];exact ht)];exact abe _,k1⟩
     case pos=>
      have t0:(tx.toList ==s.toList)=true:=(acn _ _).trans (decide_eq_true ht)
      have HOW:=Lib.hid (agq ⟨p,is,cs0 ++[Core.mk oname jg jh ji code]⟩ HLN.out (Nat.le_trans hby.size hbz.size) ((HRP.out.below hby).below (hbz.mono hby.size)))
      go_wp2_with fail
      refine HOW.out.mono ?_
      rintro e wv ⟨us,rfl,hlv,hbv⟩
      have bRv:=bRz.step hbv
      have hBv:=hBz.trans (hbv.mono hBz.size)
      clear HOW
      obtain⟨us1,rfl,hl1⟩:=(show LvC wv wz.heap.size wv.heap.size (.lit (.int .i64 p) ::_ ::_ ::[]) us from hlv).ajj
      obtain⟨A1,n1,c1,us2,rfl,hl2⟩:=hl1.adr
      obtain⟨A2,n2,c2,us3,rfl,hl3⟩:=hl2.adr
      obtain rfl:=hl3.nil_
      clear hl1 hl2 hl3
      have HLV:=Lib.hid hlv
      clear hlv
      have y0:wv.cell? ⟨w.heap.size,0,none⟩=some (.int .i64 0):=bRv.cell 0
      have f0:=bRv.frozen 0
      have y1:wv.cell? ⟨w.heap.size,1,none⟩=some (.slice none 0 0):=bRv.cell 1
      have f1:=bRv.frozen 1
      have y2:wv.cell? ⟨w.heap.size,2,none⟩=some (.slice none 0 0):=bRv.cell 2
      have f2:=bRv.frozen 2
      have hRz:w.heap.size < wz.heap.size:=bRz.lt
      go_wp2_with fail
      have bN:Blk (((wv.setCell ⟨w.heap.size,0,none⟩ (.int .i64 p)).setCell ⟨w.heap.size,1,none⟩ (.slice A1 n1 c1)).setCell ⟨w.heap.size,2,none⟩ (.slice A2 n2 c2)) (w.heap.size) 25 #[.int .i64 p,.slice A1 n1 c1,.slice A2 n2 c2]:=by
       have:=(((bRv.dh 0 (.int .i64 p)).dh 1 (.slice A1 n1 c1)).dh 2 (.slice A2 n2 c2))
       simpa using this
      have m0:=bN.cell 0
      have m1:=bN.cell 1
      have m2:=bN.cell 2
      have k1:Below w.heap.size w (((wv.setCell ⟨w.heap.size,0,none⟩ (.int .i64 p)).setCell ⟨w.heap.size,1,none⟩ (.slice A1 n1 c1)).setCell ⟨w.heap.size,2,none⟩ (.slice A2 n2 c2)):=by
       iterate 3 (refine Below.setCell ?_ (by simp) _)
       exact hBv
      have k2:LvC (((wv.setCell ⟨w.heap.size,0,none⟩ (.int .i64 p)).setCell ⟨w.heap.size,1,none⟩ (.slice A1 n1 c1)).setCell ⟨w.heap.size,2,none⟩ (.slice A2 n2 c2)) w.heap.size ((((wv.setCell ⟨w.heap.size,0,none⟩ (.int .i64 p)).setCell ⟨w.heap.size,1,none⟩ (.slice A1 n1 c1)).setCell ⟨w.heap.size,2,none⟩ (.slice A2 n2 c2))).heap.size (Mod.pd ⟨p,is,cs0 ++[Core.mk oname jg jh ji code]⟩) [.int .i64 p,.slice A1 n1 c1,.slice A2 n2 c2]:=by
       rw[show((((wv.setCell ⟨w.heap.size,0,none⟩ (.int .i64 p)).setCell ⟨w.heap.size,1,none⟩ (.slice A1 n1 c1)).setCell ⟨w.heap.size,2,none⟩ (.slice A2 n2 c2))).heap.size=wv.heap.size by simp[World.setCell]]
       exact(((HLV.out.setCell (p:=⟨w.heap.size,0,none⟩) (.inl hRz) (.int .i64 p)).setCell (p:=⟨w.heap.size,1,none⟩) (.inl hRz) (.slice A1 n1 c1)).setCell (p:=⟨w.heap.size,2,none⟩) (.inl hRz) (.slice A2 n2 c2)).low (by omega)
      have heq:tq s=(⟨p,is,cs0 ++[Core.mk oname jg jh ji code]⟩,0):=by rw[ahl (by omega) (by rw[HMT.out];exact HBB.out.symm) (by rw[HMT.out,← HTT.out];exact ht),HMT.out]
      refine bodyPost_ret (v:=.tuple #[.agg #[.int .i64 p,.slice A1 n1 c1,.slice A2 n2 c2],.int .i64 0]) (by simp[results,Tryz.results4,go_sem,m0,m1,m2]) rfl ⟨_,by rw[heq],by rw[heq];exact k2,k1⟩
end Go.Proofs.YtlpcocfadppkhaaGreatDoor
