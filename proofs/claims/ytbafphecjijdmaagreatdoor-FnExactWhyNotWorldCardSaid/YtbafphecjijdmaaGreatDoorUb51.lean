/-
  FnExactWhyNotWorld: the law's walk (by program: lawgen2.py).
-/
import Derived.Test.YtbafphecjijdmaaGreatDoorUb05
import Derived.Test.YtbafphecjijdmaaGreatDoorUb06
import Derived.Test.YtbafphecjijdmaaGreatDoorUb07
import Derived.Test.YtbafphecjijdmaaGreatDoorUb08
import Derived.Test.YtbafphecjijdmaaGreatDoorUb50
namespace Go.Proofs.YtbafphecjijdmaaGreatDoor
open Go.RowKit
set_option linter.all false
set_option maxRecDepth 100000
set_option maxHeartbeats 6400000 in
theorem aq2 (w:World) (hT:akm w) (v0:Value) (h0:ayc w v0) (v1:Value) (h1:ayc w v1):
  Calls Tryz.prog 5 #[v0,v1] w fun e w'=>e=.returned (.bool true)∧Below w.heap.size w w':=by
 obtain⟨t,cs,rfl,hwf,hr⟩:=h0
 obtain⟨package,name,version,imports,exports⟩:=t
 obtain⟨aag,zl,rfl,_,_⟩:=Wld.open_ hr
 have WF0:=zqd hwf
 have R0:=zqd hr
 clear hwf hr
 obtain⟨z0,hz⟩:∃ z:Nat,z=PD.szL (Wld.pd ⟨package,name,version,imports,exports⟩):=⟨_,rfl⟩
 have Z0:=zqd hz
 clear hz
 obtain⟨t,cs,rfl,hwf,hr⟩:=h1
 obtain⟨x9,dw,yh,aq0,aq1⟩:=t
 obtain⟨adr,ad1,rfl,_,_⟩:=Wld.open_ hr
 have WF1:=zqd hwf
 have R1:=zqd hr
 clear hwf hr
 obtain⟨z1,hz⟩:∃ z:Nat,z=PD.szL (Wld.pd ⟨x9,dw,yh,aq0,aq1⟩):=⟨_,rfl⟩
 have Z1:=zqd hz
 clear hz
 by_cases ht0:z0≤1048576
 case neg=>
  go_enter Tryz.func5,Tryz.ntmps5
  go_wp2_with fail
  obtain⟨w0,hw0⟩:∃ W,W=((w.alloc (.cells #[.string package,.string name,.string version,aag,zl] 40)).alloc (.cells #[.string x9,.string dw,.string yh,adr,ad1] 40)):=⟨_,rfl⟩
  rw[← hw0]
  have hB0:Below w.heap.size w w0:=by rw[hw0];exact((zqf _ _).alloc (zql _) _).alloc (by simp) _
  have b0:Blk w0 w.heap.size 40 #[.string package,.string name,.string version,aag,zl]:=by rw[hw0];exact((Blk.new w _ _).alloc _)
  have b1:Blk w0 (w.heap.size+1) 40 #[.string x9,.string dw,.string yh,adr,ad1]:=by rw[hw0];exact by simpa using (Blk.new (w.alloc (.cells #[.string package,.string name,.string version,aag,zl] 40)) _ _)
  clear hw0
  have hs0:=hB0.size
  have hl0:=b0.lt
  refine(amj _ w.heap.size [.string package,.string name,.string version,aag,zl] _ (1048576) (by omega) (by omega) hB0.size WF0.out (R0.out.below hB0)).mono ?_
  rintro e w1 ⟨rfl,hb1⟩
  have hs1:=hb1.size
  have hB1:=hB0.trans (hb1.mono hB0.size)
  replace b0:=b0.step hb1
  replace b1:=b1.step hb1
  rw[← Z0.out,aap (by omega)]
  go_wp2_with fail
  go_ret
  exact⟨rfl,hB1⟩
 by_cases ht1:z0+z1≤1048576
 case neg=>
  go_enter Tryz.func5,Tryz.ntmps5
  go_wp2_with fail
  obtain⟨w0,hw0⟩:∃ W,W=((w.alloc (.cells #[.string package,.string name,.string version,aag,zl] 40)).alloc (.cells #[.string x9,.string dw,.string yh,adr,ad1] 40)):=⟨_,rfl⟩
  rw[← hw0]
  have hB0:Below w.heap.size w w0:=by rw[hw0];exact((zqf _ _).alloc (zql _) _).alloc (by simp) _
  have b0:Blk w0 w.heap.size 40 #[.string package,.string name,.string version,aag,zl]:=by rw[hw0];exact((Blk.new w _ _).alloc _)
  have b1:Blk w0 (w.heap.size+1) 40 #[.string x9,.string dw,.string yh,adr,ad1]:=by rw[hw0];exact by simpa using (Blk.new (w.alloc (.cells #[.string package,.string name,.string version,aag,zl] 40)) _ _)
  clear hw0
  have hs0:=hB0.size
  have hl0:=b0.lt
  refine(amj _ w.heap.size [.string package,.string name,.string version,aag,zl] _ (1048576) (by omega) (by omega) hB0.size WF0.out (R0.out.below hB0)).mono ?_
  rintro e w1 ⟨rfl,hb1⟩
  have hs1:=hb1.size
  have hB1:=hB0.trans (hb1.mono hB0.size)
  replace b0:=b0.step hb1
  replace b1:=b1.step hb1
  rw[← Z0.out,acg (by omega)]
  have hp0:(0:Int)≤1048576 - (z0:Int):=by omega
  obtain⟨bsj,bsk,bsl,bsm,bsn⟩:=zc5 b0
  obtain⟨bso,bsp,bsq,bsr,bop⟩:=zc5 b1
  go_wp2_with fail
  clear bsj bsk bsl bsm bsn bso bsp bsq bsr bop
  refine(amj _ w.heap.size [.string x9,.string dw,.string yh,adr,ad1] _ (1048576 - (z0:Int)) (by omega) (by omega) hB1.size WF1.out (R1.out.below hB1)).mono ?_
  rintro e w2 ⟨rfl,hb2⟩
  have hs2:=hb2.size
  have hB2:=hB1.trans (hb2.mono hB1.size)
  replace b0:=b0.step hb2
  replace b1:=b1.step hb2
  rw[← Z1.out,aap (by omega)]
  go_wp2_with fail
  go_ret
  exact⟨rfl,hB2⟩
 have SP:=awg (⟨package,name,version,imports,exports⟩:Wld) (⟨x9,dw,yh,aq0,aq1⟩:Wld) WF0.out (by rw[← Z0.out];omega) WF1.out (by rw[← Z1.out];omega)
 have IM:=awi (⟨package,name,version,imports,exports⟩:Wld) (⟨x9,dw,yh,aq0,aq1⟩:Wld) WF0.out (by rw[← Z0.out];omega) WF1.out (by rw[← Z1.out];omega)
 obtain⟨rr,hrr⟩:∃ r:Reason,r=a5i (ahu ⟨package,name,version,imports,exports⟩ ⟨x9,dw,yh,aq0,aq1⟩):=⟨_,rfl⟩
 rw[← hrr] at SP IM
 clear hrr
 obtain⟨aby,ac6⟩:=rr
 obtain⟨r1,hrr⟩:∃ r:Bool,r=avc (ahu ⟨package,name,version,imports,exports⟩ ⟨x9,dw,yh,aq0,aq1⟩):=⟨_,rfl⟩
 rw[← hrr] at SP IM
 clear hrr
 have hne1:(r1 != r1)=false:=by simp
 have SP':=zqd SP
 have IM':=zqd IM
 clear SP IM
 go_enter Tryz.func5,Tryz.ntmps5
 go_wp2_with fail
 obtain⟨w0,hw0⟩:∃ W,W=((w.alloc (.cells #[.string package,.string name,.string version,aag,zl] 40)).alloc (.cells #[.string x9,.string dw,.string yh,adr,ad1] 40)):=⟨_,rfl⟩
 rw[← hw0]
 have hB0:Below w.heap.size w w0:=by rw[hw0];exact((zqf _ _).alloc (zql _) _).alloc (by simp) _
 have b0:Blk w0 w.heap.size 40 #[.string package,.string name,.string version,aag,zl]:=by rw[hw0];exact((Blk.new w _ _).alloc _)
 have b1:Blk w0 (w.heap.size+1) 40 #[.string x9,.string dw,.string yh,adr,ad1]:=by rw[hw0];exact by simpa using (Blk.new (w.alloc (.cells #[.string package,.string name,.string version,aag,zl] 40)) _ _)
 clear hw0
 have hs0:=hB0.size
 have hl0:=b0.lt
 refine(amj _ w.heap.size [.string package,.string name,.string version,aag,zl] _ (1048576) (by omega) (by omega) hB0.size WF0.out (R0.out.below hB0)).mono ?_
 rintro e w1 ⟨rfl,hb1⟩
 have hs1:=hb1.size
 have hB1:=hB0.trans (hb1.mono hB0.size)
 replace b0:=b0.step hb1
 replace b1:=b1.step hb1
 rw[← Z0.out,acg (by omega)]
 have hp0:(0:Int)≤1048576 - (z0:Int):=by omega
 obtain⟨boq,bor,bos,bou,bov⟩:=zc5 b0
 obtain⟨bow,boy,boz,bo0,bo1⟩:=zc5 b1
 go_wp2_with fail
 clear boq bor bos bou bov bow boy boz bo0 bo1
 refine(amj _ w.heap.size [.string x9,.string dw,.string yh,adr,ad1] _ (1048576 - (z0:Int)) (by omega) (by omega) hB1.size WF1.out (R1.out.below hB1)).mono ?_
 rintro e w2 ⟨rfl,hb2⟩
 have hs2:=hb2.size
 have hB2:=hB1.trans (hb2.mono hB1.size)
 replace b0:=b0.step hb2
 replace b1:=b1.step hb2
 rw[← Z1.out,acg (by omega)]
 have hp1:(0:Int)≤1048576 - (z0:Int) - (z1:Int):=by omega
 obtain⟨bo2,bo3,bo4,bo5,bo6⟩:=zc5 b0
 obtain⟨bo7,bo8,bo9,bpa,bpb⟩:=zc5 b1
 go_wp2_with fail
 clear bo2 bo3 bo4 bo5 bo6 bo7 bo8 bo9 bpa bpb
 obtain⟨bcu,bcv,bcw,bcx,bcy⟩:=zc5 b0
 obtain⟨bcz,bc4,bc5,bc6,bc7⟩:=zc5 b1
 have axd:=b0.lt
 have axe:=b1.lt
 have HSS:Hid (∀ V,Below w2.heap.size w2 V→V.cell? ⟨w.heap.size,0,none⟩=some (.string package)∧V.cell? ⟨w.heap.size,1,none⟩=some (.string name)∧V.cell? ⟨w.heap.size,2,none⟩=some (.string version)∧V.cell? ⟨w.heap.size,3,none⟩=some (aag)∧V.cell? ⟨w.heap.size,4,none⟩=some (zl)∧V.cell? ⟨(w.heap.size+1),0,none⟩=some (.string x9)∧V.cell? ⟨(w.heap.size+1),1,none⟩=some (.string dw)∧V.cell? ⟨(w.heap.size+1),2,none⟩=some (.string yh)∧V.cell? ⟨(w.heap.size+1),3,none⟩=some (adr)∧V.cell? ⟨(w.heap.size+1),4,none⟩=some (ad1)):=zqd fun V hV=>⟨(hV.cell (p:=⟨w.heap.size,0,none⟩) axd).trans bcu,(hV.cell (p:=⟨w.heap.size,1,none⟩) axd).trans bcv,(hV.cell (p:=⟨w.heap.size,2,none⟩) axd).trans bcw,(hV.cell (p:=⟨w.heap.size,3,none⟩) axd).trans bcx,(hV.cell (p:=⟨w.heap.size,4,none⟩) axd).trans bcy,(hV.cell (p:=⟨(w.heap.size+1),0,none⟩) axe).trans bcz,(hV.cell (p:=⟨(w.heap.size+1),1,none⟩) axe).trans bc4,(hV.cell (p:=⟨(w.heap.size+1),2,none⟩) axe).trans bc5,(hV.cell (p:=⟨(w.heap.size+1),3,none⟩) axe).trans bc6,(hV.cell (p:=⟨(w.heap.size+1),4,none⟩) axe).trans bc7⟩
 go_region_held3 (fun w'=>w'.cell? ⟨w.heap.size,0,none⟩=some (.string package)∧w'.cell? ⟨w.heap.size,1,none⟩=some (.string name)∧w'.cell? ⟨w.heap.size,2,none⟩=some (.string version)∧w'.cell? ⟨w.heap.size,3,none⟩=some (aag)∧w'.cell? ⟨w.heap.size,4,none⟩=some (zl)∧w'.cell? ⟨(w.heap.size+1),0,none⟩=some (.string x9)∧w'.cell? ⟨(w.heap.size+1),1,none⟩=some (.string dw)∧w'.cell? ⟨(w.heap.size+1),2,none⟩=some (.string yh)∧w'.cell? ⟨(w.heap.size+1),3,none⟩=some (adr)∧w'.cell? ⟨(w.heap.size+1),4,none⟩=some (ad1))
  (first|exact HSS.out _ (by repeat(first|exact azi|exact hwq1|exact hwq0|exact zqf _ _|refine Below.drew ?_|refine bq3 ?_ _|refine apl ?_ (zql _) _ _|refine apl ?_ hwq0.size _ _|refine apl ?_ hwq1.size _ _|refine apl ?_ azi.size _ _)))
  (first|(go_at_call_of 17 aag;refine(ak9 _ w.heap.size [.string package,.string name,.string version,aag,zl] _ (by first|exact hB2.drew.size|exact(hB2.drew.alloc hB2.drew.size _).size) (by rw[← Z0.out];omega) (by first|exact R0.out.below hB2.drew|exact R0.out.below (hB2.drew.alloc hB2.drew.size _))).mono ?_;rintro e wq0 ⟨us0,rfl,Ls0,hbq⟩;have Ks0:=Ls0;obtain⟨bfd,bfe,bff,bfg,bfh,bfi,rfl⟩:=Wld.afv Ks0;have hwq0:Below w2.heap.size w2 wq0:=(by first|exact(zqf _ _).drew.trans hbq|exact((zqf _ _).drew.alloc (zql _) _).trans (hbq.mono (by simp)));have axf:=hB2.trans (hwq0.mono hB2.size);(first|(have bp0:Blk wq0 w2.heap.size 34 #[.int .i64 0,.string {data:=#[]}]:=(Blk.new w2.drew _ _).step hbq)|skip))|(go_at_call_of 17 adr;refine(ak9 _ w.heap.size [.string x9,.string dw,.string yh,adr,ad1] _ (by first|exact axf.size|exact(axf.alloc axf.size _).size) (by rw[← Z1.out];omega) (by first|exact R1.out.below axf|exact R1.out.below (axf.alloc axf.size _))).mono ?_;rintro e wq1 ⟨us1,rfl,Ls1,hbq⟩;have Ks1:=Ls1;obtain⟨bbn,bbo,bbp,bbq,bbr,bbs,rfl⟩:=Wld.afv Ks1;have hwq1:Below w2.heap.size w2 wq1:=(by first|exact hwq0.trans (hbq.mono hwq0.size)|exact(hwq0.alloc hwq0.size _).trans (hbq.mono (by simp;have:=hwq0.size;omega)));have bfj:=hB2.trans (hwq1.mono hB2.size);replace Ls0:=(by first|exact Ls0.step hbq|exact(Ls0.step ((zqf _ _).alloc (zql _) _)).step hbq);(first|(replace bp0:=bp0.step hbq)|(have bp1:Blk wq1 wq0.heap.size 34 #[.int .i64 0,.string {data:=#[]}]:=(Blk.new wq0 _ _).step hbq)|skip))|(go_at_call 16;refine(SP'.out _ [.string package,.string name,.string version,.slice bfd bfe bff,.slice bfg bfh bfi] [.string x9,.string dw,.string yh,.slice bbn bbo bbp,.slice bbq bbr bbs] _ (zql _) (hT.below (by first|exact bfj|exact(bfj.alloc bfj.size _))) (by first|exact Ls0.is|exact(Ls0.step ((zqf _ _).alloc (zql _) _)).is) (by first|exact Ls1.is|exact(Ls1.step ((zqf _ _).alloc (zql _) _)).is)).mono ?_;rintro e wqZ ⟨vw,rfl,Gw,hbq⟩;have Kw:=Gw;obtain rfl:=Reason.afv Kw;have azi:Below w2.heap.size w2 wqZ:=(by first|exact hwq1.trans (hbq.mono hwq1.size)|exact(hwq1.alloc hwq1.size _).trans (hbq.mono (by simp;have:=hwq1.size;omega)));(first|(replace bp0:=bp0.step hbq)|(replace bp1:=bp1.step hbq)|(have bp2:Blk wqZ wq1.heap.size 34 #[.int .i64 0,.string {data:=#[]}]:=(Blk.new wq1 _ _).step hbq)|skip);(first|(have b2m:wqZ.cell? ⟨w2.heap.size,0,none⟩=some (.int .i64 0):=bp0.cell 0;have b2n:wqZ.cell? ⟨w2.heap.size,1,none⟩=some (.string {data:=#[]}):=bp0.cell 1;have b2o:wqZ.frozen? ⟨w2.heap.size,0,none⟩=false:=bp0.frozen 0;have b2p:wqZ.frozen? ⟨w2.heap.size,1,none⟩=false:=bp0.frozen 1)|skip);(first|(have b2q:wqZ.cell? ⟨wq0.heap.size,0,none⟩=some (.int .i64 0):=bp1.cell 0;have b2r:wqZ.cell? ⟨wq0.heap.size,1,none⟩=some (.string {data:=#[]}):=bp1.cell 1;have b2s:wqZ.frozen? ⟨wq0.heap.size,0,none⟩=false:=bp1.frozen 0;have b2t:wqZ.frozen? ⟨wq0.heap.size,1,none⟩=false:=bp1.frozen 1)|skip);(first|(have b2u:wqZ.cell? ⟨wq1.heap.size,0,none⟩=some (.int .i64 0):=bp2.cell 0;have b2v:wqZ.cell? ⟨wq1.heap.size,1,none⟩=some (.string {data:=#[]}):=bp2.cell 1;have b2w:wqZ.frozen? ⟨wq1.heap.size,0,none⟩=false:=bp2.frozen 0;have b2x:wqZ.frozen? ⟨wq1.heap.size,1,none⟩=false:=bp2.frozen 1)|skip)))
 all_goals
  first
   | (obtain⟨w3,hwE⟩:=zqe wqZ 34 #[.int .i64 aby,.string ac6];rw[← hwE];have bW:Blk w3 wqZ.heap.size 34 #[.int .i64 aby,.string ac6]:=(by rw[hwE];exact Blk.new wqZ _ _);have hb3:Below w2.heap.size w2 w3:=(by rw[hwE];exact azi.alloc azi.size _);obtain⟨rx,hrx⟩:∃ r,r=wqZ.heap.size:=⟨_,rfl⟩;rw[← hrx] at bW ⊢;clear hwE hrx)
   | (obtain⟨w3,hwE⟩:∃ V,V=((wqZ.setCell ⟨w2.heap.size,0,none⟩ (.int .i64 aby)).setCell ⟨w2.heap.size,1,none⟩ (.string ac6)):=⟨_,rfl⟩;rw[← hwE];have bW:Blk w3 (w2.heap.size) 34 #[.int .i64 aby,.string ac6]:=(by rw[hwE];have:=((bp0.aam 0 (.int .i64 aby)).aam 1 (.string ac6));simpa using this);have hb3:Below w2.heap.size w2 w3:=(by rw[hwE];exact(apl (apl azi (zql _) 0 (.int .i64 aby)) (zql _) 1 (.string ac6)));obtain⟨rx,hrx⟩:∃ r,r=w2.heap.size:=⟨_,rfl⟩;rw[← hrx] at bW ⊢;clear hwE hrx)
   | (obtain⟨w3,hwE⟩:∃ V,V=((wqZ.setCell ⟨wq0.heap.size,0,none⟩ (.int .i64 aby)).setCell ⟨wq0.heap.size,1,none⟩ (.string ac6)):=⟨_,rfl⟩;rw[← hwE];have bW:Blk w3 (wq0.heap.size) 34 #[.int .i64 aby,.string ac6]:=(by rw[hwE];have:=((bp1.aam 0 (.int .i64 aby)).aam 1 (.string ac6));simpa using this);have hb3:Below w2.heap.size w2 w3:=(by rw[hwE];exact(apl (apl azi hwq0.size 0 (.int .i64 aby)) hwq0.size 1 (.string ac6)));obtain⟨rx,hrx⟩:∃ r,r=wq0.heap.size:=⟨_,rfl⟩;rw[← hrx] at bW ⊢;clear hwE hrx)
   | (obtain⟨w3,hwE⟩:∃ V,V=((wqZ.setCell ⟨wq1.heap.size,0,none⟩ (.int .i64 aby)).setCell ⟨wq1.heap.size,1,none⟩ (.string ac6)):=⟨_,rfl⟩;rw[← hwE];have bW:Blk w3 (wq1.heap.size) 34 #[.int .i64 aby,.string ac6]:=(by rw[hwE];have:=((bp2.aam 0 (.int .i64 aby)).aam 1 (.string ac6));simpa using this);have hb3:Below w2.heap.size w2 w3:=(by rw[hwE];exact(apl (apl azi hwq1.size 0 (.int .i64 aby)) hwq1.size 1 (.string ac6)));obtain⟨rx,hrx⟩:∃ r,r=wq1.heap.size:=⟨_,rfl⟩;rw[← hrx] at bW ⊢;clear hwE hrx)
  have hs3:=hb3.size
  have hB3:=hB2.trans (hb3.mono hB2.size)
  replace b0:=b0.step hb3
  replace b1:=b1.step hb3
  clear bcu bcv bcw bcx bcy bcz bc4 bc5 bc6 bc7
  clear HSS axd axe
  have lb3:=bW.lt
  have Gw:LvC w3 w3.heap.size w3.heap.size (Reason.pd ⟨aby,ac6⟩) [.int .i64 aby,.string ac6]:=((LvC.nil w3 _ _ (zql _)).lit _).lit _
  obtain⟨bpc,bpd,bpe,bpf,bpg⟩:=zc5 b0
  obtain⟨bph,bpi,bpj,bpk,bpl⟩:=zc5 b1
  obtain⟨bpm,bpn⟩:=zc2 bW
  go_wp2_with fail
  clear bpc bpd bpe bpf bpg bph bpi bpj bpk bpl bpm bpn
  refine(ak9 _ w.heap.size [.string package,.string name,.string version,aag,zl] _ hB3.size (by rw[← Z0.out];omega) (R0.out.below hB3)).mono ?_
  rintro e w4 ⟨ux0,rfl,Lx0,hb4⟩
  have hs4:=hb4.size
  have hB4:=hB3.trans (hb4.mono hB3.size)
  replace Gw:=Gw.step hb4
  replace b0:=b0.step hb4
  replace b1:=b1.step hb4
  replace bW:=bW.step hb4
  have Kx0:=Lx0
  obtain⟨ach,aci,acj,acn,aco,acp,rfl⟩:=Wld.afv Kx0
  clear Kx0
  obtain⟨w5,hw5⟩:∃ W,W=(w4.alloc (.cells #[.string package,.string name,.string version,.slice ach aci acj,.slice acn aco acp] 45)):=⟨_,rfl⟩
  have hb5:=zqb hw5
  have bX0:=zqn hw5
  have HW5:=zqd hw5
  clear hw5
  have lb5:=bX0.lt
  have hs5:=hb5.size
  have hB5:=hB4.trans (hb5.mono hB4.size)
  replace Gw:=Gw.step hb5
  replace Lx0:=Lx0.step hb5
  replace b0:=b0.step hb5
  replace b1:=b1.step hb5
  replace bW:=bW.step hb5
  have bpo:(w4.alloc (.cells #[.string package,.string name,.string version,.slice ach aci acj,.slice acn aco acp] 45)).cell? ⟨w.heap.size,0,none⟩=some (.string package):=by rw[← HW5.out];exact b0.cell 0
  have bpp:(w4.alloc (.cells #[.string package,.string name,.string version,.slice ach aci acj,.slice acn aco acp] 45)).cell? ⟨w.heap.size,1,none⟩=some (.string name):=by rw[← HW5.out];exact b0.cell 1
  have bpq:(w4.alloc (.cells #[.string package,.string name,.string version,.slice ach aci acj,.slice acn aco acp] 45)).cell? ⟨w.heap.size,2,none⟩=some (.string version):=by rw[← HW5.out];exact b0.cell 2
  have bpr:(w4.alloc (.cells #[.string package,.string name,.string version,.slice ach aci acj,.slice acn aco acp] 45)).cell? ⟨w.heap.size,3,none⟩=some (aag):=by rw[← HW5.out];exact b0.cell 3
  have bps:(w4.alloc (.cells #[.string package,.string name,.string version,.slice ach aci acj,.slice acn aco acp] 45)).cell? ⟨w.heap.size,4,none⟩=some (zl):=by rw[← HW5.out];exact b0.cell 4
  have bpt:(w4.alloc (.cells #[.string package,.string name,.string version,.slice ach aci acj,.slice acn aco acp] 45)).cell? ⟨(w.heap.size+1),0,none⟩=some (.string x9):=by rw[← HW5.out];exact b1.cell 0
  have bpu:(w4.alloc (.cells #[.string package,.string name,.string version,.slice ach aci acj,.slice acn aco acp] 45)).cell? ⟨(w.heap.size+1),1,none⟩=some (.string dw):=by rw[← HW5.out];exact b1.cell 1
  have bpv:(w4.alloc (.cells #[.string package,.string name,.string version,.slice ach aci acj,.slice acn aco acp] 45)).cell? ⟨(w.heap.size+1),2,none⟩=some (.string yh):=by rw[← HW5.out];exact b1.cell 2
  have bpw:(w4.alloc (.cells #[.string package,.string name,.string version,.slice ach aci acj,.slice acn aco acp] 45)).cell? ⟨(w.heap.size+1),3,none⟩=some (adr):=by rw[← HW5.out];exact b1.cell 3
  have bpx:(w4.alloc (.cells #[.string package,.string name,.string version,.slice ach aci acj,.slice acn aco acp] 45)).cell? ⟨(w.heap.size+1),4,none⟩=some (ad1):=by rw[← HW5.out];exact b1.cell 4
  have bpy:(w4.alloc (.cells #[.string package,.string name,.string version,.slice ach aci acj,.slice acn aco acp] 45)).cell? ⟨rx,0,none⟩=some (.int .i64 aby):=by rw[← HW5.out];exact bW.cell 0
  have bpz:(w4.alloc (.cells #[.string package,.string name,.string version,.slice ach aci acj,.slice acn aco acp] 45)).cell? ⟨rx,1,none⟩=some (.string ac6):=by rw[← HW5.out];exact bW.cell 1
  have bkx:(w4.alloc (.cells #[.string package,.string name,.string version,.slice ach aci acj,.slice acn aco acp] 45)).cell? ⟨w4.heap.size,0,none⟩=some (.string package):=by rw[← HW5.out];exact bX0.cell 0
  have bky:(w4.alloc (.cells #[.string package,.string name,.string version,.slice ach aci acj,.slice acn aco acp] 45)).cell? ⟨w4.heap.size,1,none⟩=some (.string name):=by rw[← HW5.out];exact bX0.cell 1
  have bkz:(w4.alloc (.cells #[.string package,.string name,.string version,.slice ach aci acj,.slice acn aco acp] 45)).cell? ⟨w4.heap.size,2,none⟩=some (.string version):=by rw[← HW5.out];exact bX0.cell 2
  have bk0:(w4.alloc (.cells #[.string package,.string name,.string version,.slice ach aci acj,.slice acn aco acp] 45)).cell? ⟨w4.heap.size,3,none⟩=some (.slice ach aci acj):=by rw[← HW5.out];exact bX0.cell 3
  have bk3:(w4.alloc (.cells #[.string package,.string name,.string version,.slice ach aci acj,.slice acn aco acp] 45)).cell? ⟨w4.heap.size,4,none⟩=some (.slice acn aco acp):=by rw[← HW5.out];exact bX0.cell 4
  go_wp2_with fail
  rw[← HW5.out]
  clear bpo bpp bpq bpr bps bpt bpu bpv bpw bpx bpy bpz bkx bky bkz bk0 bk3
  clear HW5
  refine(ak9 _ w.heap.size [.string x9,.string dw,.string yh,adr,ad1] _ hB5.size (by rw[← Z1.out];omega) (R1.out.below hB5)).mono ?_
  rintro e w6 ⟨ux1,rfl,Lx1,hb6⟩
  have hs6:=hb6.size
  have hB6:=hB5.trans (hb6.mono hB5.size)
  replace Gw:=Gw.step hb6
  replace Lx0:=Lx0.step hb6
  replace b0:=b0.step hb6
  replace b1:=b1.step hb6
  replace bW:=bW.step hb6
  replace bX0:=bX0.step hb6
  have Kx1:=Lx1
  obtain⟨aa4,aa5,aa6,aa7,aa8,aa9,rfl⟩:=Wld.afv Kx1
  clear Kx1
  obtain⟨w7,hw7⟩:∃ W,W=(w6.alloc (.cells #[.string x9,.string dw,.string yh,.slice aa4 aa5 aa6,.slice aa7 aa8 aa9] 45)):=⟨_,rfl⟩
  have hb7:=zqb hw7
  have bX1:=zqn hw7
  have HW7:=zqd hw7
  clear hw7
  have lb7:=bX1.lt
  have hs7:=hb7.size
  have hB7:=hB6.trans (hb7.mono hB6.size)
  replace Gw:=Gw.step hb7
  replace Lx0:=Lx0.step hb7
  replace Lx1:=Lx1.step hb7
  replace b0:=b0.step hb7
  replace b1:=b1.step hb7
  replace bW:=bW.step hb7
  replace bX0:=bX0.step hb7
  have bp3:(w6.alloc (.cells #[.string x9,.string dw,.string yh,.slice aa4 aa5 aa6,.slice aa7 aa8 aa9] 45)).cell? ⟨w.heap.size,0,none⟩=some (.string package):=by rw[← HW7.out];exact b0.cell 0
  have bp4:(w6.alloc (.cells #[.string x9,.string dw,.string yh,.slice aa4 aa5 aa6,.slice aa7 aa8 aa9] 45)).cell? ⟨w.heap.size,1,none⟩=some (.string name):=by rw[← HW7.out];exact b0.cell 1
  have bp5:(w6.alloc (.cells #[.string x9,.string dw,.string yh,.slice aa4 aa5 aa6,.slice aa7 aa8 aa9] 45)).cell? ⟨w.heap.size,2,none⟩=some (.string version):=by rw[← HW7.out];exact b0.cell 2
  have bp6:(w6.alloc (.cells #[.string x9,.string dw,.string yh,.slice aa4 aa5 aa6,.slice aa7 aa8 aa9] 45)).cell? ⟨w.heap.size,3,none⟩=some (aag):=by rw[← HW7.out];exact b0.cell 3
  have bp7:(w6.alloc (.cells #[.string x9,.string dw,.string yh,.slice aa4 aa5 aa6,.slice aa7 aa8 aa9] 45)).cell? ⟨w.heap.size,4,none⟩=some (zl):=by rw[← HW7.out];exact b0.cell 4
  have bp8:(w6.alloc (.cells #[.string x9,.string dw,.string yh,.slice aa4 aa5 aa6,.slice aa7 aa8 aa9] 45)).cell? ⟨(w.heap.size+1),0,none⟩=some (.string x9):=by rw[← HW7.out];exact b1.cell 0
  have bp9:(w6.alloc (.cells #[.string x9,.string dw,.string yh,.slice aa4 aa5 aa6,.slice aa7 aa8 aa9] 45)).cell? ⟨(w.heap.size+1),1,none⟩=some (.string dw):=by rw[← HW7.out];exact b1.cell 1
  have bqa:(w6.alloc (.cells #[.string x9,.string dw,.string yh,.slice aa4 aa5 aa6,.slice aa7 aa8 aa9] 45)).cell? ⟨(w.heap.size+1),2,none⟩=some (.string yh):=by rw[← HW7.out];exact b1.cell 2
  have bqb:(w6.alloc (.cells #[.string x9,.string dw,.string yh,.slice aa4 aa5 aa6,.slice aa7 aa8 aa9] 45)).cell? ⟨(w.heap.size+1),3,none⟩=some (adr):=by rw[← HW7.out];exact b1.cell 3
  have bqc:(w6.alloc (.cells #[.string x9,.string dw,.string yh,.slice aa4 aa5 aa6,.slice aa7 aa8 aa9] 45)).cell? ⟨(w.heap.size+1),4,none⟩=some (ad1):=by rw[← HW7.out];exact b1.cell 4
  have bqd:(w6.alloc (.cells #[.string x9,.string dw,.string yh,.slice aa4 aa5 aa6,.slice aa7 aa8 aa9] 45)).cell? ⟨rx,0,none⟩=some (.int .i64 aby):=by rw[← HW7.out];exact bW.cell 0
  have bqe:(w6.alloc (.cells #[.string x9,.string dw,.string yh,.slice aa4 aa5 aa6,.slice aa7 aa8 aa9] 45)).cell? ⟨rx,1,none⟩=some (.string ac6):=by rw[← HW7.out];exact bW.cell 1
  have bk4:(w6.alloc (.cells #[.string x9,.string dw,.string yh,.slice aa4 aa5 aa6,.slice aa7 aa8 aa9] 45)).cell? ⟨w4.heap.size,0,none⟩=some (.string package):=by rw[← HW7.out];exact bX0.cell 0
  have bk5:(w6.alloc (.cells #[.string x9,.string dw,.string yh,.slice aa4 aa5 aa6,.slice aa7 aa8 aa9] 45)).cell? ⟨w4.heap.size,1,none⟩=some (.string name):=by rw[← HW7.out];exact bX0.cell 1
  have bk6:(w6.alloc (.cells #[.string x9,.string dw,.string yh,.slice aa4 aa5 aa6,.slice aa7 aa8 aa9] 45)).cell? ⟨w4.heap.size,2,none⟩=some (.string version):=by rw[← HW7.out];exact bX0.cell 2
  have bk7:(w6.alloc (.cells #[.string x9,.string dw,.string yh,.slice aa4 aa5 aa6,.slice aa7 aa8 aa9] 45)).cell? ⟨w4.heap.size,3,none⟩=some (.slice ach aci acj):=by rw[← HW7.out];exact bX0.cell 3
  have bk8:(w6.alloc (.cells #[.string x9,.string dw,.string yh,.slice aa4 aa5 aa6,.slice aa7 aa8 aa9] 45)).cell? ⟨w4.heap.size,4,none⟩=some (.slice acn aco acp):=by rw[← HW7.out];exact bX0.cell 4
  have bk9:(w6.alloc (.cells #[.string x9,.string dw,.string yh,.slice aa4 aa5 aa6,.slice aa7 aa8 aa9] 45)).cell? ⟨w6.heap.size,0,none⟩=some (.string x9):=by rw[← HW7.out];exact bX1.cell 0
  have blb:(w6.alloc (.cells #[.string x9,.string dw,.string yh,.slice aa4 aa5 aa6,.slice aa7 aa8 aa9] 45)).cell? ⟨w6.heap.size,1,none⟩=some (.string dw):=by rw[← HW7.out];exact bX1.cell 1
  have blc:(w6.alloc (.cells #[.string x9,.string dw,.string yh,.slice aa4 aa5 aa6,.slice aa7 aa8 aa9] 45)).cell? ⟨w6.heap.size,2,none⟩=some (.string yh):=by rw[← HW7.out];exact bX1.cell 2
  have bld:(w6.alloc (.cells #[.string x9,.string dw,.string yh,.slice aa4 aa5 aa6,.slice aa7 aa8 aa9] 45)).cell? ⟨w6.heap.size,3,none⟩=some (.slice aa4 aa5 aa6):=by rw[← HW7.out];exact bX1.cell 3
  have blf:(w6.alloc (.cells #[.string x9,.string dw,.string yh,.slice aa4 aa5 aa6,.slice aa7 aa8 aa9] 45)).cell? ⟨w6.heap.size,4,none⟩=some (.slice aa7 aa8 aa9):=by rw[← HW7.out];exact bX1.cell 4
  go_wp2_with fail
  rw[← HW7.out]
  clear bp3 bp4 bp5 bp6 bp7 bp8 bp9 bqa bqb bqc bqd bqe bk4 bk5 bk6 bk7 bk8 bk9 blb blc bld blf
  clear HW7
  refine(IM'.out w7.heap.size [.string package,.string name,.string version,.slice ach aci acj,.slice acn aco acp] [.string x9,.string dw,.string yh,.slice aa4 aa5 aa6,.slice aa7 aa8 aa9] _ (zql _) (hT.below hB7) Lx0.is Lx1.is).mono ?_
  rintro e w8 ⟨vg,rfl,Gg,hb8⟩
  have hs8:=hb8.size
  have hB8:=hB7.trans (hb8.mono hB7.size)
  replace Gw:=Gw.step hb8
  replace Lx0:=Lx0.step hb8
  replace Lx1:=Lx1.step hb8
  replace b0:=b0.step hb8
  replace b1:=b1.step hb8
  replace bW:=bW.step hb8
  replace bX0:=bX0.step hb8
  replace bX1:=bX1.step hb8
  have Kg:=Gg
  obtain rfl:=Reason.afv Kg
  obtain⟨w9,hw9⟩:∃ W,W=(w8.alloc (.cells #[.int .i64 aby,.string ac6] 34)):=⟨_,rfl⟩
  have hb9:=zqb hw9
  have bG:=zqn hw9
  have HW9:=zqd hw9
  clear hw9
  have lb9:=bG.lt
  have hs9:=hb9.size
  have hB9:=hB8.trans (hb9.mono hB8.size)
  replace Gw:=Gw.step hb9
  replace Lx0:=Lx0.step hb9
  replace Lx1:=Lx1.step hb9
  replace Gg:=Gg.step hb9
  replace b0:=b0.step hb9
  replace b1:=b1.step hb9
  replace bW:=bW.step hb9
  replace bX0:=bX0.step hb9
  replace bX1:=bX1.step hb9
  have bqf:(w8.alloc (.cells #[.int .i64 aby,.string ac6] 34)).cell? ⟨w.heap.size,0,none⟩=some (.string package):=by rw[← HW9.out];exact b0.cell 0
  have bqg:(w8.alloc (.cells #[.int .i64 aby,.string ac6] 34)).cell? ⟨w.heap.size,1,none⟩=some (.string name):=by rw[← HW9.out];exact b0.cell 1
  have bqh:(w8.alloc (.cells #[.int .i64 aby,.string ac6] 34)).cell? ⟨w.heap.size,2,none⟩=some (.string version):=by rw[← HW9.out];exact b0.cell 2
  have bqi:(w8.alloc (.cells #[.int .i64 aby,.string ac6] 34)).cell? ⟨w.heap.size,3,none⟩=some (aag):=by rw[← HW9.out];exact b0.cell 3
  have bqj:(w8.alloc (.cells #[.int .i64 aby,.string ac6] 34)).cell? ⟨w.heap.size,4,none⟩=some (zl):=by rw[← HW9.out];exact b0.cell 4
  have bqk:(w8.alloc (.cells #[.int .i64 aby,.string ac6] 34)).cell? ⟨(w.heap.size+1),0,none⟩=some (.string x9):=by rw[← HW9.out];exact b1.cell 0
  have bql:(w8.alloc (.cells #[.int .i64 aby,.string ac6] 34)).cell? ⟨(w.heap.size+1),1,none⟩=some (.string dw):=by rw[← HW9.out];exact b1.cell 1
  have bqm:(w8.alloc (.cells #[.int .i64 aby,.string ac6] 34)).cell? ⟨(w.heap.size+1),2,none⟩=some (.string yh):=by rw[← HW9.out];exact b1.cell 2
  have blg:(w8.alloc (.cells #[.int .i64 aby,.string ac6] 34)).cell? ⟨(w.heap.size+1),3,none⟩=some (adr):=by rw[← HW9.out];exact b1.cell 3
  have blh:(w8.alloc (.cells #[.int .i64 aby,.string ac6] 34)).cell? ⟨(w.heap.size+1),4,none⟩=some (ad1):=by rw[← HW9.out];exact b1.cell 4
  have bli:(w8.alloc (.cells #[.int .i64 aby,.string ac6] 34)).cell? ⟨rx,0,none⟩=some (.int .i64 aby):=by rw[← HW9.out];exact bW.cell 0
  have blj:(w8.alloc (.cells #[.int .i64 aby,.string ac6] 34)).cell? ⟨rx,1,none⟩=some (.string ac6):=by rw[← HW9.out];exact bW.cell 1
  have bhf:(w8.alloc (.cells #[.int .i64 aby,.string ac6] 34)).cell? ⟨w4.heap.size,0,none⟩=some (.string package):=by rw[← HW9.out];exact bX0.cell 0
  have bhg:(w8.alloc (.cells #[.int .i64 aby,.string ac6] 34)).cell? ⟨w4.heap.size,1,none⟩=some (.string name):=by rw[← HW9.out];exact bX0.cell 1
  have bhh:(w8.alloc (.cells #[.int .i64 aby,.string ac6] 34)).cell? ⟨w4.heap.size,2,none⟩=some (.string version):=by rw[← HW9.out];exact bX0.cell 2
  have bhi:(w8.alloc (.cells #[.int .i64 aby,.string ac6] 34)).cell? ⟨w4.heap.size,3,none⟩=some (.slice ach aci acj):=by rw[← HW9.out];exact bX0.cell 3
  have bhj:(w8.alloc (.cells #[.int .i64 aby,.string ac6] 34)).cell? ⟨w4.heap.size,4,none⟩=some (.slice acn aco acp):=by rw[← HW9.out];exact bX0.cell 4
  have bhk:(w8.alloc (.cells #[.int .i64 aby,.string ac6] 34)).cell? ⟨w6.heap.size,0,none⟩=some (.string x9):=by rw[← HW9.out];exact bX1.cell 0
  have bhl:(w8.alloc (.cells #[.int .i64 aby,.string ac6] 34)).cell? ⟨w6.heap.size,1,none⟩=some (.string dw):=by rw[← HW9.out];exact bX1.cell 1
  have bhm:(w8.alloc (.cells #[.int .i64 aby,.string ac6] 34)).cell? ⟨w6.heap.size,2,none⟩=some (.string yh):=by rw[← HW9.out];exact bX1.cell 2
  have bhn:(w8.alloc (.cells #[.int .i64 aby,.string ac6] 34)).cell? ⟨w6.heap.size,3,none⟩=some (.slice aa4 aa5 aa6):=by rw[← HW9.out];exact bX1.cell 3
  have bho:(w8.alloc (.cells #[.int .i64 aby,.string ac6] 34)).cell? ⟨w6.heap.size,4,none⟩=some (.slice aa7 aa8 aa9):=by rw[← HW9.out];exact bX1.cell 4
  have bll:(w8.alloc (.cells #[.int .i64 aby,.string ac6] 34)).cell? ⟨w8.heap.size,0,none⟩=some (.int .i64 aby):=by rw[← HW9.out];exact bG.cell 0
  have blm:(w8.alloc (.cells #[.int .i64 aby,.string ac6] 34)).cell? ⟨w8.heap.size,1,none⟩=some (.string ac6):=by rw[← HW9.out];exact bG.cell 1
  go_wp2_with fail
  rw[← HW9.out]
  clear bqf bqg bqh bqi bqj bqk bql bqm blg blh bli blj bhf bhg bhh bhi bhj bhk bhl bhm bhn bho bll blm
  clear HW9
  refine(a6w (⟨aby,ac6⟩:Reason) w9.heap.size _ _ _ (zql _) Gg.is Gw.is).mono ?_
  rintro e w10 ⟨rfl,apu⟩
  have hs10:=apu.size
  have bfk:=hB9.trans (apu.mono hB9.size)
  replace Gw:=Gw.step apu
  replace Lx0:=Lx0.step apu
  replace Lx1:=Lx1.step apu
  replace Gg:=Gg.step apu
  replace b0:=b0.step apu
  replace b1:=b1.step apu
  replace bW:=bW.step apu
  replace bX0:=bX0.step apu
  replace bX1:=bX1.step apu
  replace bG:=bG.step apu
  obtain⟨bln,blo,blp,blq,blr⟩:=zc5 b0
  obtain⟨bls,blv,blw,blx,bly⟩:=zc5 b1
  obtain⟨blz,bl0⟩:=zc2 bW
  obtain⟨bhp,bhq,bhr,bhs,bht⟩:=zc5 bX0
  obtain⟨bhu,bhv,bhw,bhx,bhy⟩:=zc5 bX1
  obtain⟨bl1,bl2⟩:=zc2 bG
  go_wp2_with fail
  clear bln blo blp blq blr bls blv blw blx bly blz bl0 bhp bhq bhr bhs bht bhu bhv bhw bhx bhy bl1 bl2
  obtain⟨azj,azk,azl,azm,azn⟩:=zc5 b0
  obtain⟨awj,awk,awl,awm,awn⟩:=zc5 bX0
  have hA:=b0.lt
  have hX:=bX0.lt
  have TC:=zqd (ak9 _ w.heap.size [.string package,.string name,.string version,aag,zl] w10.drew bfk.size (by rw[← Z0.out];omega) (by exact R0.out.below bfk.drew))
  go_region_held3 (fun w'=>w'.cell? ⟨w.heap.size,0,none⟩=some (.string package)∧w'.cell? ⟨w.heap.size,1,none⟩=some (.string name)∧w'.cell? ⟨w.heap.size,2,none⟩=some (.string version)∧w'.cell? ⟨w.heap.size,3,none⟩=some (aag)∧w'.cell? ⟨w.heap.size,4,none⟩=some (zl)∧w'.cell? ⟨w4.heap.size,0,none⟩=some (.string package)∧w'.cell? ⟨w4.heap.size,1,none⟩=some (.string name)∧w'.cell? ⟨w4.heap.size,2,none⟩=some (.string version)∧w'.cell? ⟨w4.heap.size,3,none⟩=some (.slice ach aci acj)∧w'.cell? ⟨w4.heap.size,4,none⟩=some (.slice acn aco acp))
   (first|go_keep|exact⟨(hby.cell (p:=⟨w.heap.size,0,none⟩) hA).trans azj,(hby.cell (p:=⟨w.heap.size,1,none⟩) hA).trans azk,(hby.cell (p:=⟨w.heap.size,2,none⟩) hA).trans azl,(hby.cell (p:=⟨w.heap.size,3,none⟩) hA).trans azm,(hby.cell (p:=⟨w.heap.size,4,none⟩) hA).trans azn,(hby.cell (p:=⟨w4.heap.size,0,none⟩) hX).trans awj,(hby.cell (p:=⟨w4.heap.size,1,none⟩) hX).trans awk,(hby.cell (p:=⟨w4.heap.size,2,none⟩) hX).trans awl,(hby.cell (p:=⟨w4.heap.size,3,none⟩) hX).trans awm,(hby.cell (p:=⟨w4.heap.size,4,none⟩) hX).trans awn⟩|exact⟨(air.cell (p:=⟨w.heap.size,0,none⟩) hA).trans azj,(air.cell (p:=⟨w.heap.size,1,none⟩) hA).trans azk,(air.cell (p:=⟨w.heap.size,2,none⟩) hA).trans azl,(air.cell (p:=⟨w.heap.size,3,none⟩) hA).trans azm,(air.cell (p:=⟨w.heap.size,4,none⟩) hA).trans azn,(air.cell (p:=⟨w4.heap.size,0,none⟩) hX).trans awj,(air.cell (p:=⟨w4.heap.size,1,none⟩) hX).trans awk,(air.cell (p:=⟨w4.heap.size,2,none⟩) hX).trans awl,(air.cell (p:=⟨w4.heap.size,3,none⟩) hX).trans awm,(air.cell (p:=⟨w4.heap.size,4,none⟩) hX).trans awn⟩)
   (first|(go_at_call 17;refine TC.out.mono ?_;rintro e wy ⟨uy,rfl,Ly,hby⟩;have Ky:=Ly;obtain⟨bhz,bh0,bh2,bh3,bh4,bh5,rfl⟩:=Wld.afv Ky;have Lxy:=Lx0.step ((Below.refl w10.heap.size w10).drew.trans hby))|(go_at_call 19;refine(axy _ wy.heap.size [.string package,.string name,.string version,.slice ach aci acj,.slice acn aco acp] [.string package,.string name,.string version,.slice bhz bh0 bh2,.slice bh3 bh4 bh5] _ (zql _) (by exact Lxy.is) (by exact Ly.is)).mono ?_;rintro e w11 ⟨rfl,hbz⟩;have air:Below w10.heap.size w10 w11:=((zqf _ _).drew.trans hby).trans (hbz.mono hby.size)))
  have apv:=air
  have hs11:=apv.size
  have bfl:=bfk.trans (apv.mono bfk.size)
  replace Gw:=Gw.step apv
  replace Lx0:=Lx0.step apv
  replace Lx1:=Lx1.step apv
  replace Gg:=Gg.step apv
  replace b0:=b0.step apv
  replace b1:=b1.step apv
  replace bW:=bW.step apv
  replace bX0:=bX0.step apv
  replace bX1:=bX1.step apv
  replace bG:=bG.step apv
  clear air hbz hby Lxy Ly TC hA hX
  clear azj azk azl azm azn awj awk awl awm awn
  obtain⟨bl3,bl4,bl5,bl6,bl7⟩:=zc5 b0
  obtain⟨bl8,bl9,bma,bmb,bmc⟩:=zc5 b1
  obtain⟨bmd,bme⟩:=zc2 bW
  obtain⟨bh6,bh7,bh8,bh9,bic⟩:=zc5 bX0
  obtain⟨bid,bie,bii,bij,bik⟩:=zc5 bX1
  obtain⟨bmf,bmg⟩:=zc2 bG
  go_wp2_with fail
  clear bl3 bl4 bl5 bl6 bl7 bl8 bl9 bma bmb bmc bmd bme bh6 bh7 bh8 bh9 bic bid bie bii bij bik bmf bmg
  obtain⟨azo,azp,azq,azr,azs⟩:=zc5 b1
  obtain⟨awo,awp,awq,awr,aws⟩:=zc5 bX1
  have hA:=b1.lt
  have hX:=bX1.lt
  have TC:=zqd (ak9 _ w.heap.size [.string x9,.string dw,.string yh,adr,ad1] w11.drew bfl.size (by rw[← Z1.out];omega) (by exact R1.out.below bfl.drew))
  go_region_held3 (fun w'=>w'.cell? ⟨(w.heap.size+1),0,none⟩=some (.string x9)∧w'.cell? ⟨(w.heap.size+1),1,none⟩=some (.string dw)∧w'.cell? ⟨(w.heap.size+1),2,none⟩=some (.string yh)∧w'.cell? ⟨(w.heap.size+1),3,none⟩=some (adr)∧w'.cell? ⟨(w.heap.size+1),4,none⟩=some (ad1)∧w'.cell? ⟨w6.heap.size,0,none⟩=some (.string x9)∧w'.cell? ⟨w6.heap.size,1,none⟩=some (.string dw)∧w'.cell? ⟨w6.heap.size,2,none⟩=some (.string yh)∧w'.cell? ⟨w6.heap.size,3,none⟩=some (.slice aa4 aa5 aa6)∧w'.cell? ⟨w6.heap.size,4,none⟩=some (.slice aa7 aa8 aa9))
   (first|go_keep|exact⟨(hby.cell (p:=⟨(w.heap.size+1),0,none⟩) hA).trans azo,(hby.cell (p:=⟨(w.heap.size+1),1,none⟩) hA).trans azp,(hby.cell (p:=⟨(w.heap.size+1),2,none⟩) hA).trans azq,(hby.cell (p:=⟨(w.heap.size+1),3,none⟩) hA).trans azr,(hby.cell (p:=⟨(w.heap.size+1),4,none⟩) hA).trans azs,(hby.cell (p:=⟨w6.heap.size,0,none⟩) hX).trans awo,(hby.cell (p:=⟨w6.heap.size,1,none⟩) hX).trans awp,(hby.cell (p:=⟨w6.heap.size,2,none⟩) hX).trans awq,(hby.cell (p:=⟨w6.heap.size,3,none⟩) hX).trans awr,(hby.cell (p:=⟨w6.heap.size,4,none⟩) hX).trans aws⟩|exact⟨(air.cell (p:=⟨(w.heap.size+1),0,none⟩) hA).trans azo,(air.cell (p:=⟨(w.heap.size+1),1,none⟩) hA).trans azp,(air.cell (p:=⟨(w.heap.size+1),2,none⟩) hA).trans azq,(air.cell (p:=⟨(w.heap.size+1),3,none⟩) hA).trans azr,(air.cell (p:=⟨(w.heap.size+1),4,none⟩) hA).trans azs,(air.cell (p:=⟨w6.heap.size,0,none⟩) hX).trans awo,(air.cell (p:=⟨w6.heap.size,1,none⟩) hX).trans awp,(air.cell (p:=⟨w6.heap.size,2,none⟩) hX).trans awq,(air.cell (p:=⟨w6.heap.size,3,none⟩) hX).trans awr,(air.cell (p:=⟨w6.heap.size,4,none⟩) hX).trans aws⟩)
   (first|(go_at_call 17;refine TC.out.mono ?_;rintro e wy ⟨uy,rfl,Ly,hby⟩;have Ky:=Ly;obtain⟨bfm,bfn,bfo,bfp,bfq,bfr,rfl⟩:=Wld.afv Ky;have Lxy:=Lx1.step ((Below.refl w11.heap.size w11).drew.trans hby))|(go_at_call 19;refine(axy _ wy.heap.size [.string x9,.string dw,.string yh,.slice aa4 aa5 aa6,.slice aa7 aa8 aa9] [.string x9,.string dw,.string yh,.slice bfm bfn bfo,.slice bfp bfq bfr] _ (zql _) (by exact Lxy.is) (by exact Ly.is)).mono ?_;rintro e w12 ⟨rfl,hbz⟩;have air:Below w11.heap.size w11 w12:=((zqf _ _).drew.trans hby).trans (hbz.mono hby.size)))
  have alp:=air
  have b3v:=alp.size
  have bxf:=bfl.trans (alp.mono bfl.size)
  replace Gw:=Gw.step alp
  replace Lx0:=Lx0.step alp
  replace Lx1:=Lx1.step alp
  replace Gg:=Gg.step alp
  replace b0:=b0.step alp
  replace b1:=b1.step alp
  replace bW:=bW.step alp
  replace bX0:=bX0.step alp
  replace bX1:=bX1.step alp
  replace bG:=bG.step alp
  clear air hbz hby Lxy Ly TC hA hX
  clear azo azp azq azr azs awo awp awq awr aws
  go_wp2_with fail
  go_ret
  exact⟨rfl,bxf⟩
end Go.Proofs.YtbafphecjijdmaaGreatDoor
