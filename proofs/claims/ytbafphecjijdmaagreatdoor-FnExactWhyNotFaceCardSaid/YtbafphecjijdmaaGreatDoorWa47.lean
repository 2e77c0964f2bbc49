/-
  FnExactWhyNotFace: the law's walk (by program: lawgen2.py).
-/
import Derived.Test.YtbafphecjijdmaaGreatDoorWa05
import Derived.Test.YtbafphecjijdmaaGreatDoorWa06
import Derived.Test.YtbafphecjijdmaaGreatDoorWa07
import Derived.Test.YtbafphecjijdmaaGreatDoorWa08
import Derived.Test.YtbafphecjijdmaaGreatDoorWa46
namespace Go.Proofs.YtbafphecjijdmaaGreatDoor
open Go.RowKit
set_option linter.unusedVariables false
set_option linter.unusedSimpArgs false
set_option linter.unnecessarySimpa false
set_option maxRecDepth 100000
set_option maxHeartbeats 6400000 in
theorem apv (w:World) (hT:ali w) (v0:Value) (h0:ax2 w v0) (v1:Value) (h1:ax2 w v1):
  Calls Tryz.prog 4 #[v0,v1] w fun e w'=>e=.returned (.bool true)∧Below w.heap.size w w':=by
 obtain⟨t,cs,rfl,hwf,hr⟩:=h0
 obtain⟨package,name,version,resources,funcs⟩:=t
 obtain⟨oz,aaq,rfl,_,_⟩:=qg.open_ hr
 have WF0:=Lib.hid hwf
 have R0:=Lib.hid hr
 clear hwf hr
 obtain⟨z0,hz⟩:∃ z:Nat,z=PD.szL (qg.pd ⟨package,name,version,resources,funcs⟩):=⟨_,rfl⟩
 have Z0:=Lib.hid hz
 clear hz
 obtain⟨t,cs,rfl,hwf,hr⟩:=h1
 obtain⟨xq,dh,xu,am5,aty⟩:=t
 obtain⟨ab3,aen,rfl,_,_⟩:=qg.open_ hr
 have WF1:=Lib.hid hwf
 have R1:=Lib.hid hr
 clear hwf hr
 obtain⟨z1,hz⟩:∃ z:Nat,z=PD.szL (qg.pd ⟨xq,dh,xu,am5,aty⟩):=⟨_,rfl⟩
 have Z1:=Lib.hid hz
 clear hz
 by_cases ht0:z0≤1048576
 case neg=>
  go_enter Tryz.func4,Tryz.ntmps4
  go_wp2_with fail
  obtain⟨w0,hw0⟩:∃ W,W=((w.alloc (.cells #[.string package,.string name,.string version,oz,aaq] 25)).alloc (.cells #[.string xq,.string dh,.string xu,ab3,aen] 25)):=⟨_,rfl⟩
  rw[← hw0]
  have hB0:Below w.heap.size w w0:=by rw[hw0];exact((Below.refl _ _).alloc (Nat.le_refl _) _).alloc (by simp) _
  have b0:Blk w0 w.heap.size 25 #[.string package,.string name,.string version,oz,aaq]:=by rw[hw0];exact((Blk.new w _ _).alloc _)
  have b1:Blk w0 (w.heap.size+1) 25 #[.string xq,.string dh,.string xu,ab3,aen]:=by rw[hw0];exact by simpa using (Blk.new (w.alloc (.cells #[.string package,.string name,.string version,oz,aaq] 25)) _ _)
  clear hw0
  have hs0:=hB0.size
  have hl0:=b0.lt
  refine(aml _ w.heap.size [.string package,.string name,.string version,oz,aaq] _ (1048576) (by omega) (by omega) hB0.size WF0.out (R0.out.below hB0)).mono ?_
  rintro e w1 ⟨rfl,hb1⟩
  have hs1:=hb1.size
  have hB1:=hB0.trans (hb1.mono hB0.size)
  replace b0:=b0.step hb1
  replace b1:=b1.step hb1
  rw[← Z0.out,abm (by omega)]
  go_wp2_with fail
  go_ret
  exact⟨rfl,hB1⟩
 by_cases ht1:z0+z1≤1048576
 case neg=>
  go_enter Tryz.func4,Tryz.ntmps4
  go_wp2_with fail
  obtain⟨w0,hw0⟩:∃ W,W=((w.alloc (.cells #[.string package,.string name,.string version,oz,aaq] 25)).alloc (.cells #[.string xq,.string dh,.string xu,ab3,aen] 25)):=⟨_,rfl⟩
  rw[← hw0]
  have hB0:Below w.heap.size w w0:=by rw[hw0];exact((Below.refl _ _).alloc (Nat.le_refl _) _).alloc (by simp) _
  have b0:Blk w0 w.heap.size 25 #[.string package,.string name,.string version,oz,aaq]:=by rw[hw0];exact((Blk.new w _ _).alloc _)
  have b1:Blk w0 (w.heap.size+1) 25 #[.string xq,.string dh,.string xu,ab3,aen]:=by rw[hw0];exact by simpa using (Blk.new (w.alloc (.cells #[.string package,.string name,.string version,oz,aaq] 25)) _ _)
  clear hw0
  have hs0:=hB0.size
  have hl0:=b0.lt
  refine(aml _ w.heap.size [.string package,.string name,.string version,oz,aaq] _ (1048576) (by omega) (by omega) hB0.size WF0.out (R0.out.below hB0)).mono ?_
  rintro e w1 ⟨rfl,hb1⟩
  have hs1:=hb1.size
  have hB1:=hB0.trans (hb1.mono hB0.size)
  replace b0:=b0.step hb1
  replace b1:=b1.step hb1
  rw[← Z0.out,ac8 (by omega)]
  have hp0:(0:Int)≤1048576 - (z0:Int):=by omega
  have bl7:w1.cell? ⟨w.heap.size,0,none⟩=some (.string package):=b0.cell 0
  have bl8:w1.cell? ⟨w.heap.size,1,none⟩=some (.string name):=b0.cell 1
  have bl9:w1.cell? ⟨w.heap.size,2,none⟩=some (.string version):=b0.cell 2
  have bma:w1.cell? ⟨w.heap.size,3,none⟩=some (oz):=b0.cell 3
  have bmb:w1.cell? ⟨w.heap.size,4,none⟩=some (aaq):=b0.cell 4
  have bmc:w1.cell? ⟨(w.heap.size+1),0,none⟩=some (.string xq):=b1.cell 0
  have bmd:w1.cell? ⟨(w.heap.size+1),1,none⟩=some (.string dh):=b1.cell 1
  have bme:w1.cell? ⟨(w.heap.size+1),2,none⟩=some (.string xu):=b1.cell 2
  have bmf:w1.cell? ⟨(w.heap.size+1),3,none⟩=some (ab3):=b1.cell 3
  have bic:w1.cell? ⟨(w.heap.size+1),4,none⟩=some (aen):=b1.cell 4
  go_wp2_with fail
  clear bl7 bl8 bl9 bma bmb bmc bmd bme bmf bic
  refine(aml _ w.heap.size [.string xq,.string dh,.string xu,ab3,aen] _ (1048576 - (z0:Int)) (by omega) (by omega) hB1.size WF1.out (R1.out.below hB1)).mono ?_
  rintro e w2 ⟨rfl,hb2⟩
  have hs2:=hb2.size
  have hB2:=hB1.trans (hb2.mono hB1.size)
  replace b0:=b0.step hb2
  replace b1:=b1.step hb2
  rw[← Z1.out,abm (by omega)]
  go_wp2_with fail
  go_ret
  exact⟨rfl,hB2⟩
 have SP:=au2 (⟨package,name,version,resources,funcs⟩:qg) (⟨xq,dh,xu,am5,aty⟩:qg) WF0.out (by rw[← Z0.out];omega) WF1.out (by rw[← Z1.out];omega)
 have IM:=au3 (⟨package,name,version,resources,funcs⟩:qg) (⟨xq,dh,xu,am5,aty⟩:qg) WF0.out (by rw[← Z0.out];omega) WF1.out (by rw[← Z1.out];omega)
 obtain⟨rr,hrr⟩:∃ r:Reason,r=a0q (ahp ⟨package,name,version,resources,funcs⟩ ⟨xq,dh,xu,am5,aty⟩):=⟨_,rfl⟩
 rw[← hrr] at SP IM
 clear hrr
 obtain⟨abp,acr⟩:=rr
 obtain⟨r1,hrr⟩:∃ r:Bool,r=as2 (ahp ⟨package,name,version,resources,funcs⟩ ⟨xq,dh,xu,am5,aty⟩):=⟨_,rfl⟩
 rw[← hrr] at SP IM
 clear hrr
 have hne1:(r1 != r1)=false:=by simp
 have SP':=Lib.hid SP
 have IM':=Lib.hid IM
 clear SP IM
 go_enter Tryz.func4,Tryz.ntmps4
 go_wp2_with fail
 obtain⟨w0,hw0⟩:∃ W,W=((w.alloc (.cells #[.string package,.string name,.string version,oz,aaq] 25)).alloc (.cells #[.string xq,.string dh,.string xu,ab3,aen] 25)):=⟨_,rfl⟩
 rw[← hw0]
 have hB0:Below w.heap.size w w0:=by rw[hw0];exact((Below.refl _ _).alloc (Nat.le_refl _) _).alloc (by simp) _
 have b0:Blk w0 w.heap.size 25 #[.string package,.string name,.string version,oz,aaq]:=by rw[hw0];exact((Blk.new w _ _).alloc _)
 have b1:Blk w0 (w.heap.size+1) 25 #[.string xq,.string dh,.string xu,ab3,aen]:=by rw[hw0];exact by simpa using (Blk.new (w.alloc (.cells #[.string package,.string name,.string version,oz,aaq] 25)) _ _)
 clear hw0
 have hs0:=hB0.size
 have hl0:=b0.lt
 refine(aml _ w.heap.size [.string package,.string name,.string version,oz,aaq] _ (1048576) (by omega) (by omega) hB0.size WF0.out (R0.out.below hB0)).mono ?_
 rintro e w1 ⟨rfl,hb1⟩
 have hs1:=hb1.size
 have hB1:=hB0.trans (hb1.mono hB0.size)
 replace b0:=b0.step hb1
 replace b1:=b1.step hb1
 rw[← Z0.out,ac8 (by omega)]
 have hp0:(0:Int)≤1048576 - (z0:Int):=by omega
 have bid:w1.cell? ⟨w.heap.size,0,none⟩=some (.string package):=b0.cell 0
 have bie:w1.cell? ⟨w.heap.size,1,none⟩=some (.string name):=b0.cell 1
 have bii:w1.cell? ⟨w.heap.size,2,none⟩=some (.string version):=b0.cell 2
 have bij:w1.cell? ⟨w.heap.size,3,none⟩=some (oz):=b0.cell 3
 have bik:w1.cell? ⟨w.heap.size,4,none⟩=some (aaq):=b0.cell 4
 have bil:w1.cell? ⟨(w.heap.size+1),0,none⟩=some (.string xq):=b1.cell 0
 have bim:w1.cell? ⟨(w.heap.size+1),1,none⟩=some (.string dh):=b1.cell 1
 have bio:w1.cell? ⟨(w.heap.size+1),2,none⟩=some (.string xu):=b1.cell 2
 have bip:w1.cell? ⟨(w.heap.size+1),3,none⟩=some (ab3):=b1.cell 3
 have biq:w1.cell? ⟨(w.heap.size+1),4,none⟩=some (aen):=b1.cell 4
 go_wp2_with fail
 clear bid bie bii bij bik bil bim bio bip biq
 refine(aml _ w.heap.size [.string xq,.string dh,.string xu,ab3,aen] _ (1048576 - (z0:Int)) (by omega) (by omega) hB1.size WF1.out (R1.out.below hB1)).mono ?_
 rintro e w2 ⟨rfl,hb2⟩
 have hs2:=hb2.size
 have hB2:=hB1.trans (hb2.mono hB1.size)
 replace b0:=b0.step hb2
 replace b1:=b1.step hb2
 rw[← Z1.out,ac8 (by omega)]
 have hp1:(0:Int)≤1048576 - (z0:Int) - (z1:Int):=by omega
 have bir:w2.cell? ⟨w.heap.size,0,none⟩=some (.string package):=b0.cell 0
 have biu:w2.cell? ⟨w.heap.size,1,none⟩=some (.string name):=b0.cell 1
 have biv:w2.cell? ⟨w.heap.size,2,none⟩=some (.string version):=b0.cell 2
 have biw:w2.cell? ⟨w.heap.size,3,none⟩=some (oz):=b0.cell 3
 have bix:w2.cell? ⟨w.heap.size,4,none⟩=some (aaq):=b0.cell 4
 have biy:w2.cell? ⟨(w.heap.size+1),0,none⟩=some (.string xq):=b1.cell 0
 have biz:w2.cell? ⟨(w.heap.size+1),1,none⟩=some (.string dh):=b1.cell 1
 have bi0:w2.cell? ⟨(w.heap.size+1),2,none⟩=some (.string xu):=b1.cell 2
 have bi1:w2.cell? ⟨(w.heap.size+1),3,none⟩=some (ab3):=b1.cell 3
 have bi2:w2.cell? ⟨(w.heap.size+1),4,none⟩=some (aen):=b1.cell 4
 go_wp2_with fail
 clear bir biu biv biw bix biy biz bi0 bi1 bi2
 have a6n:w2.cell? ⟨w.heap.size,0,none⟩=some (.string package):=b0.cell 0
 have a6o:w2.cell? ⟨w.heap.size,1,none⟩=some (.string name):=b0.cell 1
 have a6p:w2.cell? ⟨w.heap.size,2,none⟩=some (.string version):=b0.cell 2
 have a6q:w2.cell? ⟨w.heap.size,3,none⟩=some (oz):=b0.cell 3
 have a6r:w2.cell? ⟨w.heap.size,4,none⟩=some (aaq):=b0.cell 4
 have a6s:w2.cell? ⟨(w.heap.size+1),0,none⟩=some (.string xq):=b1.cell 0
 have a6t:w2.cell? ⟨(w.heap.size+1),1,none⟩=some (.string dh):=b1.cell 1
 have a6u:w2.cell? ⟨(w.heap.size+1),2,none⟩=some (.string xu):=b1.cell 2
 have a6v:w2.cell? ⟨(w.heap.size+1),3,none⟩=some (ab3):=b1.cell 3
 have a6w:w2.cell? ⟨(w.heap.size+1),4,none⟩=some (aen):=b1.cell 4
 have aut:=b0.lt
 have auu:=b1.lt
 have HSS:Hid (∀ V,Below w2.heap.size w2 V→V.cell? ⟨w.heap.size,0,none⟩=some (.string package)∧V.cell? ⟨w.heap.size,1,none⟩=some (.string name)∧V.cell? ⟨w.heap.size,2,none⟩=some (.string version)∧V.cell? ⟨w.heap.size,3,none⟩=some (oz)∧V.cell? ⟨w.heap.size,4,none⟩=some (aaq)∧V.cell? ⟨(w.heap.size+1),0,none⟩=some (.string xq)∧V.cell? ⟨(w.heap.size+1),1,none⟩=some (.string dh)∧V.cell? ⟨(w.heap.size+1),2,none⟩=some (.string xu)∧V.cell? ⟨(w.heap.size+1),3,none⟩=some (ab3)∧V.cell? ⟨(w.heap.size+1),4,none⟩=some (aen)):=Lib.hid fun V hV=>⟨(hV.cell (p:=⟨w.heap.size,0,none⟩) aut).trans a6n,(hV.cell (p:=⟨w.heap.size,1,none⟩) aut).trans a6o,(hV.cell (p:=⟨w.heap.size,2,none⟩) aut).trans a6p,(hV.cell (p:=⟨w.heap.size,3,none⟩) aut).trans a6q,(hV.cell (p:=⟨w.heap.size,4,none⟩) aut).trans a6r,(hV.cell (p:=⟨(w.heap.size+1),0,none⟩) auu).trans a6s,(hV.cell (p:=⟨(w.heap.size+1),1,none⟩) auu).trans a6t,(hV.cell (p:=⟨(w.heap.size+1),2,none⟩) auu).trans a6u,(hV.cell (p:=⟨(w.heap.size+1),3,none⟩) auu).trans a6v,(hV.cell (p:=⟨(w.heap.size+1),4,none⟩) auu).trans a6w⟩
 go_region_held3 (fun w'=>w'.cell? ⟨w.heap.size,0,none⟩=some (.string package)∧w'.cell? ⟨w.heap.size,1,none⟩=some (.string name)∧w'.cell? ⟨w.heap.size,2,none⟩=some (.string version)∧w'.cell? ⟨w.heap.size,3,none⟩=some (oz)∧w'.cell? ⟨w.heap.size,4,none⟩=some (aaq)∧w'.cell? ⟨(w.heap.size+1),0,none⟩=some (.string xq)∧w'.cell? ⟨(w.heap.size+1),1,none⟩=some (.string dh)∧w'.cell? ⟨(w.heap.size+1),2,none⟩=some (.string xu)∧w'.cell? ⟨(w.heap.size+1),3,none⟩=some (ab3)∧w'.cell? ⟨(w.heap.size+1),4,none⟩=some (aen))
  (first|exact HSS.out _ (by repeat(first|exact awd|exact hwq1|exact hwq0|exact Below.refl _ _|refine Below.drew ?_|refine bkv ?_ _|refine an9 ?_ (Nat.le_refl _) _ _|refine an9 ?_ hwq0.size _ _|refine an9 ?_ hwq1.size _ _|refine an9 ?_ awd.size _ _)))
  (first|(go_at_call_of 9 oz;refine(ak3 _ w.heap.size [.string package,.string name,.string version,oz,aaq] _ (by first|exact hB2.drew.size|exact(hB2.drew.alloc hB2.drew.size _).size) (by rw[← Z0.out];omega) (by first|exact R0.out.below hB2.drew|exact R0.out.below (hB2.drew.alloc hB2.drew.size _))).mono ?_;rintro e wq0 ⟨us0,rfl,Ls0,hbq⟩;have Ks0:=Ls0;obtain⟨a3q,a3r,a3s,ben,beo,bep,rfl⟩:=qg.afp Ks0;have hwq0:Below w2.heap.size w2 wq0:=(by first|exact(Below.refl _ _).drew.trans hbq|exact((Below.refl _ _).drew.alloc (Nat.le_refl _) _).trans (hbq.mono (by simp)));have auv:=hB2.trans (hwq0.mono hB2.size);(first|(have bp0:Blk wq0 w2.heap.size 34 #[.int .i64 0,.string {data:=#[]}]:=(Blk.new w2.drew _ _).step hbq)|skip))|(go_at_call_of 9 ab3;refine(ak3 _ w.heap.size [.string xq,.string dh,.string xu,ab3,aen] _ (by first|exact auv.size|exact(auv.alloc auv.size _).size) (by rw[← Z1.out];omega) (by first|exact R1.out.below auv|exact R1.out.below (auv.alloc auv.size _))).mono ?_;rintro e wq1 ⟨us1,rfl,Ls1,hbq⟩;have Ks1:=Ls1;obtain⟨a0j,a0k,a0l,bbh,bbj,bbk,rfl⟩:=qg.afp Ks1;have hwq1:Below w2.heap.size w2 wq1:=(by first|exact hwq0.trans (hbq.mono hwq0.size)|exact(hwq0.alloc hwq0.size _).trans (hbq.mono (by simp;have:=hwq0.size;omega)));have a9n:=hB2.trans (hwq1.mono hB2.size);replace Ls0:=(by first|exact Ls0.step hbq|exact(Ls0.step ((Below.refl _ _).alloc (Nat.le_refl _) _)).step hbq);(first|(replace bp0:=bp0.step hbq)|(have bp1:Blk wq1 wq0.heap.size 34 #[.int .i64 0,.string {data:=#[]}]:=(Blk.new wq0 _ _).step hbq)|skip))|(go_at_call 12;refine(SP'.out _ [.string package,.string name,.string version,.slice a3q a3r a3s,.slice ben beo bep] [.string xq,.string dh,.string xu,.slice a0j a0k a0l,.slice bbh bbj bbk] _ (Nat.le_refl _) (hT.below (by first|exact a9n|exact(a9n.alloc a9n.size _))) (by first|exact Ls0.is|exact(Ls0.step ((Below.refl _ _).alloc (Nat.le_refl _) _)).is) (by first|exact Ls1.is|exact(Ls1.step ((Below.refl _ _).alloc (Nat.le_refl _) _)).is)).mono ?_;rintro e wqZ ⟨vw,rfl,Gw,hbq⟩;have Kw:=Gw;obtain rfl:=Reason.afp Kw;have awd:Below w2.heap.size w2 wqZ:=(by first|exact hwq1.trans (hbq.mono hwq1.size)|exact(hwq1.alloc hwq1.size _).trans (hbq.mono (by simp;have:=hwq1.size;omega)));(first|(replace bp0:=bp0.step hbq)|(replace bp1:=bp1.step hbq)|(have bp2:Blk wqZ wq1.heap.size 34 #[.int .i64 0,.string {data:=#[]}]:=(Blk.new wq1 _ _).step hbq)|skip);(first|(have bu7:wqZ.cell? ⟨w2.heap.size,0,none⟩=some (.int .i64 0):=bp0.cell 0;have bu8:wqZ.cell? ⟨w2.heap.size,1,none⟩=some (.string {data:=#[]}):=bp0.cell 1;have bu9:wqZ.frozen? ⟨w2.heap.size,0,none⟩=false:=bp0.frozen 0;have bva:wqZ.frozen? ⟨w2.heap.size,1,none⟩=false:=bp0.frozen 1)|skip);(first|(have bvb:wqZ.cell? ⟨wq0.heap.size,0,none⟩=some (.int .i64 0):=bp1.cell 0;have bvc:wqZ.cell? ⟨wq0.heap.size,1,none⟩=some (.string {data:=#[]}):=bp1.cell 1;have bvd:wqZ.frozen? ⟨wq0.heap.size,0,none⟩=false:=bp1.frozen 0;have bve:wqZ.frozen? ⟨wq0.heap.size,1,none⟩=false:=bp1.frozen 1)|skip);(first|(have bvf:wqZ.cell? ⟨wq1.heap.size,0,none⟩=some (.int .i64 0):=bp2.cell 0;have bvg:wqZ.cell? ⟨wq1.heap.size,1,none⟩=some (.string {data:=#[]}):=bp2.cell 1;have bvh:wqZ.frozen? ⟨wq1.heap.size,0,none⟩=false:=bp2.frozen 0;have bvi:wqZ.frozen? ⟨wq1.heap.size,1,none⟩=false:=bp2.frozen 1)|skip)))
 all_goals
  first
   | (obtain⟨w3,hwE⟩:∃ V,V=wqZ.alloc (.cells #[.int .i64 abp,.string acr] 34):=⟨_,rfl⟩;rw[← hwE];have bW:Blk w3 wqZ.heap.size 34 #[.int .i64 abp,.string acr]:=(by rw[hwE];exact Blk.new wqZ _ _);have hb3:Below w2.heap.size w2 w3:=(by rw[hwE];exact awd.alloc awd.size _);obtain⟨rx,hrx⟩:∃ r,r=wqZ.heap.size:=⟨_,rfl⟩;rw[← hrx] at bW ⊢;clear hwE hrx)
   | (obtain⟨w3,hwE⟩:∃ V,V=((wqZ.setCell ⟨w2.heap.size,0,none⟩ (.int .i64 abp)).setCell ⟨w2.heap.size,1,none⟩ (.string acr)):=⟨_,rfl⟩;rw[← hwE];have bW:Blk w3 (w2.heap.size) 34 #[.int .i64 abp,.string acr]:=(by rw[hwE];have:=((bp0.abf 0 (.int .i64 abp)).abf 1 (.string acr));simpa using this);have hb3:Below w2.heap.size w2 w3:=(by rw[hwE];exact(an9 (an9 awd (Nat.le_refl _) 0 (.int .i64 abp)) (Nat.le_refl _) 1 (.string acr)));obtain⟨rx,hrx⟩:∃ r,r=w2.heap.size:=⟨_,rfl⟩;rw[← hrx] at bW ⊢;clear hwE hrx)
   | (obtain⟨w3,hwE⟩:∃ V,V=((wqZ.setCell ⟨wq0.heap.size,0,none⟩ (.int .i64 abp)).setCell ⟨wq0.heap.size,1,none⟩ (.string acr)):=⟨_,rfl⟩;rw[← hwE];have bW:Blk w3 (wq0.heap.size) 34 #[.int .i64 abp,.string acr]:=(by rw[hwE];have:=((bp1.abf 0 (.int .i64 abp)).abf 1 (.string acr));simpa using this);have hb3:Below w2.heap.size w2 w3:=(by rw[hwE];exact(an9 (an9 awd hwq0.size 0 (.int .i64 abp)) hwq0.size 1 (.string acr)));obtain⟨rx,hrx⟩:∃ r,r=wq0.heap.size:=⟨_,rfl⟩;rw[← hrx] at bW ⊢;clear hwE hrx)
   | (obtain⟨w3,hwE⟩:∃ V,V=((wqZ.setCell ⟨wq1.heap.size,0,none⟩ (.int .i64 abp)).setCell ⟨wq1.heap.size,1,none⟩ (.string acr)):=⟨_,rfl⟩;rw[← hwE];have bW:Blk w3 (wq1.heap.size) 34 #[.int .i64 abp,.string acr]:=(by rw[hwE];have:=((bp2.abf 0 (.int .i64 abp)).abf 1 (.string acr));simpa using this);have hb3:Below w2.heap.size w2 w3:=(by rw[hwE];exact(an9 (an9 awd hwq1.size 0 (.int .i64 abp)) hwq1.size 1 (.string acr)));obtain⟨rx,hrx⟩:∃ r,r=wq1.heap.size:=⟨_,rfl⟩;rw[← hrx] at bW ⊢;clear hwE hrx)
  have hs3:=hb3.size
  have hB3:=hB2.trans (hb3.mono hB2.size)
  replace b0:=b0.step hb3
  replace b1:=b1.step hb3
  clear a6n a6o a6p a6q a6r a6s a6t a6u a6v a6w
  clear HSS aut auu
  have lb3:=bW.lt
  have Gw:LvC w3 w3.heap.size w3.heap.size (Reason.pd ⟨abp,acr⟩) [.int .i64 abp,.string acr]:=((LvC.nil w3 _ _ (Nat.le_refl _)).lit _).lit _
  have bi3:w3.cell? ⟨w.heap.size,0,none⟩=some (.string package):=b0.cell 0
  have bi4:w3.cell? ⟨w.heap.size,1,none⟩=some (.string name):=b0.cell 1
  have bi5:w3.cell? ⟨w.heap.size,2,none⟩=some (.string version):=b0.cell 2
  have bi6:w3.cell? ⟨w.heap.size,3,none⟩=some (oz):=b0.cell 3
  have bi7:w3.cell? ⟨w.heap.size,4,none⟩=some (aaq):=b0.cell 4
  have bi8:w3.cell? ⟨(w.heap.size+1),0,none⟩=some (.string xq):=b1.cell 0
  have bi9:w3.cell? ⟨(w.heap.size+1),1,none⟩=some (.string dh):=b1.cell 1
  have bja:w3.cell? ⟨(w.heap.size+1),2,none⟩=some (.string xu):=b1.cell 2
  have bjb:w3.cell? ⟨(w.heap.size+1),3,none⟩=some (ab3):=b1.cell 3
  have bjc:w3.cell? ⟨(w.heap.size+1),4,none⟩=some (aen):=b1.cell 4
  have bjd:w3.cell? ⟨rx,0,none⟩=some (.int .i64 abp):=bW.cell 0
  have bje:w3.cell? ⟨rx,1,none⟩=some (.string acr):=bW.cell 1
  go_wp2_with fail
  clear bi3 bi4 bi5 bi6 bi7 bi8 bi9 bja bjb bjc bjd bje
  refine(ak3 _ w.heap.size [.string package,.string name,.string version,oz,aaq] _ hB3.size (by rw[← Z0.out];omega) (R0.out.below hB3)).mono ?_
  rintro e w4 ⟨ux0,rfl,Lx0,hb4⟩
  have hs4:=hb4.size
  have hB4:=hB3.trans (hb4.mono hB3.size)
  replace Gw:=Gw.step hb4
  replace b0:=b0.step hb4
  replace b1:=b1.step hb4
  replace bW:=bW.step hb4
  have Kx0:=Lx0
  obtain⟨aa5,aa6,aa7,adn,ado,adp,rfl⟩:=qg.afp Kx0
  clear Kx0
  obtain⟨w5,hw5⟩:∃ W,W=(w4.alloc (.cells #[.string package,.string name,.string version,.slice aa5 aa6 aa7,.slice adn ado adp] 30)):=⟨_,rfl⟩
  have hb5:Below w4.heap.size w4 w5:=by rw[hw5];exact(Below.refl _ _).alloc (Nat.le_refl _) _
  have bX0:Blk w5 w4.heap.size 30 #[.string package,.string name,.string version,.slice aa5 aa6 aa7,.slice adn ado adp]:=by rw[hw5];exact Blk.new w4 _ _
  have HW5:=Lib.hid hw5
  clear hw5
  have lb5:=bX0.lt
  have hs5:=hb5.size
  have hB5:=hB4.trans (hb5.mono hB4.size)
  replace Gw:=Gw.step hb5
  replace Lx0:=Lx0.step hb5
  replace b0:=b0.step hb5
  replace b1:=b1.step hb5
  replace bW:=bW.step hb5
  have bjf:(w4.alloc (.cells #[.string package,.string name,.string version,.slice aa5 aa6 aa7,.slice adn ado adp] 30)).cell? ⟨w.heap.size,0,none⟩=some (.string package):=by rw[← HW5.out];exact b0.cell 0
  have bjg:(w4.alloc (.cells #[.string package,.string name,.string version,.slice aa5 aa6 aa7,.slice adn ado adp] 30)).cell? ⟨w.heap.size,1,none⟩=some (.string name):=by rw[← HW5.out];exact b0.cell 1
  have bjh:(w4.alloc (.cells #[.string package,.string name,.string version,.slice aa5 aa6 aa7,.slice adn ado adp] 30)).cell? ⟨w.heap.size,2,none⟩=some (.string version):=by rw[← HW5.out];exact b0.cell 2
  have bji:(w4.alloc (.cells #[.string package,.string name,.string version,.slice aa5 aa6 aa7,.slice adn ado adp] 30)).cell? ⟨w.heap.size,3,none⟩=some (oz):=by rw[← HW5.out];exact b0.cell 3
  have bjj:(w4.alloc (.cells #[.string package,.string name,.string version,.slice aa5 aa6 aa7,.slice adn ado adp] 30)).cell? ⟨w.heap.size,4,none⟩=some (aaq):=by rw[← HW5.out];exact b0.cell 4
  have bjk:(w4.alloc (.cells #[.string package,.string name,.string version,.slice aa5 aa6 aa7,.slice adn ado adp] 30)).cell? ⟨(w.heap.size+1),0,none⟩=some (.string xq):=by rw[← HW5.out];exact b1.cell 0
  have bjl:(w4.alloc (.cells #[.string package,.string name,.string version,.slice aa5 aa6 aa7,.slice adn ado adp] 30)).cell? ⟨(w.heap.size+1),1,none⟩=some (.string dh):=by rw[← HW5.out];exact b1.cell 1
  have bjm:(w4.alloc (.cells #[.string package,.string name,.string version,.slice aa5 aa6 aa7,.slice adn ado adp] 30)).cell? ⟨(w.heap.size+1),2,none⟩=some (.string xu):=by rw[← HW5.out];exact b1.cell 2
  have bjn:(w4.alloc (.cells #[.string package,.string name,.string version,.slice aa5 aa6 aa7,.slice adn ado adp] 30)).cell? ⟨(w.heap.size+1),3,none⟩=some (ab3):=by rw[← HW5.out];exact b1.cell 3
  have bjo:(w4.alloc (.cells #[.string package,.string name,.string version,.slice aa5 aa6 aa7,.slice adn ado adp] 30)).cell? ⟨(w.heap.size+1),4,none⟩=some (aen):=by rw[← HW5.out];exact b1.cell 4
  have bjp:(w4.alloc (.cells #[.string package,.string name,.string version,.slice aa5 aa6 aa7,.slice adn ado adp] 30)).cell? ⟨rx,0,none⟩=some (.int .i64 abp):=by rw[← HW5.out];exact bW.cell 0
  have bjq:(w4.alloc (.cells #[.string package,.string name,.string version,.slice aa5 aa6 aa7,.slice adn ado adp] 30)).cell? ⟨rx,1,none⟩=some (.string acr):=by rw[← HW5.out];exact bW.cell 1
  have ber:(w4.alloc (.cells #[.string package,.string name,.string version,.slice aa5 aa6 aa7,.slice adn ado adp] 30)).cell? ⟨w4.heap.size,0,none⟩=some (.string package):=by rw[← HW5.out];exact bX0.cell 0
  have bes:(w4.alloc (.cells #[.string package,.string name,.string version,.slice aa5 aa6 aa7,.slice adn ado adp] 30)).cell? ⟨w4.heap.size,1,none⟩=some (.string name):=by rw[← HW5.out];exact bX0.cell 1
  have bet:(w4.alloc (.cells #[.string package,.string name,.string version,.slice aa5 aa6 aa7,.slice adn ado adp] 30)).cell? ⟨w4.heap.size,2,none⟩=some (.string version):=by rw[← HW5.out];exact bX0.cell 2
  have beu:(w4.alloc (.cells #[.string package,.string name,.string version,.slice aa5 aa6 aa7,.slice adn ado adp] 30)).cell? ⟨w4.heap.size,3,none⟩=some (.slice aa5 aa6 aa7):=by rw[← HW5.out];exact bX0.cell 3
  have bev:(w4.alloc (.cells #[.string package,.string name,.string version,.slice aa5 aa6 aa7,.slice adn ado adp] 30)).cell? ⟨w4.heap.size,4,none⟩=some (.slice adn ado adp):=by rw[← HW5.out];exact bX0.cell 4
  go_wp2_with fail
  rw[← HW5.out]
  clear bjf bjg bjh bji bjj bjk bjl bjm bjn bjo bjp bjq ber bes bet beu bev
  clear HW5
  refine(ak3 _ w.heap.size [.string xq,.string dh,.string xu,ab3,aen] _ hB5.size (by rw[← Z1.out];omega) (R1.out.below hB5)).mono ?_
  rintro e w6 ⟨ux1,rfl,Lx1,hb6⟩
  have hs6:=hb6.size
  have hB6:=hB5.trans (hb6.mono hB5.size)
  replace Gw:=Gw.step hb6
  replace Lx0:=Lx0.step hb6
  replace b0:=b0.step hb6
  replace b1:=b1.step hb6
  replace bW:=bW.step hb6
  replace bX0:=bX0.step hb6
  have Kx1:=Lx1
  obtain⟨zy,aac,aad,ab4,ab5,ab6,rfl⟩:=qg.afp Kx1
  clear Kx1
  obtain⟨w7,hw7⟩:∃ W,W=(w6.alloc (.cells #[.string xq,.string dh,.string xu,.slice zy aac aad,.slice ab4 ab5 ab6] 30)):=⟨_,rfl⟩
  have hb7:Below w6.heap.size w6 w7:=by rw[hw7];exact(Below.refl _ _).alloc (Nat.le_refl _) _
  have bX1:Blk w7 w6.heap.size 30 #[.string xq,.string dh,.string xu,.slice zy aac aad,.slice ab4 ab5 ab6]:=by rw[hw7];exact Blk.new w6 _ _
  have HW7:=Lib.hid hw7
  clear hw7
  have lb7:=bX1.lt
  have hs7:=hb7.size
  have hB7:=hB6.trans (hb7.mono hB6.size)
  replace Gw:=Gw.step hb7
  replace Lx0:=Lx0.step hb7
  replace Lx1:=Lx1.step hb7
  replace b0:=b0.step hb7
  replace b1:=b1.step hb7
  replace bW:=bW.step hb7
  replace bX0:=bX0.step hb7
  have bjr:(w6.alloc (.cells #[.string xq,.string dh,.string xu,.slice zy aac aad,.slice ab4 ab5 ab6] 30)).cell? ⟨w.heap.size,0,none⟩=some (.string package):=by rw[← HW7.out];exact b0.cell 0
  have bjs:(w6.alloc (.cells #[.string xq,.string dh,.string xu,.slice zy aac aad,.slice ab4 ab5 ab6] 30)).cell? ⟨w.heap.size,1,none⟩=some (.string name):=by rw[← HW7.out];exact b0.cell 1
  have bjt:(w6.alloc (.cells #[.string xq,.string dh,.string xu,.slice zy aac aad,.slice ab4 ab5 ab6] 30)).cell? ⟨w.heap.size,2,none⟩=some (.string version):=by rw[← HW7.out];exact b0.cell 2
  have bju:(w6.alloc (.cells #[.string xq,.string dh,.string xu,.slice zy aac aad,.slice ab4 ab5 ab6] 30)).cell? ⟨w.heap.size,3,none⟩=some (oz):=by rw[← HW7.out];exact b0.cell 3
  have bjv:(w6.alloc (.cells #[.string xq,.string dh,.string xu,.slice zy aac aad,.slice ab4 ab5 ab6] 30)).cell? ⟨w.heap.size,4,none⟩=some (aaq):=by rw[← HW7.out];exact b0.cell 4
  have bjw:(w6.alloc (.cells #[.string xq,.string dh,.string xu,.slice zy aac aad,.slice ab4 ab5 ab6] 30)).cell? ⟨(w.heap.size+1),0,none⟩=some (.string xq):=by rw[← HW7.out];exact b1.cell 0
  have bjx:(w6.alloc (.cells #[.string xq,.string dh,.string xu,.slice zy aac aad,.slice ab4 ab5 ab6] 30)).cell? ⟨(w.heap.size+1),1,none⟩=some (.string dh):=by rw[← HW7.out];exact b1.cell 1
  have bjy:(w6.alloc (.cells #[.string xq,.string dh,.string xu,.slice zy aac aad,.slice ab4 ab5 ab6] 30)).cell? ⟨(w.heap.size+1),2,none⟩=some (.string xu):=by rw[← HW7.out];exact b1.cell 2
  have bjz:(w6.alloc (.cells #[.string xq,.string dh,.string xu,.slice zy aac aad,.slice ab4 ab5 ab6] 30)).cell? ⟨(w.heap.size+1),3,none⟩=some (ab3):=by rw[← HW7.out];exact b1.cell 3
  have bj0:(w6.alloc (.cells #[.string xq,.string dh,.string xu,.slice zy aac aad,.slice ab4 ab5 ab6] 30)).cell? ⟨(w.heap.size+1),4,none⟩=some (aen):=by rw[← HW7.out];exact b1.cell 4
  have bj1:(w6.alloc (.cells #[.string xq,.string dh,.string xu,.slice zy aac aad,.slice ab4 ab5 ab6] 30)).cell? ⟨rx,0,none⟩=some (.int .i64 abp):=by rw[← HW7.out];exact bW.cell 0
  have bj2:(w6.alloc (.cells #[.string xq,.string dh,.string xu,.slice zy aac aad,.slice ab4 ab5 ab6] 30)).cell? ⟨rx,1,none⟩=some (.string acr):=by rw[← HW7.out];exact bW.cell 1
  have bew:(w6.alloc (.cells #[.string xq,.string dh,.string xu,.slice zy aac aad,.slice ab4 ab5 ab6] 30)).cell? ⟨w4.heap.size,0,none⟩=some (.string package):=by rw[← HW7.out];exact bX0.cell 0
  have bex:(w6.alloc (.cells #[.string xq,.string dh,.string xu,.slice zy aac aad,.slice ab4 ab5 ab6] 30)).cell? ⟨w4.heap.size,1,none⟩=some (.string name):=by rw[← HW7.out];exact bX0.cell 1
  have bey:(w6.alloc (.cells #[.string xq,.string dh,.string xu,.slice zy aac aad,.slice ab4 ab5 ab6] 30)).cell? ⟨w4.heap.size,2,none⟩=some (.string version):=by rw[← HW7.out];exact bX0.cell 2
  have bez:(w6.alloc (.cells #[.string xq,.string dh,.string xu,.slice zy aac aad,.slice ab4 ab5 ab6] 30)).cell? ⟨w4.heap.size,3,none⟩=some (.slice aa5 aa6 aa7):=by rw[← HW7.out];exact bX0.cell 3
  have be0:(w6.alloc (.cells #[.string xq,.string dh,.string xu,.slice zy aac aad,.slice ab4 ab5 ab6] 30)).cell? ⟨w4.heap.size,4,none⟩=some (.slice adn ado adp):=by rw[← HW7.out];exact bX0.cell 4
  have be1:(w6.alloc (.cells #[.string xq,.string dh,.string xu,.slice zy aac aad,.slice ab4 ab5 ab6] 30)).cell? ⟨w6.heap.size,0,none⟩=some (.string xq):=by rw[← HW7.out];exact bX1.cell 0
  have be3:(w6.alloc (.cells #[.string xq,.string dh,.string xu,.slice zy aac aad,.slice ab4 ab5 ab6] 30)).cell? ⟨w6.heap.size,1,none⟩=some (.string dh):=by rw[← HW7.out];exact bX1.cell 1
  have be5:(w6.alloc (.cells #[.string xq,.string dh,.string xu,.slice zy aac aad,.slice ab4 ab5 ab6] 30)).cell? ⟨w6.heap.size,2,none⟩=some (.string xu):=by rw[← HW7.out];exact bX1.cell 2
  have be6:(w6.alloc (.cells #[.string xq,.string dh,.string xu,.slice zy aac aad,.slice ab4 ab5 ab6] 30)).cell? ⟨w6.heap.size,3,none⟩=some (.slice zy aac aad):=by rw[← HW7.out];exact bX1.cell 3
  have be7:(w6.alloc (.cells #[.string xq,.string dh,.string xu,.slice zy aac aad,.slice ab4 ab5 ab6] 30)).cell? ⟨w6.heap.size,4,none⟩=some (.slice ab4 ab5 ab6):=by rw[← HW7.out];exact bX1.cell 4
  go_wp2_with fail
  rw[← HW7.out]
  clear bjr bjs bjt bju bjv bjw bjx bjy bjz bj0 bj1 bj2 bew bex bey bez be0 be1 be3 be5 be6 be7
  clear HW7
  refine(IM'.out w7.heap.size [.string package,.string name,.string version,.slice aa5 aa6 aa7,.slice adn ado adp] [.string xq,.string dh,.string xu,.slice zy aac aad,.slice ab4 ab5 ab6] _ (Nat.le_refl _) (hT.below hB7) Lx0.is Lx1.is).mono ?_
  rintro e w8 ⟨vg,rfl,Gg,hb8⟩
  have hs8:=hb8.size
  have hB8:=hB7.trans (hb8.mono hB7.size)
  replace Gw:=Gw.step hb8
  replace Lx0:=Lx0.step hb8
  replace Lx1:=Lx1.step hb8
  replace b0:=b0.step hb8
  replace b1:=b1.step hb8
  replace bW:=bW.step hb8
  replace bX0:=bX0.step hb8
  replace bX1:=bX1.step hb8
  have Kg:=Gg
  obtain rfl:=Reason.afp Kg
  obtain⟨w9,hw9⟩:∃ W,W=(w8.alloc (.cells #[.int .i64 abp,.string acr] 34)):=⟨_,rfl⟩
  have hb9:Below w8.heap.size w8 w9:=by rw[hw9];exact(Below.refl _ _).alloc (Nat.le_refl _) _
  have bG:Blk w9 w8.heap.size 34 #[.int .i64 abp,.string acr]:=by rw[hw9];exact Blk.new w8 _ _
  have HW9:=Lib.hid hw9
  clear hw9
  have lb9:=bG.lt
  have hs9:=hb9.size
  have hB9:=hB8.trans (hb9.mono hB8.size)
  replace Gw:=Gw.step hb9
  replace Lx0:=Lx0.step hb9
  replace Lx1:=Lx1.step hb9
  replace Gg:=Gg.step hb9
  replace b0:=b0.step hb9
  replace b1:=b1.step hb9
  replace bW:=bW.step hb9
  replace bX0:=bX0.step hb9
  replace bX1:=bX1.step hb9
  have bj3:(w8.alloc (.cells #[.int .i64 abp,.string acr] 34)).cell? ⟨w.heap.size,0,none⟩=some (.string package):=by rw[← HW9.out];exact b0.cell 0
  have bj4:(w8.alloc (.cells #[.int .i64 abp,.string acr] 34)).cell? ⟨w.heap.size,1,none⟩=some (.string name):=by rw[← HW9.out];exact b0.cell 1
  have bj5:(w8.alloc (.cells #[.int .i64 abp,.string acr] 34)).cell? ⟨w.heap.size,2,none⟩=some (.string version):=by rw[← HW9.out];exact b0.cell 2
  have bj6:(w8.alloc (.cells #[.int .i64 abp,.string acr] 34)).cell? ⟨w.heap.size,3,none⟩=some (oz):=by rw[← HW9.out];exact b0.cell 3
  have bj7:(w8.alloc (.cells #[.int .i64 abp,.string acr] 34)).cell? ⟨w.heap.size,4,none⟩=some (aaq):=by rw[← HW9.out];exact b0.cell 4
  have bj8:(w8.alloc (.cells #[.int .i64 abp,.string acr] 34)).cell? ⟨(w.heap.size+1),0,none⟩=some (.string xq):=by rw[← HW9.out];exact b1.cell 0
  have bj9:(w8.alloc (.cells #[.int .i64 abp,.string acr] 34)).cell? ⟨(w.heap.size+1),1,none⟩=some (.string dh):=by rw[← HW9.out];exact b1.cell 1
  have bka:(w8.alloc (.cells #[.int .i64 abp,.string acr] 34)).cell? ⟨(w.heap.size+1),2,none⟩=some (.string xu):=by rw[← HW9.out];exact b1.cell 2
  have be8:(w8.alloc (.cells #[.int .i64 abp,.string acr] 34)).cell? ⟨(w.heap.size+1),3,none⟩=some (ab3):=by rw[← HW9.out];exact b1.cell 3
  have be9:(w8.alloc (.cells #[.int .i64 abp,.string acr] 34)).cell? ⟨(w.heap.size+1),4,none⟩=some (aen):=by rw[← HW9.out];exact b1.cell 4
  have bfb:(w8.alloc (.cells #[.int .i64 abp,.string acr] 34)).cell? ⟨rx,0,none⟩=some (.int .i64 abp):=by rw[← HW9.out];exact bW.cell 0
  have bfc:(w8.alloc (.cells #[.int .i64 abp,.string acr] 34)).cell? ⟨rx,1,none⟩=some (.string acr):=by rw[← HW9.out];exact bW.cell 1
  have bbl:(w8.alloc (.cells #[.int .i64 abp,.string acr] 34)).cell? ⟨w4.heap.size,0,none⟩=some (.string package):=by rw[← HW9.out];exact bX0.cell 0
  have bbm:(w8.alloc (.cells #[.int .i64 abp,.string acr] 34)).cell? ⟨w4.heap.size,1,none⟩=some (.string name):=by rw[← HW9.out];exact bX0.cell 1
  have bbn:(w8.alloc (.cells #[.int .i64 abp,.string acr] 34)).cell? ⟨w4.heap.size,2,none⟩=some (.string version):=by rw[← HW9.out];exact bX0.cell 2
  have bbo:(w8.alloc (.cells #[.int .i64 abp,.string acr] 34)).cell? ⟨w4.heap.size,3,none⟩=some (.slice aa5 aa6 aa7):=by rw[← HW9.out];exact bX0.cell 3
  have bbp:(w8.alloc (.cells #[.int .i64 abp,.string acr] 34)).cell? ⟨w4.heap.size,4,none⟩=some (.slice adn ado adp):=by rw[← HW9.out];exact bX0.cell 4
  have bbq:(w8.alloc (.cells #[.int .i64 abp,.string acr] 34)).cell? ⟨w6.heap.size,0,none⟩=some (.string xq):=by rw[← HW9.out];exact bX1.cell 0
  have bbr:(w8.alloc (.cells #[.int .i64 abp,.string acr] 34)).cell? ⟨w6.heap.size,1,none⟩=some (.string dh):=by rw[← HW9.out];exact bX1.cell 1
  have bbs:(w8.alloc (.cells #[.int .i64 abp,.string acr] 34)).cell? ⟨w6.heap.size,2,none⟩=some (.string xu):=by rw[← HW9.out];exact bX1.cell 2
  have bbt:(w8.alloc (.cells #[.int .i64 abp,.string acr] 34)).cell? ⟨w6.heap.size,3,none⟩=some (.slice zy aac aad):=by rw[← HW9.out];exact bX1.cell 3
  have bbu:(w8.alloc (.cells #[.int .i64 abp,.string acr] 34)).cell? ⟨w6.heap.size,4,none⟩=some (.slice ab4 ab5 ab6):=by rw[← HW9.out];exact bX1.cell 4
  have bfd:(w8.alloc (.cells #[.int .i64 abp,.string acr] 34)).cell? ⟨w8.heap.size,0,none⟩=some (.int .i64 abp):=by rw[← HW9.out];exact bG.cell 0
  have bfe:(w8.alloc (.cells #[.int .i64 abp,.string acr] 34)).cell? ⟨w8.heap.size,1,none⟩=some (.string acr):=by rw[← HW9.out];exact bG.cell 1
  go_wp2_with fail
  rw[← HW9.out]
  clear bj3 bj4 bj5 bj6 bj7 bj8 bj9 bka be8 be9 bfb bfc bbl bbm bbn bbo bbp bbq bbr bbs bbt bbu bfd bfe
  clear HW9
  refine(a1k (⟨abp,acr⟩:Reason) w9.heap.size _ _ _ (Nat.le_refl _) Gg.is Gw.is).mono ?_
  rintro e w10 ⟨rfl,aog⟩
  have hs10:=aog.size
  have a9o:=hB9.trans (aog.mono hB9.size)
  replace Gw:=Gw.step aog
  replace Lx0:=Lx0.step aog
  replace Lx1:=Lx1.step aog
  replace Gg:=Gg.step aog
  replace b0:=b0.step aog
  replace b1:=b1.step aog
  replace bW:=bW.step aog
  replace bX0:=bX0.step aog
  replace bX1:=bX1.step aog
  replace bG:=bG.step aog
  have bff:w10.cell? ⟨w.heap.size,0,none⟩=some (.string package):=b0.cell 0
  have bfg:w10.cell? ⟨w.heap.size,1,none⟩=some (.string name):=b0.cell 1
  have bfh:w10.cell? ⟨w.heap.size,2,none⟩=some (.string version):=b0.cell 2
  have bfi:w10.cell? ⟨w.heap.size,3,none⟩=some (oz):=b0.cell 3
  have bfj:w10.cell? ⟨w.heap.size,4,none⟩=some (aaq):=b0.cell 4
  have bfk:w10.cell? ⟨(w.heap.size+1),0,none⟩=some (.string xq):=b1.cell 0
  have bfl:w10.cell? ⟨(w.heap.size+1),1,none⟩=some (.string dh):=b1.cell 1
  have bfm:w10.cell? ⟨(w.heap.size+1),2,none⟩=some (.string xu):=b1.cell 2
  have bfn:w10.cell? ⟨(w.heap.size+1),3,none⟩=some (ab3):=b1.cell 3
  have bfo:w10.cell? ⟨(w.heap.size+1),4,none⟩=some (aen):=b1.cell 4
  have bfp:w10.cell? ⟨rx,0,none⟩=some (.int .i64 abp):=bW.cell 0
  have bfq:w10.cell? ⟨rx,1,none⟩=some (.string acr):=bW.cell 1
  have bbv:w10.cell? ⟨w4.heap.size,0,none⟩=some (.string package):=bX0.cell 0
  have bbw:w10.cell? ⟨w4.heap.size,1,none⟩=some (.string name):=bX0.cell 1
  have bbx:w10.cell? ⟨w4.heap.size,2,none⟩=some (.string version):=bX0.cell 2
  have bby:w10.cell? ⟨w4.heap.size,3,none⟩=some (.slice aa5 aa6 aa7):=bX0.cell 3
  have bbz:w10.cell? ⟨w4.heap.size,4,none⟩=some (.slice adn ado adp):=bX0.cell 4
  have bb4:w10.cell? ⟨w6.heap.size,0,none⟩=some (.string xq):=bX1.cell 0
  have bb5:w10.cell? ⟨w6.heap.size,1,none⟩=some (.string dh):=bX1.cell 1
  have bb6:w10.cell? ⟨w6.heap.size,2,none⟩=some (.string xu):=bX1.cell 2
  have bb7:w10.cell? ⟨w6.heap.size,3,none⟩=some (.slice zy aac aad):=bX1.cell 3
  have bb8:w10.cell? ⟨w6.heap.size,4,none⟩=some (.slice ab4 ab5 ab6):=bX1.cell 4
  have bfr:w10.cell? ⟨w8.heap.size,0,none⟩=some (.int .i64 abp):=bG.cell 0
  have bfs:w10.cell? ⟨w8.heap.size,1,none⟩=some (.string acr):=bG.cell 1
  go_wp2_with fail
  clear bff bfg bfh bfi bfj bfk bfl bfm bfn bfo bfp bfq bbv bbw bbx bby bbz bb4 bb5 bb6 bb7 bb8 bfr bfs
  have awe:w10.cell? ⟨w.heap.size,0,none⟩=some (.string package):=b0.cell 0
  have awf:w10.cell? ⟨w.heap.size,1,none⟩=some (.string name):=b0.cell 1
  have awg:w10.cell? ⟨w.heap.size,2,none⟩=some (.string version):=b0.cell 2
  have awh:w10.cell? ⟨w.heap.size,3,none⟩=some (oz):=b0.cell 3
  have awi:w10.cell? ⟨w.heap.size,4,none⟩=some (aaq):=b0.cell 4
  have atz:w10.cell? ⟨w4.heap.size,0,none⟩=some (.string package):=bX0.cell 0
  have at1:w10.cell? ⟨w4.heap.size,1,none⟩=some (.string name):=bX0.cell 1
  have at6:w10.cell? ⟨w4.heap.size,2,none⟩=some (.string version):=bX0.cell 2
  have at7:w10.cell? ⟨w4.heap.size,3,none⟩=some (.slice aa5 aa6 aa7):=bX0.cell 3
  have aua:w10.cell? ⟨w4.heap.size,4,none⟩=some (.slice adn ado adp):=bX0.cell 4
  have hA:=b0.lt
  have hX:=bX0.lt
  have TC:=Lib.hid (ak3 _ w.heap.size [.string package,.string name,.string version,oz,aaq] w10.drew a9o.size (by rw[← Z0.out];omega) (by exact R0.out.below a9o.drew))
  go_region_held3 (fun w'=>w'.cell? ⟨w.heap.size,0,none⟩=some (.string package)∧w'.cell? ⟨w.heap.size,1,none⟩=some (.string name)∧w'.cell? ⟨w.heap.size,2,none⟩=some (.string version)∧w'.cell? ⟨w.heap.size,3,none⟩=some (oz)∧w'.cell? ⟨w.heap.size,4,none⟩=some (aaq)∧w'.cell? ⟨w4.heap.size,0,none⟩=some (.string package)∧w'.cell? ⟨w4.heap.size,1,none⟩=some (.string name)∧w'.cell? ⟨w4.heap.size,2,none⟩=some (.string version)∧w'.cell? ⟨w4.heap.size,3,none⟩=some (.slice aa5 aa6 aa7)∧w'.cell? ⟨w4.heap.size,4,none⟩=some (.slice adn ado adp))
   (first|go_keep|exact⟨(hby.cell (p:=⟨w.heap.size,0,none⟩) hA).trans awe,(hby.cell (p:=⟨w.heap.size,1,none⟩) hA).trans awf,(hby.cell (p:=⟨w.heap.size,2,none⟩) hA).trans awg,(hby.cell (p:=⟨w.heap.size,3,none⟩) hA).trans awh,(hby.cell (p:=⟨w.heap.size,4,none⟩) hA).trans awi,(hby.cell (p:=⟨w4.heap.size,0,none⟩) hX).trans atz,(hby.cell (p:=⟨w4.heap.size,1,none⟩) hX).trans at1,(hby.cell (p:=⟨w4.heap.size,2,none⟩) hX).trans at6,(hby.cell (p:=⟨w4.heap.size,3,none⟩) hX).trans at7,(hby.cell (p:=⟨w4.heap.size,4,none⟩) hX).trans aua⟩|exact⟨(ahq.cell (p:=⟨w.heap.size,0,none⟩) hA).trans awe,(ahq.cell (p:=⟨w.heap.size,1,none⟩) hA).trans awf,(ahq.cell (p:=⟨w.heap.size,2,none⟩) hA).trans awg,(ahq.cell (p:=⟨w.heap.size,3,none⟩) hA).trans awh,(ahq.cell (p:=⟨w.heap.size,4,none⟩) hA).trans awi,(ahq.cell (p:=⟨w4.heap.size,0,none⟩) hX).trans atz,(ahq.cell (p:=⟨w4.heap.size,1,none⟩) hX).trans at1,(ahq.cell (p:=⟨w4.heap.size,2,none⟩) hX).trans at6,(ahq.cell (p:=⟨w4.heap.size,3,none⟩) hX).trans at7,(ahq.cell (p:=⟨w4.heap.size,4,none⟩) hX).trans aua⟩)
   (first|(go_at_call 9;refine TC.out.mono ?_;rintro e wy ⟨uy,rfl,Ly,hby⟩;have Ky:=Ly;obtain⟨a5i,a5j,a5k,bkb,bkc,bkd,rfl⟩:=qg.afp Ky;have Lxy:=Lx0.step ((Below.refl w10.heap.size w10).drew.trans hby))|(go_at_call 11;refine(awz _ wy.heap.size [.string package,.string name,.string version,.slice aa5 aa6 aa7,.slice adn ado adp] [.string package,.string name,.string version,.slice a5i a5j a5k,.slice bkb bkc bkd] _ (Nat.le_refl _) (by exact Lxy.is) (by exact Ly.is)).mono ?_;rintro e w11 ⟨rfl,hbz⟩;have ahq:Below w10.heap.size w10 w11:=((Below.refl _ _).drew.trans hby).trans (hbz.mono hby.size)))
  have aoh:=ahq
  have hs11:=aoh.size
  have a9p:=a9o.trans (aoh.mono a9o.size)
  replace Gw:=Gw.step aoh
  replace Lx0:=Lx0.step aoh
  replace Lx1:=Lx1.step aoh
  replace Gg:=Gg.step aoh
  replace b0:=b0.step aoh
  replace b1:=b1.step aoh
  replace bW:=bW.step aoh
  replace bX0:=bX0.step aoh
  replace bX1:=bX1.step aoh
  replace bG:=bG.step aoh
  clear ahq hbz hby Lxy Ly TC hA hX
  clear awe awf awg awh awi atz at1 at6 at7 aua
  have bft:w11.cell? ⟨w.heap.size,0,none⟩=some (.string package):=b0.cell 0
  have bfu:w11.cell? ⟨w.heap.size,1,none⟩=some (.string name):=b0.cell 1
  have bfv:w11.cell? ⟨w.heap.size,2,none⟩=some (.string version):=b0.cell 2
  have bfw:w11.cell? ⟨w.heap.size,3,none⟩=some (oz):=b0.cell 3
  have bfx:w11.cell? ⟨w.heap.size,4,none⟩=some (aaq):=b0.cell 4
  have bfy:w11.cell? ⟨(w.heap.size+1),0,none⟩=some (.string xq):=b1.cell 0
  have bfz:w11.cell? ⟨(w.heap.size+1),1,none⟩=some (.string dh):=b1.cell 1
  have bf0:w11.cell? ⟨(w.heap.size+1),2,none⟩=some (.string xu):=b1.cell 2
  have bf1:w11.cell? ⟨(w.heap.size+1),3,none⟩=some (ab3):=b1.cell 3
  have bf2:w11.cell? ⟨(w.heap.size+1),4,none⟩=some (aen):=b1.cell 4
  have bf3:w11.cell? ⟨rx,0,none⟩=some (.int .i64 abp):=bW.cell 0
  have bf4:w11.cell? ⟨rx,1,none⟩=some (.string acr):=bW.cell 1
  have bb9:w11.cell? ⟨w4.heap.size,0,none⟩=some (.string package):=bX0.cell 0
  have bca:w11.cell? ⟨w4.heap.size,1,none⟩=some (.string name):=bX0.cell 1
  have bcb:w11.cell? ⟨w4.heap.size,2,none⟩=some (.string version):=bX0.cell 2
  have bcc:w11.cell? ⟨w4.heap.size,3,none⟩=some (.slice aa5 aa6 aa7):=bX0.cell 3
  have bcd:w11.cell? ⟨w4.heap.size,4,none⟩=some (.slice adn ado adp):=bX0.cell 4
  have bcf:w11.cell? ⟨w6.heap.size,0,none⟩=some (.string xq):=bX1.cell 0
  have bcg:w11.cell? ⟨w6.heap.size,1,none⟩=some (.string dh):=bX1.cell 1
  have bch:w11.cell? ⟨w6.heap.size,2,none⟩=some (.string xu):=bX1.cell 2
  have bci:w11.cell? ⟨w6.heap.size,3,none⟩=some (.slice zy aac aad):=bX1.cell 3
  have bcj:w11.cell? ⟨w6.heap.size,4,none⟩=some (.slice ab4 ab5 ab6):=bX1.cell 4
  have bf5:w11.cell? ⟨w8.heap.size,0,none⟩=some (.int .i64 abp):=bG.cell 0
  have bf6:w11.cell? ⟨w8.heap.size,1,none⟩=some (.string acr):=bG.cell 1
  go_wp2_with fail
  clear bft bfu bfv bfw bfx bfy bfz bf0 bf1 bf2 bf3 bf4 bb9 bca bcb bcc bcd bcf bcg bch bci bcj bf5 bf6
  have awj:w11.cell? ⟨(w.heap.size+1),0,none⟩=some (.string xq):=b1.cell 0
  have awk:w11.cell? ⟨(w.heap.size+1),1,none⟩=some (.string dh):=b1.cell 1
  have awl:w11.cell? ⟨(w.heap.size+1),2,none⟩=some (.string xu):=b1.cell 2
  have awm:w11.cell? ⟨(w.heap.size+1),3,none⟩=some (ab3):=b1.cell 3
  have awn:w11.cell? ⟨(w.heap.size+1),4,none⟩=some (aen):=b1.cell 4
  have aub:w11.cell? ⟨w6.heap.size,0,none⟩=some (.string xq):=bX1.cell 0
  have auc:w11.cell? ⟨w6.heap.size,1,none⟩=some (.string dh):=bX1.cell 1
  have aud:w11.cell? ⟨w6.heap.size,2,none⟩=some (.string xu):=bX1.cell 2
  have aue:w11.cell? ⟨w6.heap.size,3,none⟩=some (.slice zy aac aad):=bX1.cell 3
  have auf:w11.cell? ⟨w6.heap.size,4,none⟩=some (.slice ab4 ab5 ab6):=bX1.cell 4
  have hA:=b1.lt
  have hX:=bX1.lt
  have TC:=Lib.hid (ak3 _ w.heap.size [.string xq,.string dh,.string xu,ab3,aen] w11.drew a9p.size (by rw[← Z1.out];omega) (by exact R1.out.below a9p.drew))
  go_region_held3 (fun w'=>w'.cell? ⟨(w.heap.size+1),0,none⟩=some (.string xq)∧w'.cell? ⟨(w.heap.size+1),1,none⟩=some (.string dh)∧w'.cell? ⟨(w.heap.size+1),2,none⟩=some (.string xu)∧w'.cell? ⟨(w.heap.size+1),3,none⟩=some (ab3)∧w'.cell? ⟨(w.heap.size+1),4,none⟩=some (aen)∧w'.cell? ⟨w6.heap.size,0,none⟩=some (.string xq)∧w'.cell? ⟨w6.heap.size,1,none⟩=some (.string dh)∧w'.cell? ⟨w6.heap.size,2,none⟩=some (.string xu)∧w'.cell? ⟨w6.heap.size,3,none⟩=some (.slice zy aac aad)∧w'.cell? ⟨w6.heap.size,4,none⟩=some (.slice ab4 ab5 ab6))
   (first|go_keep|exact⟨(hby.cell (p:=⟨(w.heap.size+1),0,none⟩) hA).trans awj,(hby.cell (p:=⟨(w.heap.size+1),1,none⟩) hA).trans awk,(hby.cell (p:=⟨(w.heap.size+1),2,none⟩) hA).trans awl,(hby.cell (p:=⟨(w.heap.size+1),3,none⟩) hA).trans awm,(hby.cell (p:=⟨(w.heap.size+1),4,none⟩) hA).trans awn,(hby.cell (p:=⟨w6.heap.size,0,none⟩) hX).trans aub,(hby.cell (p:=⟨w6.heap.size,1,none⟩) hX).trans auc,(hby.cell (p:=⟨w6.heap.size,2,none⟩) hX).trans aud,(hby.cell (p:=⟨w6.heap.size,3,none⟩) hX).trans aue,(hby.cell (p:=⟨w6.heap.size,4,none⟩) hX).trans auf⟩|exact⟨(ahq.cell (p:=⟨(w.heap.size+1),0,none⟩) hA).trans awj,(ahq.cell (p:=⟨(w.heap.size+1),1,none⟩) hA).trans awk,(ahq.cell (p:=⟨(w.heap.size+1),2,none⟩) hA).trans awl,(ahq.cell (p:=⟨(w.heap.size+1),3,none⟩) hA).trans awm,(ahq.cell (p:=⟨(w.heap.size+1),4,none⟩) hA).trans awn,(ahq.cell (p:=⟨w6.heap.size,0,none⟩) hX).trans aub,(ahq.cell (p:=⟨w6.heap.size,1,none⟩) hX).trans auc,(ahq.cell (p:=⟨w6.heap.size,2,none⟩) hX).trans aud,(ahq.cell (p:=⟨w6.heap.size,3,none⟩) hX).trans aue,(ahq.cell (p:=⟨w6.heap.size,4,none⟩) hX).trans auf⟩)
   (first|(go_at_call 9;refine TC.out.mono ?_;rintro e wy ⟨uy,rfl,Ly,hby⟩;have Ky:=Ly;obtain⟨a3t,a3u,a3v,bf7,bf8,bf9,rfl⟩:=qg.afp Ky;have Lxy:=Lx1.step ((Below.refl w11.heap.size w11).drew.trans hby))|(go_at_call 11;refine(awz _ wy.heap.size [.string xq,.string dh,.string xu,.slice zy aac aad,.slice ab4 ab5 ab6] [.string xq,.string dh,.string xu,.slice a3t a3u a3v,.slice bf7 bf8 bf9] _ (Nat.le_refl _) (by exact Lxy.is) (by exact Ly.is)).mono ?_;rintro e w12 ⟨rfl,hbz⟩;have ahq:Below w11.heap.size w11 w12:=((Below.refl _ _).drew.trans hby).trans (hbz.mono hby.size)))
  have akq:=ahq
  have bv6:=akq.size
  have bqh:=a9p.trans (akq.mono a9p.size)
  replace Gw:=Gw.step akq
  replace Lx0:=Lx0.step akq
  replace Lx1:=Lx1.step akq
  replace Gg:=Gg.step akq
  replace b0:=b0.step akq
  replace b1:=b1.step akq
  replace bW:=bW.step akq
  replace bX0:=bX0.step akq
  replace bX1:=bX1.step akq
  replace bG:=bG.step akq
  clear ahq hbz hby Lxy Ly TC hA hX
  clear awj awk awl awm awn aub auc aud aue auf
  go_wp2_with fail
  go_ret
  exact⟨rfl,bqh⟩
end Go.Proofs.YtbafphecjijdmaaGreatDoor
