/-
  FnExactFaceServes: the law's walk (by program: lawgen2.py).
-/
import Derived.Test.YtbafphecjijdmaaGreatDoorFa05
import Derived.Test.YtbafphecjijdmaaGreatDoorFa06
import Derived.Test.YtbafphecjijdmaaGreatDoorFa07
import Derived.Test.YtbafphecjijdmaaGreatDoorFa08
import Derived.Test.YtbafphecjijdmaaGreatDoorFa46
namespace Go.Proofs.YtbafphecjijdmaaGreatDoor
open Go.RowKit
set_option linter.unusedVariables false
set_option linter.unusedSimpArgs false
set_option linter.unnecessarySimpa false
set_option maxRecDepth 100000
set_option maxHeartbeats 6400000 in
theorem apk (w:World) (hT:al2 w) (v0:Value) (h0:axo w v0) (v1:Value) (h1:axo w v1):
  Calls Tryz.prog 3 #[v0,v1] w fun e w'=>e=.returned (.bool true)∧Below w.heap.size w w':=by
 obtain⟨t,cs,rfl,hwf,hr⟩:=h0
 obtain⟨package,name,version,resources,funcs⟩:=t
 obtain⟨qh,aat,rfl,_,_⟩:=qg.open_ hr
 have WF0:=Lib.hid hwf
 have R0:=Lib.hid hr
 clear hwf hr
 obtain⟨z0,hz⟩:∃ z:Nat,z=PD.szL (qg.pd ⟨package,name,version,resources,funcs⟩):=⟨_,rfl⟩
 have Z0:=Lib.hid hz
 clear hz
 obtain⟨t,cs,rfl,hwf,hr⟩:=h1
 obtain⟨yx,dh,y5,aof,axn⟩:=t
 obtain⟨ab8,aev,rfl,_,_⟩:=qg.open_ hr
 have WF1:=Lib.hid hwf
 have R1:=Lib.hid hr
 clear hwf hr
 obtain⟨z1,hz⟩:∃ z:Nat,z=PD.szL (qg.pd ⟨yx,dh,y5,aof,axn⟩):=⟨_,rfl⟩
 have Z1:=Lib.hid hz
 clear hz
 by_cases ht0:z0≤1048576
 case neg=>
  go_enter Tryz.func3,Tryz.ntmps3
  go_wp2_with fail
  obtain⟨w0,hw0⟩:∃ W,W=((w.alloc (.cells #[.string package,.string name,.string version,qh,aat] 25)).alloc (.cells #[.string yx,.string dh,.string y5,ab8,aev] 25)):=⟨_,rfl⟩
  rw[← hw0]
  have hB0:Below w.heap.size w w0:=by rw[hw0];exact((Below.refl _ _).alloc (Nat.le_refl _) _).alloc (by simp) _
  have b0:Blk w0 w.heap.size 25 #[.string package,.string name,.string version,qh,aat]:=by rw[hw0];exact((Blk.new w _ _).alloc _)
  have b1:Blk w0 (w.heap.size+1) 25 #[.string yx,.string dh,.string y5,ab8,aev]:=by rw[hw0];exact by simpa using (Blk.new (w.alloc (.cells #[.string package,.string name,.string version,qh,aat] 25)) _ _)
  clear hw0
  have hs0:=hB0.size
  have hl0:=b0.lt
  refine(amg _ w.heap.size [.string package,.string name,.string version,qh,aat] _ (1048576) (by omega) (by omega) hB0.size WF0.out (R0.out.below hB0)).mono ?_
  rintro e w1 ⟨rfl,hb1⟩
  have hs1:=hb1.size
  have hB1:=hB0.trans (hb1.mono hB0.size)
  replace b0:=b0.step hb1
  replace b1:=b1.step hb1
  rw[← Z0.out,abe (by omega)]
  go_wp2_with fail
  go_ret
  exact⟨rfl,hB1⟩
 by_cases ht1:z0+z1≤1048576
 case neg=>
  go_enter Tryz.func3,Tryz.ntmps3
  go_wp2_with fail
  obtain⟨w0,hw0⟩:∃ W,W=((w.alloc (.cells #[.string package,.string name,.string version,qh,aat] 25)).alloc (.cells #[.string yx,.string dh,.string y5,ab8,aev] 25)):=⟨_,rfl⟩
  rw[← hw0]
  have hB0:Below w.heap.size w w0:=by rw[hw0];exact((Below.refl _ _).alloc (Nat.le_refl _) _).alloc (by simp) _
  have b0:Blk w0 w.heap.size 25 #[.string package,.string name,.string version,qh,aat]:=by rw[hw0];exact((Blk.new w _ _).alloc _)
  have b1:Blk w0 (w.heap.size+1) 25 #[.string yx,.string dh,.string y5,ab8,aev]:=by rw[hw0];exact by simpa using (Blk.new (w.alloc (.cells #[.string package,.string name,.string version,qh,aat] 25)) _ _)
  clear hw0
  have hs0:=hB0.size
  have hl0:=b0.lt
  refine(amg _ w.heap.size [.string package,.string name,.string version,qh,aat] _ (1048576) (by omega) (by omega) hB0.size WF0.out (R0.out.below hB0)).mono ?_
  rintro e w1 ⟨rfl,hb1⟩
  have hs1:=hb1.size
  have hB1:=hB0.trans (hb1.mono hB0.size)
  replace b0:=b0.step hb1
  replace b1:=b1.step hb1
  rw[← Z0.out,ac4 (by omega)]
  have hp0:(0:Int)≤1048576 - (z0:Int):=by omega
  have c1_b00:w1.cell? ⟨w.heap.size,0,none⟩=some (.string package):=b0.cell 0
  have c2_b01:w1.cell? ⟨w.heap.size,1,none⟩=some (.string name):=b0.cell 1
  have c3_b02:w1.cell? ⟨w.heap.size,2,none⟩=some (.string version):=b0.cell 2
  have c4_b03:w1.cell? ⟨w.heap.size,3,none⟩=some (qh):=b0.cell 3
  have c5_b04:w1.cell? ⟨w.heap.size,4,none⟩=some (aat):=b0.cell 4
  have c6_b10:w1.cell? ⟨(w.heap.size+1),0,none⟩=some (.string yx):=b1.cell 0
  have c7_b11:w1.cell? ⟨(w.heap.size+1),1,none⟩=some (.string dh):=b1.cell 1
  have c8_b12:w1.cell? ⟨(w.heap.size+1),2,none⟩=some (.string y5):=b1.cell 2
  have c9_b13:w1.cell? ⟨(w.heap.size+1),3,none⟩=some (ab8):=b1.cell 3
  have c10_b14:w1.cell? ⟨(w.heap.size+1),4,none⟩=some (aev):=b1.cell 4
  go_wp2_with fail
  clear c1_b00 c2_b01 c3_b02 c4_b03 c5_b04 c6_b10 c7_b11 c8_b12 c9_b13 c10_b14
  refine(amg _ w.heap.size [.string yx,.string dh,.string y5,ab8,aev] _ (1048576 - (z0:Int)) (by omega) (by omega) hB1.size WF1.out (R1.out.below hB1)).mono ?_
  rintro e w2 ⟨rfl,hb2⟩
  have hs2:=hb2.size
  have hB2:=hB1.trans (hb2.mono hB1.size)
  replace b0:=b0.step hb2
  replace b1:=b1.step hb2
  rw[← Z1.out,abe (by omega)]
  go_wp2_with fail
  go_ret
  exact⟨rfl,hB2⟩
 have SP:=aus (⟨package,name,version,resources,funcs⟩:qg) (⟨yx,dh,y5,aof,axn⟩:qg) WF0.out (by rw[← Z0.out];omega) WF1.out (by rw[← Z1.out];omega)
 have IM:=aut (⟨package,name,version,resources,funcs⟩:qg) (⟨yx,dh,y5,aof,axn⟩:qg) WF0.out (by rw[← Z0.out];omega) WF1.out (by rw[← Z1.out];omega)
 obtain⟨r0,hrr⟩:∃ r:Bool,r=ala ⟨package,name,version,resources,funcs⟩ ⟨yx,dh,y5,aof,axn⟩:=⟨_,rfl⟩
 rw[← hrr] at SP IM
 clear hrr
 have hne0:(r0 != r0)=false:=by simp
 have SP':=Lib.hid SP
 have IM':=Lib.hid IM
 clear SP IM
 go_enter Tryz.func3,Tryz.ntmps3
 go_wp2_with fail
 obtain⟨w0,hw0⟩:∃ W,W=((w.alloc (.cells #[.string package,.string name,.string version,qh,aat] 25)).alloc (.cells #[.string yx,.string dh,.string y5,ab8,aev] 25)):=⟨_,rfl⟩
 rw[← hw0]
 have hB0:Below w.heap.size w w0:=by rw[hw0];exact((Below.refl _ _).alloc (Nat.le_refl _) _).alloc (by simp) _
 have b0:Blk w0 w.heap.size 25 #[.string package,.string name,.string version,qh,aat]:=by rw[hw0];exact((Blk.new w _ _).alloc _)
 have b1:Blk w0 (w.heap.size+1) 25 #[.string yx,.string dh,.string y5,ab8,aev]:=by rw[hw0];exact by simpa using (Blk.new (w.alloc (.cells #[.string package,.string name,.string version,qh,aat] 25)) _ _)
 clear hw0
 have hs0:=hB0.size
 have hl0:=b0.lt
 refine(amg _ w.heap.size [.string package,.string name,.string version,qh,aat] _ (1048576) (by omega) (by omega) hB0.size WF0.out (R0.out.below hB0)).mono ?_
 rintro e w1 ⟨rfl,hb1⟩
 have hs1:=hb1.size
 have hB1:=hB0.trans (hb1.mono hB0.size)
 replace b0:=b0.step hb1
 replace b1:=b1.step hb1
 rw[← Z0.out,ac4 (by omega)]
 have hp0:(0:Int)≤1048576 - (z0:Int):=by omega
 have c11_b00:w1.cell? ⟨w.heap.size,0,none⟩=some (.string package):=b0.cell 0
 have c12_b01:w1.cell? ⟨w.heap.size,1,none⟩=some (.string name):=b0.cell 1
 have c13_b02:w1.cell? ⟨w.heap.size,2,none⟩=some (.string version):=b0.cell 2
 have c14_b03:w1.cell? ⟨w.heap.size,3,none⟩=some (qh):=b0.cell 3
 have c15_b04:w1.cell? ⟨w.heap.size,4,none⟩=some (aat):=b0.cell 4
 have c16_b10:w1.cell? ⟨(w.heap.size+1),0,none⟩=some (.string yx):=b1.cell 0
 have c17_b11:w1.cell? ⟨(w.heap.size+1),1,none⟩=some (.string dh):=b1.cell 1
 have c18_b12:w1.cell? ⟨(w.heap.size+1),2,none⟩=some (.string y5):=b1.cell 2
 have c19_b13:w1.cell? ⟨(w.heap.size+1),3,none⟩=some (ab8):=b1.cell 3
 have c20_b14:w1.cell? ⟨(w.heap.size+1),4,none⟩=some (aev):=b1.cell 4
 go_wp2_with fail
 clear c11_b00 c12_b01 c13_b02 c14_b03 c15_b04 c16_b10 c17_b11 c18_b12 c19_b13 c20_b14
 refine(amg _ w.heap.size [.string yx,.string dh,.string y5,ab8,aev] _ (1048576 - (z0:Int)) (by omega) (by omega) hB1.size WF1.out (R1.out.below hB1)).mono ?_
 rintro e w2 ⟨rfl,hb2⟩
 have hs2:=hb2.size
 have hB2:=hB1.trans (hb2.mono hB1.size)
 replace b0:=b0.step hb2
 replace b1:=b1.step hb2
 rw[← Z1.out,ac4 (by omega)]
 have hp1:(0:Int)≤1048576 - (z0:Int) - (z1:Int):=by omega
 have c21_b00:w2.cell? ⟨w.heap.size,0,none⟩=some (.string package):=b0.cell 0
 have c22_b01:w2.cell? ⟨w.heap.size,1,none⟩=some (.string name):=b0.cell 1
 have c23_b02:w2.cell? ⟨w.heap.size,2,none⟩=some (.string version):=b0.cell 2
 have c24_b03:w2.cell? ⟨w.heap.size,3,none⟩=some (qh):=b0.cell 3
 have c25_b04:w2.cell? ⟨w.heap.size,4,none⟩=some (aat):=b0.cell 4
 have c26_b10:w2.cell? ⟨(w.heap.size+1),0,none⟩=some (.string yx):=b1.cell 0
 have c27_b11:w2.cell? ⟨(w.heap.size+1),1,none⟩=some (.string dh):=b1.cell 1
 have c28_b12:w2.cell? ⟨(w.heap.size+1),2,none⟩=some (.string y5):=b1.cell 2
 have c29_b13:w2.cell? ⟨(w.heap.size+1),3,none⟩=some (ab8):=b1.cell 3
 have c30_b14:w2.cell? ⟨(w.heap.size+1),4,none⟩=some (aev):=b1.cell 4
 go_wp2_with fail
 clear c21_b00 c22_b01 c23_b02 c24_b03 c25_b04 c26_b10 c27_b11 c28_b12 c29_b13 c30_b14
 have aud:w2.cell? ⟨w.heap.size,0,none⟩=some (.string package):=b0.cell 0
 have aue:w2.cell? ⟨w.heap.size,1,none⟩=some (.string name):=b0.cell 1
 have auf:w2.cell? ⟨w.heap.size,2,none⟩=some (.string version):=b0.cell 2
 have aug:w2.cell? ⟨w.heap.size,3,none⟩=some (qh):=b0.cell 3
 have auh:w2.cell? ⟨w.heap.size,4,none⟩=some (aat):=b0.cell 4
 have aui:w2.cell? ⟨(w.heap.size+1),0,none⟩=some (.string yx):=b1.cell 0
 have auj:w2.cell? ⟨(w.heap.size+1),1,none⟩=some (.string dh):=b1.cell 1
 have auk:w2.cell? ⟨(w.heap.size+1),2,none⟩=some (.string y5):=b1.cell 2
 have aul:w2.cell? ⟨(w.heap.size+1),3,none⟩=some (ab8):=b1.cell 3
 have aum:w2.cell? ⟨(w.heap.size+1),4,none⟩=some (aev):=b1.cell 4
 have ai3:=b0.lt
 have ai4:=b1.lt
 go_region_held3 (fun w'=>w'.cell? ⟨w.heap.size,0,none⟩=some (.string package)∧w'.cell? ⟨w.heap.size,1,none⟩=some (.string name)∧w'.cell? ⟨w.heap.size,2,none⟩=some (.string version)∧w'.cell? ⟨w.heap.size,3,none⟩=some (qh)∧w'.cell? ⟨w.heap.size,4,none⟩=some (aat)∧w'.cell? ⟨(w.heap.size+1),0,none⟩=some (.string yx)∧w'.cell? ⟨(w.heap.size+1),1,none⟩=some (.string dh)∧w'.cell? ⟨(w.heap.size+1),2,none⟩=some (.string y5)∧w'.cell? ⟨(w.heap.size+1),3,none⟩=some (ab8)∧w'.cell? ⟨(w.heap.size+1),4,none⟩=some (aev))
  (first|go_keep|exact⟨(hq0.cell (p:=⟨w.heap.size,0,none⟩) ai3).trans aud,(hq0.cell (p:=⟨w.heap.size,1,none⟩) ai3).trans aue,(hq0.cell (p:=⟨w.heap.size,2,none⟩) ai3).trans auf,(hq0.cell (p:=⟨w.heap.size,3,none⟩) ai3).trans aug,(hq0.cell (p:=⟨w.heap.size,4,none⟩) ai3).trans auh,(hq0.cell (p:=⟨(w.heap.size+1),0,none⟩) ai4).trans aui,(hq0.cell (p:=⟨(w.heap.size+1),1,none⟩) ai4).trans auj,(hq0.cell (p:=⟨(w.heap.size+1),2,none⟩) ai4).trans auk,(hq0.cell (p:=⟨(w.heap.size+1),3,none⟩) ai4).trans aul,(hq0.cell (p:=⟨(w.heap.size+1),4,none⟩) ai4).trans aum⟩|exact⟨(hq1.cell (p:=⟨w.heap.size,0,none⟩) ai3).trans aud,(hq1.cell (p:=⟨w.heap.size,1,none⟩) ai3).trans aue,(hq1.cell (p:=⟨w.heap.size,2,none⟩) ai3).trans auf,(hq1.cell (p:=⟨w.heap.size,3,none⟩) ai3).trans aug,(hq1.cell (p:=⟨w.heap.size,4,none⟩) ai3).trans auh,(hq1.cell (p:=⟨(w.heap.size+1),0,none⟩) ai4).trans aui,(hq1.cell (p:=⟨(w.heap.size+1),1,none⟩) ai4).trans auj,(hq1.cell (p:=⟨(w.heap.size+1),2,none⟩) ai4).trans auk,(hq1.cell (p:=⟨(w.heap.size+1),3,none⟩) ai4).trans aul,(hq1.cell (p:=⟨(w.heap.size+1),4,none⟩) ai4).trans aum⟩|exact⟨(hqZ.cell (p:=⟨w.heap.size,0,none⟩) ai3).trans aud,(hqZ.cell (p:=⟨w.heap.size,1,none⟩) ai3).trans aue,(hqZ.cell (p:=⟨w.heap.size,2,none⟩) ai3).trans auf,(hqZ.cell (p:=⟨w.heap.size,3,none⟩) ai3).trans aug,(hqZ.cell (p:=⟨w.heap.size,4,none⟩) ai3).trans auh,(hqZ.cell (p:=⟨(w.heap.size+1),0,none⟩) ai4).trans aui,(hqZ.cell (p:=⟨(w.heap.size+1),1,none⟩) ai4).trans auj,(hqZ.cell (p:=⟨(w.heap.size+1),2,none⟩) ai4).trans auk,(hqZ.cell (p:=⟨(w.heap.size+1),3,none⟩) ai4).trans aul,(hqZ.cell (p:=⟨(w.heap.size+1),4,none⟩) ai4).trans aum⟩)
  (first|(go_at_call_of 9 qh;refine(ak1 _ w.heap.size [.string package,.string name,.string version,qh,aat] _ (by exact hB2.drew.size) (by rw[← Z0.out];omega) (by exact R0.out.below hB2.drew)).mono ?_;rintro e wq0 ⟨us0,rfl,Ls0,hbq⟩;have Ks0:=Ls0;obtain⟨a2a,a2b,a2c,a9s,a9t,a9u,rfl⟩:=qg.af7 Ks0;have hq0:Below w2.heap.size w2 wq0:=(Below.refl _ _).drew.trans hbq;have hBq0:=hB2.trans (hq0.mono hB2.size))|(go_at_call_of 9 ab8;refine(ak1 _ w.heap.size [.string yx,.string dh,.string y5,ab8,aev] _ (by exact hBq0.size) (by rw[← Z1.out];omega) (by exact R1.out.below hBq0)).mono ?_;rintro e wq1 ⟨us1,rfl,Ls1,hbq⟩;have Ks1:=Ls1;obtain⟨azt,azu,azv,a7p,a7q,a7r,rfl⟩:=qg.af7 Ks1;have hq1:Below w2.heap.size w2 wq1:=hq0.trans (hbq.mono hq0.size);have hBq1:=hB2.trans (hq1.mono hB2.size);replace Ls0:=Ls0.step hbq)|(go_at_call 8;refine(SP'.out wq1.heap.size [.string package,.string name,.string version,.slice a2a a2b a2c,.slice a9s a9t a9u] [.string yx,.string dh,.string y5,.slice azt azu azv,.slice a7p a7q a7r] _ (Nat.le_refl _) (hT.below hBq1) (by exact Ls0.is) (by exact Ls1.is)).mono ?_;rintro e w3 ⟨rfl,hbq⟩;have hqZ:=hq1.trans (hbq.mono hq1.size)))
 have hb3:=hqZ
 have hs3:=hb3.size
 have hB3:=hB2.trans (hb3.mono hB2.size)
 replace b0:=b0.step hb3
 replace b1:=b1.step hb3
 clear hqZ hbq Ls0 Ls1 hq0 hBq0 hq1 hBq1
 clear ai3 ai4
 clear aud aue auf aug auh aui auj auk aul aum
 have c41_b00:w3.cell? ⟨w.heap.size,0,none⟩=some (.string package):=b0.cell 0
 have c42_b01:w3.cell? ⟨w.heap.size,1,none⟩=some (.string name):=b0.cell 1
 have c43_b02:w3.cell? ⟨w.heap.size,2,none⟩=some (.string version):=b0.cell 2
 have c44_b03:w3.cell? ⟨w.heap.size,3,none⟩=some (qh):=b0.cell 3
 have c45_b04:w3.cell? ⟨w.heap.size,4,none⟩=some (aat):=b0.cell 4
 have c46_b10:w3.cell? ⟨(w.heap.size+1),0,none⟩=some (.string yx):=b1.cell 0
 have c47_b11:w3.cell? ⟨(w.heap.size+1),1,none⟩=some (.string dh):=b1.cell 1
 have c48_b12:w3.cell? ⟨(w.heap.size+1),2,none⟩=some (.string y5):=b1.cell 2
 have c49_b13:w3.cell? ⟨(w.heap.size+1),3,none⟩=some (ab8):=b1.cell 3
 have c50_b14:w3.cell? ⟨(w.heap.size+1),4,none⟩=some (aev):=b1.cell 4
 go_wp2_with fail
 clear c41_b00 c42_b01 c43_b02 c44_b03 c45_b04 c46_b10 c47_b11 c48_b12 c49_b13 c50_b14
 refine(ak1 _ w.heap.size [.string package,.string name,.string version,qh,aat] _ hB3.size (by rw[← Z0.out];omega) (R0.out.below hB3)).mono ?_
 rintro e w4 ⟨ux0,rfl,Lx0,hb4⟩
 have hs4:=hb4.size
 have hB4:=hB3.trans (hb4.mono hB3.size)
 replace b0:=b0.step hb4
 replace b1:=b1.step hb4
 have Kx0:=Lx0
 obtain⟨abj,abk,abl,ad1,ad2,ad3,rfl⟩:=qg.af7 Kx0
 clear Kx0
 obtain⟨w5,hw5⟩:∃ W,W=(w4.alloc (.cells #[.string package,.string name,.string version,.slice abj abk abl,.slice ad1 ad2 ad3] 30)):=⟨_,rfl⟩
 have hb5:Below w4.heap.size w4 w5:=by rw[hw5];exact(Below.refl _ _).alloc (Nat.le_refl _) _
 have bX0:Blk w5 w4.heap.size 30 #[.string package,.string name,.string version,.slice abj abk abl,.slice ad1 ad2 ad3]:=by rw[hw5];exact Blk.new w4 _ _
 have HW5:=Lib.hid hw5
 clear hw5
 have lb5:=bX0.lt
 have hs5:=hb5.size
 have hB5:=hB4.trans (hb5.mono hB4.size)
 replace Lx0:=Lx0.step hb5
 replace b0:=b0.step hb5
 replace b1:=b1.step hb5
 have c51_b00:(w4.alloc (.cells #[.string package,.string name,.string version,.slice abj abk abl,.slice ad1 ad2 ad3] 30)).cell? ⟨w.heap.size,0,none⟩=some (.string package):=by rw[← HW5.out];exact b0.cell 0
 have c52_b01:(w4.alloc (.cells #[.string package,.string name,.string version,.slice abj abk abl,.slice ad1 ad2 ad3] 30)).cell? ⟨w.heap.size,1,none⟩=some (.string name):=by rw[← HW5.out];exact b0.cell 1
 have c53_b02:(w4.alloc (.cells #[.string package,.string name,.string version,.slice abj abk abl,.slice ad1 ad2 ad3] 30)).cell? ⟨w.heap.size,2,none⟩=some (.string version):=by rw[← HW5.out];exact b0.cell 2
 have c54_b03:(w4.alloc (.cells #[.string package,.string name,.string version,.slice abj abk abl,.slice ad1 ad2 ad3] 30)).cell? ⟨w.heap.size,3,none⟩=some (qh):=by rw[← HW5.out];exact b0.cell 3
 have c55_b04:(w4.alloc (.cells #[.string package,.string name,.string version,.slice abj abk abl,.slice ad1 ad2 ad3] 30)).cell? ⟨w.heap.size,4,none⟩=some (aat):=by rw[← HW5.out];exact b0.cell 4
 have c56_b10:(w4.alloc (.cells #[.string package,.string name,.string version,.slice abj abk abl,.slice ad1 ad2 ad3] 30)).cell? ⟨(w.heap.size+1),0,none⟩=some (.string yx):=by rw[← HW5.out];exact b1.cell 0
 have c57_b11:(w4.alloc (.cells #[.string package,.string name,.string version,.slice abj abk abl,.slice ad1 ad2 ad3] 30)).cell? ⟨(w.heap.size+1),1,none⟩=some (.string dh):=by rw[← HW5.out];exact b1.cell 1
 have c58_b12:(w4.alloc (.cells #[.string package,.string name,.string version,.slice abj abk abl,.slice ad1 ad2 ad3] 30)).cell? ⟨(w.heap.size+1),2,none⟩=some (.string y5):=by rw[← HW5.out];exact b1.cell 2
 have c59_b13:(w4.alloc (.cells #[.string package,.string name,.string version,.slice abj abk abl,.slice ad1 ad2 ad3] 30)).cell? ⟨(w.heap.size+1),3,none⟩=some (ab8):=by rw[← HW5.out];exact b1.cell 3
 have c60_b14:(w4.alloc (.cells #[.string package,.string name,.string version,.slice abj abk abl,.slice ad1 ad2 ad3] 30)).cell? ⟨(w.heap.size+1),4,none⟩=some (aev):=by rw[← HW5.out];exact b1.cell 4
 have a9v:(w4.alloc (.cells #[.string package,.string name,.string version,.slice abj abk abl,.slice ad1 ad2 ad3] 30)).cell? ⟨w4.heap.size,0,none⟩=some (.string package):=by rw[← HW5.out];exact bX0.cell 0
 have a9w:(w4.alloc (.cells #[.string package,.string name,.string version,.slice abj abk abl,.slice ad1 ad2 ad3] 30)).cell? ⟨w4.heap.size,1,none⟩=some (.string name):=by rw[← HW5.out];exact bX0.cell 1
 have a9x:(w4.alloc (.cells #[.string package,.string name,.string version,.slice abj abk abl,.slice ad1 ad2 ad3] 30)).cell? ⟨w4.heap.size,2,none⟩=some (.string version):=by rw[← HW5.out];exact bX0.cell 2
 have a9y:(w4.alloc (.cells #[.string package,.string name,.string version,.slice abj abk abl,.slice ad1 ad2 ad3] 30)).cell? ⟨w4.heap.size,3,none⟩=some (.slice abj abk abl):=by rw[← HW5.out];exact bX0.cell 3
 have a9z:(w4.alloc (.cells #[.string package,.string name,.string version,.slice abj abk abl,.slice ad1 ad2 ad3] 30)).cell? ⟨w4.heap.size,4,none⟩=some (.slice ad1 ad2 ad3):=by rw[← HW5.out];exact bX0.cell 4
 go_wp2_with fail
 rw[← HW5.out]
 clear c51_b00 c52_b01 c53_b02 c54_b03 c55_b04 c56_b10 c57_b11 c58_b12 c59_b13 c60_b14 a9v a9w a9x a9y a9z
 clear HW5
 refine(ak1 _ w.heap.size [.string yx,.string dh,.string y5,ab8,aev] _ hB5.size (by rw[← Z1.out];omega) (R1.out.below hB5)).mono ?_
 rintro e w6 ⟨ux1,rfl,Lx1,hb6⟩
 have hs6:=hb6.size
 have hB6:=hB5.trans (hb6.mono hB5.size)
 replace Lx0:=Lx0.step hb6
 replace b0:=b0.step hb6
 replace b1:=b1.step hb6
 replace bX0:=bX0.step hb6
 have Kx1:=Lx1
 obtain⟨aaj,aak,aal,ach,aci,acj,rfl⟩:=qg.af7 Kx1
 clear Kx1
 obtain⟨w7,hw7⟩:∃ W,W=(w6.alloc (.cells #[.string yx,.string dh,.string y5,.slice aaj aak aal,.slice ach aci acj] 30)):=⟨_,rfl⟩
 have hb7:Below w6.heap.size w6 w7:=by rw[hw7];exact(Below.refl _ _).alloc (Nat.le_refl _) _
 have bX1:Blk w7 w6.heap.size 30 #[.string yx,.string dh,.string y5,.slice aaj aak aal,.slice ach aci acj]:=by rw[hw7];exact Blk.new w6 _ _
 have HW7:=Lib.hid hw7
 clear hw7
 have lb7:=bX1.lt
 have hs7:=hb7.size
 have hB7:=hB6.trans (hb7.mono hB6.size)
 replace Lx0:=Lx0.step hb7
 replace Lx1:=Lx1.step hb7
 replace b0:=b0.step hb7
 replace b1:=b1.step hb7
 replace bX0:=bX0.step hb7
 have c66_b00:(w6.alloc (.cells #[.string yx,.string dh,.string y5,.slice aaj aak aal,.slice ach aci acj] 30)).cell? ⟨w.heap.size,0,none⟩=some (.string package):=by rw[← HW7.out];exact b0.cell 0
 have c67_b01:(w6.alloc (.cells #[.string yx,.string dh,.string y5,.slice aaj aak aal,.slice ach aci acj] 30)).cell? ⟨w.heap.size,1,none⟩=some (.string name):=by rw[← HW7.out];exact b0.cell 1
 have c68_b02:(w6.alloc (.cells #[.string yx,.string dh,.string y5,.slice aaj aak aal,.slice ach aci acj] 30)).cell? ⟨w.heap.size,2,none⟩=some (.string version):=by rw[← HW7.out];exact b0.cell 2
 have c69_b03:(w6.alloc (.cells #[.string yx,.string dh,.string y5,.slice aaj aak aal,.slice ach aci acj] 30)).cell? ⟨w.heap.size,3,none⟩=some (qh):=by rw[← HW7.out];exact b0.cell 3
 have c70_b04:(w6.alloc (.cells #[.string yx,.string dh,.string y5,.slice aaj aak aal,.slice ach aci acj] 30)).cell? ⟨w.heap.size,4,none⟩=some (aat):=by rw[← HW7.out];exact b0.cell 4
 have c71_b10:(w6.alloc (.cells #[.string yx,.string dh,.string y5,.slice aaj aak aal,.slice ach aci acj] 30)).cell? ⟨(w.heap.size+1),0,none⟩=some (.string yx):=by rw[← HW7.out];exact b1.cell 0
 have c72_b11:(w6.alloc (.cells #[.string yx,.string dh,.string y5,.slice aaj aak aal,.slice ach aci acj] 30)).cell? ⟨(w.heap.size+1),1,none⟩=some (.string dh):=by rw[← HW7.out];exact b1.cell 1
 have c73_b12:(w6.alloc (.cells #[.string yx,.string dh,.string y5,.slice aaj aak aal,.slice ach aci acj] 30)).cell? ⟨(w.heap.size+1),2,none⟩=some (.string y5):=by rw[← HW7.out];exact b1.cell 2
 have c74_b13:(w6.alloc (.cells #[.string yx,.string dh,.string y5,.slice aaj aak aal,.slice ach aci acj] 30)).cell? ⟨(w.heap.size+1),3,none⟩=some (ab8):=by rw[← HW7.out];exact b1.cell 3
 have c75_b14:(w6.alloc (.cells #[.string yx,.string dh,.string y5,.slice aaj aak aal,.slice ach aci acj] 30)).cell? ⟨(w.heap.size+1),4,none⟩=some (aev):=by rw[← HW7.out];exact b1.cell 4
 have a90:(w6.alloc (.cells #[.string yx,.string dh,.string y5,.slice aaj aak aal,.slice ach aci acj] 30)).cell? ⟨w4.heap.size,0,none⟩=some (.string package):=by rw[← HW7.out];exact bX0.cell 0
 have a94:(w6.alloc (.cells #[.string yx,.string dh,.string y5,.slice aaj aak aal,.slice ach aci acj] 30)).cell? ⟨w4.heap.size,1,none⟩=some (.string name):=by rw[← HW7.out];exact bX0.cell 1
 have a95:(w6.alloc (.cells #[.string yx,.string dh,.string y5,.slice aaj aak aal,.slice ach aci acj] 30)).cell? ⟨w4.heap.size,2,none⟩=some (.string version):=by rw[← HW7.out];exact bX0.cell 2
 have a96:(w6.alloc (.cells #[.string yx,.string dh,.string y5,.slice aaj aak aal,.slice ach aci acj] 30)).cell? ⟨w4.heap.size,3,none⟩=some (.slice abj abk abl):=by rw[← HW7.out];exact bX0.cell 3
 have a97:(w6.alloc (.cells #[.string yx,.string dh,.string y5,.slice aaj aak aal,.slice ach aci acj] 30)).cell? ⟨w4.heap.size,4,none⟩=some (.slice ad1 ad2 ad3):=by rw[← HW7.out];exact bX0.cell 4
 have a98:(w6.alloc (.cells #[.string yx,.string dh,.string y5,.slice aaj aak aal,.slice ach aci acj] 30)).cell? ⟨w6.heap.size,0,none⟩=some (.string yx):=by rw[← HW7.out];exact bX1.cell 0
 have a99:(w6.alloc (.cells #[.string yx,.string dh,.string y5,.slice aaj aak aal,.slice ach aci acj] 30)).cell? ⟨w6.heap.size,1,none⟩=some (.string dh):=by rw[← HW7.out];exact bX1.cell 1
 have bab:(w6.alloc (.cells #[.string yx,.string dh,.string y5,.slice aaj aak aal,.slice ach aci acj] 30)).cell? ⟨w6.heap.size,2,none⟩=some (.string y5):=by rw[← HW7.out];exact bX1.cell 2
 have bae:(w6.alloc (.cells #[.string yx,.string dh,.string y5,.slice aaj aak aal,.slice ach aci acj] 30)).cell? ⟨w6.heap.size,3,none⟩=some (.slice aaj aak aal):=by rw[← HW7.out];exact bX1.cell 3
 have baf:(w6.alloc (.cells #[.string yx,.string dh,.string y5,.slice aaj aak aal,.slice ach aci acj] 30)).cell? ⟨w6.heap.size,4,none⟩=some (.slice ach aci acj):=by rw[← HW7.out];exact bX1.cell 4
 go_wp2_with fail
 rw[← HW7.out]
 clear c66_b00 c67_b01 c68_b02 c69_b03 c70_b04 c71_b10 c72_b11 c73_b12 c74_b13 c75_b14 a90 a94 a95 a96 a97 a98 a99 bab bae baf
 clear HW7
 refine(IM'.out w7.heap.size [.string package,.string name,.string version,.slice abj abk abl,.slice ad1 ad2 ad3] [.string yx,.string dh,.string y5,.slice aaj aak aal,.slice ach aci acj] _ (Nat.le_refl _) (hT.below hB7) Lx0.is Lx1.is).mono ?_
 rintro e w8 ⟨rfl,hb8⟩
 have hs8:=hb8.size
 have hB8:=hB7.trans (hb8.mono hB7.size)
 replace Lx0:=Lx0.step hb8
 replace Lx1:=Lx1.step hb8
 replace b0:=b0.step hb8
 replace b1:=b1.step hb8
 replace bX0:=bX0.step hb8
 replace bX1:=bX1.step hb8
 have c86_b00:w8.cell? ⟨w.heap.size,0,none⟩=some (.string package):=b0.cell 0
 have c87_b01:w8.cell? ⟨w.heap.size,1,none⟩=some (.string name):=b0.cell 1
 have c88_b02:w8.cell? ⟨w.heap.size,2,none⟩=some (.string version):=b0.cell 2
 have c89_b03:w8.cell? ⟨w.heap.size,3,none⟩=some (qh):=b0.cell 3
 have c90_b04:w8.cell? ⟨w.heap.size,4,none⟩=some (aat):=b0.cell 4
 have c91_b10:w8.cell? ⟨(w.heap.size+1),0,none⟩=some (.string yx):=b1.cell 0
 have c92_b11:w8.cell? ⟨(w.heap.size+1),1,none⟩=some (.string dh):=b1.cell 1
 have c93_b12:w8.cell? ⟨(w.heap.size+1),2,none⟩=some (.string y5):=b1.cell 2
 have c94_b13:w8.cell? ⟨(w.heap.size+1),3,none⟩=some (ab8):=b1.cell 3
 have c95_b14:w8.cell? ⟨(w.heap.size+1),4,none⟩=some (aev):=b1.cell 4
 have bag:w8.cell? ⟨w4.heap.size,0,none⟩=some (.string package):=bX0.cell 0
 have bah:w8.cell? ⟨w4.heap.size,1,none⟩=some (.string name):=bX0.cell 1
 have bai:w8.cell? ⟨w4.heap.size,2,none⟩=some (.string version):=bX0.cell 2
 have baj:w8.cell? ⟨w4.heap.size,3,none⟩=some (.slice abj abk abl):=bX0.cell 3
 have a7s:w8.cell? ⟨w4.heap.size,4,none⟩=some (.slice ad1 ad2 ad3):=bX0.cell 4
 have a7t:w8.cell? ⟨w6.heap.size,0,none⟩=some (.string yx):=bX1.cell 0
 have a7u:w8.cell? ⟨w6.heap.size,1,none⟩=some (.string dh):=bX1.cell 1
 have a7v:w8.cell? ⟨w6.heap.size,2,none⟩=some (.string y5):=bX1.cell 2
 have a7w:w8.cell? ⟨w6.heap.size,3,none⟩=some (.slice aaj aak aal):=bX1.cell 3
 have a7x:w8.cell? ⟨w6.heap.size,4,none⟩=some (.slice ach aci acj):=bX1.cell 4
 go_wp2_with fail
 clear c86_b00 c87_b01 c88_b02 c89_b03 c90_b04 c91_b10 c92_b11 c93_b12 c94_b13 c95_b14 bag bah bai baj a7s a7t a7u a7v a7w a7x
 have avy:w8.cell? ⟨w.heap.size,0,none⟩=some (.string package):=b0.cell 0
 have avz:w8.cell? ⟨w.heap.size,1,none⟩=some (.string name):=b0.cell 1
 have av1:w8.cell? ⟨w.heap.size,2,none⟩=some (.string version):=b0.cell 2
 have av2:w8.cell? ⟨w.heap.size,3,none⟩=some (qh):=b0.cell 3
 have av3:w8.cell? ⟨w.heap.size,4,none⟩=some (aat):=b0.cell 4
 have ath:w8.cell? ⟨w4.heap.size,0,none⟩=some (.string package):=bX0.cell 0
 have ati:w8.cell? ⟨w4.heap.size,1,none⟩=some (.string name):=bX0.cell 1
 have atj:w8.cell? ⟨w4.heap.size,2,none⟩=some (.string version):=bX0.cell 2
 have atl:w8.cell? ⟨w4.heap.size,3,none⟩=some (.slice abj abk abl):=bX0.cell 3
 have atm:w8.cell? ⟨w4.heap.size,4,none⟩=some (.slice ad1 ad2 ad3):=bX0.cell 4
 have hA:=b0.lt
 have hX:=bX0.lt
 have TC:=Lib.hid (ak1 _ w.heap.size [.string package,.string name,.string version,qh,aat] w8.drew hB8.size (by rw[← Z0.out];omega) (by exact R0.out.below hB8.drew))
 go_region_held3 (fun w'=>w'.cell? ⟨w.heap.size,0,none⟩=some (.string package)∧w'.cell? ⟨w.heap.size,1,none⟩=some (.string name)∧w'.cell? ⟨w.heap.size,2,none⟩=some (.string version)∧w'.cell? ⟨w.heap.size,3,none⟩=some (qh)∧w'.cell? ⟨w.heap.size,4,none⟩=some (aat)∧w'.cell? ⟨w4.heap.size,0,none⟩=some (.string package)∧w'.cell? ⟨w4.heap.size,1,none⟩=some (.string name)∧w'.cell? ⟨w4.heap.size,2,none⟩=some (.string version)∧w'.cell? ⟨w4.heap.size,3,none⟩=some (.slice abj abk abl)∧w'.cell? ⟨w4.heap.size,4,none⟩=some (.slice ad1 ad2 ad3))
  (first|go_keep|exact⟨(hby.cell (p:=⟨w.heap.size,0,none⟩) hA).trans avy,(hby.cell (p:=⟨w.heap.size,1,none⟩) hA).trans avz,(hby.cell (p:=⟨w.heap.size,2,none⟩) hA).trans av1,(hby.cell (p:=⟨w.heap.size,3,none⟩) hA).trans av2,(hby.cell (p:=⟨w.heap.size,4,none⟩) hA).trans av3,(hby.cell (p:=⟨w4.heap.size,0,none⟩) hX).trans ath,(hby.cell (p:=⟨w4.heap.size,1,none⟩) hX).trans ati,(hby.cell (p:=⟨w4.heap.size,2,none⟩) hX).trans atj,(hby.cell (p:=⟨w4.heap.size,3,none⟩) hX).trans atl,(hby.cell (p:=⟨w4.heap.size,4,none⟩) hX).trans atm⟩|exact⟨(aho.cell (p:=⟨w.heap.size,0,none⟩) hA).trans avy,(aho.cell (p:=⟨w.heap.size,1,none⟩) hA).trans avz,(aho.cell (p:=⟨w.heap.size,2,none⟩) hA).trans av1,(aho.cell (p:=⟨w.heap.size,3,none⟩) hA).trans av2,(aho.cell (p:=⟨w.heap.size,4,none⟩) hA).trans av3,(aho.cell (p:=⟨w4.heap.size,0,none⟩) hX).trans ath,(aho.cell (p:=⟨w4.heap.size,1,none⟩) hX).trans ati,(aho.cell (p:=⟨w4.heap.size,2,none⟩) hX).trans atj,(aho.cell (p:=⟨w4.heap.size,3,none⟩) hX).trans atl,(aho.cell (p:=⟨w4.heap.size,4,none⟩) hX).trans atm⟩)
  (first|(go_at_call 9;refine TC.out.mono ?_;rintro e wy ⟨uy,rfl,Ly,hby⟩;have Ky:=Ly;obtain⟨a3s,a3t,a3u,funcsAy,funcsNy,funcsCy,rfl⟩:=qg.af7 Ky;have Lxy:=Lx0.step ((Below.refl w8.heap.size w8).drew.trans hby))|(go_at_call 11;refine(awm _ wy.heap.size [.string package,.string name,.string version,.slice abj abk abl,.slice ad1 ad2 ad3] [.string package,.string name,.string version,.slice a3s a3t a3u,.slice funcsAy funcsNy funcsCy] _ (Nat.le_refl _) (by exact Lxy.is) (by exact Ly.is)).mono ?_;rintro e w9 ⟨rfl,hbz⟩;have aho:Below w8.heap.size w8 w9:=((Below.refl _ _).drew.trans hby).trans (hbz.mono hby.size)))
 have hb9:=aho
 have hs9:=hb9.size
 have hB9:=hB8.trans (hb9.mono hB8.size)
 replace Lx0:=Lx0.step hb9
 replace Lx1:=Lx1.step hb9
 replace b0:=b0.step hb9
 replace b1:=b1.step hb9
 replace bX0:=bX0.step hb9
 replace bX1:=bX1.step hb9
 clear aho hbz hby Lxy Ly TC hA hX
 clear avy avz av1 av2 av3 ath ati atj atl atm
 have bak:w9.cell? ⟨w.heap.size,0,none⟩=some (.string package):=b0.cell 0
 have bam:w9.cell? ⟨w.heap.size,1,none⟩=some (.string name):=b0.cell 1
 have bao:w9.cell? ⟨w.heap.size,2,none⟩=some (.string version):=b0.cell 2
 have bap:w9.cell? ⟨w.heap.size,3,none⟩=some (qh):=b0.cell 3
 have bat:w9.cell? ⟨w.heap.size,4,none⟩=some (aat):=b0.cell 4
 have bau:w9.cell? ⟨(w.heap.size+1),0,none⟩=some (.string yx):=b1.cell 0
 have bav:w9.cell? ⟨(w.heap.size+1),1,none⟩=some (.string dh):=b1.cell 1
 have baw:w9.cell? ⟨(w.heap.size+1),2,none⟩=some (.string y5):=b1.cell 2
 have bax:w9.cell? ⟨(w.heap.size+1),3,none⟩=some (ab8):=b1.cell 3
 have bay:w9.cell? ⟨(w.heap.size+1),4,none⟩=some (aev):=b1.cell 4
 have a7y:w9.cell? ⟨w4.heap.size,0,none⟩=some (.string package):=bX0.cell 0
 have a7z:w9.cell? ⟨w4.heap.size,1,none⟩=some (.string name):=bX0.cell 1
 have a8a:w9.cell? ⟨w4.heap.size,2,none⟩=some (.string version):=bX0.cell 2
 have a8b:w9.cell? ⟨w4.heap.size,3,none⟩=some (.slice abj abk abl):=bX0.cell 3
 have a8c:w9.cell? ⟨w4.heap.size,4,none⟩=some (.slice ad1 ad2 ad3):=bX0.cell 4
 have a8d:w9.cell? ⟨w6.heap.size,0,none⟩=some (.string yx):=bX1.cell 0
 have a8e:w9.cell? ⟨w6.heap.size,1,none⟩=some (.string dh):=bX1.cell 1
 have a8f:w9.cell? ⟨w6.heap.size,2,none⟩=some (.string y5):=bX1.cell 2
 have a8g:w9.cell? ⟨w6.heap.size,3,none⟩=some (.slice aaj aak aal):=bX1.cell 3
 have a8h:w9.cell? ⟨w6.heap.size,4,none⟩=some (.slice ach aci acj):=bX1.cell 4
 go_wp2_with fail
 clear bak bam bao bap bat bau bav baw bax bay a7y a7z a8a a8b a8c a8d a8e a8f a8g a8h
 have av4:w9.cell? ⟨(w.heap.size+1),0,none⟩=some (.string yx):=b1.cell 0
 have av5:w9.cell? ⟨(w.heap.size+1),1,none⟩=some (.string dh):=b1.cell 1
 have av6:w9.cell? ⟨(w.heap.size+1),2,none⟩=some (.string y5):=b1.cell 2
 have av7:w9.cell? ⟨(w.heap.size+1),3,none⟩=some (ab8):=b1.cell 3
 have av8:w9.cell? ⟨(w.heap.size+1),4,none⟩=some (aev):=b1.cell 4
 have atn:w9.cell? ⟨w6.heap.size,0,none⟩=some (.string yx):=bX1.cell 0
 have ato:w9.cell? ⟨w6.heap.size,1,none⟩=some (.string dh):=bX1.cell 1
 have atp:w9.cell? ⟨w6.heap.size,2,none⟩=some (.string y5):=bX1.cell 2
 have atq:w9.cell? ⟨w6.heap.size,3,none⟩=some (.slice aaj aak aal):=bX1.cell 3
 have atr:w9.cell? ⟨w6.heap.size,4,none⟩=some (.slice ach aci acj):=bX1.cell 4
 have hA:=b1.lt
 have hX:=bX1.lt
 have TC:=Lib.hid (ak1 _ w.heap.size [.string yx,.string dh,.string y5,ab8,aev] w9.drew hB9.size (by rw[← Z1.out];omega) (by exact R1.out.below hB9.drew))
 go_region_held3 (fun w'=>w'.cell? ⟨(w.heap.size+1),0,none⟩=some (.string yx)∧w'.cell? ⟨(w.heap.size+1),1,none⟩=some (.string dh)∧w'.cell? ⟨(w.heap.size+1),2,none⟩=some (.string y5)∧w'.cell? ⟨(w.heap.size+1),3,none⟩=some (ab8)∧w'.cell? ⟨(w.heap.size+1),4,none⟩=some (aev)∧w'.cell? ⟨w6.heap.size,0,none⟩=some (.string yx)∧w'.cell? ⟨w6.heap.size,1,none⟩=some (.string dh)∧w'.cell? ⟨w6.heap.size,2,none⟩=some (.string y5)∧w'.cell? ⟨w6.heap.size,3,none⟩=some (.slice aaj aak aal)∧w'.cell? ⟨w6.heap.size,4,none⟩=some (.slice ach aci acj))
  (first|go_keep|exact⟨(hby.cell (p:=⟨(w.heap.size+1),0,none⟩) hA).trans av4,(hby.cell (p:=⟨(w.heap.size+1),1,none⟩) hA).trans av5,(hby.cell (p:=⟨(w.heap.size+1),2,none⟩) hA).trans av6,(hby.cell (p:=⟨(w.heap.size+1),3,none⟩) hA).trans av7,(hby.cell (p:=⟨(w.heap.size+1),4,none⟩) hA).trans av8,(hby.cell (p:=⟨w6.heap.size,0,none⟩) hX).trans atn,(hby.cell (p:=⟨w6.heap.size,1,none⟩) hX).trans ato,(hby.cell (p:=⟨w6.heap.size,2,none⟩) hX).trans atp,(hby.cell (p:=⟨w6.heap.size,3,none⟩) hX).trans atq,(hby.cell (p:=⟨w6.heap.size,4,none⟩) hX).trans atr⟩|exact⟨(aho.cell (p:=⟨(w.heap.size+1),0,none⟩) hA).trans av4,(aho.cell (p:=⟨(w.heap.size+1),1,none⟩) hA).trans av5,(aho.cell (p:=⟨(w.heap.size+1),2,none⟩) hA).trans av6,(aho.cell (p:=⟨(w.heap.size+1),3,none⟩) hA).trans av7,(aho.cell (p:=⟨(w.heap.size+1),4,none⟩) hA).trans av8,(aho.cell (p:=⟨w6.heap.size,0,none⟩) hX).trans atn,(aho.cell (p:=⟨w6.heap.size,1,none⟩) hX).trans ato,(aho.cell (p:=⟨w6.heap.size,2,none⟩) hX).trans atp,(aho.cell (p:=⟨w6.heap.size,3,none⟩) hX).trans atq,(aho.cell (p:=⟨w6.heap.size,4,none⟩) hX).trans atr⟩)
  (first|(go_at_call 9;refine TC.out.mono ?_;rintro e wy ⟨uy,rfl,Ly,hby⟩;have Ky:=Ly;obtain⟨a2d,a2e,a2f,ba0,ba1,ba2,rfl⟩:=qg.af7 Ky;have Lxy:=Lx1.step ((Below.refl w9.heap.size w9).drew.trans hby))|(go_at_call 11;refine(awm _ wy.heap.size [.string yx,.string dh,.string y5,.slice aaj aak aal,.slice ach aci acj] [.string yx,.string dh,.string y5,.slice a2d a2e a2f,.slice ba0 ba1 ba2] _ (Nat.le_refl _) (by exact Lxy.is) (by exact Ly.is)).mono ?_;rintro e w10 ⟨rfl,hbz⟩;have aho:Below w9.heap.size w9 w10:=((Below.refl _ _).drew.trans hby).trans (hbz.mono hby.size)))
 have hb10:=aho
 have hs10:=hb10.size
 have hB10:=hB9.trans (hb10.mono hB9.size)
 replace Lx0:=Lx0.step hb10
 replace Lx1:=Lx1.step hb10
 replace b0:=b0.step hb10
 replace b1:=b1.step hb10
 replace bX0:=bX0.step hb10
 replace bX1:=bX1.step hb10
 clear aho hbz hby Lxy Ly TC hA hX
 clear av4 av5 av6 av7 av8 atn ato atp atq atr
 go_wp2_with fail
 go_ret
 exact⟨rfl,hB10⟩
end Go.Proofs.YtbafphecjijdmaaGreatDoor
