/-
  The text of a module: spec.l15Text, spec.ModuleText (by program: gen_mt.py).
-/
import Derived.Test.YtlpcocfadppkhaaGreatDoorRa07
import Derived.Test.YtlpcocfadppkhaaGreatDoorRa19
import Derived.Deep.RegionHeld3
namespace Go.Proofs.YtlpcocfadppkhaaGreatDoor
open Go.RowKit
set_option linter.unusedVariables false
set_option linter.unusedSimpArgs false
set_option linter.unnecessarySimpa false
set_option maxRecDepth 16000
theorem wfS {n:Int} (h:0≤n∧n≤16):(Lit.int .i64 n).wf=true:=WalkArith.wf_i64 (by omega)
theorem aj9 (r:Bool) (w:World):Calls Tryz.prog 32 #[.bool r] w fun e w'=>e=.returned (.string (zu r))∧w=w':=by
 cases r
 all_goals
  go_enter Tryz.func32,Tryz.ntmps32
  go_wp2_with fail
  go_ret
  exact⟨rfl,rfl⟩
set_option maxHeartbeats 6400000 in
theorem afh (m:Mod) {B:Nat} {cs:List Value} {w:World} (hB:B≤w.heap.size) (hok:uy m=true) (h:jd w B (Mod.pd m) cs):
  Calls Tryz.prog 12 #[.agg cs.toArray] w fun e w'=>e=.returned (.string (aak m))∧Below w.heap.size w w':=by
 have hF:=asa hok
 obtain⟨pages,imports,cores⟩:=m
 obtain⟨jm,ng,rfl,gq,je⟩:=Mod.open_ h
 have tu:=Lib.hid gq
 clear gq
 have y5:=Lib.hid je
 clear je
 obtain⟨iA,iN,iC,rfl,hnI,hmI,anr⟩:=jr Imp.au (by decide) tu.out
 obtain⟨cA,cN,cC,rfl,hnC,hmC,ati⟩:=jr Core.au (by decide) y5.out
 unfold maxLen at hmI hmC
 have HNI:=Lib.hid hnI
 have HNC:=Lib.hid hnC
 have a1n:iN≤12:=by have:=hF.axk;simp only at this;omega
 have hC8:cN≤8:=by have:=hF.aul;simp only at this;omega
 have hpg:=hF.pages
 simp only at hpg
 have FI:=Lib.hid hF.imp
 have FC:=Lib.hid hF.core
 simp only at FI FC
 have HS0:=Lib.hid (ao9 hpg)
 have HSI:=Lib.hid (fun k=>apa FI.out k)
 have HSC:=Lib.hid (fun k=>amu FC.out k)
 clear h hnI hnC hF hok
 have agr:=Lib.hid (fun W=>aas pages (wfS (by omega)) W)
 have atj:(ay pages).size≤21:=aap (by omega)
 obtain⟨d0,ags⟩:∃ z,ay pages=z:=⟨_,rfl⟩
 rw[ags] at agr atj
 have aqf:=Lib.hid ags
 clear ags
 have az7:(9223372036854775807 < (⟨#[109,111,100,117,108,101,32]⟩:ByteArray).size+d0.size)=False:=eq_false (by have adl:(⟨#[109,111,100,117,108,101,32]⟩:ByteArray).size=7:=rfl;have bg:(⟨#[10]⟩:ByteArray).size=1:=rfl;omega)
 have az8:(9223372036854775807 < 7+d0.size)=False:=eq_false (by omega)
 obtain⟨p01,akb⟩:∃ p,(⟨#[109,111,100,117,108,101,32]⟩:ByteArray) ++d0=p:=⟨_,rfl⟩
 have az9:p01.size≤28:=by rw[← akb,ByteArray.size_append];have adl:(⟨#[109,111,100,117,108,101,32]⟩:ByteArray).size=7:=rfl;have bg:(⟨#[10]⟩:ByteArray).size=1:=rfl;omega
 have a0a:(9223372036854775807 < p01.size+(⟨#[10]⟩:ByteArray).size)=False:=eq_false (by have adl:(⟨#[109,111,100,117,108,101,32]⟩:ByteArray).size=7:=rfl;have bg:(⟨#[10]⟩:ByteArray).size=1:=rfl;omega)
 have a0b:(9223372036854775807 < p01.size+1)=False:=eq_false (by omega)
 obtain⟨p02,akc⟩:∃ p,p01 ++(⟨#[10]⟩:ByteArray)=p:=⟨_,rfl⟩
 have a0c:p02.size≤29:=by rw[← akc,ByteArray.size_append];have adl:(⟨#[109,111,100,117,108,101,32]⟩:ByteArray).size=7:=rfl;have bg:(⟨#[10]⟩:ByteArray).size=1:=rfl;omega
 have HE0:Hid (adx pages=p02):=by show _=_;rw[← akc,← akb,← aqf.out];rfl
 go_enter Tryz.func12,Tryz.ntmps12
 go_wp2_with fail
 obtain⟨w0,hw0⟩:∃ W,W=w.alloc (.cells #[.int .i64 pages,.slice iA iN iC,.slice cA cN cC] 25):=⟨_,rfl⟩
 rw[← hw0]
 have bA:Blk w0 w.heap.size 25 #[.int .i64 pages,.slice iA iN iC,.slice cA cN cC]:=by rw[hw0];exact Blk.new w _ _
 have hB0:Below w.heap.size w w0:=by rw[hw0];exact(Below.refl _ _).alloc (Nat.le_refl _) _
 clear hw0
 refine(agr.out w0).mono ?_
 rintro e w1 ⟨rfl,hb1⟩
 have hB1:=hB0.trans (hb1.mono hB0.size)
 replace bA:=bA.step hb1
 have a7k:=bA.lt
 go_wp2_with fail
 clear agr hb1 hB0
 go_loopw [3,4] (fun u i wr=>∃ (k:Nat) (s:ByteArray),u=.string s∧k≤iN∧i=.int .i64 k∧Hid (s=adx pages ++jo ((imports.take k).map ac0))∧Below w.heap.size w wr∧Blk wr w.heap.size 25 #[.int .i64 pages,.slice iA iN iC,.slice cA cN cC]) (fun _ i _=>iN - (intOf i).toNat)
 case atStart=>exact⟨0,_,rfl,Nat.zero_le _,rfl,Lib.hid (by rw[HE0.out];exact(ab8 _).symm),hB1,bA⟩
 case round=>
  clear hB1 bA
  obtain⟨k,s,rfl,hk,rfl,HS,hbr,bR⟩:=hrel
  have ls:s.size≤29+72 * k:=by have h1:=HS0.out;have h2:=HSI.out k;rw[HS.out,ByteArray.size_append];omega
  have hsz:=hbr.size
  have cI:wr.cell? ⟨w.heap.size,1,none⟩=some (.slice iA iN iC):=bR.cell 1
  have cC_:wr.cell? ⟨w.heap.size,2,none⟩=some (.slice cA cN cC):=bR.cell 2
  by_cases hlt:k < iN
  ·obtain⟨g,off,rfl,hg,hcell⟩:=anr (by omega)
   obtain⟨t,hx,hmem⟩:=l7 HNI.out hlt
   obtain⟨name,params,result⟩:=t
   have abm:wr.cell? ⟨g,off+k * 3,none⟩=some (.string name):=ak hbr (by omega) (hcell k 0 _ _ hx (by rw[Imp.aj];rfl))
   have aa9:wr.cell? ⟨g,off+k * 3+1,none⟩=some (.int .i64 params):=ak hbr (by omega) (hcell k 1 _ _ hx (by rw[Imp.aj];rfl))
   have abb:wr.cell? ⟨g,off+k * 3+2,none⟩=some (.bool result):=ak hbr (by omega) (hcell k 2 _ _ hx (by rw[Imp.aj];rfl))
   have HX:=Lib.hid hx
   have HM:=Lib.hid hmem
   clear hx hmem
   clear hcell
   have hFx:=FI.out _ HM.out
   have ajd:=hFx.name
   have hp8:=hFx.params
   simp only at ajd hp8
   have aev:=Lib.hid (fun W=>aas params (wfS (by omega)) W)
   have l_d:(ay params).size≤21:=aap (by omega)
   obtain⟨d,ab4⟩:∃ z,ay params=z:=⟨_,rfl⟩
   rw[ab4] at aev l_d
   have aje:=Lib.hid ab4
   clear ab4
   have l_b:=Nat.le_of_eq (acd result)
   have HB:=Lib.hid (fun W=>aj9 result W)
   obtain⟨b,hb_⟩:∃ z,zu result=z:=⟨_,rfl⟩
   rw[hb_] at HB l_b
   have ajf:=Lib.hid hb_
   clear hb_
   have atl:(9223372036854775807 < (⟨#[105,109,112,111,114,116,32]⟩:ByteArray).size+name.size)=False:=eq_false (by have ny:(⟨#[105,109,112,111,114,116,32]⟩:ByteArray).size=7:=rfl;have eu:(⟨#[32]⟩:ByteArray).size=1:=rfl;have bg:(⟨#[10]⟩:ByteArray).size=1:=rfl;omega)
   have atm:(9223372036854775807 < 7+name.size)=False:=eq_false (by omega)
   obtain⟨p1,aew⟩:∃ p,(⟨#[105,109,112,111,114,116,32]⟩:ByteArray) ++name=p:=⟨_,rfl⟩
   have atn:p1.size≤47:=by rw[← aew,ByteArray.size_append];have ny:(⟨#[105,109,112,111,114,116,32]⟩:ByteArray).size=7:=rfl;have eu:(⟨#[32]⟩:ByteArray).size=1:=rfl;have bg:(⟨#[10]⟩:ByteArray).size=1:=rfl;omega
   have ato:(9223372036854775807 < p1.size+(⟨#[32]⟩:ByteArray).size)=False:=eq_false (by have ny:(⟨#[105,109,112,111,114,116,32]⟩:ByteArray).size=7:=rfl;have eu:(⟨#[32]⟩:ByteArray).size=1:=rfl;have bg:(⟨#[10]⟩:ByteArray).size=1:=rfl;omega)
   have atp:(9223372036854775807 < p1.size+1)=False:=eq_false (by omega)
   obtain⟨p2,aex⟩:∃ p,p1 ++(⟨#[32]⟩:ByteArray)=p:=⟨_,rfl⟩
   have atq:p2.size≤48:=by rw[← aex,ByteArray.size_append];have ny:(⟨#[105,109,112,111,114,116,32]⟩:ByteArray).size=7:=rfl;have eu:(⟨#[32]⟩:ByteArray).size=1:=rfl;have bg:(⟨#[10]⟩:ByteArray).size=1:=rfl;omega
   have atr:(9223372036854775807 < p2.size+d.size)=False:=eq_false (by have ny:(⟨#[105,109,112,111,114,116,32]⟩:ByteArray).size=7:=rfl;have eu:(⟨#[32]⟩:ByteArray).size=1:=rfl;have bg:(⟨#[10]⟩:ByteArray).size=1:=rfl;omega)
   obtain⟨p3,aey⟩:∃ p,p2 ++d=p:=⟨_,rfl⟩
   have att:p3.size≤69:=by rw[← aey,ByteArray.size_append];have ny:(⟨#[105,109,112,111,114,116,32]⟩:ByteArray).size=7:=rfl;have eu:(⟨#[32]⟩:ByteArray).size=1:=rfl;have bg:(⟨#[10]⟩:ByteArray).size=1:=rfl;omega
   have atu:(9223372036854775807 < p3.size+(⟨#[32]⟩:ByteArray).size)=False:=eq_false (by have ny:(⟨#[105,109,112,111,114,116,32]⟩:ByteArray).size=7:=rfl;have eu:(⟨#[32]⟩:ByteArray).size=1:=rfl;have bg:(⟨#[10]⟩:ByteArray).size=1:=rfl;omega)
   have atv:(9223372036854775807 < p3.size+1)=False:=eq_false (by omega)
   obtain⟨p4,aez⟩:∃ p,p3 ++(⟨#[32]⟩:ByteArray)=p:=⟨_,rfl⟩
   have atw:p4.size≤70:=by rw[← aez,ByteArray.size_append];have ny:(⟨#[105,109,112,111,114,116,32]⟩:ByteArray).size=7:=rfl;have eu:(⟨#[32]⟩:ByteArray).size=1:=rfl;have bg:(⟨#[10]⟩:ByteArray).size=1:=rfl;omega
   have atx:(9223372036854775807 < p4.size+b.size)=False:=eq_false (by have ny:(⟨#[105,109,112,111,114,116,32]⟩:ByteArray).size=7:=rfl;have eu:(⟨#[32]⟩:ByteArray).size=1:=rfl;have bg:(⟨#[10]⟩:ByteArray).size=1:=rfl;omega)
   obtain⟨p5,ae0⟩:∃ p,p4 ++b=p:=⟨_,rfl⟩
   have aty:p5.size≤71:=by rw[← ae0,ByteArray.size_append];have ny:(⟨#[105,109,112,111,114,116,32]⟩:ByteArray).size=7:=rfl;have eu:(⟨#[32]⟩:ByteArray).size=1:=rfl;have bg:(⟨#[10]⟩:ByteArray).size=1:=rfl;omega
   have atz:(9223372036854775807 < p5.size+(⟨#[10]⟩:ByteArray).size)=False:=eq_false (by have ny:(⟨#[105,109,112,111,114,116,32]⟩:ByteArray).size=7:=rfl;have eu:(⟨#[32]⟩:ByteArray).size=1:=rfl;have bg:(⟨#[10]⟩:ByteArray).size=1:=rfl;omega)
   have at1:(9223372036854775807 < p5.size+1)=False:=eq_false (by omega)
   obtain⟨p6,ae1⟩:∃ p,p5 ++(⟨#[10]⟩:ByteArray)=p:=⟨_,rfl⟩
   have at6:p6.size≤72:=by rw[← ae1,ByteArray.size_append];have ny:(⟨#[105,109,112,111,114,116,32]⟩:ByteArray).size=7:=rfl;have eu:(⟨#[32]⟩:ByteArray).size=1:=rfl;have bg:(⟨#[10]⟩:ByteArray).size=1:=rfl;omega
   have y_s:(9223372036854775807 < s.size+p6.size)=False:=eq_false (by omega)
   have HL:Hid (ac0 ⟨name,params,result⟩=p6):=by show _=_;rw[← ae1,← ae0,← aez,← aey,← aex,← aew,← aje.out,← ajf.out];rfl
   have HQ:Hid (s ++p6=adx pages ++jo ((imports.take (k+1)).map ac0)):=by show _=_;rw[ab9 HX.out,HL.out,HS.out,x9]
   clear hFx
   go_wp2_with fail
   obtain⟨w5,hw5⟩:∃ W,W=wr.alloc (.cells #[.string name,.int .i64 params,.bool result] 52):=⟨_,rfl⟩
   rw[← hw5]
   have b5:Blk w5 wr.heap.size 52 #[.string name,.int .i64 params,.bool result]:=by rw[hw5];exact Blk.new wr _ _
   have hb5:Below wr.heap.size wr w5:=by rw[hw5];exact(Below.refl _ _).alloc (Nat.le_refl _) _
   clear hw5
   have hB5:=hbr.trans (hb5.mono hbr.size)
   have bR5:=bR.step hb5
   have hBd:Below w5.heap.size w5 w5.drew:=(Below.refl _ _).drew
   have bX:Blk w5.drew wr.heap.size 52 #[.string name,.int .i64 params,.bool result]:=b5
   go_region_held3 (fun w'=>w'.cell? ⟨wr.heap.size,0,none⟩=some (.string name)∧w'.cell? ⟨wr.heap.size,1,none⟩=some (.int .i64 params)∧w'.cell? ⟨wr.heap.size,2,none⟩=some (.bool result))
    (first|exact⟨bX.cell 0,bX.cell 1,bX.cell 2⟩|go_keep)
    (first
     | (go_at_call_of 31 params;refine(aev.out _).mono ?_;rintro e wq ⟨rfl,hbq⟩;replace hBd:=hBd.trans (hbq.mono hBd.size);replace bX:=bX.step hbq)
     | (go_at_call 32;refine(HB.out _).mono ?_;rintro e wq2 ⟨rfl,hwq⟩;subst hwq))
   all_goals
    have hB6:=hB5.trans (hBd.mono hB5.size)
    have bR6:=bR5.step hBd
    go_wp2_with fail
    go_roundw
    case rel=>exact⟨k+1,_,rfl,by omega,by go_num,HQ,hB6,bR6⟩
    case measure=>simp[intOf];omega
  ·have hkn:k=iN:=by omega
   subst hkn
   have HS1:Hid (s=adx pages ++jo (imports.map ac0)):=by show _=_;rw[HS.out,List.take_of_length_le (by have:=HNI.out;omega)]
   have HW1:Hid (s.size≤893):=by show _≤_;omega
   clear ls anr HS
   go_wp2_with fail
   obtain⟨W1,rfl⟩:∃ W,W=wr:=⟨_,rfl⟩
   go_loopw [3,6] (fun u i wr=>∃ (k2:Nat) (s2:ByteArray),u=.string s2∧k2≤cN∧i=.int .i64 k2∧Hid (s2=s ++jo ((cores.take k2).map abq))∧Below w.heap.size w wr∧Blk wr w.heap.size 25 #[.int .i64 pages,.slice iA k iC,.slice cA cN cC]) (fun _ i _=>cN - (intOf i).toNat)
   case atStart=>exact⟨0,_,rfl,Nat.zero_le _,rfl,Lib.hid (ab8 _).symm,hbr,bR⟩
   case round=>
    clear hbr bR cC_ hsz
    obtain⟨k2,s2,rfl,hk2,rfl,HS2,hbr,bR⟩:=hrel
    have ls:s2.size≤893+3812 * k2:=by have h1:=HW1.out;have h2:=HSC.out k2;rw[HS2.out,ByteArray.size_append];omega
    have hsz:=hbr.size
    have cC_:wr.cell? ⟨w.heap.size,2,none⟩=some (.slice cA cN cC):=bR.cell 2
    by_cases hlt:k2 < cN
    ·obtain⟨g,off,rfl,hg,hcell⟩:=ati (by omega)
     obtain⟨t,hx,hmem⟩:=l7 HNC.out hlt
     obtain⟨name,params,locals,result,code⟩:=t
     have abm:wr.cell? ⟨g,off+k2 * 5,none⟩=some (.string name):=ak hbr (by omega) (hcell k2 0 _ _ hx (by rw[Core.aj];rfl))
     have aa9:wr.cell? ⟨g,off+k2 * 5+1,none⟩=some (.int .i64 params):=ak hbr (by omega) (hcell k2 1 _ _ hx (by rw[Core.aj];rfl))
     have aeu:wr.cell? ⟨g,off+k2 * 5+2,none⟩=some (.int .i64 locals):=ak hbr (by omega) (hcell k2 2 _ _ hx (by rw[Core.aj];rfl))
     have abb:wr.cell? ⟨g,off+k2 * 5+3,none⟩=some (.bool result):=ak hbr (by omega) (hcell k2 3 _ _ hx (by rw[Core.aj];rfl))
     obtain⟨yj,aho,qy⟩:∃ u,wr.cell? ⟨g,off+k2 * 5+4,none⟩=some u∧Rep wr B (.row 2 (code.flatMap Ins.pd)) u:=abh hbr (by omega) hB (hcell k2 4 _ _ hx (by rw[Core.aj];rfl))
     have yu:=Lib.hid qy
     clear qy
     obtain⟨aax,um,aay,rfl⟩:=yu.out.form
     have HX:=Lib.hid hx
     have HM:=Lib.hid hmem
     clear hx hmem
     clear hcell
     have hFx:=FC.out _ HM.out
     have ajd:=hFx.name
     have hp8:=hFx.params
     have hl8:=hFx.locals
     have akd:=hFx.code
     have HIN:=Lib.hid hFx.ins
     simp only at ajd hp8 hl8 akd HIN
     have aev:=Lib.hid (fun W=>aas params (wfS (by omega)) W)
     have l_d:(ay params).size≤21:=aap (by omega)
     obtain⟨d,ab4⟩:∃ z,ay params=z:=⟨_,rfl⟩
     rw[ab4] at aev l_d
     have aje:=Lib.hid ab4
     clear ab4
     have ake:=Lib.hid (fun W=>aas locals (wfS (by omega)) W)
     have at7:(ay locals).size≤21:=aap (by omega)
     obtain⟨d2,agt⟩:∃ z,ay locals=z:=⟨_,rfl⟩
     rw[agt] at ake at7
     have aqg:=Lib.hid agt
     clear agt
     have l_b:=Nat.le_of_eq (acd result)
     have HB:=Lib.hid (fun W=>aj9 result W)
     obtain⟨b,hb_⟩:∃ z,zu result=z:=⟨_,rfl⟩
     rw[hb_] at HB l_b
     have ajf:=Lib.hid hb_
     clear hb_
     have atl:(9223372036854775807 < (⟨#[99,111,114,101,32]⟩:ByteArray).size+name.size)=False:=eq_false (by have iy:(⟨#[99,111,114,101,32]⟩:ByteArray).size=5:=rfl;have eu:(⟨#[32]⟩:ByteArray).size=1:=rfl;have bg:(⟨#[10]⟩:ByteArray).size=1:=rfl;omega)
     have atm:(9223372036854775807 < 5+name.size)=False:=eq_false (by omega)
     obtain⟨p1,aew⟩:∃ p,(⟨#[99,111,114,101,32]⟩:ByteArray) ++name=p:=⟨_,rfl⟩
     have atn:p1.size≤45:=by rw[← aew,ByteArray.size_append];have iy:(⟨#[99,111,114,101,32]⟩:ByteArray).size=5:=rfl;have eu:(⟨#[32]⟩:ByteArray).size=1:=rfl;have bg:(⟨#[10]⟩:ByteArray).size=1:=rfl;omega
     have ato:(9223372036854775807 < p1.size+(⟨#[32]⟩:ByteArray).size)=False:=eq_false (by have iy:(⟨#[99,111,114,101,32]⟩:ByteArray).size=5:=rfl;have eu:(⟨#[32]⟩:ByteArray).size=1:=rfl;have bg:(⟨#[10]⟩:ByteArray).size=1:=rfl;omega)
     have atp:(9223372036854775807 < p1.size+1)=False:=eq_false (by omega)
     obtain⟨p2,aex⟩:∃ p,p1 ++(⟨#[32]⟩:ByteArray)=p:=⟨_,rfl⟩
     have atq:p2.size≤46:=by rw[← aex,ByteArray.size_append];have iy:(⟨#[99,111,114,101,32]⟩:ByteArray).size=5:=rfl;have eu:(⟨#[32]⟩:ByteArray).size=1:=rfl;have bg:(⟨#[10]⟩:ByteArray).size=1:=rfl;omega
     have atr:(9223372036854775807 < p2.size+d.size)=False:=eq_false (by have iy:(⟨#[99,111,114,101,32]⟩:ByteArray).size=5:=rfl;have eu:(⟨#[32]⟩:ByteArray).size=1:=rfl;have bg:(⟨#[10]⟩:ByteArray).size=1:=rfl;omega)
     obtain⟨p3,aey⟩:∃ p,p2 ++d=p:=⟨_,rfl⟩
     have att:p3.size≤67:=by rw[← aey,ByteArray.size_append];have iy:(⟨#[99,111,114,101,32]⟩:ByteArray).size=5:=rfl;have eu:(⟨#[32]⟩:ByteArray).size=1:=rfl;have bg:(⟨#[10]⟩:ByteArray).size=1:=rfl;omega
     have atu:(9223372036854775807 < p3.size+(⟨#[32]⟩:ByteArray).size)=False:=eq_false (by have iy:(⟨#[99,111,114,101,32]⟩:ByteArray).size=5:=rfl;have eu:(⟨#[32]⟩:ByteArray).size=1:=rfl;have bg:(⟨#[10]⟩:ByteArray).size=1:=rfl;omega)
     have atv:(9223372036854775807 < p3.size+1)=False:=eq_false (by omega)
     obtain⟨p4,aez⟩:∃ p,p3 ++(⟨#[32]⟩:ByteArray)=p:=⟨_,rfl⟩
     have atw:p4.size≤68:=by rw[← aez,ByteArray.size_append];have iy:(⟨#[99,111,114,101,32]⟩:ByteArray).size=5:=rfl;have eu:(⟨#[32]⟩:ByteArray).size=1:=rfl;have bg:(⟨#[10]⟩:ByteArray).size=1:=rfl;omega
     have atx:(9223372036854775807 < p4.size+d2.size)=False:=eq_false (by have iy:(⟨#[99,111,114,101,32]⟩:ByteArray).size=5:=rfl;have eu:(⟨#[32]⟩:ByteArray).size=1:=rfl;have bg:(⟨#[10]⟩:ByteArray).size=1:=rfl;omega)
     obtain⟨p5,ae0⟩:∃ p,p4 ++d2=p:=⟨_,rfl⟩
     have aty:p5.size≤89:=by rw[← ae0,ByteArray.size_append];have iy:(⟨#[99,111,114,101,32]⟩:ByteArray).size=5:=rfl;have eu:(⟨#[32]⟩:ByteArray).size=1:=rfl;have bg:(⟨#[10]⟩:ByteArray).size=1:=rfl;omega
     have atz:(9223372036854775807 < p5.size+(⟨#[32]⟩:ByteArray).size)=False:=eq_false (by have iy:(⟨#[99,111,114,101,32]⟩:ByteArray).size=5:=rfl;have eu:(⟨#[32]⟩:ByteArray).size=1:=rfl;have bg:(⟨#[10]⟩:ByteArray).size=1:=rfl;omega)
     have at1:(9223372036854775807 < p5.size+1)=False:=eq_false (by omega)
     obtain⟨p6,ae1⟩:∃ p,p5 ++(⟨#[32]⟩:ByteArray)=p:=⟨_,rfl⟩
     have at6:p6.size≤90:=by rw[← ae1,ByteArray.size_append];have iy:(⟨#[99,111,114,101,32]⟩:ByteArray).size=5:=rfl;have eu:(⟨#[32]⟩:ByteArray).size=1:=rfl;have bg:(⟨#[10]⟩:ByteArray).size=1:=rfl;omega
     have a1o:(9223372036854775807 < p6.size+b.size)=False:=eq_false (by have iy:(⟨#[99,111,114,101,32]⟩:ByteArray).size=5:=rfl;have eu:(⟨#[32]⟩:ByteArray).size=1:=rfl;have bg:(⟨#[10]⟩:ByteArray).size=1:=rfl;omega)
     obtain⟨p7,ant⟩:∃ p,p6 ++b=p:=⟨_,rfl⟩
     have a1p:p7.size≤91:=by rw[← ant,ByteArray.size_append];have iy:(⟨#[99,111,114,101,32]⟩:ByteArray).size=5:=rfl;have eu:(⟨#[32]⟩:ByteArray).size=1:=rfl;have bg:(⟨#[10]⟩:ByteArray).size=1:=rfl;omega
     have a1q:(9223372036854775807 < p7.size+(⟨#[10]⟩:ByteArray).size)=False:=eq_false (by have iy:(⟨#[99,111,114,101,32]⟩:ByteArray).size=5:=rfl;have eu:(⟨#[32]⟩:ByteArray).size=1:=rfl;have bg:(⟨#[10]⟩:ByteArray).size=1:=rfl;omega)
     have a1r:(9223372036854775807 < p7.size+1)=False:=eq_false (by omega)
     obtain⟨p8,anu⟩:∃ p,p7 ++(⟨#[10]⟩:ByteArray)=p:=⟨_,rfl⟩
     have a1s:p8.size≤92:=by rw[← anu,ByteArray.size_append];have iy:(⟨#[99,111,114,101,32]⟩:ByteArray).size=5:=rfl;have eu:(⟨#[32]⟩:ByteArray).size=1:=rfl;have bg:(⟨#[10]⟩:ByteArray).size=1:=rfl;omega
     have y_s:(9223372036854775807 < s2.size+p8.size)=False:=eq_false (by omega)
     have HL:Hid (ae8 ⟨name,params,locals,result,code⟩=p8):=by show _=_;rw[← anu,← ant,← ae1,← ae0,← aez,← aey,← aex,← aew,← aje.out,← aqg.out,← ajf.out];rfl
     have HZ:=Lib.hid (fun j=>apb HIN.out j)
     obtain⟨_,_,_,he,hnK,hmK,aua⟩:=jr Ins.au (by decide) yu.out
     injection he with e1 e2 e3
     subst e1 e2 e3
     unfold maxLen at hmK
     have HNK:=Lib.hid hnK
     have a0d:um≤120:=by rw[hnK];exact akd
     clear hFx hnK
     go_wp2_with fail
     obtain⟨w5,hw5⟩:∃ W,W=wr.alloc (.cells #[.string name,.int .i64 params,.int .i64 locals,.bool result,.slice aax um aay] 36):=⟨_,rfl⟩
     rw[← hw5]
     have b5:Blk w5 wr.heap.size 36 #[.string name,.int .i64 params,.int .i64 locals,.bool result,.slice aax um aay]:=by rw[hw5];exact Blk.new wr _ _
     have hb5:Below wr.heap.size wr w5:=by rw[hw5];exact(Below.refl _ _).alloc (Nat.le_refl _) _
     clear hw5
     have hB5:=hbr.trans (hb5.mono hbr.size)
     have bR5:=bR.step hb5
     have hBd:Below w5.heap.size w5 w5.drew:=(Below.refl _ _).drew
     have bX:Blk w5.drew wr.heap.size 36 #[.string name,.int .i64 params,.int .i64 locals,.bool result,.slice aax um aay]:=b5
     go_region_held3 (fun w'=>w'.cell? ⟨wr.heap.size,0,none⟩=some (.string name)∧w'.cell? ⟨wr.heap.size,1,none⟩=some (.int .i64 params)∧w'.cell? ⟨wr.heap.size,2,none⟩=some (.int .i64 locals)∧w'.cell? ⟨wr.heap.size,3,none⟩=some (.bool result))
      (first|exact⟨bX.cell 0,bX.cell 1,bX.cell 2,bX.cell 3⟩|go_keep)
      (first
       | (go_at_call_of 31 params;refine(aev.out _).mono ?_;rintro e wq ⟨rfl,hbq⟩;replace hBd:=hBd.trans (hbq.mono hBd.size);replace bX:=bX.step hbq)
       | (go_at_call_of 31 locals;refine(ake.out _).mono ?_;rintro e wq ⟨rfl,hbq⟩;replace hBd:=hBd.trans (hbq.mono hBd.size);replace bX:=bX.step hbq)
       | (go_at_call 32;refine(HB.out _).mono ?_;rintro e wq2 ⟨rfl,hwq⟩;subst hwq))
     all_goals
      have hB6:=hB5.trans (hBd.mono hB5.size)
      have bR6:=bR5.step hBd
      have hlX:=bX.lt
      have hX6:=hb5.trans (hBd.mono hb5.size)
      obtain⟨W5,rfl⟩:∃ W,W=wr:=⟨_,rfl⟩
      obtain⟨W6,rfl⟩:∃ W,W=wq:=⟨_,rfl⟩
      clear hBd hbq
      obtain⟨s3,hs3⟩:∃ z,s2 ++p8=z:=⟨_,rfl⟩
      have ls3:s3.size≤985+3812 * k2:=by rw[← hs3,ByteArray.size_append];omega
      have HS3:Hid (s3=s2 ++ae8 ⟨name,params,locals,result,code⟩):=by show _=_;rw[HL.out,hs3]
      have a1t:=Lib.hid hs3
      go_wp2_with fail
      clear hs3
      go_loopw [3,8] (fun u i wr'=>∃ (j:Nat) (s4:ByteArray),u=.string s4∧j≤um∧i=.int .i64 j∧Hid (s4=s3 ++jo ((code.take j).map insL))∧Below W6.heap.size W6 wr') (fun _ i _=>um - (intOf i).toNat)
      case atStart=>exact⟨0,_,rfl,Nat.zero_le _,rfl,Lib.hid (by first|exact(ab8 _).symm|(rw[a1t.out];exact(ab8 _).symm)),Below.refl _ _⟩
      case round=>
       obtain⟨j,s4,rfl,hj,rfl,HS4,adn⟩:=hrel
       have ls4:s4.size≤985+3812 * k2+31 * j:=by have h2:=HZ.out j;rw[HS4.out,ByteArray.size_append];omega
       have hb4:=hX6.trans (adn.mono hX6.size)
       have a1u:=hB6.trans (adn.mono hB6.size)
       have bX4:=bX.step adn
       have c4:wr.cell? ⟨W5.heap.size,4,none⟩=some (.slice aax um aay):=bX4.cell 4
       by_cases hlt4:j < um
       ·obtain⟨g3,anv,rfl,hg3,ae2⟩:=aua (by omega)
        obtain⟨t3,hx3,akf⟩:=l7 HNK.out hlt4
        obtain⟨op3,a3⟩:=t3
        have a0e:wr.cell? ⟨g3,anv+j * 2,none⟩=some (.int .i64 op3):=ak hb4 (by omega) (ae2 j 0 _ _ hx3 (by rw[Ins.aj];rfl))
        have a1v:wr.cell? ⟨g3,anv+j * 2+1,none⟩=some (.int .i64 a3):=ak hb4 (by omega) (ae2 j 1 _ _ hx3 (by rw[Ins.aj];rfl))
        have HX3:=Lib.hid hx3
        have HM3:=Lib.hid akf
        clear hx3 akf
        clear ae2
        have HOK:=Lib.hid (HIN.out _ HM3.out)
        have anw:=aio HOK.out
        have lz:=akv HOK.out
        simp only at anw lz
        have HT:=Lib.hid (fun W=>adb op3 a3 (WalkArith.wf_i64 (by omega)) HOK.out W)
        obtain⟨z,hz⟩:∃ z,og op3 a3=z:=⟨_,rfl⟩
        rw[hz] at HT lz
        have y_1:(9223372036854775807 < z.size+(⟨#[10]⟩:ByteArray).size)=False:=eq_false (by have z_1:(⟨#[10]⟩:ByteArray).size=1:=rfl;omega)
        have x_1:(9223372036854775807 < z.size+1)=False:=eq_false (by omega)
        have HZL:Hid (insL ⟨op3,a3⟩=z ++(⟨#[10]⟩:ByteArray)):=by show og op3 a3 ++adw=_;rw[hz];rfl
        obtain⟨z1,hz1⟩:∃ p,z ++(⟨#[10]⟩:ByteArray)=p:=⟨_,rfl⟩
        have lz1:z1.size≤31:=by rw[← hz1,ByteArray.size_append];have z_1:(⟨#[10]⟩:ByteArray).size=1:=rfl;omega
        have y_2:(9223372036854775807 < s4.size+z1.size)=False:=eq_false (by omega)
        have HQ4:Hid (s4 ++z1=s3 ++jo ((code.take (j+1)).map insL)):=by show _=_;rw[ab9 HX3.out,HZL.out,hz1,HS4.out,x9]
        clear hz anw
        go_wp2_with fail
        refine(HT.out _).mono ?_
        rintro e w7 ⟨rfl,hb7⟩
        go_wp2_with fail
        go_roundw
        case rel=>exact⟨j+1,_,rfl,by omega,by go_num,HQ4,adn.trans (hb7.mono adn.size)⟩
        case measure=>simp[intOf];omega
       ·have hjn:j=um:=by omega
        subst hjn
        have HQ2:Hid (s4=s ++jo ((cores.take (k2+1)).map abq)):=by
         show _=_
         rw[ab9 HX.out,HS4.out,HS3.out,HS2.out,List.take_of_length_le (l:=code) (by have:=HNK.out;omega),abq]
         simp only[x9]
        have bR7:=bR6.step adn
        clear ls4 HS4
        go_wp2_with fail
        go_roundw
        case rel=>exact⟨k2+1,_,rfl,by omega,by go_num,HQ2,a1u,bR7⟩
        case measure=>simp[intOf];omega
    ·have hkn:k2=cN:=by omega
     subst hkn
     have HF:Hid (aak ⟨pages,imports,cores⟩=s2):=by
      show _=_
      rw[aak,HS2.out,HS1.out,List.take_of_length_le (by have:=HNC.out;omega)]
     clear ls HS2
     go_wp2_with fail
     go_ret
     exact⟨aa2 HF.out.symm,hbr⟩
end Go.Proofs.YtlpcocfadppkhaaGreatDoor
