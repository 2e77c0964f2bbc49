/-
  Valid function types of the reference: l03Func, l03Params (by program: gen_pa.py).
  Why one function type cannot stand for another: plain, and the contracts' words.
  The bytes of a string, as numbers. No program in sight.
  Decimal numerals that are read; cutting at a byte: the plain law. (No walk.)
  A text that is cut at a byte; decimal numerals read back: plain. No program in sight.
-/
import Derived.Test.YtbafphecjijdmaaGreatDoorWa24
import Derived.Test.YtbafphecjijdmaaGreatDoorWa09
import Derived.Test.YtbafphecjijdmaaGreatDoorWa12
import Derived.Test.YtbafphecjijdmaaGreatDoorWa01
import Derived.Laws.BytesArg
import Derived.Lib.RabinKarpLaws
import Derived.Lib.ItoaMem
import Derived.Lib.ParseIntBCases
import Derived.Lib.Index
import Derived.Test.YtbafphecjijdmaaGreatDoorWa11
import Derived.Lib.SplitLaws
import Derived.Lib.IndexBytes
namespace Go.Proofs.YtbafphecjijdmaaGreatDoor
open Go.RowKit
set_option linter.unusedVariables false
set_option linter.unusedSimpArgs false
set_option linter.unnecessarySimpa false
set_option maxRecDepth 16000
def ako (p:Param):Bool:=aag p.name && (ae9 p.typ && !p.typ.isUnit)
def ah5 (f:jh):Bool:=decide (f.params.length≤6) && (ae9 f.result && (!f.result.has 21 21 && (!f.params.any (fun p=>!ako p) && decide (f.params.map Param.name).Nodup)))
def aln (xs:List Param) (k:Nat):Bool:=match xs[k]? with
 | none=>true
 | some x=>ako x && !(xs.take k).any (fun y=>decide (y.name=x.name))
theorem bk3 {xs:List Param} {k:Nat} {x:Param} (hx:xs[k]?=some x):aln xs k=(ako x && !(xs.take k).any (fun y=>decide (y.name=x.name))):=by rw[aln,hx]
theorem seq_ok {xs:List Param} (h:∀ k,k < xs.length→aln xs k=true):(!xs.any (fun p=>!ako p) && decide (xs.map Param.name).Nodup)=true:=by
 have hk:∀ (k:Nat) (hk:k < xs.length),ako xs[k]=true∧∀ (j:Nat) (hj:j < k),xs[j].name≠xs[k].name:=fun k hk=>by
  have h1:=h k hk
  rw[aln,List.getElem?_eq_getElem hk] at h1
  simp only[Bool.and_eq_true] at h1
  obtain⟨h2,h3⟩:=h1
  refine⟨h2,fun j hj e=>?_⟩
  rw[Bool.not_eq_true',List.any_eq_false] at h3
  refine h3 (xs[j]'(by omega)) (List.mem_take_iff_getElem.2 ⟨j,by omega,rfl⟩) ?_
  simpa using e
 rw[Bool.and_eq_true]
 refine⟨?_,decide_eq_true (List.pairwise_iff_getElem.2 fun i j hi hj hij=>?_)⟩
 ·rw[Bool.not_eq_true',List.any_eq_false]
  intro x hx
  obtain⟨k,hk',rfl⟩:=List.getElem_of_mem hx
  simp[(hk k hk').1]
 ·rw[List.getElem_map,List.getElem_map]
  exact(hk j (by simpa using hj)).2 i hij
theorem auj {xs:List Param} {k:Nat} (h:aln xs k=false):(!xs.any (fun p=>!ako p) && decide (xs.map Param.name).Nodup)=false:=by
 rw[aln] at h
 cases hx:xs[k]? with
 | none=>rw[hx] at h;simp at h
 | some x=>
  rw[hx] at h
  simp only at h
  obtain⟨hk,hxe⟩:=List.getElem?_eq_some_iff.1 hx
  have hmem:x ∈ xs:=List.mem_of_getElem? hx
  cases h1:ako x
  ·rw[List.any_eq_true.2 ⟨x,hmem,by simp[h1]⟩]
   rfl
  rw[h1] at h
  simp only[Bool.true_and,Bool.not_eq_false'] at h
  obtain⟨y,hy,he⟩:=List.any_eq_true.1 h
  obtain⟨j,hj,hje⟩:=List.mem_take_iff_getElem.1 hy
  have:¬ (xs.map Param.name).Nodup:=fun hn=>by
   have:=List.pairwise_iff_getElem.1 hn j k (by simp;omega) (by simpa using hk) (by omega)
   rw[List.getElem_map,List.getElem_map,hje,hxe] at this
   exact this (by simpa using he)
  rw[decide_eq_false this,Bool.and_false]
theorem bdk {xs:List Param} {k:Nat} (hp:∀ j,j < k→aln xs j=true) (h:aln xs k=true):∀ j,j < k+1→aln xs j=true:=fun j hj=>by
 by_cases e:j=k
 ·subst e;exact h
 ·exact hp j (by omega)
theorem bgf {name:ByteArray} {a:Int} {b:ByteArray} {c:List ByteArray} {d:List Ty} (h:PD.wfL (Param.pd ⟨name,⟨a,b,c,d⟩⟩)):name.size≤maxLen∧PD.wfL (Ty.pd ⟨a,b,c,d⟩):=by
 rw[Param.ay] at h
 rw[Ty.ay]
 simp only[PD.wfL,PD.wf] at h ⊢
 exact⟨h.1,h.2.1,h.2.2.1,h.2.2.2.1,h.2.2.2.2.1,trivial⟩
theorem bgg {params:List Param} {a:Int} {b:ByteArray} {c:List ByteArray} {d:List Ty} {async:Bool} (h:PD.wfL (jh.pd ⟨params,⟨a,b,c,d⟩,async⟩)):(∀ p ∈ params,PD.wfL (Param.pd p))∧PD.wfL (Ty.pd ⟨a,b,c,d⟩):=by
 rw[jh.ay] at h
 rw[Ty.ay]
 simp only[PD.wfL,PD.wf] at h ⊢
 exact⟨agr.1 h.1,h.2.1,h.2.2.1,h.2.2.2.1,h.2.2.2.2.1,trivial⟩
set_option maxHeartbeats 6400000 in
theorem a2d (f:jh) {B:Nat} {cs:List Value} {w:World} (hB:B≤w.heap.size) (hwf:PD.wfL (jh.pd f)) (h:jy w B (jh.pd f) cs):
  Calls Tryz.prog 79 #[.agg cs.toArray] w fun e w'=>e=.returned (.bool (ah5 f))∧Below w.heap.size w w':=by
 obtain⟨params,⟨bg,cu,jv,mg⟩,async⟩:=f
 obtain⟨hwp,hwr⟩:=bgg hwf
 have HWP:=Lib.hid hwp
 have HWR:=Lib.hid hwr
 obtain⟨R,hR⟩:∃ R:Bool,R=ah5 ⟨params,⟨bg,cu,jv,mg⟩,async⟩:=⟨_,rfl⟩
 rw[← hR]
 rw[ah5] at hR
 simp only at hR
 have HR:=Lib.hid hR
 clear hR
 obtain⟨ad3,oq,ug,rfl,adu,aaf,aaw⟩:=jh.open_ h
 have af5:=Lib.hid adu
 clear adu
 have ab9:=Lib.hid aaf
 clear aaf
 have ac6:=Lib.hid aaw
 clear aaw
 obtain⟨A,n,c,rfl,hnl,hm,hat⟩:=ny Param.jw (by decide) af5.out
 unfold maxLen at hm
 have HN:=Lib.hid hnl
 clear h hnl hwf hwp hwr
 by_cases hn:n≤6
 case neg=>
  have HF:Hid (R=false):=by show _=_;rw[HR.out,decide_eq_false (show ¬ params.length≤6 by have:=HN.out;omega)];rfl
  go_enter Tryz.func79,Tryz.ntmps79
  go_wp2_with fail
  go_ret
  exact⟨ah HF.out.symm,(Below.refl _ _).alloc (Nat.le_refl _) _⟩
 have HD:Hid (decide (params.length≤6)=true):=decide_eq_true (by have:=HN.out;omega)
 go_enter Tryz.func79,Tryz.ntmps79
 go_wp2_with fail
 obtain⟨w0,hw0⟩:∃ W,W=w.alloc (.cells #[.slice A n c,.int .i64 bg,.string cu,oq,ug,.bool async] 62):=⟨_,rfl⟩
 rw[← hw0]
 have bA:Blk w0 w.heap.size 62 #[.slice A n c,.int .i64 bg,.string cu,oq,ug,.bool async]:=by rw[hw0];exact Blk.new w _ _
 have hB0:Below w.heap.size w w0:=by rw[hw0];exact(Below.refl _ _).alloc (Nat.le_refl _) _
 clear hw0
 refine(axc ⟨bg,cu,jv,mg⟩ (B:=B) (cs:=[.int .i64 bg,.string cu,oq,ug]) (Nat.le_trans hB hB0.size) HWR.out (Ty.close_ (ab9.out.below (hB0.mono hB)) (ac6.out.below (hB0.mono hB)))).mono ?_
 rintro e w1 ⟨rfl,hb1⟩
 have hB1:=hB0.trans (hb1.mono hB0.size)
 have bA1:=bA.step hb1
 clear bA
 cases hok:ae9 ⟨bg,cu,jv,mg⟩
 ·have HF:Hid (R=false):=by show _=_;rw[HR.out,HD.out,hok];rfl
  go_wp2_with fail
  go_ret
  exact⟨ah HF.out.symm,hB1⟩
 have ao1:w1.cell? ⟨w.heap.size,0,none⟩=some (.slice A n c):=bA1.cell 0
 have aoa:w1.cell? ⟨w.heap.size,1,none⟩=some (.int .i64 bg):=bA1.cell 1
 have aob:w1.cell? ⟨w.heap.size,2,none⟩=some (.string cu):=bA1.cell 2
 have amq:w1.cell? ⟨w.heap.size,3,none⟩=some (oq):=bA1.cell 3
 have aoc:w1.cell? ⟨w.heap.size,4,none⟩=some (ug):=bA1.cell 4
 have ayi:w1.cell? ⟨w.heap.size,5,none⟩=some (.bool async):=bA1.cell 5
 go_wp2_with fail
 refine(alj 21 21 ⟨bg,cu,jv,mg⟩ B [.int .i64 bg,.string cu,oq,ug] w1 (Nat.le_trans hB hB1.size) (Ty.close_ (ab9.out.below (hB1.mono hB)) (ac6.out.below (hB1.mono hB)))).mono ?_
 rintro e w2 ⟨rfl,hb2⟩
 have hB2:=hB1.trans (hb2.mono hB1.size)
 have bA2:=bA1.step hb2
 clear bA1
 cases hhas:Ty.has 21 21 ⟨bg,cu,jv,mg⟩
 case true=>
  have HF:Hid (R=false):=by show _=_;rw[HR.out,HD.out,hok,hhas];rfl
  go_wp2_with fail
  go_ret
  exact⟨ah HF.out.symm,hB2⟩
 have HF:Hid (R=(!params.any (fun p=>!ako p) && decide (params.map Param.name).Nodup)):=by show _=_;rw[HR.out,HD.out,hok,hhas];rfl
 clear hok hhas HR
 go_wp2_with fail
 go_loopw [3] (fun i wr=>∃ k:Nat,k≤n∧i=.int .i64 k∧Hid (∀ j,j < k→aln params j=true)∧Below w2.heap.size w2 wr) (fun i _=>n - (intOf i).toNat)
 case atStart=>exact⟨0,Nat.zero_le _,rfl,Lib.hid fun j h=>absurd h (by omega),Below.refl _ _⟩
 case round=>
  obtain⟨k,hk,rfl,HP,hbr⟩:=hrel
  have hsz:=hbr.size
  have hBr:=hB2.trans (hbr.mono hB2.size)
  have bR:=bA2.step hbr
  have b_0:wr.cell? ⟨w.heap.size,0,none⟩=some (.slice A n c):=bR.cell 0
  by_cases hlt:k < n
  ·obtain⟨g,off,rfl,hg,hcell⟩:=hat (by omega)
   obtain⟨t,hx,hmem⟩:=xg HN.out hlt
   obtain⟨name,⟨iy,ji,og,um⟩⟩:=t
   have an3:wr.cell? ⟨g,off+k * 5,none⟩=some (.string name):=gq hBr (by omega) (hcell k 0 _ _ hx (by rw[Param.ay];rfl))
   have ak5:wr.cell? ⟨g,off+k * 5+1,none⟩=some (.int .i64 iy):=gq hBr (by omega) (hcell k 1 _ _ hx (by rw[Param.ay];rfl))
   have ak6:wr.cell? ⟨g,off+k * 5+2,none⟩=some (.string ji):=gq hBr (by omega) (hcell k 2 _ _ hx (by rw[Param.ay];rfl))
   obtain⟨aau,ajb,abd⟩:∃ u,wr.cell? ⟨g,off+k * 5+3,none⟩=some u∧Rep wr B (.row 1 (og.flatMap tu)) u:=ku hBr (by omega) hB (hcell k 3 _ _ hx (by rw[Param.ay];rfl))
   have acs:=Lib.hid abd
   clear abd
   obtain⟨abx,ak7,ace⟩:∃ u,wr.cell? ⟨g,off+k * 5+4,none⟩=some u∧Rep wr B (.row 4 (um.flatMap Ty.pd)) u:=ku hBr (by omega) hB (hcell k 4 _ _ hx (by rw[Param.ay];rfl))
   have adz:=Lib.hid ace
   clear ace
   obtain⟨abh,abj,abk,rfl⟩:=acs.out.form
   obtain⟨aci,acj,acn,rfl⟩:=adz.out.form
   have HX:=Lib.hid hx
   have HM:=Lib.hid hmem
   clear hx hmem
   have hs:=bgf (HWP.out _ HM.out)
   have hsa:=bk3 HX.out
   rw[ako] at hsa
   simp only at hsa
   have HSA:=Lib.hid hsa
   have HTW:=Lib.hid hs.2
   have hs1:=hs.1
   have aon:=Lib.hid hcell
   clear hsa hs hcell hat
   go_wp2_with fail
   obtain⟨w3,hw3⟩:∃ W,W=wr.alloc (.cells #[.string name,.int .i64 iy,.string ji,.slice abh abj abk,.slice aci acj acn] 115):=⟨_,rfl⟩
   rw[← hw3]
   have bE:Blk w3 wr.heap.size 115 #[.string name,.int .i64 iy,.string ji,.slice abh abj abk,.slice aci acj acn]:=by rw[hw3];exact Blk.new wr _ _
   have hb3:Below wr.heap.size wr w3:=by rw[hw3];exact(Below.refl _ _).alloc (Nat.le_refl _) _
   clear hw3
   have bk5:=hbr.trans (hb3.mono hbr.size)
   have hB3:=hBr.trans (hb3.mono hBr.size)
   refine(afs name hs1 _).mono ?_
   rintro e w4 ⟨rfl,rfl⟩
   cases hnm:aag name
   ·have HF2:Hid (R=false):=by show _=_;rw[HF.out,auj (k:=k) (by rw[HSA.out,hnm];rfl)]
    go_wp2_with fail
    go_ret
    exact⟨ah HF2.out.symm,hB3⟩
   have e_1:w3.cell? ⟨wr.heap.size,1,none⟩=some (.int .i64 iy):=bE.cell 1
   have e_2:w3.cell? ⟨wr.heap.size,2,none⟩=some (.string ji):=bE.cell 2
   have e_3:w3.cell? ⟨wr.heap.size,3,none⟩=some (.slice abh abj abk):=bE.cell 3
   have e_4:w3.cell? ⟨wr.heap.size,4,none⟩=some (.slice aci acj acn):=bE.cell 4
   have hBw3:=Nat.le_trans hB hBr.size
   go_wp2_with fail
   refine(axc ⟨iy,ji,og,um⟩ (B:=B) (cs:=[.int .i64 iy,.string ji,.slice abh abj abk,.slice aci acj acn]) (Nat.le_trans hB hB3.size) HTW.out (Ty.close_ (acs.out.below (hb3.mono hBw3)) (adz.out.below (hb3.mono hBw3)))).mono ?_
   rintro e w5 ⟨rfl,hb5⟩
   have bE5:=bE.step hb5
   have hB5:=hB3.trans (hb5.mono hB3.size)
   have bdl:=bk5.trans (hb5.mono bk5.size)
   have bR5:=(bR.step hb3).step hb5
   clear e_1 e_2 e_3 e_4
   cases hto:ae9 ⟨iy,ji,og,um⟩
   ·have HF2:Hid (R=false):=by show _=_;rw[HF.out,auj (k:=k) (by rw[HSA.out,hnm,hto];rfl)]
    go_wp2_with fail
    go_ret
    exact⟨ah HF2.out.symm,hB5⟩
   have e_1:w5.cell? ⟨wr.heap.size,1,none⟩=some (.int .i64 iy):=bE5.cell 1
   by_cases hu:iy=1
   ·have HF2:Hid (R=false):=by show _=_;rw[HF.out,auj (k:=k) (by rw[HSA.out,hnm,hto,Ty.isUnit,Ty.kind,hu];rfl)]
    have hke:(iy ==1)=true:=by simpa using hu
    clear hu
    go_wp2_with fail
    go_ret
    exact⟨ah HF2.out.symm,hB5⟩
   have HSB:Hid (aln params k=!(params.take k).any (fun y=>decide (y.name=name))):=by
    show _=_
    rw[HSA.out,hnm,hto,Ty.isUnit,Ty.kind,show(iy ==1)=false by simpa using hu]
    rfl
   have hke:(iy ==1)=false:=by simpa using hu
   clear hu hnm hto HSA
   have e_0:w5.cell? ⟨wr.heap.size,0,none⟩=some (.string name):=bE5.cell 0
   have d_0:w5.cell? ⟨w.heap.size,0,none⟩=some (.slice (some ⟨g,off,none⟩) n c):=bR5.cell 0
   go_wp2_with fail
   clear e_1 b_0 bR bE bE5 bR5
   obtain⟨wo,rfl⟩:∃ W,W=wr:=⟨_,rfl⟩
   go_loopw [5] (fun j ws=>∃ m:Nat,m≤k∧j=.int .i64 m∧Hid (∀ (j:Nat) (t:Param),j < m→params[j]?=some t→(fun y:Param=>decide (y.name=name)) t=false)∧∃ q,ws=w5.drewN q) (fun j _=>k - (intOf j).toNat)
   case atStart=>exact⟨0,Nat.zero_le _,rfl,Lib.hid fun j t h=>absurd h (by omega),0,rfl⟩
   case round=>
    obtain⟨m,hm2,rfl,HM2,q,rfl⟩:=hrel
    by_cases hlt2:m < k
    ·obtain⟨t2,hx2,_⟩:=xg HN.out (show m < n by omega)
     obtain⟨name2,⟨kind2,bvp,bvq,bvr⟩⟩:=t2
     have c2:w5.cell? ⟨g,off+m * 5,none⟩=some (.string name2):=gq hB5 (by omega) (aon.out m 0 _ _ hx2 (by rw[Param.ay];rfl))
     have HX2:=Lib.hid hx2
     have hm0:(0:Int)≤(m:Int):=by omega
     have hmn:(m:Int) < (n:Int):=by omega
     clear hx2
     by_cases hne:name2=name
     ·have HF2:Hid (R=false):=by
       show _=_
       rw[HF.out,auj (k:=k)]
       rw[HSB.out,Bool.not_eq_false',List.any_eq_true]
       exact⟨_,List.mem_take_iff_getElem.2 ⟨m,by have:=HN.out;omega,(List.getElem?_eq_some_iff.1 HX2.out).2⟩,by simpa using hne⟩
      subst hne
      go_wp2_with fail
      go_quiet (fail)
      go_wp2_with fail
      go_ret
      exact⟨ah HF2.out.symm,by rw[World.drewN_drewN];exact below_drewN hB5 _⟩
     ·have hs2:(name2.toList ==name.toList)=false:=ae0 hne
      have HQ:=Lib.hid (afr HM2.out HX2.out (by simp[hne]))
      clear hne
      go_wp2_with fail
      go_quiet (fail)
      go_wp2_with fail
      go_roundw
      case rel=>exact⟨m+1,by omega,by go_num,HQ,_,rfl⟩
      case measure=>simp[intOf];omega
    ·have hmk:m=k:=by omega
     have HQ:Hid (aln params k=true):=by
      show _=_
      rw[HSB.out,Bool.not_eq_true',List.any_eq_false]
      intro y hy
      obtain⟨j,hj,hje⟩:=List.mem_take_iff_getElem.1 hy
      have:=HM2.out j y (by omega) (by rw[List.getElem?_eq_getElem (by omega),hje])
      simpa using this
     have HQ2:=Lib.hid (bdk HP.out HQ.out)
     obtain rfl:k=m:=hmk.symm
     go_wp2_with fail
     go_roundw
     case rel=>exact⟨k+1,by omega,by go_num,HQ2,below_drewN bdl _⟩
     case measure=>simp[intOf];omega
  ·have hkn:k=n:=by omega
   have HF2:Hid (R=true):=by show _=_;rw[HF.out,seq_ok fun j hj=>HP.out j (by have:=HN.out;omega)]
   subst hkn
   go_wp2_with fail
   go_ret
   exact⟨ah HF2.out.symm,hBr⟩
end Go.Proofs.YtbafphecjijdmaaGreatDoor
namespace Go.Proofs.YtbafphecjijdmaaGreatDoor
open Go.RowKit
set_option linter.unusedVariables false
set_option linter.unusedSimpArgs false
set_option linter.unnecessarySimpa false
def ayj (at_ n:ByteArray):ByteArray:=((at_ ++⟨#[40]⟩) ++n) ++⟨#[41]⟩
def funcF (rec:Ty→Ty→ByteArray→Why) (at_:ByteArray) (ap bp:List Param) (k:Nat):Why:=
 match ap[k]?,bp[k]? with
 | some x,some y=>if x.name=y.name then rec y.typ x.typ (ayj at_ y.name)else some (7,ayj at_ y.name)
 | _,_=>none
def ajv (rec:Ty→Ty→ByteArray→Why) (a b:jh) (at_:ByteArray):Why:=
 if a.params.length=b.params.length then
  match aa0 (funcF rec at_ a.params b.params) a.params.length with
  | some r=>some r
  | none=>match rec a.result b.result (at_ ++⟨#[45,62]⟩)with
   | some r=>some r
   | none=>if a.async=true∧b.async=false then some (8,at_)else none
 else some (7,at_)
theorem a2e {rec:Ty→Ty→ByteArray→Why} {at_:ByteArray} {ap bp:List Param} {k:Nat} {x y:Param} (hx:ap[k]?=some x) (hy:bp[k]?=some y) (h:¬ x.name=y.name):funcF rec at_ ap bp k=some (7,ayj at_ y.name):=by simp only[funcF,hx,hy];rw[if_neg h]
theorem funcF_eq {rec:Ty→Ty→ByteArray→Why} {at_:ByteArray} {ap bp:List Param} {k:Nat} {x y:Param} (hx:ap[k]?=some x) (hy:bp[k]?=some y) (h:x.name=y.name):funcF rec at_ ap bp k=rec y.typ x.typ (ayj at_ y.name):=by simp only[funcF,hx,hy];rw[if_pos h]
theorem bag {t:Ty} (h:ae9 t=true):OkT 4 t:=by
 simp only[ae9,Bool.and_eq_true,decide_eq_true_eq] at h
 exact⟨h.1.1,h.2⟩
structure OkF (f:jh):Prop where
 par:∀ p ∈ f.params,OkT 4 p.typ∧p.name.size≤12
 res:OkT 4 f.result
 len:f.params.length≤6
theorem as6 {f:jh} (h:ah5 f=true):OkF f:=by
 simp only[ah5,Bool.and_eq_true,decide_eq_true_eq] at h
 obtain⟨h1,h2,h3,h4,h5⟩:=h
 rw[Bool.not_eq_true',List.any_eq_false] at h4
 refine⟨fun p hp=>?_,bag h2,h1⟩
 have hb:ako p=true:=by have:=h4 p hp;simpa using this
 simp only[ako,Bool.and_eq_true] at hb
 exact⟨bag hb.2.1,(ahs hb.1).2⟩
theorem azi {rec:Ty→Ty→ByteArray→Why} {a b:jh} {at_:ByteArray} (h:¬ a.params.length=b.params.length):ajv rec a b at_=some (7,at_):=if_neg h
theorem apj {rec:Ty→Ty→ByteArray→Why} {a b:jh} {at_:ByteArray} {r:Int×ByteArray} (h:a.params.length=b.params.length) (h1:aa0 (funcF rec at_ a.params b.params) a.params.length=some r):ajv rec a b at_=some r:=by rw[ajv,if_pos h,h1]
theorem azj {rec:Ty→Ty→ByteArray→Why} {a b:jh} {at_:ByteArray} {r:Int×ByteArray} (h:a.params.length=b.params.length) (h1:aa0 (funcF rec at_ a.params b.params) a.params.length=none) (h2:rec a.result b.result (at_ ++⟨#[45,62]⟩)=some r):ajv rec a b at_=some r:=by rw[ajv,if_pos h,h1,h2]
theorem azk {rec:Ty→Ty→ByteArray→Why} {a b:jh} {at_:ByteArray} (h:a.params.length=b.params.length) (h1:aa0 (funcF rec at_ a.params b.params) a.params.length=none) (h2:rec a.result b.result (at_ ++⟨#[45,62]⟩)=none):ajv rec a b at_=if a.async=true∧b.async=false then some (8,at_)else none:=by rw[ajv,if_pos h,h1,h2]
def bgh (fid:Nat):Prop:=∀ (a b:jh) (at_:ByteArray) (B:Nat) (cs ds:List Value) (w:World),B≤w.heap.size→ae3 w→OkF a→OkF b→at_.size≤900000→jy w B (jh.pd a) cs→jy w B (jh.pd b) ds→
 Calls Tryz.prog fid #[.agg cs.toArray,.agg ds.toArray,.string at_] w fun e w'=>WQ (ajv (agl 4) a b at_) w e w'
def byt (s:ByteArray):List Int:=s.data.toList.map fun b=>(b.toNat:Int)
@[simp] theorem amr (s:ByteArray):(byt s).length=s.size:=by simp[byt]
theorem bhk {s:ByteArray} {k:Nat} (h:k < s.size):(byt s)[k]?=some ((s[k].toNat:Nat):Int):=by
 rw[byt,List.getElem?_map,Go.Proofs.byte_at s k h];rfl
theorem auk (s t:ByteArray):byt (s ++t)=byt s ++byt t:=by simp[byt]
def aik (u:Nat):List Int:=(Lib.decDigits u).map fun b=>(b.toNat:Int)
theorem ama {u:Nat} (h:u < 10):aik u=[48+(u:Int)]:=by
 rw[aik,Lib.decDigits,dif_pos h,List.map_cons,List.map_nil]
 congr 1
 rw[UInt8.toNat_ofNat']
 have:(48+u) % 2 ^ 8=48+u:=Nat.mod_eq_of_lt (by omega)
 omega
theorem ak8 {u:Nat} (h:¬ u < 10):aik u=aik (u / 10) ++[48+((u % 10:Nat):Int)]:=by
 rw[aik,Lib.decDigits,dif_neg h,List.map_append,List.map_cons,List.map_nil]
 congr 2
 rw[UInt8.toNat_ofNat']
 have:(48+u % 10) % 2 ^ 8=48+u % 10:=Nat.mod_eq_of_lt (by omega)
 omega
theorem apm:∀ (k u:Nat),u≤k→∀ c ∈ aik u,48≤c∧c≤57
 | k,u,hk,c,hc=>by
  by_cases h:u < 10
  ·rw[ama h,List.mem_singleton] at hc
   omega
  ·rw[ak8 h] at hc
   rcases List.mem_append.1 hc with hc|hc
   ·match k,hk with
    | 0,hk=>omega
    | k+1,hk=>exact apm k (u / 10) (by omega) c hc
   ·rw[List.mem_singleton] at hc
    omega
theorem azl:∀ (k u:Nat),1≤k→u < 10 ^ k→(aik u).length≤k
 | 0,u,h1,h=>absurd h1 (by omega)
 | k+1,u,_,h=>by
  by_cases hu:u < 10
  ·rw[ama hu];simp
  ·rw[ak8 hu,List.length_append,List.length_singleton]
   have h10:10 ^ (k+1)=10 ^ k * 10:=Nat.pow_succ 10 k
   have hk:1≤k:=by
    rcases Nat.eq_zero_or_pos k with rfl|hk
    ·simp at h;omega
    ·exact hk
   have:=azl k (u / 10) hk (by omega)
   omega
theorem bah:∀ (u:Nat),aik u≠[]:=fun u=>by
 by_cases h:u < 10
 ·rw[ama h];simp
 ·rw[ak8 h];simp
theorem axd {M:Nat} (hM:M≤18446744073709551615):∀ (k u:Nat) (r:List UInt8),u≤k→u≤M→Lib.parseUintM M 0 (Lib.decDigits u ++r)=Lib.parseUintM M u r
 | k,u,r,hk,hu=>by
  by_cases h:u < 10
  ·rw[Lib.decDigits,dif_pos h]
   show Lib.parseUintM M 0 (UInt8.ofNat (48+u) ::r)=_
   have e:(UInt8.ofNat (48+u)).toNat=48+u:=by rw[UInt8.toNat_ofNat'];exact Nat.mod_eq_of_lt (by omega)
   rw[Lib.parseUintM,e,if_pos (by omega),if_neg (by omega),if_neg (by omega)]
   have:0 * 10+(48+u - 48)=u:=by omega
   rw[this]
  ·rw[Lib.decDigits,dif_neg h,List.append_assoc]
   match k,hk with
   | 0,hk=>omega
   | k+1,hk=>
    rw[axd hM k (u / 10) _ (by omega) (by omega)]
    show Lib.parseUintM M (u / 10) (UInt8.ofNat (48+u % 10) ::r)=_
    have e:(UInt8.ofNat (48+u % 10)).toNat=48+u % 10:=by rw[UInt8.toNat_ofNat'];exact Nat.mod_eq_of_lt (by omega)
    have e2:u / 10 * 10+(48+u % 10 - 48)=u:=by omega
    rw[Lib.parseUintM,e,if_pos (by omega),if_neg (by omega),e2,if_neg (by omega)]
theorem aqd (u:Nat):∃ c r,Lib.decDigits u=c ::r∧48≤c.toNat∧c.toNat≤57:=by
 cases hd:Lib.decDigits u with
 | nil=>exact absurd (by rw[aik,hd];rfl) (bah u)
 | cons c r=>
  have:=apm u u (Nat.le_refl _) (c.toNat:Int) (by rw[aik,hd];simp)
  exact⟨c,r,rfl,by omega,by omega⟩
theorem a7y {n:Int} (h0:-9223372036854775808≤n) (h1:n≤9223372036854775807):Lib.parseIntB 64 (Lib.itoa n)=.ok n:=by
 have hp:(2:Nat) ^ 64 - 1=18446744073709551615:=by decide
 have hq:(2:Nat) ^ (64 - 1)=9223372036854775808:=by decide
 have hM:∀ u:Nat,u≤18446744073709551615→Lib.parseUintB 64 (Lib.decDigits u)=.ok u:=fun u hu=>by
  obtain⟨c,r,hc,_,_⟩:=aqd u
  have hne:¬ Lib.decDigits u=[]:=by rw[hc];simp
  rw[Lib.parseUintB,if_neg hne,hp]
  have:=axd (M:=18446744073709551615) (Nat.le_refl _) u u [] (Nat.le_refl _) hu
  rw[List.append_nil] at this
  rw[this];rfl
 by_cases h:n < 0
 ·rw[Lib.itoa,if_pos h,Lib.parseIntB_minus,hM _ (by omega),hq,Lib.signedC]
  rw[if_neg (by omega)]
  congr 1
  omega
 ·rw[Lib.itoa,if_neg h]
  obtain⟨c,r,hc,hc1,hc2⟩:=aqd n.toNat
  have hm:=hM n.toNat (by omega)
  rw[hc] at hm ⊢
  rw[Lib.parseIntB_plain 64 c r (by omega) (by omega),hm,hq,Lib.signlessC]
  rw[if_neg (by omega)]
  congr 1
  omega
def ahf (c:UInt8):List UInt8→List (List UInt8)
 | []=>[[]]
 | x ::r=>if x=c then [] ::ahf c r else match ahf c r with
  | []=>[[x]]
  | p ::ps=>(x ::p) ::ps
theorem aul (c:UInt8):∀ l,ahf c l≠[]
 | []=>by simp[ahf]
 | x ::r=>by
  rw[ahf]
  split
  ·simp
  ·split<;>simp
theorem bhl {x c:UInt8} (h:x≠c) (r:List UInt8):Lib.indexByte (x ::r) c=if Lib.indexByte r c ==-1 then -1 else Lib.indexByte r c+1:=by
 have hx:(x ==c)=false:=by simpa using h
 rw[Lib.indexByte,hx]
 rfl
theorem a4w {x c:UInt8} (h:x≠c):∀ (k:Nat) (r p:List UInt8) (ps:List (List UInt8)),Lib.splitK [c] 0 k r=p ::ps→Lib.splitK [c] 0 k (x ::r)=(x ::p) ::ps
 | 0,r,p,ps,e=>by
  rw[Lib.splitK] at e
  injection e with e1 e2
  subst e1 e2
  rfl
 | k+1,r,p,ps,e=>by
  rw[Lib.splitK,Lib.index_one] at e
  rw[Lib.splitK,Lib.index_one,bhl h]
  have hg:=Lib.indexByte_ge r c
  by_cases hi:Lib.indexByte r c=-1
  ·rw[hi] at e ⊢
   simp at e ⊢
   exact e
  ·obtain⟨i,hi2⟩:∃ i:Nat,Lib.indexByte r c=i:=⟨(Lib.indexByte r c).toNat,by omega⟩
   rw[hi2] at e ⊢
   have hne:¬ ((i:Int) ==-1)=true:=by simp<;>omega
   have hne2:¬ ((i:Int)+1 ==-1)=true:=by simp<;>omega
   have ht:((i:Int)+1).toNat=i+1:=by omega
   have ht2:((i:Int)).toNat=i:=by omega
   rw[if_neg hne,ht2] at e
   rw[if_neg hne,if_neg hne2,ht]
   simp only[List.length_cons,List.length_nil,Nat.add_zero,Nat.zero_add] at e ⊢
   injection e with e1 e2
   subst e1 e2
   simp
theorem aq5 (c:UInt8):∀ l:List UInt8,Lib.splitK [c] 0 (l.count c) l=ahf c l
 | []=>by simp[Lib.splitK,ahf]
 | x ::r=>by
  by_cases h:x=c
  ·subst h
   rw[List.count_cons_self,Lib.splitK,Lib.index_one,Lib.indexByte,ahf]
   simp[aq5 x r]
  ·have ih:=aq5 c r
   rw[List.count_cons_of_ne h,ahf,if_neg h]
   cases hc:ahf c r with
   | nil=>exact absurd hc (aul c r)
   | cons p ps=>rw[hc] at ih;exact a4w h _ r p ps ih
theorem as7 (c:UInt8) (s:ByteArray):(Lib.splitB ⟨#[c]⟩ 0 (Lib.countB s ⟨#[c]⟩) s).map (·.data.toList)=ahf c s.data.toList:=by
 rw[Lib.splitB_data]
 have:Lib.countB s ⟨#[c]⟩=s.data.toList.count c:=by
  show Lib.count s.data.toList [c]=_
  exact Lib.count_one c _
 rw[this]
 exact aq5 c _
theorem ayk {c:UInt8}:∀ (p r:List UInt8),(∀ x ∈ p,x≠c)→∀ (q:List UInt8) (qs:List (List UInt8)),ahf c r=q ::qs→ahf c (p ++r)=(p ++q) ::qs
 | [],r,_,q,qs,e=>e
 | x ::p,r,h,q,qs,e=>by
  rw[List.cons_append,ahf,if_neg (h x (by simp)),ayk p r (fun y hy=>h y (by simp[hy])) q qs e]
  rfl
theorem bdm {c:UInt8} {p:List UInt8} (h:∀ x ∈ p,x≠c):ahf c p=[p]:=by
 have:=ayk p [] h [] [] rfl
 simpa using this
theorem a2f {c:UInt8} {p r:List UInt8} (h:∀ x ∈ p,x≠c):ahf c (p ++c ::r)=p ::ahf c r:=by
 have:=ayk p (c ::r) h [] (ahf c r) (by rw[ahf,if_pos rfl])
 simpa using this
def aum (c:UInt8):List (List UInt8)→List UInt8
 | []=>[]
 | [p]=>p
 | p ::q ::ps=>p ++c ::aum c (q ::ps)
theorem a7z (c x:UInt8) (p:List UInt8) (ps:List (List UInt8)):aum c ((x ::p) ::ps)=x ::aum c (p ::ps):=by
 cases ps with
 | nil=>rfl
 | cons q qs=>rfl
theorem a2g (c:UInt8):∀ l:List UInt8,aum c (ahf c l)=l
 | []=>rfl
 | x ::r=>by
  have ih:=a2g c r
  rw[ahf]
  split
  ·next h=>
   subst h
   cases hc:ahf x r with
   | nil=>exact absurd hc (aul x r)
   | cons p ps=>rw[hc] at ih;rw[aum,ih];first|done|rfl
  ·split
   ·next he=>exact absurd he (aul c r)
   ·next p ps he=>rw[he] at ih;rw[a7z,ih]
theorem axe {n:Int} (h:0≤n):(abr n).data.toList=Lib.decDigits n.toNat:=by
 rw[abr,Lib.itoa,if_neg (by omega)]
theorem bdn:∀ (k u:Nat),u≤k→∀ c ∈ Lib.decDigits u,48≤c.toNat∧c.toNat≤57:=fun k u h c hc=>by
 have:=apm k u h (c.toNat:Int) (by rw[aik];exact List.mem_map.2 ⟨c,hc,rfl⟩)
 omega
theorem bai {n:Int} (h:0≤n):∀ c ∈ (abr n).data.toList,48≤c.toNat∧c.toNat≤57:=fun c hc=>bdn _ _ (Nat.le_refl _) c (by rwa[axe h] at hc)
theorem avx {n:Int} (h:0≤n) {x:UInt8} (hx:x.toNat < 48):∀ c ∈ (abr n).data.toList,c≠x:=fun c hc e=>by
 have:=bai h c hc
 rw[e] at this
 omega
theorem as8 {n:Int} (h:0≤n):byt (abr n)=aik n.toNat:=by
 show(abr n).data.toList.map _=_
 rw[axe h];rfl
end Go.Proofs.YtbafphecjijdmaaGreatDoor
