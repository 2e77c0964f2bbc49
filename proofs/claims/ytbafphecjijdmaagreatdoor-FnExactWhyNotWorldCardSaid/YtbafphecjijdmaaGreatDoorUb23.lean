/-
  Valid function types of the reference: l03Func, l03Params (by program: gen_pa.py). (and 5 more texts)
-/
import Derived.Test.YtbafphecjijdmaaGreatDoorUb22
import Derived.Test.YtbafphecjijdmaaGreatDoorUb09
import Derived.Test.YtbafphecjijdmaaGreatDoorUb11
import Derived.Test.YtbafphecjijdmaaGreatDoorUb01
import Derived.Laws.BytesArg
import Derived.Lib.RabinKarpLaws
import Derived.Lib.ItoaMem
import Derived.Lib.ParseIntBCases
import Derived.Lib.Index
import Derived.Lib.SplitLaws
import Derived.Lib.IndexBytes
namespace Go.Proofs.YtbafphecjijdmaaGreatDoor
open Go.RowKit
set_option linter.all false
set_option maxRecDepth 16000
def aln (p:Param):Bool:=zn p.name && (afp p.typ && !p.typ.isUnit)
def ai7 (f:jh):Bool:=decide (f.params.length≤6) && (afp f.result && (!f.result.has 21 21 && (!f.params.any (fun p=>!aln p) && decide (f.params.map Param.name).Nodup)))
def amm (xs:List Param) (k:Nat):Bool:=match xs[k]? with
 | none=>true
 | some x=>aln x && !(xs.take k).any (fun y=>decide (y.name=x.name))
theorem bq9 {xs:List Param} {k:Nat} {x:Param} (hx:xs[k]?=some x):amm xs k=(aln x && !(xs.take k).any (fun y=>decide (y.name=x.name))):=by rw[amm,hx]
theorem seq_ok {xs:List Param} (h:∀ k,k < xs.length→amm xs k=true):(!xs.any (fun p=>!aln p) && decide (xs.map Param.name).Nodup)=true:=by
 have hk:∀ (k:Nat) (hk:k < xs.length),aln xs[k]=true∧∀ (j:Nat) (hj:j < k),xs[j].name≠xs[k].name:=fun k hk=>by
  have h1:=h k hk
  rw[amm,List.getElem?_eq_getElem hk] at h1
  simp only[Bool.and_eq_true] at h1
  obtain⟨h2,h3⟩:=h1
  refine⟨h2,fun j hj e=>?_⟩
  rw[Bool.not_eq_true',List.any_eq_false] at h3
  refine h3 (xs[j]'(by omega)) (List.mem_take_iff_getElem.2 ⟨j,by omega,rfl⟩) ?_
  simpa using e
 rw[Bool.and_eq_true]
 refine⟨?_,decide_eq_true (List.pairwise_iff_getElem.2 fun i j hi hj hij=>?_)⟩
 ·rw[Bool.not_eq_true',List.any_eq_false]
  intro x hx
  obtain⟨k,hk',rfl⟩:=List.getElem_of_mem hx
  simp[(hk k hk').1]
 ·rw[List.getElem_map,List.getElem_map]
  exact(hk j (by simpa using hj)).2 i hij
theorem aww {xs:List Param} {k:Nat} (h:amm xs k=false):(!xs.any (fun p=>!aln p) && decide (xs.map Param.name).Nodup)=false:=by
 rw[amm] at h
 cases hx:xs[k]? with
 | none=>rw[hx] at h;simp at h
 | some x=>
  rw[hx] at h
  simp only at h
  obtain⟨hk,hxe⟩:=List.getElem?_eq_some_iff.1 hx
  have hmem:x ∈ xs:=List.mem_of_getElem? hx
  cases h1:aln x
  ·rw[List.any_eq_true.2 ⟨x,hmem,by simp[h1]⟩]
   rfl
  rw[h1] at h
  simp only[Bool.true_and,Bool.not_eq_false'] at h
  obtain⟨y,hy,he⟩:=List.any_eq_true.1 h
  obtain⟨j,hj,hje⟩:=List.mem_take_iff_getElem.1 hy
  have:¬ (xs.map Param.name).Nodup:=fun hn=>by
   have:=List.pairwise_iff_getElem.1 hn j k (by simp;omega) (by simpa using hk) (by omega)
   rw[List.getElem_map,List.getElem_map,hje,hxe] at this
   exact this (by simpa using he)
  rw[decide_eq_false this,Bool.and_false]
theorem bjg {xs:List Param} {k:Nat} (hp:∀ j,j < k→amm xs j=true) (h:amm xs k=true):∀ j,j < k+1→amm xs j=true:=fun j hj=>by
 by_cases e:j=k
 ·subst e;exact h
 ·exact hp j (by omega)
theorem bmk {name:ByteArray} {a:Int} {b:ByteArray} {c:List ByteArray} {d:List Ty} (h:PD.wfL (Param.pd ⟨name,⟨a,b,c,d⟩⟩)):name.size≤maxLen∧PD.wfL (Ty.pd ⟨a,b,c,d⟩):=by
 rw[Param.aj] at h
 rw[Ty.aj]
 simp only[PD.wfL,PD.wf] at h ⊢
 exact⟨h.1,h.2.1,h.2.2.1,h.2.2.2.1,h.2.2.2.2.1,trivial⟩
theorem bml {params:List Param} {a:Int} {b:ByteArray} {c:List ByteArray} {d:List Ty} {async:Bool} (h:PD.wfL (jh.pd ⟨params,⟨a,b,c,d⟩,async⟩)):(∀ p ∈ params,PD.wfL (Param.pd p))∧PD.wfL (Ty.pd ⟨a,b,c,d⟩):=by
 rw[jh.aj] at h
 rw[Ty.aj]
 simp only[PD.wfL,PD.wf] at h ⊢
 exact⟨afx.1 h.1,h.2.1,h.2.2.1,h.2.2.2.1,h.2.2.2.2.1,trivial⟩
set_option maxHeartbeats 6400000 in
theorem a7t (f:jh) {B:Nat} {cs:List Value} {w:World} (hB:B≤w.heap.size) (hwf:PD.wfL (jh.pd f)) (h:lq w B (jh.pd f) cs):
  Calls Tryz.prog 79 #[.agg cs.toArray] w fun e w'=>e=.returned (.bool (ai7 f))∧Below w.heap.size w w':=by
 obtain⟨params,⟨dh,dn,ku,ny⟩,async⟩:=f
 obtain⟨hwp,hwr⟩:=bml hwf
 have HWP:=zqd hwp
 have HWR:=zqd hwr
 obtain⟨R,hR⟩:∃ R:Bool,R=ai7 ⟨params,⟨dh,dn,ku,ny⟩,async⟩:=⟨_,rfl⟩
 rw[← hR]
 rw[ai7] at hR
 simp only at hR
 have HR:=zqd hR
 clear hR
 obtain⟨aeh,pq,uf,rfl,aea,aao,aa2⟩:=jh.open_ h
 have ags:=zqd aea
 clear aea
 have acs:=zqd aao
 clear aao
 have ado:=zqd aa2
 clear aa2
 obtain⟨A,n,c,rfl,hnl,hm,hat⟩:=ni Param.jd (by decide) ags.out
 unfold maxLen at hm
 have HN:=zqd hnl
 clear h hnl hwf hwp hwr
 by_cases hn:n≤6
 case neg=>
  have HF:Hid (R=false):=by show _=_;rw[HR.out,decide_eq_false (show ¬ params.length≤6 by have:=HN.out;omega)];rfl
  go_enter Tryz.func79,Tryz.ntmps79
  go_wp2_with fail
  go_ret
  exact⟨ah HF.out.symm,(zqf _ _).alloc (zql _) _⟩
 have HD:Hid (decide (params.length≤6)=true):=decide_eq_true (by have:=HN.out;omega)
 go_enter Tryz.func79,Tryz.ntmps79
 go_wp2_with fail
 obtain⟨w0,hw0⟩:=zqe w 62 #[.slice A n c,.int .i64 dh,.string dn,pq,uf,.bool async]
 rw[← hw0]
 have bA:=zqn hw0
 have hB0:=zqb hw0
 clear hw0
 refine(a0l ⟨dh,dn,ku,ny⟩ (B:=B) (cs:=[.int .i64 dh,.string dn,pq,uf]) (Nat.le_trans hB hB0.size) HWR.out (Ty.close_ (acs.out.below (hB0.mono hB)) (ado.out.below (hB0.mono hB)))).mono ?_
 rintro e w1 ⟨rfl,hb1⟩
 have hB1:=hB0.trans (hb1.mono hB0.size)
 have bA1:=bA.step hb1
 clear bA
 cases hok:afp ⟨dh,dn,ku,ny⟩
 ·have HF:Hid (R=false):=by show _=_;rw[HR.out,HD.out,hok];rfl
  go_wp2_with fail
  go_ret
  exact⟨ah HF.out.symm,hB1⟩
 obtain⟨aqm,apm,apn,anw,apo,a18⟩:=zc6 bA1
 go_wp2_with fail
 refine(amk 21 21 ⟨dh,dn,ku,ny⟩ B [.int .i64 dh,.string dn,pq,uf] w1 (Nat.le_trans hB hB1.size) (Ty.close_ (acs.out.below (hB1.mono hB)) (ado.out.below (hB1.mono hB)))).mono ?_
 rintro e w2 ⟨rfl,hb2⟩
 have hB2:=hB1.trans (hb2.mono hB1.size)
 have bA2:=bA1.step hb2
 clear bA1
 cases hhas:Ty.has 21 21 ⟨dh,dn,ku,ny⟩
 case true=>
  have HF:Hid (R=false):=by show _=_;rw[HR.out,HD.out,hok,hhas];rfl
  go_wp2_with fail
  go_ret
  exact⟨ah HF.out.symm,hB2⟩
 have HF:Hid (R=(!params.any (fun p=>!aln p) && decide (params.map Param.name).Nodup)):=by show _=_;rw[HR.out,HD.out,hok,hhas];rfl
 clear hok hhas HR
 go_wp2_with fail
 go_loopw [3] (fun i wr=>∃ k:Nat,k≤n∧i=.int .i64 k∧Hid (∀ j,j < k→amm params j=true)∧Below w2.heap.size w2 wr) (fun i _=>n - (intOf i).toNat)
 case atStart=>exact⟨0,Nat.zero_le _,rfl,zqd fun j h=>absurd h (by omega),zqf _ _⟩
 case round=>
  obtain⟨k,hk,rfl,HP,hbr⟩:=hrel
  have hsz:=hbr.size
  have hBr:=hB2.trans (hbr.mono hB2.size)
  have bR:=bA2.step hbr
  have b_0:wr.cell? ⟨w.heap.size,0,none⟩=some (.slice A n c):=bR.cell 0
  by_cases hlt:k < n
  ·obtain⟨g,off,rfl,hg,hcell⟩:=hat (by omega)
   obtain⟨t,hx,hmem⟩:=um HN.out hlt
   obtain⟨name,⟨je,jm,ou,uj⟩⟩:=t
   have ape:wr.cell? ⟨g,off+k * 5,none⟩=some (.string name):=bg hBr (by omega) (hcell k 0 _ _ hx (by rw[Param.aj];rfl))
   have al8:wr.cell? ⟨g,off+k * 5+1,none⟩=some (.int .i64 je):=bg hBr (by omega) (hcell k 1 _ _ hx (by rw[Param.aj];rfl))
   have al9:wr.cell? ⟨g,off+k * 5+2,none⟩=some (.string jm):=bg hBr (by omega) (hcell k 2 _ _ hx (by rw[Param.aj];rfl))
   obtain⟨aa0,ake,abo⟩:∃ u,wr.cell? ⟨g,off+k * 5+3,none⟩=some u∧Rep wr B (.row 1 (ou.flatMap qj)) u:=jc hBr (by omega) hB (hcell k 3 _ _ hx (by rw[Param.aj];rfl))
   have ac7:=zqd abo
   clear abo
   obtain⟨ab7,ama,acw⟩:∃ u,wr.cell? ⟨g,off+k * 5+4,none⟩=some u∧Rep wr B (.row 4 (uj.flatMap Ty.pd)) u:=jc hBr (by omega) hB (hcell k 4 _ _ hx (by rw[Param.aj];rfl))
   have aef:=zqd acw
   clear acw
   obtain⟨abr,abt,abu,rfl⟩:=ac7.out.form
   obtain⟨ac0,ac1,ac2,rfl⟩:=aef.out.form
   have HX:=zqd hx
   have HM:=zqd hmem
   clear hx hmem
   have hs:=bmk (HWP.out _ HM.out)
   have hsa:=bq9 HX.out
   rw[aln] at hsa
   simp only at hsa
   have HSA:=zqd hsa
   have HTW:=zqd hs.2
   have hs1:=hs.1
   have ap1:=zqd hcell
   clear hsa hs hcell hat
   go_wp2_with fail
   obtain⟨w3,hw3⟩:=zqe wr 115 #[.string name,.int .i64 je,.string jm,.slice abr abt abu,.slice ac0 ac1 ac2]
   rw[← hw3]
   have bE:=zqn hw3
   have hb3:=zqb hw3
   clear hw3
   have brb:=hbr.trans (hb3.mono hbr.size)
   have hB3:=hBr.trans (hb3.mono hBr.size)
   refine(afr name hs1 _).mono ?_
   rintro e w4 ⟨rfl,rfl⟩
   cases hnm:zn name
   ·have HF2:Hid (R=false):=by show _=_;rw[HF.out,aww (k:=k) (by rw[HSA.out,hnm];rfl)]
    go_wp2_with fail
    go_ret
    exact⟨ah HF2.out.symm,hB3⟩
   have e_1:w3.cell? ⟨wr.heap.size,1,none⟩=some (.int .i64 je):=bE.cell 1
   have e_2:w3.cell? ⟨wr.heap.size,2,none⟩=some (.string jm):=bE.cell 2
   have e_3:w3.cell? ⟨wr.heap.size,3,none⟩=some (.slice abr abt abu):=bE.cell 3
   have e_4:w3.cell? ⟨wr.heap.size,4,none⟩=some (.slice ac0 ac1 ac2):=bE.cell 4
   have hBw3:=Nat.le_trans hB hBr.size
   go_wp2_with fail
   refine(a0l ⟨je,jm,ou,uj⟩ (B:=B) (cs:=[.int .i64 je,.string jm,.slice abr abt abu,.slice ac0 ac1 ac2]) (Nat.le_trans hB hB3.size) HTW.out (Ty.close_ (ac7.out.below (hb3.mono hBw3)) (aef.out.below (hb3.mono hBw3)))).mono ?_
   rintro e w5 ⟨rfl,hb5⟩
   have bE5:=bE.step hb5
   have hB5:=hB3.trans (hb5.mono hB3.size)
   have bjh:=brb.trans (hb5.mono brb.size)
   have bR5:=(bR.step hb3).step hb5
   clear e_1 e_2 e_3 e_4
   cases hto:afp ⟨je,jm,ou,uj⟩
   ·have HF2:Hid (R=false):=by show _=_;rw[HF.out,aww (k:=k) (by rw[HSA.out,hnm,hto];rfl)]
    go_wp2_with fail
    go_ret
    exact⟨ah HF2.out.symm,hB5⟩
   have e_1:w5.cell? ⟨wr.heap.size,1,none⟩=some (.int .i64 je):=bE5.cell 1
   by_cases hu:je=1
   ·have HF2:Hid (R=false):=by show _=_;rw[HF.out,aww (k:=k) (by rw[HSA.out,hnm,hto,Ty.isUnit,Ty.kind,hu];rfl)]
    have hke:(je ==1)=true:=by simpa using hu
    clear hu
    go_wp2_with fail
    go_ret
    exact⟨ah HF2.out.symm,hB5⟩
   have HSB:Hid (amm params k=!(params.take k).any (fun y=>decide (y.name=name))):=by
    show _=_
    rw[HSA.out,hnm,hto,Ty.isUnit,Ty.kind,show(je ==1)=false by simpa using hu]
    rfl
   have hke:(je ==1)=false:=by simpa using hu
   clear hu hnm hto HSA
   have e_0:w5.cell? ⟨wr.heap.size,0,none⟩=some (.string name):=bE5.cell 0
   have d_0:w5.cell? ⟨w.heap.size,0,none⟩=some (.slice (some ⟨g,off,none⟩) n c):=bR5.cell 0
   go_wp2_with fail
   clear e_1 b_0 bR bE bE5 bR5
   obtain⟨wo,rfl⟩:∃ W,W=wr:=⟨_,rfl⟩
   go_loopw [5] (fun j ws=>∃ m:Nat,m≤k∧j=.int .i64 m∧Hid (∀ (j:Nat) (t:Param),j < m→params[j]?=some t→(fun y:Param=>decide (y.name=name)) t=false)∧∃ q,ws=w5.drewN q) (fun j _=>k - (intOf j).toNat)
   case atStart=>exact⟨0,Nat.zero_le _,rfl,zqd fun j t h=>absurd h (by omega),0,rfl⟩
   case round=>
    obtain⟨m,hm2,rfl,HM2,q,rfl⟩:=hrel
    by_cases hlt2:m < k
    ·obtain⟨t2,hx2,_⟩:=um HN.out (show m < n by omega)
     obtain⟨name2,⟨kind2,b29,b3a,b3b⟩⟩:=t2
     have c2:w5.cell? ⟨g,off+m * 5,none⟩=some (.string name2):=bg hB5 (by omega) (ap1.out m 0 _ _ hx2 (by rw[Param.aj];rfl))
     have HX2:=zqd hx2
     have hm0:(0:Int)≤(m:Int):=by omega
     have hmn:(m:Int) < (n:Int):=by omega
     clear hx2
     by_cases hne:name2=name
     ·have HF2:Hid (R=false):=by
       show _=_
       rw[HF.out,aww (k:=k)]
       rw[HSB.out,Bool.not_eq_false',List.any_eq_true]
       exact⟨_,List.mem_take_iff_getElem.2 ⟨m,by have:=HN.out;omega,(List.getElem?_eq_some_iff.1 HX2.out).2⟩,by simpa using hne⟩
      subst hne
      go_wp2_with fail
      go_quiet (fail)
      go_wp2_with fail
      go_ret
      exact⟨ah HF2.out.symm,by rw[World.drewN_drewN];exact below_drewN hB5 _⟩
     ·have hs2:(name2.toList ==name.toList)=false:=aeu hne
      have HQ:=zqd (agd HM2.out HX2.out (by simp[hne]))
      clear hne
      go_wp2_with fail
      go_quiet (fail)
      go_wp2_with fail
      go_roundw
      case rel=>exact⟨m+1,by omega,by go_num,HQ,_,rfl⟩
      case measure=>simp[intOf];omega
    ·have hmk:m=k:=by omega
     have HQ:Hid (amm params k=true):=by
      show _=_
      rw[HSB.out,Bool.not_eq_true',List.any_eq_false]
      intro y hy
      obtain⟨j,hj,hje⟩:=List.mem_take_iff_getElem.1 hy
      have:=HM2.out j y (by omega) (by rw[List.getElem?_eq_getElem (by omega),hje])
      simpa using this
     have HQ2:=zqd (bjg HP.out HQ.out)
     obtain rfl:k=m:=hmk.symm
     go_wp2_with fail
     go_roundw
     case rel=>exact⟨k+1,by omega,by go_num,HQ2,below_drewN bjh _⟩
     case measure=>simp[intOf];omega
  ·have hkn:k=n:=by omega
   have HF2:Hid (R=true):=by show _=_;rw[HF.out,seq_ok fun j hj=>HP.out j (by have:=HN.out;omega)]
   subst hkn
   go_wp2_with fail
   go_ret
   exact⟨ah HF2.out.symm,hBr⟩
end Go.Proofs.YtbafphecjijdmaaGreatDoor
namespace Go.Proofs.YtbafphecjijdmaaGreatDoor
open Go.RowKit
set_option linter.all false
def aqn (at_ n:ByteArray):ByteArray:=((at_ ++⟨#[40]⟩) ++n) ++⟨#[41]⟩
def funcF (rec:Ty→Ty→ByteArray→Why) (at_:ByteArray) (ap bp:List Param) (k:Nat):Why:=
 match ap[k]?,bp[k]? with
 | some x,some y=>if x.name=y.name then rec y.typ x.typ (aqn at_ y.name)else some (7,aqn at_ y.name)
 | _,_=>none
def ah3 (rec:Ty→Ty→ByteArray→Why) (a b:jh) (at_:ByteArray):Why:=
 if a.params.length=b.params.length then
  match zq (funcF rec at_ a.params b.params) a.params.length with
  | some r=>some r
  | none=>match rec a.result b.result (at_ ++⟨#[45,62]⟩)with
   | some r=>some r
   | none=>if a.async=true∧b.async=false then some (8,at_)else none
 else some (7,at_)
theorem a7u {rec:Ty→Ty→ByteArray→Why} {at_:ByteArray} {ap bp:List Param} {k:Nat} {x y:Param} (hx:ap[k]?=some x) (hy:bp[k]?=some y) (h:¬ x.name=y.name):funcF rec at_ ap bp k=some (7,aqn at_ y.name):=by simp only[funcF,hx,hy];rw[if_neg h]
theorem funcF_eq {rec:Ty→Ty→ByteArray→Why} {at_:ByteArray} {ap bp:List Param} {k:Nat} {x y:Param} (hx:ap[k]?=some x) (hy:bp[k]?=some y) (h:x.name=y.name):funcF rec at_ ap bp k=rec y.typ x.typ (aqn at_ y.name):=by simp only[funcF,hx,hy];rw[if_pos h]
theorem bgg {t:Ty} (h:afp t=true):OkT 4 t:=by
 simp only[afp,Bool.and_eq_true,decide_eq_true_eq] at h
 exact⟨h.1.1,h.2⟩
structure OkF (f:jh):Prop where
 par:∀ p ∈ f.params,OkT 4 p.typ∧p.name.size≤12
 res:OkT 4 f.result
 len:f.params.length≤6
theorem aqo {f:jh} (h:ai7 f=true):OkF f:=by
 simp only[ai7,Bool.and_eq_true,decide_eq_true_eq] at h
 obtain⟨h1,h2,h3,h4,h5⟩:=h
 rw[Bool.not_eq_true',List.any_eq_false] at h4
 refine⟨fun p hp=>?_,bgg h2,h1⟩
 have hb:aln p=true:=by have:=h4 p hp;simpa using this
 simp only[aln,Bool.and_eq_true] at hb
 exact⟨bgg hb.2.1,(aiv hb.1).2⟩
theorem a3q {rec:Ty→Ty→ByteArray→Why} {a b:jh} {at_:ByteArray} (h:¬ a.params.length=b.params.length):ah3 rec a b at_=some (7,at_):=if_neg h
theorem aq9 {rec:Ty→Ty→ByteArray→Why} {a b:jh} {at_:ByteArray} {r:Int×ByteArray} (h:a.params.length=b.params.length) (h1:zq (funcF rec at_ a.params b.params) a.params.length=some r):ah3 rec a b at_=some r:=by rw[ah3,if_pos h,h1]
theorem a3r {rec:Ty→Ty→ByteArray→Why} {a b:jh} {at_:ByteArray} {r:Int×ByteArray} (h:a.params.length=b.params.length) (h1:zq (funcF rec at_ a.params b.params) a.params.length=none) (h2:rec a.result b.result (at_ ++⟨#[45,62]⟩)=some r):ah3 rec a b at_=some r:=by rw[ah3,if_pos h,h1,h2]
theorem a3s {rec:Ty→Ty→ByteArray→Why} {a b:jh} {at_:ByteArray} (h:a.params.length=b.params.length) (h1:zq (funcF rec at_ a.params b.params) a.params.length=none) (h2:rec a.result b.result (at_ ++⟨#[45,62]⟩)=none):ah3 rec a b at_=if a.async=true∧b.async=false then some (8,at_)else none:=by rw[ah3,if_pos h,h1,h2]
def bmm (fid:Nat):Prop:=∀ (a b:jh) (at_:ByteArray) (B:Nat) (cs ds:List Value) (w:World),B≤w.heap.size→afg w→OkF a→OkF b→at_.size≤900000→lq w B (jh.pd a) cs→lq w B (jh.pd b) ds→
 Calls Tryz.prog fid #[.agg cs.toArray,.agg ds.toArray,.string at_] w fun e w'=>WQ (ah3 (agf 4) a b at_) w e w'
def byt (s:ByteArray):List Int:=s.data.toList.map fun b=>(b.toNat:Int)
@[simp] theorem anx (s:ByteArray):(byt s).length=s.size:=by simp[byt]
theorem bnt {s:ByteArray} {k:Nat} (h:k < s.size):(byt s)[k]?=some ((s[k].toNat:Nat):Int):=by
 rw[byt,List.getElem?_map,Go.Proofs.byte_at s k h];rfl
theorem awx (s t:ByteArray):byt (s ++t)=byt s ++byt t:=by simp[byt]
def ajk (u:Nat):List Int:=(Lib.decDigits u).map fun b=>(b.toNat:Int)
theorem anc {u:Nat} (h:u < 10):ajk u=[48+(u:Int)]:=by
 rw[ajk,Lib.decDigits,dif_pos h,List.map_cons,List.map_nil]
 congr 1
 rw[UInt8.toNat_ofNat']
 have:(48+u) % 2 ^ 8=48+u:=Nat.mod_eq_of_lt (by omega)
 omega
theorem amb {u:Nat} (h:¬ u < 10):ajk u=ajk (u / 10) ++[48+((u % 10:Nat):Int)]:=by
 rw[ajk,Lib.decDigits,dif_neg h,List.map_append,List.map_cons,List.map_nil]
 congr 2
 rw[UInt8.toNat_ofNat']
 have:(48+u % 10) % 2 ^ 8=48+u % 10:=Nat.mod_eq_of_lt (by omega)
 omega
theorem ard:∀ (k u:Nat),u≤k→∀ c ∈ ajk u,48≤c∧c≤57
 | k,u,hk,c,hc=>by
  by_cases h:u < 10
  ·rw[anc h,List.mem_singleton] at hc
   omega
  ·rw[amb h] at hc
   rcases List.mem_append.1 hc with hc|hc
   ·match k,hk with
    | 0,hk=>omega
    | k+1,hk=>exact ard k (u / 10) (by omega) c hc
   ·rw[List.mem_singleton] at hc
    omega
theorem a3t:∀ (k u:Nat),1≤k→u < 10 ^ k→(ajk u).length≤k
 | 0,u,h1,h=>absurd h1 (by omega)
 | k+1,u,_,h=>by
  by_cases hu:u < 10
  ·rw[anc hu];simp
  ·rw[amb hu,List.length_append,List.length_singleton]
   have h10:10 ^ (k+1)=10 ^ k * 10:=Nat.pow_succ 10 k
   have hk:1≤k:=by
    rcases Nat.eq_zero_or_pos k with rfl|hk
    ·simp at h;omega
    ·exact hk
   have:=a3t k (u / 10) hk (by omega)
   omega
theorem bgh:∀ (u:Nat),ajk u≠[]:=fun u=>by
 by_cases h:u < 10
 ·rw[anc h];simp
 ·rw[amb h];simp
theorem a0m {M:Nat} (hM:M≤18446744073709551615):∀ (k u:Nat) (r:List UInt8),u≤k→u≤M→Lib.parseUintM M 0 (Lib.decDigits u ++r)=Lib.parseUintM M u r
 | k,u,r,hk,hu=>by
  by_cases h:u < 10
  ·rw[Lib.decDigits,dif_pos h]
   show Lib.parseUintM M 0 (UInt8.ofNat (48+u) ::r)=_
   have e:(UInt8.ofNat (48+u)).toNat=48+u:=by rw[UInt8.toNat_ofNat'];exact Nat.mod_eq_of_lt (by omega)
   rw[Lib.parseUintM,e,if_pos (by omega),if_neg (by omega),if_neg (by omega)]
   have:0 * 10+(48+u - 48)=u:=by omega
   rw[this]
  ·rw[Lib.decDigits,dif_neg h,List.append_assoc]
   match k,hk with
   | 0,hk=>omega
   | k+1,hk=>
    rw[a0m hM k (u / 10) _ (by omega) (by omega)]
    show Lib.parseUintM M (u / 10) (UInt8.ofNat (48+u % 10) ::r)=_
    have e:(UInt8.ofNat (48+u % 10)).toNat=48+u % 10:=by rw[UInt8.toNat_ofNat'];exact Nat.mod_eq_of_lt (by omega)
    have e2:u / 10 * 10+(48+u % 10 - 48)=u:=by omega
    rw[Lib.parseUintM,e,if_pos (by omega),if_neg (by omega),e2,if_neg (by omega)]
theorem ar7 (u:Nat):∃ c r,Lib.decDigits u=c ::r∧48≤c.toNat∧c.toNat≤57:=by
 cases hd:Lib.decDigits u with
 | nil=>exact absurd (by rw[ajk,hd];rfl) (bgh u)
 | cons c r=>
  have:=ard u u (zql _) (c.toNat:Int) (by rw[ajk,hd];simp)
  exact⟨c,r,rfl,by omega,by omega⟩
theorem bd0 {n:Int} (h0:-9223372036854775808≤n) (h1:n≤9223372036854775807):Lib.parseIntB 64 (Lib.itoa n)=.ok n:=by
 have hp:(2:Nat) ^ 64 - 1=18446744073709551615:=by decide
 have hq:(2:Nat) ^ (64 - 1)=9223372036854775808:=by decide
 have hM:∀ u:Nat,u≤18446744073709551615→Lib.parseUintB 64 (Lib.decDigits u)=.ok u:=fun u hu=>by
  obtain⟨c,r,hc,_,_⟩:=ar7 u
  have hne:¬ Lib.decDigits u=[]:=by rw[hc];simp
  rw[Lib.parseUintB,if_neg hne,hp]
  have:=a0m (M:=18446744073709551615) (zql _) u u [] (zql _) hu
  rw[List.append_nil] at this
  rw[this];rfl
 by_cases h:n < 0
 ·rw[Lib.itoa,if_pos h,Lib.parseIntB_minus,hM _ (by omega),hq,Lib.signedC]
  rw[if_neg (by omega)]
  congr 1
  omega
 ·rw[Lib.itoa,if_neg h]
  obtain⟨c,r,hc,hc1,hc2⟩:=ar7 n.toNat
  have hm:=hM n.toNat (by omega)
  rw[hc] at hm ⊢
  rw[Lib.parseIntB_plain 64 c r (by omega) (by omega),hm,hq,Lib.signlessC]
  rw[if_neg (by omega)]
  congr 1
  omega
def ah7 (c:UInt8):List UInt8→List (List UInt8)
 | []=>[[]]
 | x ::r=>if x=c then [] ::ah7 c r else match ah7 c r with
  | []=>[[x]]
  | p ::ps=>(x ::p) ::ps
theorem awy (c:UInt8):∀ l,ah7 c l≠[]
 | []=>by simp[ah7]
 | x ::r=>by
  rw[ah7]
  split
  ·simp
  ·split<;>simp
theorem bnu {x c:UInt8} (h:x≠c) (r:List UInt8):Lib.indexByte (x ::r) c=if Lib.indexByte r c ==-1 then -1 else Lib.indexByte r c+1:=by
 have hx:(x ==c)=false:=by simpa using h
 rw[Lib.indexByte,hx]
 rfl
theorem ba2 {x c:UInt8} (h:x≠c):∀ (k:Nat) (r p:List UInt8) (ps:List (List UInt8)),Lib.splitK [c] 0 k r=p ::ps→Lib.splitK [c] 0 k (x ::r)=(x ::p) ::ps
 | 0,r,p,ps,e=>by
  rw[Lib.splitK] at e
  injection e with e1 e2
  subst e1 e2
  rfl
 | k+1,r,p,ps,e=>by
  rw[Lib.splitK,Lib.index_one] at e
  rw[Lib.splitK,Lib.index_one,bnu h]
  have hg:=Lib.indexByte_ge r c
  by_cases hi:Lib.indexByte r c=-1
  ·rw[hi] at e ⊢
   simp at e ⊢
   exact e
  ·obtain⟨i,hi2⟩:∃ i:Nat,Lib.indexByte r c=i:=⟨(Lib.indexByte r c).toNat,by omega⟩
   rw[hi2] at e ⊢
   have hne:¬ ((i:Int) ==-1)=true:=by simp<;>omega
   have hne2:¬ ((i:Int)+1 ==-1)=true:=by simp<;>omega
   have ht:((i:Int)+1).toNat=i+1:=by omega
   have ht2:((i:Int)).toNat=i:=by omega
   rw[if_neg hne,ht2] at e
   rw[if_neg hne,if_neg hne2,ht]
   simp only[List.length_cons,List.length_nil,Nat.add_zero,Nat.zero_add] at e ⊢
   injection e with e1 e2
   subst e1 e2
   simp
theorem as9 (c:UInt8):∀ l:List UInt8,Lib.splitK [c] 0 (l.count c) l=ah7 c l
 | []=>by simp[Lib.splitK,ah7]
 | x ::r=>by
  by_cases h:x=c
  ·subst h
   rw[List.count_cons_self,Lib.splitK,Lib.index_one,Lib.indexByte,ah7]
   simp[as9 x r]
  ·have ih:=as9 c r
   rw[List.count_cons_of_ne h,ah7,if_neg h]
   cases hc:ah7 c r with
   | nil=>exact absurd hc (awy c r)
   | cons p ps=>rw[hc] at ih;exact ba2 h _ r p ps ih
theorem avh (c:UInt8) (s:ByteArray):(Lib.splitB ⟨#[c]⟩ 0 (Lib.countB s ⟨#[c]⟩) s).map (·.data.toList)=ah7 c s.data.toList:=by
 rw[Lib.splitB_data]
 have:Lib.countB s ⟨#[c]⟩=s.data.toList.count c:=by
  show Lib.count s.data.toList [c]=_
  exact Lib.count_one c _
 rw[this]
 exact as9 c _
theorem a19 {c:UInt8}:∀ (p r:List UInt8),(∀ x ∈ p,x≠c)→∀ (q:List UInt8) (qs:List (List UInt8)),ah7 c r=q ::qs→ah7 c (p ++r)=(p ++q) ::qs
 | [],r,_,q,qs,e=>e
 | x ::p,r,h,q,qs,e=>by
  rw[List.cons_append,ah7,if_neg (h x (by simp)),a19 p r (fun y hy=>h y (by simp[hy])) q qs e]
  rfl
theorem bji {c:UInt8} {p:List UInt8} (h:∀ x ∈ p,x≠c):ah7 c p=[p]:=by
 have:=a19 p [] h [] [] rfl
 simpa using this
theorem a7v {c:UInt8} {p r:List UInt8} (h:∀ x ∈ p,x≠c):ah7 c (p ++c ::r)=p ::ah7 c r:=by
 have:=a19 p (c ::r) h [] (ah7 c r) (by rw[ah7,if_pos rfl])
 simpa using this
def awz (c:UInt8):List (List UInt8)→List UInt8
 | []=>[]
 | [p]=>p
 | p ::q ::ps=>p ++c ::awz c (q ::ps)
theorem bd1 (c x:UInt8) (p:List UInt8) (ps:List (List UInt8)):awz c ((x ::p) ::ps)=x ::awz c (p ::ps):=by
 cases ps with
 | nil=>rfl
 | cons q qs=>rfl
theorem a7w (c:UInt8):∀ l:List UInt8,awz c (ah7 c l)=l
 | []=>rfl
 | x ::r=>by
  have ih:=a7w c r
  rw[ah7]
  split
  ·next h=>
   subst h
   cases hc:ah7 x r with
   | nil=>exact absurd hc (awy x r)
   | cons p ps=>rw[hc] at ih;rw[awz,ih];first|done|rfl
  ·split
   ·next he=>exact absurd he (awy c r)
   ·next p ps he=>rw[he] at ih;rw[bd1,ih]
theorem a0n {n:Int} (h:0≤n):(abz n).data.toList=Lib.decDigits n.toNat:=by
 rw[abz,Lib.itoa,if_neg (by omega)]
theorem bjj:∀ (k u:Nat),u≤k→∀ c ∈ Lib.decDigits u,48≤c.toNat∧c.toNat≤57:=fun k u h c hc=>by
 have:=ard k u h (c.toNat:Int) (by rw[ajk];exact List.mem_map.2 ⟨c,hc,rfl⟩)
 omega
theorem bgi {n:Int} (h:0≤n):∀ c ∈ (abz n).data.toList,48≤c.toNat∧c.toNat≤57:=fun c hc=>bjj _ _ (zql _) c (by rwa[a0n h] at hc)
theorem ayn {n:Int} (h:0≤n) {x:UInt8} (hx:x.toNat < 48):∀ c ∈ (abz n).data.toList,c≠x:=fun c hc e=>by
 have:=bgi h c hc
 rw[e] at this
 omega
theorem avi {n:Int} (h:0≤n):byt (abz n)=ajk n.toNat:=by
 show(abz n).data.toList.map _=_
 rw[a0n h];rfl
def ah8 (t:ByteArray):Int×Bool:=match Lib.parseIntB 64 t.data.toList with
 | .ok v=>if abz v=t then (v,true)else (0,false)
 | _=>(0,false)
theorem bgj {l:List UInt8} {v:Int} (h:Lib.parseIntB 64 l=.ok v):-9223372036854775808≤v∧v≤9223372036854775807:=by
 have hq:(2:Nat) ^ (64 - 1)=9223372036854775808:=by decide
 cases l with
 | nil=>rw[Lib.parseIntB] at h;cases h
 | cons c r=>
  rw[Lib.parseIntB] at h
  simp only[hq] at h
  split at h
  ·cases h
  ·cases h
  ·split at h
   ·cases h
   ·split at h
    ·cases h
    ·injection h with h
     split at h<;>constructor<;>omega
theorem a2a {t:ByteArray} {v:Int} (h:Lib.parseIntB 64 t.data.toList=.ok v):ah8 t=if abz v=t then (v,true)else (0,false):=by rw[ah8,h]
theorem bgk {n:Int} (h0:-9223372036854775808≤n) (h1:n≤9223372036854775807):ah8 (abz n)=(n,true):=by
 have hp:Lib.parseIntB 64 (abz n).data.toList=.ok n:=by
  have:=bd0 h0 h1
  simpa [abz] using this
 rw[a2a hp,if_pos rfl]
end Go.Proofs.YtbafphecjijdmaaGreatDoor
