/-
  Valid function types of the program: paramsOk, FuncOk (by program: gen_pa.py).
-/
import Derived.Test.YtbafphecjijdmaaGreatDoorUb23
import Derived.Test.YtbafphecjijdmaaGreatDoorUb22
import Derived.Test.YtbafphecjijdmaaGreatDoorUb14
namespace Go.Proofs.YtbafphecjijdmaaGreatDoor
open Go.RowKit
set_option linter.all false
set_option maxRecDepth 16000
theorem auq:∀ xs:List ByteArray,xs.flatMap qj=xs.map fun s=>PD.lit (.string s)
 | []=>rfl
 | x ::xs=>by rw[List.flatMap_cons,auq xs,qj];rfl
theorem ane {w:World} {base n:Nat} {e:TypeId} {v:Value} {xs:List ByteArray} (h:w.ownsRow base e 1 v n (strs xs)):Rep w w.heap.size (.row 1 (xs.flatMap qj)) v:=by
 obtain⟨A,n',c,rfl,hm,hl,hr⟩:=(Own.aj7 h).rd
 rw[Rep]
 refine⟨A,n',c,rfl,?_,hm,fun h0=>?_⟩
 ·rw[afw aaz]
  simpa [strs] using hl
 ·obtain⟨g,off,rfl,hg,hc⟩:=hr h0
  refine⟨g,off,rfl,hg,aso.2 fun j x hj=>?_⟩
  rw[auq,List.getElem?_map] at hj
  cases hx:xs[j]? with
  | none=>rw[hx] at hj;cases hj
  | some s=>
   rw[hx] at hj
   cases hj
   exact⟨_,hc j (.string s) (by simp[strs,hx]),by rw[Rep]⟩
theorem ajx (x:ByteArray):∀ u ∈ [Value.string x],u.oneCell'=true:=by
 intro u hu
 rw[List.mem_singleton.1 hu]
 rfl
theorem ar9 {α β:Type} {f:α→β} {xs:List α} {k:Nat} {t:α} (h:xs[k]?=some t):(xs.take (k+1)).map f=(xs.take k).map f ++[f t]:=by
 rw[List.take_add_one,h,List.map_append]
 rfl
theorem afs (xs ys:List ByteArray):strs (xs ++ys)=strs xs ++strs ys:=by simp[strs]
def aw1 (ps:List Param):Bool:=!ps.any (fun p=>!aln p) && (decide (ps.length≤6) && decide (ps.map Param.name).Nodup)
set_option maxHeartbeats 3200000 in
theorem a8d {ps:List Param} (hwf:∀ p ∈ ps,PD.wfL (Param.pd p)) (hz:∀ p ∈ ps,p.typ.parts≤4194304) (hl:ps.length≤1048576) {B:Nat} {v:Value} {w:World} (hB:B≤w.heap.size) (h:Rep w B (.row 5 (ps.flatMap Param.pd)) v):
  Calls Tryz.prog 83 #[v] w fun e w'=>e=.returned (.bool (aw1 ps))∧Below w.heap.size w w':=by
 obtain⟨i0,hi,hz0,hz1,hz2⟩:=info_parts amu
 obtain⟨A,n,c,rfl,hnl,hm,hat⟩:=ni Param.jd (by decide) h
 unfold maxLen at hm
 have hnn:n≤1048576:=by omega
 have HN:=zqd hnl
 have HWP:=zqd hwf
 have HZ:=zqd hz
 obtain⟨R,hR⟩:∃ R:Bool,R=aw1 ps:=⟨_,rfl⟩
 rw[← hR]
 rw[aw1] at hR
 have HR:=zqd hR
 clear h hnl hwf hz hl hR
 have ho0:(w.alloc (.cells #[] 9)).ownsRow w.heap.size 9 1 (.slice (some ⟨w.heap.size,0,none⟩) 0 0) 0 (strs []):=World.ownsRow_made w #[] 0 (zql _) (by simp) (by simp)
 have hb0:Below w.heap.size w (w.alloc (.cells #[] 9)):=(zqf _ _).alloc (zql _) _
 go_enter Tryz.func83,Tryz.ntmps83
 go_wp2_with fail
 go_loopw [3,9] (fun out i wr=>∃ (k:Nat) (u:Value),u=out∧k≤n∧i=.int .i64 k∧Hid (∀ (j:Nat) (t:Param),j < k→ps[j]?=some t→(fun p=>!aln p) t=false)∧wr.ownsRow w.heap.size 9 1 u k (strs ((ps.take k).map Param.name))∧Below w.heap.size w wr) (fun _ i _=>n - (intOf i).toNat)
 case atStart=>exact⟨0,_,rfl,Nat.zero_le _,rfl,zqd fun j t h=>absurd h (by omega),ho0,hb0⟩
 case round=>
  clear ho0 hb0
  obtain⟨k,u,rfl,hk,rfl,HP,hown,hbr⟩:=hrel
  have hsz:=hbr.size
  by_cases hlt:k < n
  ·obtain⟨g,off,rfl,hg,hcell⟩:=hat (by omega)
   obtain⟨t,hx,hmem⟩:=um HN.out hlt
   obtain⟨name,⟨je,jm,ou,uj⟩⟩:=t
   have ape:wr.cell? ⟨g,off+k * 5,none⟩=some (.string name):=bg hbr (by omega) (hcell k 0 _ _ hx (by rw[Param.aj];rfl))
   have al8:wr.cell? ⟨g,off+k * 5+1,none⟩=some (.int .i64 je):=bg hbr (by omega) (hcell k 1 _ _ hx (by rw[Param.aj];rfl))
   have al9:wr.cell? ⟨g,off+k * 5+2,none⟩=some (.string jm):=bg hbr (by omega) (hcell k 2 _ _ hx (by rw[Param.aj];rfl))
   obtain⟨aa0,ake,abo⟩:∃ u,wr.cell? ⟨g,off+k * 5+3,none⟩=some u∧Rep wr B (.row 1 (ou.flatMap qj)) u:=jc hbr (by omega) hB (hcell k 3 _ _ hx (by rw[Param.aj];rfl))
   have ac7:=zqd abo
   clear abo
   obtain⟨ab7,ama,acw⟩:∃ u,wr.cell? ⟨g,off+k * 5+4,none⟩=some u∧Rep wr B (.row 4 (uj.flatMap Ty.pd)) u:=jc hbr (by omega) hB (hcell k 4 _ _ hx (by rw[Param.aj];rfl))
   have aef:=zqd acw
   clear acw
   obtain⟨abr,abt,abu,rfl⟩:=ac7.out.form
   obtain⟨ac0,ac1,ac2,rfl⟩:=aef.out.form
   have HX:=zqd hx
   have HM:=zqd hmem
   clear hx hmem
   clear hcell
   have HMS:=zqd (ar9 (f:=Param.name) HX.out)
   have hs:=bmk (HWP.out _ HM.out)
   have hs1:=hs.1
   have HTW:=zqd hs.2
   have HZ1:=zqd (HZ.out _ HM.out)
   have HPB:Hid (aln ⟨name,⟨je,jm,ou,uj⟩⟩=(zn name && (afp ⟨je,jm,ou,uj⟩ && !Ty.isUnit ⟨je,jm,ou,uj⟩))):=rfl
   have HOW:=zqd hown
   have hBw:=Nat.le_trans hB hsz
   clear hs hown
   go_wp2_with fail
   obtain⟨w1,hw1⟩:=zqe wr 115 #[.string name,.int .i64 je,.string jm,.slice abr abt abu,.slice ac0 ac1 ac2]
   rw[← hw1]
   have bE:=zqn hw1
   have hb1:=zqb hw1
   clear hw1
   have hB1:=hbr.trans (hb1.mono hsz)
   refine(aem name hs1 _).mono ?_
   rintro e w2 ⟨rfl,hb2⟩
   have hB2:=hB1.trans (hb2.mono hB1.size)
   have alp:=hb1.trans (hb2.mono hb1.size)
   have bE2:=bE.step hb2
   clear bE
   cases hnm:zn name
   ·have HF:Hid (R=false):=by show _=_;rw[HR.out,ap8 HX.out (by simp[HPB.out,hnm])];rfl
    go_wp2_with fail
    go_ret
    exact⟨ah HF.out.symm,hB2⟩
   have e_1:w2.cell? ⟨wr.heap.size,1,none⟩=some (.int .i64 je):=bE2.cell 1
   have e_2:w2.cell? ⟨wr.heap.size,2,none⟩=some (.string jm):=bE2.cell 2
   have e_3:w2.cell? ⟨wr.heap.size,3,none⟩=some (.slice abr abt abu):=bE2.cell 3
   have e_4:w2.cell? ⟨wr.heap.size,4,none⟩=some (.slice ac0 ac1 ac2):=bE2.cell 4
   go_wp2_with fail
   refine(ar6 ⟨je,jm,ou,uj⟩ (B:=B) (cs:=[.int .i64 je,.string jm,.slice abr abt abu,.slice ac0 ac1 ac2]) (Nat.le_trans hB hB2.size) HTW.out HZ1.out (Ty.close_ (ac7.out.below (alp.mono hBw)) (aef.out.below (alp.mono hBw)))).mono ?_
   rintro e w3 ⟨rfl,hb3⟩
   have hB3:=hB2.trans (hb3.mono hB2.size)
   have bd3:=alp.trans (hb3.mono alp.size)
   have bE3:=bE2.step hb3
   clear bE2 e_1 e_2 e_3 e_4
   cases hto:afp ⟨je,jm,ou,uj⟩
   ·have HF:Hid (R=false):=by show _=_;rw[HR.out,ap8 HX.out (by simp[HPB.out,hnm,hto])];rfl
    go_wp2_with fail
    go_ret
    exact⟨ah HF.out.symm,hB3⟩
   have e_1:w3.cell? ⟨wr.heap.size,1,none⟩=some (.int .i64 je):=bE3.cell 1
   have e_2:w3.cell? ⟨wr.heap.size,2,none⟩=some (.string jm):=bE3.cell 2
   have e_3:w3.cell? ⟨wr.heap.size,3,none⟩=some (.slice abr abt abu):=bE3.cell 3
   have e_4:w3.cell? ⟨wr.heap.size,4,none⟩=some (.slice ac0 ac1 ac2):=bE3.cell 4
   go_wp2_with fail
   refine(a0g ⟨je,jm,ou,uj⟩ (B:=B) (cs:=[.int .i64 je,.string jm,.slice abr abt abu,.slice ac0 ac1 ac2]) (Ty.close_ (ac7.out.below (bd3.mono hBw)) (aef.out.below (bd3.mono hBw)))).mono ?_
   rintro e w4 ⟨rfl,hb4⟩
   have hB4:=hB3.trans (hb4.mono hB3.size)
   have bvm:=bd3.trans (hb4.mono bd3.size)
   have bE4:=bE3.step hb4
   clear bE3 e_1 e_2 e_3 e_4
   cases hu:Ty.isUnit ⟨je,jm,ou,uj⟩
   case true=>
    have HF:Hid (R=false):=by show _=_;rw[HR.out,ap8 HX.out (by simp[HPB.out,hnm,hto,hu])];rfl
    go_wp2_with fail
    go_ret
    exact⟨ah HF.out.symm,hB4⟩
   have HQ:=zqd (agd HP.out HX.out (by simp[HPB.out,hnm,hto,hu]))
   have e_0:w4.cell? ⟨wr.heap.size,0,none⟩=some (.string name):=bE4.cell 0
   have hs4:=(agw HOW.out bvm).alloc (.cells #[Value.string name] 9)
   have hc1:=cell_one_new w4 (Value.string name) 9
   have hB5:Below w.heap.size w (w4.alloc (.cells #[Value.string name] 9)):=hB4.alloc hB4.size _
   clear hnm hto hu bE4
   go_wp2_with (at_builtin;refine wpList_append_own _ rfl _ _ 22 rfl w.heap.size 9 i0 (.string {data:=#[]}) 1 16 Tryz.underlying22 hi hz0 hz1 hz2 rfl (by decide) _ _ _ rfl hs4 ⟨w4.heap.size,0,none⟩ 1 1 [_] rfl rfl hc1 (ajx _) (by simp only[maxLen];omega) (by omega) hB5.size ?_;intro v' w5 hown' hgrow _)
   have hB6:=hB5.grown hgrow hB5.size (fun g hg=>(hs4.lt g hg).1)
   have aky:=zqd hown'
   clear hs4 hc1 hown' hgrow
   go_roundw
   case rel=>exact⟨k+1,_,rfl,by omega,by go_num,HQ,by rw[HMS.out,afs];exact aky.out,hB6⟩
   case measure=>simp[intOf];omega
  ·have hkn:k=n:=by omega
   have HT:Hid (ps.take k=ps):=List.take_of_length_le (by have:=HN.out;omega)
   rw[HT.out] at hown
   have LI:=zqd (ane hown)
   have hll:(ps.map Param.name).length≤1048576:=by rw[List.length_map];have:=HN.out;omega
   have HA:Hid (R=(decide (ps.length≤6) && decide (ps.map Param.name).Nodup)):=by show _=_;rw[HR.out,any_none (n:=k) (by have:=HN.out;omega) HP.out];rfl
   clear hown
   subst hkn
   by_cases hn6:k≤6
   ·have HF:Hid (R=decide (ps.map Param.name).Nodup):=by show _=_;rw[HA.out,decide_eq_true (by have:=HN.out;omega),Bool.true_and]
    go_wp2_with fail
    refine(distinct_any (zql _) hll LI.out).mono ?_
    rintro e w2 ⟨rfl,hb2⟩
    go_wp2_with fail
    go_ret
    exact⟨ah HF.out.symm,hbr.trans (hb2.mono hsz)⟩
   ·have HF:Hid (R=false):=by show _=_;rw[HA.out,decide_eq_false (by have:=HN.out;omega)];rfl
    go_wp2_with fail
    go_ret
    exact⟨ah HF.out.symm,hbr⟩
set_option maxHeartbeats 1600000 in
theorem a8e (f:jh) (hl:f.params.length≤1048576) (hz:∀ p ∈ f.params,p.typ.parts≤4194304) (hr:f.result.parts≤4194304) {B:Nat} {cs:List Value} {w:World} (hB:B≤w.heap.size) (hwf:PD.wfL (jh.pd f)) (h:lq w B (jh.pd f) cs):
  Calls Tryz.prog 49 #[.agg cs.toArray] w fun e w'=>e=.returned (.bool (ai7 f))∧Below w.heap.size w w':=by
 obtain⟨params,⟨dh,dn,ku,ny⟩,async⟩:=f
 simp only at hl hz hr
 obtain⟨hwp,hwr⟩:=bml hwf
 have HWP:=zqd hwp
 have HWR:=zqd hwr
 have HZ:=zqd hz
 have HZR:=zqd hr
 obtain⟨R,hR⟩:∃ R:Bool,R=ai7 ⟨params,⟨dh,dn,ku,ny⟩,async⟩:=⟨_,rfl⟩
 rw[← hR]
 have hR2:R=(aw1 params && (afp ⟨dh,dn,ku,ny⟩ && !Ty.has 21 21 ⟨dh,dn,ku,ny⟩)):=by
  rw[hR,ai7,aw1]
  simp only
  cases decide (params.length≤6)<;>cases afp ⟨dh,dn,ku,ny⟩<;>cases Ty.has 21 21 ⟨dh,dn,ku,ny⟩<;>cases (params.any fun p=>!aln p)<;>cases decide (params.map Param.name).Nodup<;>rfl
 have HR:=zqd hR2
 clear hR hR2
 obtain⟨aeh,pq,uf,rfl,aea,aao,aa2⟩:=jh.open_ h
 have ags:=zqd aea
 clear aea
 have acs:=zqd aao
 clear aao
 have ado:=zqd aa2
 clear aa2
 obtain⟨A,n,c,rfl⟩:=ags.out.form
 clear h hwf hwp hwr hz hr
 go_enter Tryz.func49,Tryz.ntmps49
 go_wp2_with fail
 obtain⟨w0,hw0⟩:=zqe w 62 #[.slice A n c,.int .i64 dh,.string dn,pq,uf,.bool async]
 rw[← hw0]
 have bA:=zqn hw0
 have hB0:=zqb hw0
 clear hw0
 refine(a8d HWP.out HZ.out hl (Nat.le_trans hB hB0.size) (ags.out.below (hB0.mono hB))).mono ?_
 rintro e w1 ⟨rfl,hb1⟩
 have hB1:=hB0.trans (hb1.mono hB0.size)
 have bA1:=bA.step hb1
 clear bA
 cases hp:aw1 params
 ·have HF:Hid (R=false):=by show _=_;rw[HR.out,hp];rfl
  go_wp2_with fail
  go_ret
  exact⟨ah HF.out.symm,hB1⟩
 obtain⟨aqm,apm,apn,anw,apo,a18⟩:=zc6 bA1
 go_wp2_with fail
 refine(ar6 ⟨dh,dn,ku,ny⟩ (B:=B) (cs:=[.int .i64 dh,.string dn,pq,uf]) (Nat.le_trans hB hB1.size) HWR.out HZR.out (Ty.close_ (acs.out.below (hB1.mono hB)) (ado.out.below (hB1.mono hB)))).mono ?_
 rintro e w2 ⟨rfl,hb2⟩
 have hB2:=hB1.trans (hb2.mono hB1.size)
 have bA2:=bA1.step hb2
 clear bA1 aqm apm apn anw apo a18
 cases hok:afp ⟨dh,dn,ku,ny⟩
 ·have HF:Hid (R=false):=by show _=_;rw[HR.out,hp,hok];rfl
  go_wp2_with fail
  go_ret
  exact⟨ah HF.out.symm,hB2⟩
 have HF:Hid (R=!Ty.has 21 21 ⟨dh,dn,ku,ny⟩):=by show _=_;rw[HR.out,hp,hok];rfl
 clear hp hok HR
 obtain⟨aqm,apm,apn,anw,apo,a18⟩:=zc6 bA2
 go_wp2_with fail
 obtain⟨w3,hw3⟩:=zqe w2 2 #[.int .i64 21]
 rw[← hw3]
 have hbk:=zqb hw3
 have bK:Blk w3 w2.heap.size 2 #[.int .i64 21]:=by rw[hw3];exact Blk.new _ _ _
 clear hw3
 have hB3:=hB2.trans (hbk.mono hB2.size)
 have rk:Rep w3 w3.heap.size (.row 1 ([21].flatMap aoc)) (.slice (some ⟨w2.heap.size,0,none⟩) 1 1):=apd (bK.cell 0) bK.lt
 refine(aml ⟨dh,dn,ku,ny⟩ w3.heap.size [.int .i64 dh,.string dn,pq,uf] _ _ (zql _) (Ty.close_ ((acs.out.below (hB3.mono hB)).more (Nat.le_trans hB hB3.size)) ((ado.out.below (hB3.mono hB)).more (Nat.le_trans hB hB3.size))) rk).mono ?_
 rintro e w4 ⟨rfl,hb4⟩
 go_wp2_with fail
 go_ret
 exact⟨ah HF.out.symm,hB3.trans (hb4.mono hB3.size)⟩
end Go.Proofs.YtbafphecjijdmaaGreatDoor
