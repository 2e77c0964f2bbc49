/-
  Valid function types of the program: paramsOk, FuncOk (by program: gen_pa.py).
-/
import Derived.Test.YtbafphecjijdmaaGreatDoorWa25
import Derived.Test.YtbafphecjijdmaaGreatDoorWa24
import Derived.Test.YtbafphecjijdmaaGreatDoorWa15
namespace Go.Proofs.YtbafphecjijdmaaGreatDoor
open Go.RowKit
set_option linter.unusedVariables false
set_option linter.unusedSimpArgs false
set_option linter.unnecessarySimpa false
set_option maxRecDepth 16000
theorem asf:∀ xs:List ByteArray,xs.flatMap tu=xs.map fun s=>PD.lit (.string s)
 | []=>rfl
 | x ::xs=>by rw[List.flatMap_cons,asf xs,tu];rfl
theorem amb {w:World} {base n:Nat} {e:TypeId} {v:Value} {xs:List ByteArray} (h:w.ownsRow base e 1 v n (strs xs)):Rep w w.heap.size (.row 1 (xs.flatMap tu)) v:=by
 obtain⟨A,n',c,rfl,hm,hl,hr⟩:=(Own.ai7 h).rd
 rw[Rep]
 refine⟨A,n',c,rfl,?_,hm,fun h0=>?_⟩
 ·rw[afz aat]
  simpa [strs] using hl
 ·obtain⟨g,off,rfl,hg,hc⟩:=hr h0
  refine⟨g,off,rfl,hg,aqp.2 fun j x hj=>?_⟩
  rw[asf,List.getElem?_map] at hj
  cases hx:xs[j]? with
  | none=>rw[hx] at hj;cases hj
  | some s=>
   rw[hx] at hj
   cases hj
   exact⟨_,hc j (.string s) (by simp[strs,hx]),by rw[Rep]⟩
theorem ai0 (x:ByteArray):∀ u ∈ [Value.string x],u.oneCell'=true:=by
 intro u hu
 rw[List.mem_singleton.1 hu]
 rfl
theorem aqf {α β:Type} {f:α→β} {xs:List α} {k:Nat} {t:α} (h:xs[k]?=some t):(xs.take (k+1)).map f=(xs.take k).map f ++[f t]:=by
 rw[List.take_add_one,h,List.map_append]
 rfl
theorem afc (xs ys:List ByteArray):strs (xs ++ys)=strs xs ++strs ys:=by simp[strs]
def auo (ps:List Param):Bool:=!ps.any (fun p=>!ako p) && (decide (ps.length≤6) && decide (ps.map Param.name).Nodup)
set_option maxHeartbeats 3200000 in
theorem a2n {ps:List Param} (hwf:∀ p ∈ ps,PD.wfL (Param.pd p)) (hz:∀ p ∈ ps,p.typ.parts≤4194304) (hl:ps.length≤1048576) {B:Nat} {v:Value} {w:World} (hB:B≤w.heap.size) (h:Rep w B (.row 5 (ps.flatMap Param.pd)) v):
  Calls Tryz.prog 83 #[v] w fun e w'=>e=.returned (.bool (auo ps))∧Below w.heap.size w w':=by
 obtain⟨i0,hi,hz0,hz1,hz2⟩:=info_parts alu
 obtain⟨A,n,c,rfl,hnl,hm,hat⟩:=ny Param.jw (by decide) h
 unfold maxLen at hm
 have hnn:n≤1048576:=by omega
 have HN:=Lib.hid hnl
 have HWP:=Lib.hid hwf
 have HZ:=Lib.hid hz
 obtain⟨R,hR⟩:∃ R:Bool,R=auo ps:=⟨_,rfl⟩
 rw[← hR]
 rw[auo] at hR
 have HR:=Lib.hid hR
 clear h hnl hwf hz hl hR
 have ho0:(w.alloc (.cells #[] 9)).ownsRow w.heap.size 9 1 (.slice (some ⟨w.heap.size,0,none⟩) 0 0) 0 (strs []):=World.ownsRow_made w #[] 0 (Nat.le_refl _) (by simp) (by simp)
 have hb0:Below w.heap.size w (w.alloc (.cells #[] 9)):=(Below.refl _ _).alloc (Nat.le_refl _) _
 go_enter Tryz.func83,Tryz.ntmps83
 go_wp2_with fail
 go_loopw [3,9] (fun out i wr=>∃ (k:Nat) (u:Value),u=out∧k≤n∧i=.int .i64 k∧Hid (∀ (j:Nat) (t:Param),j < k→ps[j]?=some t→(fun p=>!ako p) t=false)∧wr.ownsRow w.heap.size 9 1 u k (strs ((ps.take k).map Param.name))∧Below w.heap.size w wr) (fun _ i _=>n - (intOf i).toNat)
 case atStart=>exact⟨0,_,rfl,Nat.zero_le _,rfl,Lib.hid fun j t h=>absurd h (by omega),ho0,hb0⟩
 case round=>
  clear ho0 hb0
  obtain⟨k,u,rfl,hk,rfl,HP,hown,hbr⟩:=hrel
  have hsz:=hbr.size
  by_cases hlt:k < n
  ·obtain⟨g,off,rfl,hg,hcell⟩:=hat (by omega)
   obtain⟨t,hx,hmem⟩:=xg HN.out hlt
   obtain⟨name,⟨iy,ji,og,um⟩⟩:=t
   have an3:wr.cell? ⟨g,off+k * 5,none⟩=some (.string name):=gq hbr (by omega) (hcell k 0 _ _ hx (by rw[Param.ay];rfl))
   have ak5:wr.cell? ⟨g,off+k * 5+1,none⟩=some (.int .i64 iy):=gq hbr (by omega) (hcell k 1 _ _ hx (by rw[Param.ay];rfl))
   have ak6:wr.cell? ⟨g,off+k * 5+2,none⟩=some (.string ji):=gq hbr (by omega) (hcell k 2 _ _ hx (by rw[Param.ay];rfl))
   obtain⟨aau,ajb,abd⟩:∃ u,wr.cell? ⟨g,off+k * 5+3,none⟩=some u∧Rep wr B (.row 1 (og.flatMap tu)) u:=ku hbr (by omega) hB (hcell k 3 _ _ hx (by rw[Param.ay];rfl))
   have acs:=Lib.hid abd
   clear abd
   obtain⟨abx,ak7,ace⟩:∃ u,wr.cell? ⟨g,off+k * 5+4,none⟩=some u∧Rep wr B (.row 4 (um.flatMap Ty.pd)) u:=ku hbr (by omega) hB (hcell k 4 _ _ hx (by rw[Param.ay];rfl))
   have adz:=Lib.hid ace
   clear ace
   obtain⟨abh,abj,abk,rfl⟩:=acs.out.form
   obtain⟨aci,acj,acn,rfl⟩:=adz.out.form
   have HX:=Lib.hid hx
   have HM:=Lib.hid hmem
   clear hx hmem
   clear hcell
   have HMS:=Lib.hid (aqf (f:=Param.name) HX.out)
   have hs:=bgf (HWP.out _ HM.out)
   have hs1:=hs.1
   have HTW:=Lib.hid hs.2
   have HZ1:=Lib.hid (HZ.out _ HM.out)
   have HPB:Hid (ako ⟨name,⟨iy,ji,og,um⟩⟩=(aag name && (ae9 ⟨iy,ji,og,um⟩ && !Ty.isUnit ⟨iy,ji,og,um⟩))):=rfl
   have HOW:=Lib.hid hown
   have hBw:=Nat.le_trans hB hsz
   clear hs hown
   go_wp2_with fail
   obtain⟨w1,hw1⟩:∃ W,W=wr.alloc (.cells #[.string name,.int .i64 iy,.string ji,.slice abh abj abk,.slice aci acj acn] 115):=⟨_,rfl⟩
   rw[← hw1]
   have bE:Blk w1 wr.heap.size 115 #[.string name,.int .i64 iy,.string ji,.slice abh abj abk,.slice aci acj acn]:=by rw[hw1];exact Blk.new wr _ _
   have hb1:Below wr.heap.size wr w1:=by rw[hw1];exact(Below.refl _ _).alloc (Nat.le_refl _) _
   clear hw1
   have hB1:=hbr.trans (hb1.mono hsz)
   refine(aeo name hs1 _).mono ?_
   rintro e w2 ⟨rfl,hb2⟩
   have hB2:=hB1.trans (hb2.mono hB1.size)
   have akq:=hb1.trans (hb2.mono hb1.size)
   have bE2:=bE.step hb2
   clear bE
   cases hnm:aag name
   ·have HF:Hid (R=false):=by show _=_;rw[HR.out,aor HX.out (by simp[HPB.out,hnm])];rfl
    go_wp2_with fail
    go_ret
    exact⟨ah HF.out.symm,hB2⟩
   have e_1:w2.cell? ⟨wr.heap.size,1,none⟩=some (.int .i64 iy):=bE2.cell 1
   have e_2:w2.cell? ⟨wr.heap.size,2,none⟩=some (.string ji):=bE2.cell 2
   have e_3:w2.cell? ⟨wr.heap.size,3,none⟩=some (.slice abh abj abk):=bE2.cell 3
   have e_4:w2.cell? ⟨wr.heap.size,4,none⟩=some (.slice aci acj acn):=bE2.cell 4
   go_wp2_with fail
   refine(aqc ⟨iy,ji,og,um⟩ (B:=B) (cs:=[.int .i64 iy,.string ji,.slice abh abj abk,.slice aci acj acn]) (Nat.le_trans hB hB2.size) HTW.out HZ1.out (Ty.close_ (acs.out.below (akq.mono hBw)) (adz.out.below (akq.mono hBw)))).mono ?_
   rintro e w3 ⟨rfl,hb3⟩
   have hB3:=hB2.trans (hb3.mono hB2.size)
   have a8c:=akq.trans (hb3.mono akq.size)
   have bE3:=bE2.step hb3
   clear bE2 e_1 e_2 e_3 e_4
   cases hto:ae9 ⟨iy,ji,og,um⟩
   ·have HF:Hid (R=false):=by show _=_;rw[HR.out,aor HX.out (by simp[HPB.out,hnm,hto])];rfl
    go_wp2_with fail
    go_ret
    exact⟨ah HF.out.symm,hB3⟩
   have e_1:w3.cell? ⟨wr.heap.size,1,none⟩=some (.int .i64 iy):=bE3.cell 1
   have e_2:w3.cell? ⟨wr.heap.size,2,none⟩=some (.string ji):=bE3.cell 2
   have e_3:w3.cell? ⟨wr.heap.size,3,none⟩=some (.slice abh abj abk):=bE3.cell 3
   have e_4:w3.cell? ⟨wr.heap.size,4,none⟩=some (.slice aci acj acn):=bE3.cell 4
   go_wp2_with fail
   refine(aw7 ⟨iy,ji,og,um⟩ (B:=B) (cs:=[.int .i64 iy,.string ji,.slice abh abj abk,.slice aci acj acn]) (Ty.close_ (acs.out.below (a8c.mono hBw)) (adz.out.below (a8c.mono hBw)))).mono ?_
   rintro e w4 ⟨rfl,hb4⟩
   have hB4:=hB3.trans (hb4.mono hB3.size)
   have bo5:=a8c.trans (hb4.mono a8c.size)
   have bE4:=bE3.step hb4
   clear bE3 e_1 e_2 e_3 e_4
   cases hu:Ty.isUnit ⟨iy,ji,og,um⟩
   case true=>
    have HF:Hid (R=false):=by show _=_;rw[HR.out,aor HX.out (by simp[HPB.out,hnm,hto,hu])];rfl
    go_wp2_with fail
    go_ret
    exact⟨ah HF.out.symm,hB4⟩
   have HQ:=Lib.hid (afr HP.out HX.out (by simp[HPB.out,hnm,hto,hu]))
   have e_0:w4.cell? ⟨wr.heap.size,0,none⟩=some (.string name):=bE4.cell 0
   have hs4:=(af8 HOW.out bo5).alloc (.cells #[Value.string name] 9)
   have hc1:=cell_one_new w4 (Value.string name) 9
   have hB5:Below w.heap.size w (w4.alloc (.cells #[Value.string name] 9)):=hB4.alloc hB4.size _
   clear hnm hto hu bE4
   go_wp2_with (at_builtin;refine wpList_append_own _ rfl _ _ 22 rfl w.heap.size 9 i0 (.string {data:=#[]}) 1 16 Tryz.underlying22 hi hz0 hz1 hz2 rfl (by decide) _ _ _ rfl hs4 ⟨w4.heap.size,0,none⟩ 1 1 [_] rfl rfl hc1 (ai0 _) (by simp only[maxLen];omega) (by omega) hB5.size ?_;intro v' w5 hown' hgrow _)
   have hB6:=hB5.grown hgrow hB5.size (fun g hg=>(hs4.lt g hg).1)
   have ajx:=Lib.hid hown'
   clear hs4 hc1 hown' hgrow
   go_roundw
   case rel=>exact⟨k+1,_,rfl,by omega,by go_num,HQ,by rw[HMS.out,afc];exact ajx.out,hB6⟩
   case measure=>simp[intOf];omega
  ·have hkn:k=n:=by omega
   have HT:Hid (ps.take k=ps):=List.take_of_length_le (by have:=HN.out;omega)
   rw[HT.out] at hown
   have LI:=Lib.hid (amb hown)
   have hll:(ps.map Param.name).length≤1048576:=by rw[List.length_map];have:=HN.out;omega
   have HA:Hid (R=(decide (ps.length≤6) && decide (ps.map Param.name).Nodup)):=by show _=_;rw[HR.out,any_none (n:=k) (by have:=HN.out;omega) HP.out];rfl
   clear hown
   subst hkn
   by_cases hn6:k≤6
   ·have HF:Hid (R=decide (ps.map Param.name).Nodup):=by show _=_;rw[HA.out,decide_eq_true (by have:=HN.out;omega),Bool.true_and]
    go_wp2_with fail
    refine(distinct_any (Nat.le_refl _) hll LI.out).mono ?_
    rintro e w2 ⟨rfl,hb2⟩
    go_wp2_with fail
    go_ret
    exact⟨ah HF.out.symm,hbr.trans (hb2.mono hsz)⟩
   ·have HF:Hid (R=false):=by show _=_;rw[HA.out,decide_eq_false (by have:=HN.out;omega)];rfl
    go_wp2_with fail
    go_ret
    exact⟨ah HF.out.symm,hbr⟩
set_option maxHeartbeats 1600000 in
theorem a2o (f:jh) (hl:f.params.length≤1048576) (hz:∀ p ∈ f.params,p.typ.parts≤4194304) (hr:f.result.parts≤4194304) {B:Nat} {cs:List Value} {w:World} (hB:B≤w.heap.size) (hwf:PD.wfL (jh.pd f)) (h:jy w B (jh.pd f) cs):
  Calls Tryz.prog 49 #[.agg cs.toArray] w fun e w'=>e=.returned (.bool (ah5 f))∧Below w.heap.size w w':=by
 obtain⟨params,⟨bg,cu,jv,mg⟩,async⟩:=f
 simp only at hl hz hr
 obtain⟨hwp,hwr⟩:=bgg hwf
 have HWP:=Lib.hid hwp
 have HWR:=Lib.hid hwr
 have HZ:=Lib.hid hz
 have HZR:=Lib.hid hr
 obtain⟨R,hR⟩:∃ R:Bool,R=ah5 ⟨params,⟨bg,cu,jv,mg⟩,async⟩:=⟨_,rfl⟩
 rw[← hR]
 have hR2:R=(auo params && (ae9 ⟨bg,cu,jv,mg⟩ && !Ty.has 21 21 ⟨bg,cu,jv,mg⟩)):=by
  rw[hR,ah5,auo]
  simp only
  cases decide (params.length≤6)<;>cases ae9 ⟨bg,cu,jv,mg⟩<;>cases Ty.has 21 21 ⟨bg,cu,jv,mg⟩<;>cases (params.any fun p=>!ako p)<;>cases decide (params.map Param.name).Nodup<;>rfl
 have HR:=Lib.hid hR2
 clear hR hR2
 obtain⟨ad3,oq,ug,rfl,adu,aaf,aaw⟩:=jh.open_ h
 have af5:=Lib.hid adu
 clear adu
 have ab9:=Lib.hid aaf
 clear aaf
 have ac6:=Lib.hid aaw
 clear aaw
 obtain⟨A,n,c,rfl⟩:=af5.out.form
 clear h hwf hwp hwr hz hr
 go_enter Tryz.func49,Tryz.ntmps49
 go_wp2_with fail
 obtain⟨w0,hw0⟩:∃ W,W=w.alloc (.cells #[.slice A n c,.int .i64 bg,.string cu,oq,ug,.bool async] 62):=⟨_,rfl⟩
 rw[← hw0]
 have bA:Blk w0 w.heap.size 62 #[.slice A n c,.int .i64 bg,.string cu,oq,ug,.bool async]:=by rw[hw0];exact Blk.new w _ _
 have hB0:Below w.heap.size w w0:=by rw[hw0];exact(Below.refl _ _).alloc (Nat.le_refl _) _
 clear hw0
 refine(a2n HWP.out HZ.out hl (Nat.le_trans hB hB0.size) (af5.out.below (hB0.mono hB))).mono ?_
 rintro e w1 ⟨rfl,hb1⟩
 have hB1:=hB0.trans (hb1.mono hB0.size)
 have bA1:=bA.step hb1
 clear bA
 cases hp:auo params
 ·have HF:Hid (R=false):=by show _=_;rw[HR.out,hp];rfl
  go_wp2_with fail
  go_ret
  exact⟨ah HF.out.symm,hB1⟩
 have ao1:w1.cell? ⟨w.heap.size,0,none⟩=some (.slice A n c):=bA1.cell 0
 have aoa:w1.cell? ⟨w.heap.size,1,none⟩=some (.int .i64 bg):=bA1.cell 1
 have aob:w1.cell? ⟨w.heap.size,2,none⟩=some (.string cu):=bA1.cell 2
 have amq:w1.cell? ⟨w.heap.size,3,none⟩=some (oq):=bA1.cell 3
 have aoc:w1.cell? ⟨w.heap.size,4,none⟩=some (ug):=bA1.cell 4
 have ayi:w1.cell? ⟨w.heap.size,5,none⟩=some (.bool async):=bA1.cell 5
 go_wp2_with fail
 refine(aqc ⟨bg,cu,jv,mg⟩ (B:=B) (cs:=[.int .i64 bg,.string cu,oq,ug]) (Nat.le_trans hB hB1.size) HWR.out HZR.out (Ty.close_ (ab9.out.below (hB1.mono hB)) (ac6.out.below (hB1.mono hB)))).mono ?_
 rintro e w2 ⟨rfl,hb2⟩
 have hB2:=hB1.trans (hb2.mono hB1.size)
 have bA2:=bA1.step hb2
 clear bA1 ao1 aoa aob amq aoc ayi
 cases hok:ae9 ⟨bg,cu,jv,mg⟩
 ·have HF:Hid (R=false):=by show _=_;rw[HR.out,hp,hok];rfl
  go_wp2_with fail
  go_ret
  exact⟨ah HF.out.symm,hB2⟩
 have HF:Hid (R=!Ty.has 21 21 ⟨bg,cu,jv,mg⟩):=by show _=_;rw[HR.out,hp,hok];rfl
 clear hp hok HR
 have ao1:w2.cell? ⟨w.heap.size,0,none⟩=some (.slice A n c):=bA2.cell 0
 have aoa:w2.cell? ⟨w.heap.size,1,none⟩=some (.int .i64 bg):=bA2.cell 1
 have aob:w2.cell? ⟨w.heap.size,2,none⟩=some (.string cu):=bA2.cell 2
 have amq:w2.cell? ⟨w.heap.size,3,none⟩=some (oq):=bA2.cell 3
 have aoc:w2.cell? ⟨w.heap.size,4,none⟩=some (ug):=bA2.cell 4
 have ayi:w2.cell? ⟨w.heap.size,5,none⟩=some (.bool async):=bA2.cell 5
 go_wp2_with fail
 obtain⟨w3,hw3⟩:∃ W,W=w2.alloc (.cells #[.int .i64 21] 2):=⟨_,rfl⟩
 rw[← hw3]
 have hbk:Below w2.heap.size w2 w3:=by rw[hw3];exact(Below.refl _ _).alloc (Nat.le_refl _) _
 have bK:Blk w3 w2.heap.size 2 #[.int .i64 21]:=by rw[hw3];exact Blk.new _ _ _
 clear hw3
 have hB3:=hB2.trans (hbk.mono hB2.size)
 have rk:Rep w3 w3.heap.size (.row 1 ([21].flatMap am8)) (.slice (some ⟨w2.heap.size,0,none⟩) 1 1):=an2 (bK.cell 0) bK.lt
 refine(alk ⟨bg,cu,jv,mg⟩ w3.heap.size [.int .i64 bg,.string cu,oq,ug] _ _ (Nat.le_refl _) (Ty.close_ ((ab9.out.below (hB3.mono hB)).more (Nat.le_trans hB hB3.size)) ((ac6.out.below (hB3.mono hB)).more (Nat.le_trans hB hB3.size))) rk).mono ?_
 rintro e w4 ⟨rfl,hb4⟩
 go_wp2_with fail
 go_ret
 exact⟨ah HF.out.symm,hB3.trans (hb4.mono hB3.size)⟩
end Go.Proofs.YtbafphecjijdmaaGreatDoor
