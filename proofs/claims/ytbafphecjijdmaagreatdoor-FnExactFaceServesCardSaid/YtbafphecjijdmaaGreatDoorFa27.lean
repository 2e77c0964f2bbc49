/-
  Valid function types of the program: paramsOk, FuncOk (by program: gen_pa.py).
-/
import Derived.Test.YtbafphecjijdmaaGreatDoorFa25
import Derived.Test.YtbafphecjijdmaaGreatDoorFa24
import Derived.Test.YtbafphecjijdmaaGreatDoorFa15
namespace Go.Proofs.YtbafphecjijdmaaGreatDoor
open Go.RowKit
set_option linter.unusedVariables false
set_option linter.unusedSimpArgs false
set_option linter.unnecessarySimpa false
set_option maxRecDepth 16000
theorem ar4:∀ xs:List ByteArray,xs.flatMap tq=xs.map fun s=>PD.lit (.string s)
 | []=>rfl
 | x ::xs=>by rw[List.flatMap_cons,ar4 xs,tq];rfl
theorem al7 {w:World} {base n:Nat} {e:TypeId} {v:Value} {xs:List ByteArray} (h:w.ownsRow base e 1 v n (strs xs)):Rep w w.heap.size (.row 1 (xs.flatMap tq)) v:=by
 obtain⟨A,n',c,rfl,hm,hl,hr⟩:=(Own.ai5 h).rd
 rw[Rep]
 refine⟨A,n',c,rfl,?_,hm,fun h0=>?_⟩
 ·rw[aft aap]
  simpa [strs] using hl
 ·obtain⟨g,off,rfl,hg,hc⟩:=hr h0
  refine⟨g,off,rfl,hg,aqf.2 fun j x hj=>?_⟩
  rw[ar4,List.getElem?_map] at hj
  cases hx:xs[j]? with
  | none=>rw[hx] at hj;cases hj
  | some s=>
   rw[hx] at hj
   cases hj
   exact⟨_,hc j (.string s) (by simp[strs,hx]),by rw[Rep]⟩
theorem aiv (x:ByteArray):∀ u ∈ [Value.string x],u.oneCell'=true:=by
 intro u hu
 rw[List.mem_singleton.1 hu]
 rfl
theorem ap5 {α β:Type} {f:α→β} {xs:List α} {k:Nat} {t:α} (h:xs[k]?=some t):(xs.take (k+1)).map f=(xs.take k).map f ++[f t]:=by
 rw[List.take_add_one,h,List.map_append]
 rfl
theorem ae7 (xs ys:List ByteArray):strs (xs ++ys)=strs xs ++strs ys:=by simp[strs]
def at6 (ps:List Param):Bool:=!ps.any (fun p=>!akm p) && (decide (ps.length≤6) && decide (ps.map Param.name).Nodup)
set_option maxHeartbeats 3200000 in
theorem a1j {ps:List Param} (hwf:∀ p ∈ ps,PD.wfL (Param.pd p)) (hz:∀ p ∈ ps,p.typ.parts≤4194304) (hl:ps.length≤1048576) {B:Nat} {v:Value} {w:World} (hB:B≤w.heap.size) (h:Rep w B (.row 5 (ps.flatMap Param.pd)) v):
  Calls Tryz.prog 83 #[v] w fun e w'=>e=.returned (.bool (at6 ps))∧Below w.heap.size w w':=by
 obtain⟨i0,hi,hz0,hz1,hz2⟩:=info_parts alr
 obtain⟨A,n,c,rfl,hnl,hm,hat⟩:=ny Param.jw (by decide) h
 unfold maxLen at hm
 have hnn:n≤1048576:=by omega
 have HN:=Lib.hid hnl
 have HWP:=Lib.hid hwf
 have HZ:=Lib.hid hz
 obtain⟨R,hR⟩:∃ R:Bool,R=at6 ps:=⟨_,rfl⟩
 rw[← hR]
 rw[at6] at hR
 have HR:=Lib.hid hR
 clear h hnl hwf hz hl hR
 have ho0:(w.alloc (.cells #[] 9)).ownsRow w.heap.size 9 1 (.slice (some ⟨w.heap.size,0,none⟩) 0 0) 0 (strs []):=World.ownsRow_made w #[] 0 (Nat.le_refl _) (by simp) (by simp)
 have hb0:Below w.heap.size w (w.alloc (.cells #[] 9)):=(Below.refl _ _).alloc (Nat.le_refl _) _
 go_enter Tryz.func83,Tryz.ntmps83
 go_wp2_with fail
 go_loopw [3,9] (fun out i wr=>∃ (k:Nat) (u:Value),u=out∧k≤n∧i=.int .i64 k∧Hid (∀ (j:Nat) (t:Param),j < k→ps[j]?=some t→(fun p=>!akm p) t=false)∧wr.ownsRow w.heap.size 9 1 u k (strs ((ps.take k).map Param.name))∧Below w.heap.size w wr) (fun _ i _=>n - (intOf i).toNat)
 case atStart=>exact⟨0,_,rfl,Nat.zero_le _,rfl,Lib.hid fun j t h=>absurd h (by omega),ho0,hb0⟩
 case round=>
  clear ho0 hb0
  obtain⟨k,u,rfl,hk,rfl,HP,hown,hbr⟩:=hrel
  have hsz:=hbr.size
  by_cases hlt:k < n
  ·obtain⟨g,off,rfl,hg,hcell⟩:=hat (by omega)
   obtain⟨t,hx,hmem⟩:=vw HN.out hlt
   obtain⟨name,⟨iy,ji,og,uj⟩⟩:=t
   have anv:wr.cell? ⟨g,off+k * 5,none⟩=some (.string name):=gq hbr (by omega) (hcell k 0 _ _ hx (by rw[Param.ay];rfl))
   have ak3:wr.cell? ⟨g,off+k * 5+1,none⟩=some (.int .i64 iy):=gq hbr (by omega) (hcell k 1 _ _ hx (by rw[Param.ay];rfl))
   have ak4:wr.cell? ⟨g,off+k * 5+2,none⟩=some (.string ji):=gq hbr (by omega) (hcell k 2 _ _ hx (by rw[Param.ay];rfl))
   obtain⟨aaq,ai9,aa5⟩:∃ u,wr.cell? ⟨g,off+k * 5+3,none⟩=some u∧Rep wr B (.row 1 (og.flatMap tq)) u:=jy hbr (by omega) hB (hcell k 3 _ _ hx (by rw[Param.ay];rfl))
   have acn:=Lib.hid aa5
   clear aa5
   obtain⟨abu,ak5,ab4⟩:∃ u,wr.cell? ⟨g,off+k * 5+4,none⟩=some u∧Rep wr B (.row 4 (uj.flatMap Ty.pd)) u:=jy hbr (by omega) hB (hcell k 4 _ _ hx (by rw[Param.ay];rfl))
   have ads:=Lib.hid ab4
   clear ab4
   obtain⟨aa8,aa9,abb,rfl⟩:=acn.out.form
   obtain⟨ab9,acd,ace,rfl⟩:=ads.out.form
   have HX:=Lib.hid hx
   have HM:=Lib.hid hmem
   clear hx hmem
   clear hcell
   have HMS:=Lib.hid (ap5 (f:=Param.name) HX.out)
   have hs:=parWf (HWP.out _ HM.out)
   have hs1:=hs.1
   have HTW:=Lib.hid hs.2
   have HZ1:=Lib.hid (HZ.out _ HM.out)
   have HPB:Hid (akm ⟨name,⟨iy,ji,og,uj⟩⟩=(zy name && (ae5 ⟨iy,ji,og,uj⟩ && !Ty.isUnit ⟨iy,ji,og,uj⟩))):=rfl
   have HOW:=Lib.hid hown
   have hBw:=Nat.le_trans hB hsz
   clear hs hown
   go_wp2_with fail
   obtain⟨w1,hw1⟩:∃ W,W=wr.alloc (.cells #[.string name,.int .i64 iy,.string ji,.slice aa8 aa9 abb,.slice ab9 acd ace] 115):=⟨_,rfl⟩
   rw[← hw1]
   have bE:Blk w1 wr.heap.size 115 #[.string name,.int .i64 iy,.string ji,.slice aa8 aa9 abb,.slice ab9 acd ace]:=by rw[hw1];exact Blk.new wr _ _
   have hb1:Below wr.heap.size wr w1:=by rw[hw1];exact(Below.refl _ _).alloc (Nat.le_refl _) _
   clear hw1
   have hB1:=hbr.trans (hb1.mono hsz)
   refine(aei name hs1 _).mono ?_
   rintro e w2 ⟨rfl,hb2⟩
   have hB2:=hB1.trans (hb2.mono hB1.size)
   have hb12:=hb1.trans (hb2.mono hb1.size)
   have bE2:=bE.step hb2
   clear bE
   cases hnm:zy name
   ·have HF:Hid (R=false):=by show _=_;rw[HR.out,aoi HX.out (by simp[HPB.out,hnm])];rfl
    go_wp2_with fail
    go_ret
    exact⟨ah HF.out.symm,hB2⟩
   have e_1:w2.cell? ⟨wr.heap.size,1,none⟩=some (.int .i64 iy):=bE2.cell 1
   have e_2:w2.cell? ⟨wr.heap.size,2,none⟩=some (.string ji):=bE2.cell 2
   have e_3:w2.cell? ⟨wr.heap.size,3,none⟩=some (.slice aa8 aa9 abb):=bE2.cell 3
   have e_4:w2.cell? ⟨wr.heap.size,4,none⟩=some (.slice ab9 acd ace):=bE2.cell 4
   go_wp2_with fail
   refine(ap2 ⟨iy,ji,og,uj⟩ (B:=B) (cs:=[.int .i64 iy,.string ji,.slice aa8 aa9 abb,.slice ab9 acd ace]) (Nat.le_trans hB hB2.size) HTW.out HZ1.out (Ty.close_ (acn.out.below (hb12.mono hBw)) (ads.out.below (hb12.mono hBw)))).mono ?_
   rintro e w3 ⟨rfl,hb3⟩
   have hB3:=hB2.trans (hb3.mono hB2.size)
   have hb13:=hb12.trans (hb3.mono hb12.size)
   have bE3:=bE2.step hb3
   clear bE2 e_1 e_2 e_3 e_4
   cases hto:ae5 ⟨iy,ji,og,uj⟩
   ·have HF:Hid (R=false):=by show _=_;rw[HR.out,aoi HX.out (by simp[HPB.out,hnm,hto])];rfl
    go_wp2_with fail
    go_ret
    exact⟨ah HF.out.symm,hB3⟩
   have e_1:w3.cell? ⟨wr.heap.size,1,none⟩=some (.int .i64 iy):=bE3.cell 1
   have e_2:w3.cell? ⟨wr.heap.size,2,none⟩=some (.string ji):=bE3.cell 2
   have e_3:w3.cell? ⟨wr.heap.size,3,none⟩=some (.slice aa8 aa9 abb):=bE3.cell 3
   have e_4:w3.cell? ⟨wr.heap.size,4,none⟩=some (.slice ab9 acd ace):=bE3.cell 4
   go_wp2_with fail
   refine(awu ⟨iy,ji,og,uj⟩ (B:=B) (cs:=[.int .i64 iy,.string ji,.slice aa8 aa9 abb,.slice ab9 acd ace]) (Ty.close_ (acn.out.below (hb13.mono hBw)) (ads.out.below (hb13.mono hBw)))).mono ?_
   rintro e w4 ⟨rfl,hb4⟩
   have hB4:=hB3.trans (hb4.mono hB3.size)
   have hb14:=hb13.trans (hb4.mono hb13.size)
   have bE4:=bE3.step hb4
   clear bE3 e_1 e_2 e_3 e_4
   cases hu:Ty.isUnit ⟨iy,ji,og,uj⟩
   case true=>
    have HF:Hid (R=false):=by show _=_;rw[HR.out,aoi HX.out (by simp[HPB.out,hnm,hto,hu])];rfl
    go_wp2_with fail
    go_ret
    exact⟨ah HF.out.symm,hB4⟩
   have HQ:=Lib.hid (afm HP.out HX.out (by simp[HPB.out,hnm,hto,hu]))
   have e_0:w4.cell? ⟨wr.heap.size,0,none⟩=some (.string name):=bE4.cell 0
   have hs4:=(af2 HOW.out hb14).alloc (.cells #[Value.string name] 9)
   have hc1:=cell_one_new w4 (Value.string name) 9
   have hB5:Below w.heap.size w (w4.alloc (.cells #[Value.string name] 9)):=hB4.alloc hB4.size _
   clear hnm hto hu bE4
   go_wp2_with (at_builtin;refine wpList_append_own _ rfl _ _ 22 rfl w.heap.size 9 i0 (.string {data:=#[]}) 1 16 Tryz.underlying22 hi hz0 hz1 hz2 rfl (by decide) _ _ _ rfl hs4 ⟨w4.heap.size,0,none⟩ 1 1 [_] rfl rfl hc1 (aiv _) (by simp only[maxLen];omega) (by omega) hB5.size ?_;intro v' w5 hown' hgrow _)
   have hB6:=hB5.grown hgrow hB5.size (fun g hg=>(hs4.lt g hg).1)
   have aju:=Lib.hid hown'
   clear hs4 hc1 hown' hgrow
   go_roundw
   case rel=>exact⟨k+1,_,rfl,by omega,by go_num,HQ,by rw[HMS.out,ae7];exact aju.out,hB6⟩
   case measure=>simp[intOf];omega
  ·have hkn:k=n:=by omega
   have HT:Hid (ps.take k=ps):=List.take_of_length_le (by have:=HN.out;omega)
   rw[HT.out] at hown
   have LI:=Lib.hid (al7 hown)
   have hll:(ps.map Param.name).length≤1048576:=by rw[List.length_map];have:=HN.out;omega
   have HA:Hid (R=(decide (ps.length≤6) && decide (ps.map Param.name).Nodup)):=by show _=_;rw[HR.out,any_none (n:=k) (by have:=HN.out;omega) HP.out];rfl
   clear hown
   subst hkn
   by_cases hn6:k≤6
   ·have HF:Hid (R=decide (ps.map Param.name).Nodup):=by show _=_;rw[HA.out,decide_eq_true (by have:=HN.out;omega),Bool.true_and]
    go_wp2_with fail
    refine(distinct_any (Nat.le_refl _) hll LI.out).mono ?_
    rintro e w2 ⟨rfl,hb2⟩
    go_wp2_with fail
    go_ret
    exact⟨ah HF.out.symm,hbr.trans (hb2.mono hsz)⟩
   ·have HF:Hid (R=false):=by show _=_;rw[HA.out,decide_eq_false (by have:=HN.out;omega)];rfl
    go_wp2_with fail
    go_ret
    exact⟨ah HF.out.symm,hbr⟩
set_option maxHeartbeats 1600000 in
theorem a1k (f:jh) (hl:f.params.length≤1048576) (hz:∀ p ∈ f.params,p.typ.parts≤4194304) (hr:f.result.parts≤4194304) {B:Nat} {cs:List Value} {w:World} (hB:B≤w.heap.size) (hwf:PD.wfL (jh.pd f)) (h:ku w B (jh.pd f) cs):
  Calls Tryz.prog 49 #[.agg cs.toArray] w fun e w'=>e=.returned (.bool (ah3 f))∧Below w.heap.size w w':=by
 obtain⟨params,⟨bg,cu,jv,mg⟩,async⟩:=f
 simp only at hl hz hr
 obtain⟨hwp,hwr⟩:=funWf hwf
 have HWP:=Lib.hid hwp
 have HWR:=Lib.hid hwr
 have HZ:=Lib.hid hz
 have HZR:=Lib.hid hr
 obtain⟨R,hR⟩:∃ R:Bool,R=ah3 ⟨params,⟨bg,cu,jv,mg⟩,async⟩:=⟨_,rfl⟩
 rw[← hR]
 have hR2:R=(at6 params && (ae5 ⟨bg,cu,jv,mg⟩ && !Ty.has 21 21 ⟨bg,cu,jv,mg⟩)):=by
  rw[hR,ah3,at6]
  simp only
  cases decide (params.length≤6)<;>cases ae5 ⟨bg,cu,jv,mg⟩<;>cases Ty.has 21 21 ⟨bg,cu,jv,mg⟩<;>cases (params.any fun p=>!akm p)<;>cases decide (params.map Param.name).Nodup<;>rfl
 have HR:=Lib.hid hR2
 clear hR hR2
 obtain⟨adv,oq,uf,rfl,adn,zx,aau⟩:=jh.open_ h
 have afy:=Lib.hid adn
 clear adn
 have ab2:=Lib.hid zx
 clear zx
 have ac2:=Lib.hid aau
 clear aau
 obtain⟨A,n,c,rfl⟩:=afy.out.form
 clear h hwf hwp hwr hz hr
 go_enter Tryz.func49,Tryz.ntmps49
 go_wp2_with fail
 obtain⟨w0,hw0⟩:∃ W,W=w.alloc (.cells #[.slice A n c,.int .i64 bg,.string cu,oq,uf,.bool async] 62):=⟨_,rfl⟩
 rw[← hw0]
 have bA:Blk w0 w.heap.size 62 #[.slice A n c,.int .i64 bg,.string cu,oq,uf,.bool async]:=by rw[hw0];exact Blk.new w _ _
 have hB0:Below w.heap.size w w0:=by rw[hw0];exact(Below.refl _ _).alloc (Nat.le_refl _) _
 clear hw0
 refine(a1j HWP.out HZ.out hl (Nat.le_trans hB hB0.size) (afy.out.below (hB0.mono hB))).mono ?_
 rintro e w1 ⟨rfl,hb1⟩
 have hB1:=hB0.trans (hb1.mono hB0.size)
 have bA1:=bA.step hb1
 clear bA
 cases hp:at6 params
 ·have HF:Hid (R=false):=by show _=_;rw[HR.out,hp];rfl
  go_wp2_with fail
  go_ret
  exact⟨ah HF.out.symm,hB1⟩
 have aos:w1.cell? ⟨w.heap.size,0,none⟩=some (.slice A n c):=bA1.cell 0
 have an3:w1.cell? ⟨w.heap.size,1,none⟩=some (.int .i64 bg):=bA1.cell 1
 have an4:w1.cell? ⟨w.heap.size,2,none⟩=some (.string cu):=bA1.cell 2
 have amk:w1.cell? ⟨w.heap.size,3,none⟩=some (oq):=bA1.cell 3
 have an5:w1.cell? ⟨w.heap.size,4,none⟩=some (uf):=bA1.cell 4
 have ax4:w1.cell? ⟨w.heap.size,5,none⟩=some (.bool async):=bA1.cell 5
 go_wp2_with fail
 refine(ap2 ⟨bg,cu,jv,mg⟩ (B:=B) (cs:=[.int .i64 bg,.string cu,oq,uf]) (Nat.le_trans hB hB1.size) HWR.out HZR.out (Ty.close_ (ab2.out.below (hB1.mono hB)) (ac2.out.below (hB1.mono hB)))).mono ?_
 rintro e w2 ⟨rfl,hb2⟩
 have hB2:=hB1.trans (hb2.mono hB1.size)
 have bA2:=bA1.step hb2
 clear bA1 aos an3 an4 amk an5 ax4
 cases hok:ae5 ⟨bg,cu,jv,mg⟩
 ·have HF:Hid (R=false):=by show _=_;rw[HR.out,hp,hok];rfl
  go_wp2_with fail
  go_ret
  exact⟨ah HF.out.symm,hB2⟩
 have HF:Hid (R=!Ty.has 21 21 ⟨bg,cu,jv,mg⟩):=by show _=_;rw[HR.out,hp,hok];rfl
 clear hp hok HR
 have aos:w2.cell? ⟨w.heap.size,0,none⟩=some (.slice A n c):=bA2.cell 0
 have an3:w2.cell? ⟨w.heap.size,1,none⟩=some (.int .i64 bg):=bA2.cell 1
 have an4:w2.cell? ⟨w.heap.size,2,none⟩=some (.string cu):=bA2.cell 2
 have amk:w2.cell? ⟨w.heap.size,3,none⟩=some (oq):=bA2.cell 3
 have an5:w2.cell? ⟨w.heap.size,4,none⟩=some (uf):=bA2.cell 4
 have ax4:w2.cell? ⟨w.heap.size,5,none⟩=some (.bool async):=bA2.cell 5
 go_wp2_with fail
 obtain⟨w3,hw3⟩:∃ W,W=w2.alloc (.cells #[.int .i64 21] 2):=⟨_,rfl⟩
 rw[← hw3]
 have hbk:Below w2.heap.size w2 w3:=by rw[hw3];exact(Below.refl _ _).alloc (Nat.le_refl _) _
 have bK:Blk w3 w2.heap.size 2 #[.int .i64 21]:=by rw[hw3];exact Blk.new _ _ _
 clear hw3
 have hB3:=hB2.trans (hbk.mono hB2.size)
 have rk:Rep w3 w3.heap.size (.row 1 ([21].flatMap am2)) (.slice (some ⟨w2.heap.size,0,none⟩) 1 1):=anu (bK.cell 0) bK.lt
 refine(alh ⟨bg,cu,jv,mg⟩ w3.heap.size [.int .i64 bg,.string cu,oq,uf] _ _ (Nat.le_refl _) (Ty.close_ ((ab2.out.below (hB3.mono hB)).more (Nat.le_trans hB hB3.size)) ((ac2.out.below (hB3.mono hB)).more (Nat.le_trans hB hB3.size))) rk).mono ?_
 rintro e w4 ⟨rfl,hb4⟩
 go_wp2_with fail
 go_ret
 exact⟨ah HF.out.symm,hB3.trans (hb4.mono hB3.size)⟩
end Go.Proofs.YtbafphecjijdmaaGreatDoor
