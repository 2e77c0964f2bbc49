/-
  The program's well-formed modules: ModuleShape.
  strings.Builder: the shelf's contracts laid over this program (by program: gen_bld.py).
  strings.Builder beside boxes of the call's own: what a write keeps.
-/
import Derived.Test.YtlpcocfadppkhaaGreatDoorRa23
import Derived.Test.YtlpcocfadppkhaaGreatDoorRa08
import Derived.Test.YtlpcocfadppkhaaGreatDoorRa05
import Derived.Shelf.Strings.Builder1
import Derived.Shelf.Strings.BuilderK
namespace Go.Proofs.YtlpcocfadppkhaaGreatDoor
open Go.RowKit
set_option linter.unusedVariables false
set_option linter.unusedSimpArgs false
set_option linter.unnecessarySimpa false
set_option maxRecDepth 16000
theorem ahs:∀ xs:List ByteArray,xs.flatMap aa3=xs.map fun s=>PD.lit (.string s)
 | []=>rfl
 | x ::xs=>by rw[List.flatMap_cons,ahs xs,aa3];rfl
theorem an7 {w:World} {base n:Nat} {e:TypeId} {v:Value} {xs:List ByteArray} (h:w.ownsRow base e 1 v n (strs xs)):Rep w w.heap.size (.row 1 (xs.flatMap aa3)) v:=by
 obtain⟨A,n',c,rfl,hm,hl,hr⟩:=(Own.lu h).rd
 rw[Rep]
 refine⟨A,n',c,rfl,?_,hm,fun h0=>?_⟩
 ·rw[iq aaz]
  simpa [strs] using hl
 ·obtain⟨g,off,rfl,hg,hc⟩:=hr h0
  refine⟨g,off,rfl,hg,abz.2 fun j x hj=>?_⟩
  rw[ahs,List.getElem?_map] at hj
  cases hx:xs[j]? with
  | none=>rw[hx] at hj;cases hj
  | some s=>
   rw[hx] at hj
   cases hj
   exact⟨_,hc j (.string s) (by simp[strs,hx]),by rw[Rep]⟩
theorem apm (x:ByteArray):∀ u ∈ [Value.string x],u.oneCell'=true:=by
 intro u hu
 rw[List.mem_singleton.1 hu]
 rfl
theorem agz {α β:Type} {f:α→β} {xs:List α} {k:Nat} {t:α} (h:xs[k]?=some t):(xs.take (k+1)).map f=(xs.take k).map f ++[f t]:=by
 rw[List.take_add_one,h,List.map_append]
 rfl
theorem aif (xs ys:List ByteArray):strs (xs ++ys)=strs xs ++strs ys:=by simp[strs]
theorem an8 {w w':World} {base sz n:Nat} {e:TypeId} {v:Value} {xs:List Value} {row:Option Nat} (h:w.ownsRow base e sz v n xs) (hg:w.grownBy w' row) (hne:∀ g,v.ownBlock=some g→row≠some g):w'.ownsRow base e sz v n xs:=by
 obtain⟨h1,h2⟩:=h
 refine⟨h1,?_⟩
 rcases h2 with h2|⟨g,cap,cur,rfl,hbb,hh,hr⟩
 ·exact .inl h2
 ·exact .inr ⟨g,cap,cur,rfl,hbb,by rw[hg.block g (Array.getElem?_eq_some_iff.1 hh).1 (fun e=>hne g rfl e.symm)];exact hh,hr⟩
set_option maxHeartbeats 3200000 in
theorem ala (m:Mod) {B:Nat} {cs:List Value} {w:World} (hB:B≤w.heap.size) (hwf:PD.wfL (Mod.pd m)) (h:jd w B (Mod.pd m) cs):
  Calls Tryz.prog 41 #[.agg cs.toArray] w fun e w'=>e=.returned (.bool (uy m))∧Below w.heap.size w w':=by
 obtain⟨i0,hi,hz0,hz1,hz2⟩:=info_parts an2
 obtain⟨pages,imports,cores⟩:=m
 obtain⟨hwi,hwc⟩:=aun hwf
 have HWI:=Lib.hid hwi
 have HWC:=Lib.hid hwc
 obtain⟨R,hR⟩:∃ R:Bool,R=uy ⟨pages,imports,cores⟩:=⟨_,rfl⟩
 rw[← hR]
 rw[uy] at hR
 simp only at hR
 have HR:=Lib.hid hR
 clear hR
 obtain⟨jm,ng,rfl,gq,je⟩:=Mod.open_ h
 have tu:=Lib.hid gq
 clear gq
 have y5:=Lib.hid je
 clear je
 obtain⟨A,n,c,rfl,hnl,hm,hat⟩:=jr Imp.au (by decide) tu.out
 obtain⟨A',n',c',rfl,aee,hm',hat'⟩:=jr Core.au (by decide) y5.out
 unfold maxLen at hm hm'
 have HN:=Lib.hid hnl
 have HN':=Lib.hid aee
 clear h hnl aee hwf hwi hwc
 go_enter Tryz.func41,Tryz.ntmps41
 go_wp2_with fail
 obtain⟨w0,hw0⟩:∃ W,W=w.alloc (.cells #[.int .i64 pages,.slice A n c,.slice A' n' c'] 25):=⟨_,rfl⟩
 rw[← hw0]
 have bA:Blk w0 w.heap.size 25 #[.int .i64 pages,.slice A n c,.slice A' n' c']:=by rw[hw0];exact Blk.new w _ _
 have hB0:Below w.heap.size w w0:=by rw[hw0];exact(Below.refl _ _).alloc (Nat.le_refl _) _
 clear hw0
 have ana:w0.cell? ⟨w.heap.size,0,none⟩=some (.int .i64 pages):=bA.cell 0
 have anb:w0.cell? ⟨w.heap.size,1,none⟩=some (.slice A n c):=bA.cell 1
 have akn:w0.cell? ⟨w.heap.size,2,none⟩=some (.slice A' n' c'):=bA.cell 2
 try go_wp2_with fail
 refine(abp _ _ _ _).mono ?_
 rintro e w1 ⟨rfl,rfl⟩
 cases hp:inB pages 1 16
 ·have HF:Hid (R=false):=by show _=_;rw[HR.out,hp];rfl
  go_wp2_with fail
  go_ret
  exact⟨dn HF.out.symm,hB0⟩
 by_cases hn:n≤12
 case neg=>
  have HF:Hid (R=false):=by show _=_;rw[HR.out,hp,decide_eq_false (show ¬ imports.length≤12 by have:=HN.out;omega)];rfl
  go_wp2_with fail
  go_ret
  exact⟨dn HF.out.symm,hB0⟩
 by_cases hn':n'≤8
 case neg=>
  have HF:Hid (R=false):=by show _=_;rw[HR.out,hp,decide_eq_true (show imports.length≤12 by have:=HN.out;omega),decide_eq_false (show ¬ cores.length≤8 by have:=HN'.out;omega)];rfl
  go_wp2_with fail
  go_ret
  exact⟨dn HF.out.symm,hB0⟩
 have HF:Hid (R=(!imports.any (fun x=>!ada x) && (!cores.any (fun c=>!yt c) && (oq (imports.map Imp.name) && oq (cores.map Core.name))))):=by
  show _=_
  rw[HR.out,hp,decide_eq_true (show imports.length≤12 by have:=HN.out;omega),decide_eq_true (show cores.length≤8 by have:=HN'.out;omega)]
  rfl
 clear hp HR
 have hsz1:(w0.alloc (.cells #[] 9)).heap.size=w0.heap.size+1:=by simp
 have a13:((w0.alloc (.cells #[] 9)).alloc (.cells #[] 9)).cell? ⟨w.heap.size,1,none⟩=some (.slice A n c):=((bA.alloc _).alloc _).cell 1
 go_wp2_with fail
 obtain⟨wa,hwa⟩:∃ W,W=w0.alloc (.cells #[] 9):=⟨_,rfl⟩
 obtain⟨wb,hwb⟩:∃ W,W=wa.alloc (.cells #[] 9):=⟨_,rfl⟩
 rw[← hwa,← hwb]
 rw[← hwa] at hsz1
 have hBa:Below w0.heap.size w0 wa:=by rw[hwa];exact(Below.refl _ _).alloc (Nat.le_refl _) _
 have hBb:Below w0.heap.size w0 wb:=by rw[hwb];exact hBa.alloc hBa.size _
 have ay6:wb.ownsRow w0.heap.size 9 1 (.slice (some ⟨w0.heap.size,0,none⟩) 0 0) 0 (strs []):=by
  rw[hwb]
  refine World.ownsRow.alloc ?_ _
  rw[hwa]
  exact World.ownsRow_made w0 #[] 0 (Nat.le_refl _) (by simp) (by simp)
 have ay7:wb.ownsRow w0.heap.size 9 1 (.slice (some ⟨w0.heap.size+1,0,none⟩) 0 0) 0 (strs []):=by
  rw[hwb,← hsz1]
  exact World.ownsRow_made wa #[] 0 hBa.size (by simp) (by simp)
 have a14:wb.heap.size=w0.heap.size+2:=by rw[hwb,hwa];simp
 clear hwa hwb hsz1 hBa a13 ana anb akn
 have hw0:=bA.lt
 go_loopw [3,30] (fun v1_ i wr=>∃ (k:Nat) (v1:Value),v1=v1_∧k≤n∧i=.int .i64 k∧Hid (∀ (j:Nat) (t:Imp),j < k→imports[j]?=some t→(fun x=>!ada x) t=false)∧wr.ownsRow w0.heap.size 9 1 v1 k (strs ((imports.take k).map Imp.name))∧Hid (v1.ownBlock≠some (w0.heap.size+1))∧wr.ownsRow w0.heap.size 9 1 (.slice (some ⟨w0.heap.size+1,0,none⟩) 0 0) 0 (strs [])∧w0.heap.size+2≤wr.heap.size∧Below w0.heap.size w0 wr) (fun _ i _=>n - (intOf i).toNat)
 case atStart=>exact⟨0,_,rfl,Nat.zero_le _,rfl,Lib.hid fun j t h=>absurd h (by omega),ay6,Lib.hid (by simp[Value.ownBlock]),ay7,by omega,hBb⟩
 case round=>
  clear ay6 ay7 hBb a14
  obtain⟨k,v1,rfl,hk,rfl,HP,hown,HNE,hrow2,ax1,hbr⟩:=hrel
  have hBr:=hB0.trans (hbr.mono hB0.size)
  have bR:=bA.below hbr hw0
  by_cases hlt:k < n
  ·obtain⟨g,off,rfl,hg,hcell⟩:=hat (by omega)
   obtain⟨t,hx,hmem⟩:=l7 HN.out hlt
   obtain⟨name,params,result⟩:=t
   have abm:wr.cell? ⟨g,off+k * 3,none⟩=some (.string name):=ak hBr (by omega) (hcell k 0 _ _ hx (by rw[Imp.aj];rfl))
   have aa9:wr.cell? ⟨g,off+k * 3+1,none⟩=some (.int .i64 params):=ak hBr (by omega) (hcell k 1 _ _ hx (by rw[Imp.aj];rfl))
   have abb:wr.cell? ⟨g,off+k * 3+2,none⟩=some (.bool result):=ak hBr (by omega) (hcell k 2 _ _ hx (by rw[Imp.aj];rfl))
   have HX:=Lib.hid hx
   have HM:=Lib.hid hmem
   clear hx hmem
   clear hcell
   have HMS:=Lib.hid (agz (f:=Imp.name) HX.out)
   go_wp2_with fail
   obtain⟨w1,hw1⟩:∃ W,W=wr.alloc (.cells #[.string name,.int .i64 params,.bool result] 52):=⟨_,rfl⟩
   rw[← hw1]
   have bE:Blk w1 wr.heap.size 52 #[.string name,.int .i64 params,.bool result]:=by rw[hw1];exact Blk.new wr _ _
   have hb1:Below wr.heap.size wr w1:=by rw[hw1];exact(Below.refl _ _).alloc (Nat.le_refl _) _
   clear hw1
   have ahf:=hbr.trans (hb1.mono hbr.size)
   have hB1:=hBr.trans (hb1.mono hBr.size)
   refine(abp _ _ _ _).mono ?_
   rintro e w2 ⟨rfl,rfl⟩
   cases hin:inB params 0 8
   ·have HF2:Hid (R=false):=by show _=_;rw[HF.out,akq HX.out (by simp[ada,hin])];rfl
    go_wp2_with fail
    go_ret
    exact⟨dn HF2.out.symm,hB1⟩
   ·have HQ:=Lib.hid (abk HP.out HX.out (by simp[ada,hin]))
    have e_0:w1.cell? ⟨wr.heap.size,0,none⟩=some (.string name):=bE.cell 0
    have hown1:=acf hown hb1
    have hs1:=hown1.alloc (.cells #[Value.string name] 9)
    have hr1:=(acf hrow2 hb1).alloc (.cells #[Value.string name] 9)
    have hc1:=cell_one_new w1 (Value.string name) 9
    have alb:Below w0.heap.size w0 (w1.alloc (.cells #[Value.string name] 9)):=ahf.alloc ahf.size _
    have hs3:w0.heap.size+2≤(w1.alloc (.cells #[Value.string name] 9)).heap.size:=by have:=hb1.size;simp;omega
    clear hown hown1 HP hrow2
    go_wp2_with (at_builtin;refine wpList_append_own_at _ rfl _ _ 32 rfl w0.heap.size 9 i0 (.string {data:=#[]}) 1 16 Tryz.underlying32 hi hz0 hz1 hz2 rfl (by decide) _ _ _ rfl hs1 ⟨w1.heap.size,0,none⟩ 1 1 [_] rfl rfl hc1 (apm _) (by simp only[maxLen];omega) (by omega) alb.size ?_;intro v' w3 hown' hgrow _ ig)
    have hs4:=hgrow.size
    have an9:=alb.grown hgrow alb.size (fun g hg=>(hs1.lt g hg).1)
    have hr3:=an8 hr1 hgrow (fun g hg e=>HNE.out (e.trans (hg.symm.trans rfl)))
    have auf:Hid (v'.ownBlock≠some (w0.heap.size+1)):=fun e=>by
     rcases ig with h|h
     ·exact HNE.out (h ▸ e)
     ·rw[h] at e
      have:=Option.some.inj e
      omega
    clear ig hs1 hr1 hc1
    go_roundw
    case rel=>exact⟨k+1,_,rfl,by omega,by go_num,HQ,by rw[HMS.out,aif];exact hown',auf,hr3,by omega,an9⟩
    case measure=>simp[intOf];omega
  ·have hkn:k=n:=by omega
   have HF1:Hid (R=(!cores.any (fun c=>!yt c) && (oq (imports.map Imp.name) && oq (cores.map Core.name)))):=by show _=_;rw[HF.out,any_none (n:=k) (by have:=HN.out;omega) HP.out];rfl
   have HT:Hid (imports.take k=imports):=List.take_of_length_le (by have:=HN.out;omega)
   rw[HT.out] at hown
   clear HF HP
   subst hkn
   obtain⟨k1,hk1⟩:∃ k1,k1=k:=⟨_,rfl⟩
   rw[← hk1] at hown
   obtain⟨wo,rfl⟩:∃ W,W=wr:=⟨_,rfl⟩
   have b_2:wo.cell? ⟨w.heap.size,2,none⟩=some (.slice A' n' c'):=bR.cell 2
   go_wp2_with fail
   go_loopw [4,47] (fun v2 i ws=>∃ k:Nat,k≤n'∧i=.int .i64 k∧Hid (∀ (j:Nat) (t:Core),j < k→cores[j]?=some t→(fun x=>!yt x) t=false)∧ws.ownsRow w0.heap.size 9 1 v2 k (strs ((cores.take k).map Core.name))∧Hid (∀ g,v1.ownBlock=some g→v2.ownBlock≠some g)∧ws.ownsRow w0.heap.size 9 1 v1 k1 (strs (imports.map Imp.name))∧Below w0.heap.size w0 ws) (fun _ i _=>n' - (intOf i).toNat)
   case atStart=>exact⟨0,Nat.zero_le _,rfl,Lib.hid fun j t h=>absurd h (by omega),hrow2,Lib.hid (fun g hg e=>HNE.out (hg.trans (e.symm.trans rfl))),hown,hbr⟩
   case round=>
    clear hown hrow2 HNE
    obtain⟨k,hk,rfl,HP,hown,HNE,hrow1,hbs⟩:=hrel
    obtain⟨ws,rfl⟩:∃ W,W=wr:=⟨_,rfl⟩
    have hBs:=hB0.trans (hbs.mono hB0.size)
    by_cases hlt:k < n'
    ·obtain⟨g,off,rfl,hg,hcell⟩:=hat' (by omega)
     obtain⟨t,hx,hmem⟩:=l7 HN'.out hlt
     obtain⟨name,params,locals,result,code⟩:=t
     have abm:ws.cell? ⟨g,off+k * 5,none⟩=some (.string name):=ak hBs (by omega) (hcell k 0 _ _ hx (by rw[Core.aj];rfl))
     have aa9:ws.cell? ⟨g,off+k * 5+1,none⟩=some (.int .i64 params):=ak hBs (by omega) (hcell k 1 _ _ hx (by rw[Core.aj];rfl))
     have aeu:ws.cell? ⟨g,off+k * 5+2,none⟩=some (.int .i64 locals):=ak hBs (by omega) (hcell k 2 _ _ hx (by rw[Core.aj];rfl))
     have abb:ws.cell? ⟨g,off+k * 5+3,none⟩=some (.bool result):=ak hBs (by omega) (hcell k 3 _ _ hx (by rw[Core.aj];rfl))
     obtain⟨yj,aho,qy⟩:∃ u,ws.cell? ⟨g,off+k * 5+4,none⟩=some u∧Rep ws B (.row 2 (code.flatMap Ins.pd)) u:=abh hBs (by omega) hB (hcell k 4 _ _ hx (by rw[Core.aj];rfl))
     have yu:=Lib.hid qy
     clear qy
     obtain⟨aax,um,aay,rfl⟩:=yu.out.form
     have HX:=Lib.hid hx
     have HM:=Lib.hid hmem
     clear hx hmem
     clear hcell
     have HMS:=Lib.hid (agz (f:=Core.name) HX.out)
     have RC:=Lib.hid (Core.close_ (name:=name) (params:=params) (locals:=locals) (result:=result) yu.out)
     obtain⟨t,ht⟩:∃ t:Core,t=⟨name,params,locals,result,code⟩:=⟨_,rfl⟩
     have HTN:Hid (t.name=name):=by show _=_;rw[ht]
     rw[← ht] at RC HX HMS
     clear ht
     go_wp2_with fail
     obtain⟨w1,hw1⟩:∃ W,W=ws.alloc (.cells #[.string name,.int .i64 params,.int .i64 locals,.bool result,.slice aax um aay] 36):=⟨_,rfl⟩
     rw[← hw1]
     have bE:Blk w1 ws.heap.size 36 #[.string name,.int .i64 params,.int .i64 locals,.bool result,.slice aax um aay]:=by rw[hw1];exact Blk.new ws _ _
     have hb1:Below ws.heap.size ws w1:=by rw[hw1];exact(Below.refl _ _).alloc (Nat.le_refl _) _
     clear hw1
     have ahf:=hbs.trans (hb1.mono hbs.size)
     have hB1:=hBs.trans (hb1.mono hBs.size)
     refine(an6 t (B:=B) (Nat.le_trans hB hB1.size) (RC.out.below (hb1.mono (Nat.le_trans hB hBs.size)))).mono ?_
     rintro e w2 ⟨rfl,hb2⟩
     have bE2:=bE.step hb2
     have aug:=hb1.trans (hb2.mono hb1.size)
     have alb:=hbs.trans (aug.mono hbs.size)
     have hB2:=hB1.trans (hb2.mono hB1.size)
     cases hin:yt t
     ·have HF2:Hid (R=false):=by show _=_;rw[HF1.out,akq HX.out (by simp[hin])];rfl
      go_wp2_with fail
      go_ret
      exact⟨dn HF2.out.symm,hB2⟩
     ·have HQ:=Lib.hid (abk HP.out HX.out (by simp[hin]))
      have e_0:w2.cell? ⟨ws.heap.size,0,none⟩=some (.string name):=bE2.cell 0
      have hown1:=acf hown aug
      have hs1:=hown1.alloc (.cells #[Value.string name] 9)
      have hr1:=(acf hrow1 aug).alloc (.cells #[Value.string name] 9)
      have hc1:=cell_one_new w2 (Value.string name) 9
      have an9:Below w0.heap.size w0 (w2.alloc (.cells #[Value.string name] 9)):=alb.alloc alb.size _
      clear hown hown1 HP hrow1
      go_wp2_with (at_builtin;refine wpList_append_own_at _ rfl _ _ 32 rfl w0.heap.size 9 i0 (.string {data:=#[]}) 1 16 Tryz.underlying32 hi hz0 hz1 hz2 rfl (by decide) _ _ _ rfl hs1 ⟨w2.heap.size,0,none⟩ 1 1 [_] rfl rfl hc1 (apm _) (by simp only[maxLen];omega) (by omega) an9.size ?_;intro v' w3 hown' hgrow _ ig)
      have adn:=an9.grown hgrow an9.size (fun g hg=>(hs1.lt g hg).1)
      have hr3:=an8 hr1 hgrow (fun g hg e=>HNE.out g hg e)
      have auf:Hid (∀ g,v1.ownBlock=some g→v'.ownBlock≠some g):=fun g hg e=>by
       rcases ig with h|h
       ·exact HNE.out g hg (h ▸ e)
       ·rw[h] at e
        have:=Option.some.inj e
        have:=(hr1.lt g hg).2
        omega
      clear ig hs1 hr1 hc1
      go_roundw
      case rel=>exact⟨k+1,by omega,by go_num,HQ,by rw[HMS.out,HTN.out,aif];exact hown',auf,hr3,adn⟩
      case measure=>simp[intOf];omega
    ·have hkn:k=n':=by omega
     have HF2:Hid (R=(oq (imports.map Imp.name) && oq (cores.map Core.name))):=by show _=_;rw[HF1.out,any_none (n:=k) (by have:=HN'.out;omega) HP.out];rfl
     have HT2:Hid (cores.take k=cores):=List.take_of_length_le (by have:=HN'.out;omega)
     rw[HT2.out] at hown
     clear HF1 HP
     subst hkn
     have LI:=Lib.hid (an7 hrow1)
     have LC:=Lib.hid (an7 hown)
     have SI:Hid (∀ s ∈ imports.map Imp.name,s.size≤maxLen):=fun s hs=>by
      obtain⟨x,hx,rfl⟩:=List.mem_map.1 hs
      exact aum (HWI.out x hx)
     have SC:Hid (∀ s ∈ cores.map Core.name,s.size≤maxLen):=fun s hs=>by
      obtain⟨x,hx,rfl⟩:=List.mem_map.1 hs
      exact arh (HWC.out x hx)
     have hl1:(imports.map Imp.name).length≤1048576:=by rw[List.length_map];have:=HN.out;omega
     have hl2:(cores.map Core.name).length≤1048576:=by rw[List.length_map];have:=HN'.out;omega
     clear hown hrow1
     go_wp2_with fail
     refine(aie (Nat.le_refl _) hl1 SI.out LI.out).mono ?_
     rintro e w3 ⟨rfl,hb3⟩
     cases hi1:oq (imports.map Imp.name)
     ·have HF3:Hid (R=false):=by show _=_;rw[HF2.out,hi1];rfl
      go_wp2_with fail
      go_ret
      exact⟨dn HF3.out.symm,hBs.trans (hb3.mono hBs.size)⟩
     ·have HF3:Hid (R=oq (cores.map Core.name)):=by show _=_;rw[HF2.out,hi1];rfl
      clear hi1
      go_wp2_with fail
      refine(aie hb3.size hl2 SC.out (LC.out.below hb3)).mono ?_
      rintro e w4 ⟨rfl,hb4⟩
      go_wp2_with fail
      go_ret
      exact⟨dn HF3.out.symm,(hBs.trans (hb3.mono hBs.size)).trans (hb4.mono (Nat.le_trans hBs.size hb3.size))⟩
end Go.Proofs.YtlpcocfadppkhaaGreatDoor
namespace Go.Proofs.YtlpcocfadppkhaaGreatDoor
open Go.RowKit Go.Shelf
set_option linter.unusedVariables false
set_option maxRecDepth 100000
def alc:Go.Shelf.Ren:=⟨fun
  | 166=>64|169=>67
   | 240=>85|276=>108|n=>n,fun|0=>0|3=>3|4=>4|5=>5|9=>9|20=>20|37=>74|70=>88|72=>90|75=>80|80=>94|127=>103|164=>125|n=>n,fun n=>n⟩
set_option maxHeartbeats 2000000 in
theorem aou:Lays.n166 Tryz.prog alc where
 mixed:=by kernel_rfl
 f166:=Tryz.func64.trans (congrArg some (by kernel_rfl))
 f240:=Tryz.func85.trans (congrArg some (by kernel_rfl))
 f276:=Tryz.func108.trans (congrArg some (by kernel_rfl))
 t0:=by kernel_rfl
 a0:=fun _=>by kernel_rfl
 z0:=fun _=>by kernel_rfl
 v0:=fun _=>by kernel_rfl
 t3:=by kernel_rfl
 a3:=fun _=>by kernel_rfl
 z3:=fun _=>by kernel_rfl
 v3:=fun _=>by kernel_rfl
 t4:=by kernel_rfl
 a4:=fun _=>by kernel_rfl
 z4:=fun _=>by kernel_rfl
 v4:=fun _=>by kernel_rfl
 t9:=by kernel_rfl
 a9:=fun _=>by kernel_rfl
 z9:=fun _=>by kernel_rfl
 v9:=fun _=>by kernel_rfl
 t20:=by kernel_rfl
 a20:=fun _=>by kernel_rfl
 z20:=fun _=>by kernel_rfl
 v20:=fun _=>by kernel_rfl
 t37:=by kernel_rfl
 a37:=fun _=>by kernel_rfl
 z37:=fun _=>by kernel_rfl
 v37:=fun _=>by kernel_rfl
 t70:=by kernel_rfl
 a70:=fun _=>by kernel_rfl
 z70:=fun _=>by kernel_rfl
 v70:=fun _=>by kernel_rfl
 t72:=by kernel_rfl
 a72:=fun _=>by kernel_rfl
 z72:=fun _=>by kernel_rfl
 v72:=fun _=>by kernel_rfl
 t75:=by kernel_rfl
 a75:=fun _=>by kernel_rfl
 z75:=fun _=>by kernel_rfl
 v75:=fun _=>by kernel_rfl
 t164:=by kernel_rfl
 a164:=fun _=>by kernel_rfl
 z164:=fun _=>by kernel_rfl
 v164:=fun _=>by kernel_rfl
set_option maxHeartbeats 2000000 in
theorem aov:Lays.n169 Tryz.prog alc where
 mixed:=by kernel_rfl
 f169:=Tryz.func67.trans (congrArg some (by kernel_rfl))
 t0:=by kernel_rfl
 a0:=fun _=>by kernel_rfl
 z0:=fun _=>by kernel_rfl
 v0:=fun _=>by kernel_rfl
 t3:=by kernel_rfl
 a3:=fun _=>by kernel_rfl
 z3:=fun _=>by kernel_rfl
 v3:=fun _=>by kernel_rfl
 t9:=by kernel_rfl
 a9:=fun _=>by kernel_rfl
 z9:=fun _=>by kernel_rfl
 v9:=fun _=>by kernel_rfl
 t37:=by kernel_rfl
 a37:=fun _=>by kernel_rfl
 z37:=fun _=>by kernel_rfl
 v37:=fun _=>by kernel_rfl
 t70:=by kernel_rfl
 a70:=fun _=>by kernel_rfl
 z70:=fun _=>by kernel_rfl
 v70:=fun _=>by kernel_rfl
 t72:=by kernel_rfl
 a72:=fun _=>by kernel_rfl
 z72:=fun _=>by kernel_rfl
 v72:=fun _=>by kernel_rfl
 t127:=by kernel_rfl
 a127:=fun _=>by kernel_rfl
 z127:=fun _=>by kernel_rfl
 v127:=fun _=>by kernel_rfl
theorem aus:Builder.Extra Tryz.prog alc where
 sizeBuilder:=by kernel_rfl
 liesBuilder:=by kernel_rfl
 t5:=by kernel_rfl
 a5:=fun _=>by kernel_rfl
 z5:=fun _=>by kernel_rfl
 v5:=fun _=>by kernel_rfl
 infoByte:=by kernel_rfl
 cellsByte:=by kernel_rfl
 sizeByte:=by kernel_rfl
 neB5:=by decide
def Bld (B b:Nat) (s:ByteArray) (w:World):Prop:=Lib.IsBuilder 90 5 B b (Lib.strCells s) w
theorem Bld.new {B:Nat} (w:World) (hB:B≤w.heap.size):Bld B w.heap.size ⟨#[]⟩ (w.alloc (.cells #[.pointer none,.slice none 0 0] 90)):=
 .inl ⟨hB,.slice none 0 0,heap_alloc_new w _,World.ownsRow_nil _ _ _ _,by simp[Value.ownBlock]⟩
theorem aoa (a b:ByteArray):Lib.strCells a ++Lib.strCells b=Lib.strCells (a ++b):=by simp[Lib.strCells]
theorem Bld.alloc {B b:Nat} {s:ByteArray} {w:World} (h:Bld B b s w) (o:Obj):Bld B b s (w.alloc o):=by
 rcases h with ⟨hB,v,hb,hown,hne⟩|⟨hB,v,hb,hown,hne⟩
 ·have hlt:=Lib.BuilderAt.lt ⟨hB,v,hb,hown,hne⟩
  exact .inl ⟨hB,v,(heap_alloc_old w o hlt).trans hb,hown.alloc o,hne⟩
 ·have hlt:=Lib.BuilderAt.lt ⟨hB,v,hb,hown,hne⟩
  exact .inr ⟨hB,v,(heap_alloc_old w o hlt).trans hb,hown.alloc o,hne⟩
theorem Bld.step {B b:Nat} {s:ByteArray} {w w':World} (h:Bld B b s w) (hk:Below w.heap.size w w'):Bld B b s w':=by
 have key:∀ p,Lib.BuilderAt 90 5 B b p (Lib.strCells s) w→Lib.BuilderAt 90 5 B b p (Lib.strCells s) w':=by
  rintro p ⟨hB,v,hb,hown,hne⟩
  have hlt:=Lib.BuilderAt.lt ⟨hB,v,hb,hown,hne⟩
  refine⟨hB,v,(hk.block b hlt).trans hb,⟨hown.1,?_⟩,hne⟩
  rcases hown.2 with hn|⟨g,cap,cur,hv,hbg,hg,rest⟩
  ·exact .inl hn
  ·have hlg:g < w.heap.size:=(Array.getElem?_eq_some_iff.1 hg).1
   exact .inr ⟨g,cap,cur,hv,hbg,(hk.block g hlg).trans hg,rest⟩
 rcases h with h|h
 ·exact .inl (key _ h)
 ·exact .inr (key _ h)
end Go.Proofs.YtlpcocfadppkhaaGreatDoor
namespace Go.Proofs.YtlpcocfadppkhaaGreatDoor
open Go.RowKit Go.Shelf
set_option linter.unusedVariables false
def abf (B b:Nat) (s:ByteArray) (w:World):Prop:=Lib.IsBuilderF 90 5 B b (Lib.strCells s) w
def ay8 (b:Nat) (w w':World):Prop:=Lib.OthersKept 5 (some b) w w'
theorem abf.new {B:Nat} (w:World) (hB:B≤w.heap.size):abf B w.heap.size ⟨#[]⟩ (w.alloc (.cells #[.pointer none,.slice none 0 0] 90)):=Lib.IsBuilderF.of (Bld.new w hB)
theorem ad6 {B b:Nat} {s t:ByteArray} {w:World} (h:abf B b s w) (hlen:s.size+t.size≤140737488355328) (hB:B≤w.heap.size):
  Calls Tryz.prog 64 #[.pointer (some ⟨b,0,none⟩),.string t] w fun e w'=>e=.returned (.tuple #[.int .i64 t.size,.nilIface])∧abf B b (s ++t) w'∧Below B w w'∧ay8 b w w':=by
 refine(Any.Builder_WriteString_k aou aus B b _ t w h (by rw[Lib.strCells_length];exact hlen) hB).mono ?_
 rintro e w' ⟨he,hb,hw,hk⟩
 refine⟨he,.inr ?_,hw,hk⟩
 rw[← aoa]
 exact hb
theorem aow {B b:Nat} {s:ByteArray} {w:World} (h:abf B b s w) (hB:B≤w.heap.size):
  Calls Tryz.prog 67 #[.pointer (some ⟨b,0,none⟩)] w fun e w'=>e=.returned (.string s)∧Below B w w':=by
 refine(Any.Builder_String_any_k aov aus B b s.data.toList w h hB).mono ?_
 rintro e w' ⟨he,_,hw,_⟩
 exact⟨he,hw⟩
theorem abf.alloc {B b:Nat} {s:ByteArray} {w:World} (h:abf B b s w) (o:Obj):abf B b s (w.alloc o):=Lib.IsBuilderF.alloc h o
theorem abf.step {B b:Nat} {s:ByteArray} {w w':World} (h:abf B b s w) (hk:Below w.heap.size w w'):abf B b s w':=by
 have key:∀ p,Lib.BuilderAtF 90 5 B b p (Lib.strCells s) w→Lib.BuilderAtF 90 5 B b p (Lib.strCells s) w':=by
  rintro p ⟨hB,v,hb,hown,hne⟩
  have hlt:=Lib.BuilderAtF.lt ⟨hB,v,hb,hown,hne⟩
  refine⟨hB,v,(hk.block b hlt).trans hb,⟨hown.1,?_⟩,hne⟩
  rcases hown.2 with hn|⟨g,cap,cur,fz,hv,hbg,hg,rest⟩
  ·exact .inl hn
  ·have hlg:g < w.heap.size:=(Array.getElem?_eq_some_iff.1 hg).1
   exact .inr ⟨g,cap,cur,fz,hv,hbg,(hk.block g hlg).trans hg,rest⟩
 rcases h with h|h
 ·exact .inl (key _ h)
 ·exact .inr (key _ h)
theorem Blk.oth {w w':World} {g b:Nat} {t:TypeId} {cs:Array Value} (h:Blk w g t cs) (hk:ay8 b w w') (hg:g≠b) (ht:t≠5):Blk w' g t cs:=
 hk g _ h (by simpa using hg) (fun c fz e=>by injection e with _ e _;exact ht e)
end Go.Proofs.YtlpcocfadppkhaaGreatDoor
