/-
  The reference's well-formed modules: l15Shape (by program: gen_moshape.py).
-/
import Derived.Test.YtlpcocfadppkhaaGreatDoorRa13
import Derived.Deep.RegionHeld3
import Derived.Deep.RegionWith
namespace Go.Proofs.YtlpcocfadppkhaaGreatDoor
open Go.RowKit
set_option linter.unusedVariables false
set_option linter.unusedSimpArgs false
set_option linter.unnecessarySimpa false
set_option maxRecDepth 16000
theorem ahn {imports:List Imp} {X Y:Bool} {k:Nat} (h:partAt ada Imp.name imports k=false):(!imports.any (fun x=>!ada x) && (X && (oq (imports.map Imp.name) && Y)))=false:=by
 rcases ali h with h|h<;>rw[h]<;>simp
theorem atg {imports:List Imp} {X Y:Bool} (h:∀ k,k < imports.length→partAt ada Imp.name imports k=true):(!imports.any (fun x=>!ada x) && (X && (oq (imports.map Imp.name) && Y)))=(X && Y):=by
 rw[(af2 h).1,(af2 h).2];simp
theorem al0 {cores:List Core} {k:Nat} (h:partAt yt Core.name cores k=false):(!cores.any (fun x=>!yt x) && oq (cores.map Core.name))=false:=by
 rcases ali h with h|h<;>rw[h]<;>simp
theorem ath {cores:List Core} (h:∀ k,k < cores.length→partAt yt Core.name cores k=true):(!cores.any (fun x=>!yt x) && oq (cores.map Core.name))=true:=by
 rw[(af2 h).1,(af2 h).2];simp
set_option maxHeartbeats 12800000 in
theorem adk (m:Mod) {B:Nat} {cs:List Value} {w:World} (hB:B≤w.heap.size) (hwf:PD.wfL (Mod.pd m)) (hcap:aqb cs) (h:jd w B (Mod.pd m) cs):
  Calls Tryz.prog 11 #[.agg cs.toArray] w fun e w'=>e=.returned (.bool (uy m))∧Below w.heap.size w w':=by
 obtain⟨pages,imports,cores⟩:=m
 obtain⟨hwi,hwc⟩:=aun hwf
 have HWI:=Lib.hid hwi
 have HWC:=Lib.hid hwc
 obtain⟨R,hR⟩:∃ R:Bool,R=uy ⟨pages,imports,cores⟩:=⟨_,rfl⟩
 rw[← hR]
 rw[uy] at hR
 simp only at hR
 have HR:=Lib.hid hR
 clear hR
 obtain⟨jm,ng,rfl,gq,je⟩:=Mod.open_ h
 have tu:=Lib.hid gq
 clear gq
 have y5:=Lib.hid je
 clear je
 obtain⟨A,n,c,rfl,hnl,hm,hat⟩:=jr Imp.au (by decide) tu.out
 obtain⟨A',n',c',rfl,aee,hm',hat'⟩:=jr Core.au (by decide) y5.out
 unfold maxLen at hm hm'
 have hnc:n≤c:=hcap A n c (by simp)
 have hnc':n'≤c':=hcap A' n' c' (by simp)
 clear hcap
 have HN:=Lib.hid hnl
 have HN':=Lib.hid aee
 clear h hnl aee hwf hwi hwc
 go_enter Tryz.func11,Tryz.ntmps11
 go_wp2_with fail
 obtain⟨w0,hw0⟩:∃ W,W=w.alloc (.cells #[.int .i64 pages,.slice A n c,.slice A' n' c'] 25):=⟨_,rfl⟩
 rw[← hw0]
 have bA:Blk w0 w.heap.size 25 #[.int .i64 pages,.slice A n c,.slice A' n' c']:=by rw[hw0];exact Blk.new w _ _
 have hB0:Below w.heap.size w w0:=by rw[hw0];exact(Below.refl _ _).alloc (Nat.le_refl _) _
 clear hw0
 have ana:w0.cell? ⟨w.heap.size,0,none⟩=some (.int .i64 pages):=bA.cell 0
 have anb:w0.cell? ⟨w.heap.size,1,none⟩=some (.slice A n c):=bA.cell 1
 have akn:w0.cell? ⟨w.heap.size,2,none⟩=some (.slice A' n' c'):=bA.cell 2
 try go_wp2_with fail
 refine(adt _ _ _ _).mono ?_
 rintro e w1 ⟨rfl,rfl⟩
 cases hp:inB pages 1 16
 ·have HF:Hid (R=false):=by show _=_;rw[HR.out,hp];rfl
  go_wp2_with fail
  go_ret
  exact⟨dn HF.out.symm,hB0⟩
 by_cases hn:n≤12
 case neg=>
  have HF:Hid (R=false):=by show _=_;rw[HR.out,hp,decide_eq_false (show ¬ imports.length≤12 by have:=HN.out;omega)];rfl
  go_wp2_with fail
  go_ret
  exact⟨dn HF.out.symm,hB0⟩
 by_cases hn':n'≤8
 case neg=>
  have HF:Hid (R=false):=by show _=_;rw[HR.out,hp,decide_eq_true (show imports.length≤12 by have:=HN.out;omega),decide_eq_false (show ¬ cores.length≤8 by have:=HN'.out;omega)];rfl
  go_wp2_with fail
  go_ret
  exact⟨dn HF.out.symm,hB0⟩
 have HF:Hid (R=(!imports.any (fun x=>!ada x) && (!cores.any (fun c=>!yt c) && (oq (imports.map Imp.name) && oq (cores.map Core.name))))):=by
  show _=_
  rw[HR.out,hp,decide_eq_true (show imports.length≤12 by have:=HN.out;omega),decide_eq_true (show cores.length≤8 by have:=HN'.out;omega)]
  rfl
 clear hp HR
 go_wp2_with fail
 clear ana anb akn
 go_loopw [3] (fun i wr=>∃ k:Nat,k≤n∧i=.int .i64 k∧Hid (∀ j,j < k→partAt ada Imp.name imports j=true)∧Below w0.heap.size w0 wr) (fun i _=>n - (intOf i).toNat)
 case atStart=>exact⟨0,Nat.zero_le _,rfl,Lib.hid fun j h=>absurd h (by omega),Below.refl _ _⟩
 case round=>
  obtain⟨k,hk,rfl,HP,hbr⟩:=hrel
  have hsz:=hbr.size
  have hBr:=hB0.trans (hbr.mono hB0.size)
  have bR:=bA.step hbr
  have b_1:wr.cell? ⟨w.heap.size,1,none⟩=some (.slice A n c):=bR.cell 1
  have b_2:wr.cell? ⟨w.heap.size,2,none⟩=some (.slice A' n' c'):=bR.cell 2
  by_cases hlt:k < n
  ·obtain⟨g,off,rfl,hg,hcell⟩:=hat (by omega)
   obtain⟨t,hx,hmem⟩:=l7 HN.out hlt
   obtain⟨name,params,result⟩:=t
   have abm:wr.cell? ⟨g,off+k * 3,none⟩=some (.string name):=ak hBr (by omega) (hcell k 0 _ _ hx (by rw[Imp.aj];rfl))
   have aa9:wr.cell? ⟨g,off+k * 3+1,none⟩=some (.int .i64 params):=ak hBr (by omega) (hcell k 1 _ _ hx (by rw[Imp.aj];rfl))
   have abb:wr.cell? ⟨g,off+k * 3+2,none⟩=some (.bool result):=ak hBr (by omega) (hcell k 2 _ _ hx (by rw[Imp.aj];rfl))
   have HX:=Lib.hid hx
   have HM:=Lib.hid hmem
   clear hx hmem
   clear hcell
   clear hat hat'
   have hs:=aum (HWI.out _ HM.out)
   have hpa:=ao4 (ok:=ada) (name:=Imp.name) HX.out
   rw[ada] at hpa
   simp only at hpa
   have HPA:=Lib.hid hpa
   clear hpa
   go_wp2_with fail
   obtain⟨w1,hw1⟩:∃ W,W=wr.alloc (.cells #[.string name,.int .i64 params,.bool result] 52):=⟨_,rfl⟩
   rw[← hw1]
   have bE:Blk w1 wr.heap.size 52 #[.string name,.int .i64 params,.bool result]:=by rw[hw1];exact Blk.new wr _ _
   have hb1:Below wr.heap.size wr w1:=by rw[hw1];exact(Below.refl _ _).alloc (Nat.le_refl _) _
   clear hw1
   have ahf:=hbr.trans (hb1.mono hbr.size)
   have hB1:=hBr.trans (hb1.mono hBr.size)
   have bR1:=bR.step hb1
   have e_0:w1.cell? ⟨wr.heap.size,0,none⟩=some (.string name):=bE.cell 0
   have e_1:w1.cell? ⟨wr.heap.size,1,none⟩=some (.int .i64 params):=bE.cell 1
   have d_1:w1.cell? ⟨w.heap.size,1,none⟩=some (.slice (some ⟨g,off,none⟩) n c):=bR1.cell 1
   have RT:Hid (Rep w1 B (.row 3 ((imports.take k).flatMap Imp.pd)) (.slice (some ⟨g,off,none⟩) k c)):=(amq Imp.au (by decide) tu.out hk).below (hB1.mono hB)
   clear b_1 b_2
   cases hw:jv name
   ·have HF2:Hid (R=false):=by show _=_;rw[HF.out,ahn (k:=k) (by rw[HPA.out,hw,Bool.false_and])]
    clear HF
    go_quiet ((first|(go_at_call 27;exact Calls.quiet_of_same (ad4 hs hw))))
    go_wp2_with fail
    go_ret
    exact⟨dn HF2.out.symm,below_drewN hB1 _⟩
   cases hin:inB params 0 8
   ·have HF2:Hid (R=false):=by show _=_;rw[HF.out,ahn (k:=k) (by rw[HPA.out,hw,hin];rfl)]
    clear HF
    go_quiet ((first|(go_at_call 27;exact Calls.quiet_of_same (ad4 hs hw))|(go_at_call 26;exact Calls.quiet_of_same (ak5 hin))))
    go_wp2_with fail
    go_ret
    exact⟨dn HF2.out.symm,below_drewN hB1 _⟩
   obtain⟨N,hN⟩:∃ N,oz (fun y:Imp=>decide (y.name=name)) (imports.take k)=N:=⟨_,rfl⟩
   have hpa:=HPA.out
   rw[hw,hin,Bool.true_and,Bool.true_and] at hpa
   simp only[hN] at hpa
   clear HPA
   by_cases hge:N < 0
   ·rw[decide_eq_true hge] at hpa
    have HQ:=Lib.hid (alj HP.out hpa)
    clear hpa HP
    have hdn:decide ((0:Int)≤N)=false:=by simpa using hge
    go_quiet ((first|(go_at_call 27;exact Calls.quiet_of_same (ad4 hs hw))|(go_at_call 26;exact Calls.quiet_of_same (ak5 hin))|(go_at_call 28;exact Calls.quiet_of_same (afv (RT.out.below (below_drewN (Below.refl _ _) _)) hN))))
    clear hw hin hN hdn e_0 e_1 d_1
    go_wp2_with fail
    go_roundw
    case rel=>exact⟨k+1,by omega,by go_num,HQ,below_drewN ahf _⟩
    case measure=>simp[intOf];omega
   ·rw[decide_eq_false hge] at hpa
    have HF2:Hid (R=false):=by show _=_;rw[HF.out,ahn hpa]
    clear hpa HP HF
    have hdn:decide ((0:Int)≤N)=true:=by simpa using hge
    go_quiet ((first|(go_at_call 27;exact Calls.quiet_of_same (ad4 hs hw))|(go_at_call 26;exact Calls.quiet_of_same (ak5 hin))|(go_at_call 28;exact Calls.quiet_of_same (afv (RT.out.below (below_drewN (Below.refl _ _) _)) hN))))
    clear hw hin hN e_0 e_1 d_1
    go_wp2_with fail
    go_ret
    exact⟨dn HF2.out.symm,below_drewN hB1 _⟩
  ·have hkn:k=n:=by omega
   have HF1:Hid (R=(!cores.any (fun c=>!yt c) && oq (cores.map Core.name))):=by show _=_;rw[HF.out,atg fun j hj=>HP.out j (by have:=HN.out;omega)]
   clear HF HP
   obtain rfl:n=k:=hkn.symm
   go_wp2_with fail
   obtain⟨wo,rfl⟩:∃ W,W=wr:=⟨_,rfl⟩
   go_loopw [5] (fun i ws=>∃ k:Nat,k≤n'∧i=.int .i64 k∧Hid (∀ j,j < k→partAt yt Core.name cores j=true)∧Below wo.heap.size wo ws) (fun i _=>n' - (intOf i).toNat)
   case atStart=>exact⟨0,Nat.zero_le _,rfl,Lib.hid fun j h=>absurd h (by omega),Below.refl _ _⟩
   case round=>
    obtain⟨k,hk,rfl,HP,hbs⟩:=hrel
    obtain⟨ws,rfl⟩:∃ W,W=wr:=⟨_,rfl⟩
    have hss:=hbs.size
    have hBs:=hBr.trans (hbs.mono hBr.size)
    have bS:=bR.step hbs
    have d_1:ws.cell? ⟨w.heap.size,1,none⟩=some (.slice A n c):=bS.cell 1
    have d_2:ws.cell? ⟨w.heap.size,2,none⟩=some (.slice A' n' c'):=bS.cell 2
    by_cases hlt:k < n'
    ·obtain⟨g,off,rfl,hg,hcell⟩:=hat' (by omega)
     obtain⟨t,hx,hmem⟩:=l7 HN'.out hlt
     obtain⟨name,params,locals,result,code⟩:=t
     have abm:ws.cell? ⟨g,off+k * 5,none⟩=some (.string name):=ak hBs (by omega) (hcell k 0 _ _ hx (by rw[Core.aj];rfl))
     have aa9:ws.cell? ⟨g,off+k * 5+1,none⟩=some (.int .i64 params):=ak hBs (by omega) (hcell k 1 _ _ hx (by rw[Core.aj];rfl))
     have aeu:ws.cell? ⟨g,off+k * 5+2,none⟩=some (.int .i64 locals):=ak hBs (by omega) (hcell k 2 _ _ hx (by rw[Core.aj];rfl))
     have abb:ws.cell? ⟨g,off+k * 5+3,none⟩=some (.bool result):=ak hBs (by omega) (hcell k 3 _ _ hx (by rw[Core.aj];rfl))
     obtain⟨yj,aho,qy⟩:∃ u,ws.cell? ⟨g,off+k * 5+4,none⟩=some u∧Rep ws B (.row 2 (code.flatMap Ins.pd)) u:=abh hBs (by omega) hB (hcell k 4 _ _ hx (by rw[Core.aj];rfl))
     have yu:=Lib.hid qy
     clear qy
     obtain⟨aax,um,aay,rfl⟩:=yu.out.form
     have HX:=Lib.hid hx
     have HM:=Lib.hid hmem
     clear hx hmem
     clear hcell
     clear hat hat'
     have HS:=Lib.hid (HWC.out _ HM.out)
     obtain⟨t,ht⟩:∃ t:Core,t=⟨name,params,locals,result,code⟩:=⟨_,rfl⟩
     have HT:=Lib.hid ht
     have RT:Hid (Rep w B (.row 5 ((cores.take k).flatMap Core.pd)) (.slice (some ⟨g,off,none⟩) k c')):=amq Core.au (by decide) y5.out hk
     have RC:=Lib.hid (Core.close_ (name:=name) (params:=params) (locals:=locals) (result:=result) yu.out)
     have hx2:cores[k]?=some t:=by rw[ht];exact HX.out
     have hpa:=ao4 (ok:=yt) (name:=Core.name) hx2
     simp only[show t.name=name from by rw[ht]] at hpa
     rw[← ht] at RC HS
     clear ht hx2
     obtain⟨N,hN⟩:∃ N,oz (fun y:Core=>decide (y.name=name)) (cores.take k)=N:=⟨_,rfl⟩
     simp only[hN] at hpa
     have hcall:=fun(W:World) (hW:Below ws.heap.size ws W)=>am9 t (B:=B) (w:=W) (Nat.le_trans hB (Nat.le_trans hBs.size hW.size)) HS.out (RC.out.below (hW.mono (Nat.le_trans hB hBs.size)))
     simp only[show t.name=name from by rw[HT.out]] at hcall
     rw[← Bool.and_assoc] at hpa
     obtain⟨ok,hok⟩:∃ ok:Bool,ok=(jv name && yt t):=⟨_,rfl⟩
     rw[← hok] at hpa
     simp only[← hok] at hcall
     have HPA:=Lib.hid hpa
     have HC:=Lib.hid hcall
     clear hpa hcall hok
     have hk0:(0:Int)≤(k:Int):=by omega
     have hkc:(k:Int)≤(c':Int):=by omega
     have hkn2:(k:Int)≤(n':Int):=by omega
     go_wp2_with fail
     have hBc:=(Below.refl ws.heap.size ws).drew
     have bS':Blk ws.drew w.heap.size 25 #[.int .i64 pages,.slice A n c,.slice (some ⟨g,off,none⟩) n' c']:=bS
     have hgw:g < ws.heap.size:=by have:=hBs.size;omega
     have KC:Hid (∀ W,Below ws.heap.size ws W→W.cell? ⟨g,off+k * 5,none⟩=some (.string name)∧W.cell? ⟨g,off+k * 5+1,none⟩=some (.int .i64 params)∧W.cell? ⟨g,off+k * 5+2,none⟩=some (.int .i64 locals)∧W.cell? ⟨g,off+k * 5+3,none⟩=some (.bool result)∧W.cell? ⟨g,off+k * 5+4,none⟩=some (.slice aax um aay)):=fun W hW=>⟨(hW.cell (p:=⟨g,off+k * 5,none⟩) hgw).trans abm,(hW.cell (p:=⟨g,off+k * 5+1,none⟩) hgw).trans aa9,(hW.cell (p:=⟨g,off+k * 5+2,none⟩) hgw).trans aeu,(hW.cell (p:=⟨g,off+k * 5+3,none⟩) hgw).trans abb,(hW.cell (p:=⟨g,off+k * 5+4,none⟩) hgw).trans aho⟩
     clear abm aa9 aeu abb aho d_1 d_2 bS
     cases ok
     ·have HF2:Hid (R=false):=by show _=_;rw[HF1.out,al0 (k:=k) (by rw[HPA.out,Bool.false_and])]
      clear HF1 HPA
      refine wp_region_held_drew (S:=(fun w'=>w'.cell? ⟨w.heap.size,1,none⟩=some (.slice A n c)∧w'.cell? ⟨w.heap.size,2,none⟩=some (.slice (some ⟨g,off,none⟩) n' c')∧w'.cell? ⟨g,off+k * 5,none⟩=some (.string name)∧w'.cell? ⟨g,off+k * 5+1,none⟩=some (.int .i64 params)∧w'.cell? ⟨g,off+k * 5+2,none⟩=some (.int .i64 locals)∧w'.cell? ⟨g,off+k * 5+3,none⟩=some (.bool result)∧w'.cell? ⟨g,off+k * 5+4,none⟩=some (.slice aax um aay))) (by kernel_rfl) ⟨bS'.cell 1,bS'.cell 2,KC.out _ hBc⟩ (fun hHeld=>?_)
      refine wpAnyH_take (i:=0) (oi:=?o0) (v:=?v0) ?h0 (by kernel_rfl) (by kernel_rfl) (by kernel_rfl) ?q0 (Or.inl ⟨?z0,?y0⟩) (by assumption) ?r0
      case h0=>
       simp only[List.getElem?_toArray,List.getElem?_cons_succ,List.getElem?_cons_zero]
       rfl
      case q0=>exact fun _ _ _ h=>h
      case z0=>rfl
      case y0=>
       intro w hSw
       try dsimp only at hSw
       go_simp
       try with_reducible rfl
      try simp only[Act.put,List.setIfInBounds_toArray,List.set_cons_zero,List.set_cons_succ]
      refine wpAnyH_take (i:=1) (oi:=?o1) (v:=?v1) ?h1 (by kernel_rfl) (by kernel_rfl) (by kernel_rfl) ?q1 (Or.inl ⟨?z1,?y1⟩) (by assumption) ?r1
      case h1=>
       simp only[List.getElem?_toArray,List.getElem?_cons_succ,List.getElem?_cons_zero]
       rfl
      case q1=>exact fun _ _ _ h=>h
      case z1=>rfl
      case y1=>
       intro w hSw
       try dsimp only at hSw
       go_simp
       try with_reducible rfl
      try simp only[Act.put,List.setIfInBounds_toArray,List.set_cons_zero,List.set_cons_succ]
      refine wpAnyH_take (i:=2) (oi:=?o2) (v:=?v2) ?h2 (by kernel_rfl) (by kernel_rfl) (by kernel_rfl) ?q2 (Or.inl ⟨?z2,?y2⟩) (by assumption) ?r2
      case h2=>
       simp only[List.getElem?_toArray,List.getElem?_cons_succ,List.getElem?_cons_zero]
       rfl
      case q2=>exact fun _ _ _ h=>h
      case z2=>rfl
      case y2=>
       intro w hSw
       try dsimp only at hSw
       go_simp
       try with_reducible rfl
      try simp only[Act.put,List.setIfInBounds_toArray,List.set_cons_zero,List.set_cons_succ]
      refine wpAnyH_take (i:=3) (oi:=?o3) (v:=?v3) ?h3 (by kernel_rfl) (by kernel_rfl) (by kernel_rfl) ?q3 (Or.inl ⟨?z3,?y3⟩) (by assumption) ?r3
      case h3=>
       simp only[List.getElem?_toArray,List.getElem?_cons_succ,List.getElem?_cons_zero]
       rfl
      case q3=>exact fun _ _ _ h=>h
      case z3=>rfl
      case y3=>
       intro w hSw
       try dsimp only at hSw
       go_simp
       try with_reducible rfl
      try simp only[Act.put,List.setIfInBounds_toArray,List.set_cons_zero,List.set_cons_succ]
      refine wpAnyH_take (i:=4) (oi:=?o4) (v:=?v4) ?h4 (by kernel_rfl) (by kernel_rfl) (by kernel_rfl) ?q4 (Or.inl ⟨?z4,?y4⟩) (by assumption) ?r4
      case h4=>
       simp only[List.getElem?_toArray,List.getElem?_cons_succ,List.getElem?_cons_zero]
       rfl
      case q4=>exact fun _ _ _ h=>h
      case z4=>rfl
      case y4=>
       intro w hSw
       try dsimp only at hSw
       go_simp
       try with_reducible rfl
      try simp only[Act.put,List.setIfInBounds_toArray,List.set_cons_zero,List.set_cons_succ]
      refine wpAnyH_ready (rs:=[5]) (by kernel_rfl) (by simp) ?_
      refine AllReadyH.cons rfl (fun K hK=>?_) AllReadyH.nil
      go_simp
      (go_at_call 29;refine(HC.out _ hBc).mono ?_;rintro e wq ⟨rfl,hbq⟩;replace hBc:=hBc.trans (hbq.mono hBc.size);replace bS':=bS'.step hbq)
      try go_wp2_with fail
      refine hK.out _ _ ⟨bS'.cell 1,bS'.cell 2,KC.out _ hBc⟩ (fun a6b=>?_)
      clear hK K
      try simp only[Act.put,List.setIfInBounds_toArray,List.set_cons_zero,List.set_cons_succ]
      refine wpAnyH_take (i:=6) (oi:=?o6) (v:=?v6) ?h6 (by kernel_rfl) (by kernel_rfl) (by kernel_rfl) ?q6 (Or.inl ⟨?z6,?y6⟩) (by assumption) ?r6
      case h6=>
       simp only[List.getElem?_toArray,List.getElem?_cons_succ,List.getElem?_cons_zero]
       rfl
      case q6=>exact fun _ _ _ h=>h
      case z6=>rfl
      case y6=>
       intro w hSw
       try dsimp only at hSw
       go_simp
       try with_reducible rfl
      try simp only[Act.put,List.setIfInBounds_toArray,List.set_cons_zero,List.set_cons_succ]
      refine wpAnyH_take (i:=7) (oi:=?o7) (v:=?v7) ?h7 (by kernel_rfl) (by kernel_rfl) (by kernel_rfl) ?q7 (Or.inl ⟨?z7,?y7⟩) (by assumption) ?r7
      case h7=>
       simp only[List.getElem?_toArray,List.getElem?_cons_succ,List.getElem?_cons_zero]
       rfl
      case q7=>exact fun _ _ _ h=>h
      case z7=>rfl
      case y7=>
       intro w hSw
       try dsimp only at hSw
       go_simp
       try with_reducible rfl
      try simp only[Act.put,List.setIfInBounds_toArray,List.set_cons_zero,List.set_cons_succ]
      refine wpAnyH_take (i:=8) (oi:=?o8) (v:=undef) ?h8 (by kernel_rfl) (by kernel_rfl) (by kernel_rfl) ?q8 (Or.inr ⟨?y8,rfl⟩) (by assumption) ?r8
      case h8=>
       simp only[List.getElem?_toArray,List.getElem?_cons_succ,List.getElem?_cons_zero]
       rfl
      case q8=>exact fun _ _ _ h=>h
      case y8=>rfl
      try simp only[Act.put,List.setIfInBounds_toArray,List.set_cons_zero,List.set_cons_succ]
      refine wpAnyH_take (i:=9) (oi:=?o9) (v:=undef) ?h9 (by kernel_rfl) (by kernel_rfl) (by kernel_rfl) ?q9 (Or.inr ⟨?y9,rfl⟩) (by assumption) ?r9
      case h9=>
       simp only[List.getElem?_toArray,List.getElem?_cons_succ,List.getElem?_cons_zero]
       rfl
      case q9=>exact fun _ _ _ h=>h
      case y9=>rfl
      try simp only[Act.put,List.setIfInBounds_toArray,List.set_cons_zero,List.set_cons_succ]
      refine wpAnyH_take (i:=10) (oi:=?o10) (v:=undef) ?h10 (by kernel_rfl) (by kernel_rfl) (by kernel_rfl) ?q10 (Or.inr ⟨?y10,rfl⟩) (by assumption) ?r10
      case h10=>
       simp only[List.getElem?_toArray,List.getElem?_cons_succ,List.getElem?_cons_zero]
       rfl
      case q10=>exact fun _ _ _ h=>h
      case y10=>rfl
      try simp only[Act.put,List.setIfInBounds_toArray,List.set_cons_zero,List.set_cons_succ]
      refine wpAnyH_take (i:=11) (oi:=?o11) (v:=undef) ?h11 (by kernel_rfl) (by kernel_rfl) (by kernel_rfl) ?q11 (Or.inr ⟨?y11,rfl⟩) (by assumption) ?r11
      case h11=>
       simp only[List.getElem?_toArray,List.getElem?_cons_succ,List.getElem?_cons_zero]
       rfl
      case q11=>exact fun _ _ _ h=>h
      case y11=>rfl
      try simp only[Act.put,List.setIfInBounds_toArray,List.set_cons_zero,List.set_cons_succ]
      refine wpAnyH_take (i:=12) (oi:=?o12) (v:=undef) ?h12 (by kernel_rfl) (by kernel_rfl) (by kernel_rfl) ?q12 (Or.inr ⟨?y12,rfl⟩) (by assumption) ?r12
      case h12=>
       simp only[List.getElem?_toArray,List.getElem?_cons_succ,List.getElem?_cons_zero]
       rfl
      case q12=>exact fun _ _ _ h=>h
      case y12=>rfl
      try simp only[Act.put,List.setIfInBounds_toArray,List.set_cons_zero,List.set_cons_succ]
      refine wpAnyH_take (i:=13) (oi:=?o13) (v:=undef) ?h13 (by kernel_rfl) (by kernel_rfl) (by kernel_rfl) ?q13 (Or.inr ⟨?y13,rfl⟩) (by assumption) ?r13
      case h13=>
       simp only[List.getElem?_toArray,List.getElem?_cons_succ,List.getElem?_cons_zero]
       rfl
      case q13=>exact fun _ _ _ h=>h
      case y13=>rfl
      try simp only[Act.put,List.setIfInBounds_toArray,List.set_cons_zero,List.set_cons_succ]
      refine wpAnyH_take (i:=14) (oi:=?o14) (v:=undef) ?h14 (by kernel_rfl) (by kernel_rfl) (by kernel_rfl) ?q14 (Or.inr ⟨?y14,rfl⟩) (by assumption) ?r14
      case h14=>
       simp only[List.getElem?_toArray,List.getElem?_cons_succ,List.getElem?_cons_zero]
       rfl
      case q14=>exact fun _ _ _ h=>h
      case y14=>rfl
      try simp only[Act.put,List.setIfInBounds_toArray,List.set_cons_zero,List.set_cons_succ]
      refine wpAnyH_take (i:=15) (oi:=?o15) (v:=undef) ?h15 (by kernel_rfl) (by kernel_rfl) (by kernel_rfl) ?q15 (Or.inr ⟨?y15,rfl⟩) (by assumption) ?r15
      case h15=>
       simp only[List.getElem?_toArray,List.getElem?_cons_succ,List.getElem?_cons_zero]
       rfl
      case q15=>exact fun _ _ _ h=>h
      case y15=>rfl
      try simp only[Act.put,List.setIfInBounds_toArray,List.set_cons_zero,List.set_cons_succ]
      refine wpAnyH_take (i:=16) (oi:=?o16) (v:=undef) ?h16 (by kernel_rfl) (by kernel_rfl) (by kernel_rfl) ?q16 (Or.inr ⟨?y16,rfl⟩) (by assumption) ?r16
      case h16=>
       simp only[List.getElem?_toArray,List.getElem?_cons_succ,List.getElem?_cons_zero]
       rfl
      case q16=>exact fun _ _ _ h=>h
      case y16=>rfl
      try simp only[Act.put,List.setIfInBounds_toArray,List.set_cons_zero,List.set_cons_succ]
      refine wpAnyH_take (i:=17) (oi:=?o17) (v:=undef) ?h17 (by kernel_rfl) (by kernel_rfl) (by kernel_rfl) ?q17 (Or.inr ⟨?y17,rfl⟩) (by assumption) ?r17
      case h17=>
       simp only[List.getElem?_toArray,List.getElem?_cons_succ,List.getElem?_cons_zero]
       rfl
      case q17=>exact fun _ _ _ h=>h
      case y17=>rfl
      try simp only[Act.put,List.setIfInBounds_toArray,List.set_cons_zero,List.set_cons_succ]
      refine wpAnyH_take (i:=18) (oi:=?o18) (v:=undef) ?h18 (by kernel_rfl) (by kernel_rfl) (by kernel_rfl) ?q18 (Or.inr ⟨?y18,rfl⟩) (by assumption) ?r18
      case h18=>
       simp only[List.getElem?_toArray,List.getElem?_cons_succ,List.getElem?_cons_zero]
       rfl
      case q18=>exact fun _ _ _ h=>h
      case y18=>rfl
      try simp only[Act.put,List.setIfInBounds_toArray,List.set_cons_zero,List.set_cons_succ]
      refine wpAnyH_take (i:=19) (oi:=?o19) (v:=undef) ?h19 (by kernel_rfl) (by kernel_rfl) (by kernel_rfl) ?q19 (Or.inr ⟨?y19,rfl⟩) (by assumption) ?r19
      case h19=>
       simp only[List.getElem?_toArray,List.getElem?_cons_succ,List.getElem?_cons_zero]
       rfl
      case q19=>exact fun _ _ _ h=>h
      case y19=>rfl
      try simp only[Act.put,List.setIfInBounds_toArray,List.set_cons_zero,List.set_cons_succ]
      refine wpAnyH_take (i:=20) (oi:=?o20) (v:=?v20) ?h20 (by kernel_rfl) (by kernel_rfl) (by kernel_rfl) ?q20 (Or.inl ⟨?z20,?y20⟩) (by assumption) ?r20
      case h20=>
       simp only[List.getElem?_toArray,List.getElem?_cons_succ,List.getElem?_cons_zero]
       rfl
      case q20=>exact fun _ _ _ h=>h
      case z20=>rfl
      case y20=>
       intro w hSw
       try dsimp only at hSw
       go_simp
       try with_reducible rfl
      try simp only[Act.put,List.setIfInBounds_toArray,List.set_cons_zero,List.set_cons_succ]
      refine wpAnyH_done (by kernel_rfl) ?_ _
      go_wp2_with fail
      go_ret
      exact⟨dn HF2.out.symm,hBs.trans (hBc.mono hBs.size)⟩
     ·have hpa:=HPA.out
      rw[Bool.true_and] at hpa
      clear HPA
      by_cases hge:N < 0
      ·rw[decide_eq_true hge] at hpa
       have HQ:=Lib.hid (alj HP.out hpa)
       clear hpa HP
       have hdn:decide ((0:Int)≤N)=false:=by simpa using hge
       go_region_held3 (fun w'=>w'.cell? ⟨w.heap.size,1,none⟩=some (.slice A n c)∧w'.cell? ⟨w.heap.size,2,none⟩=some (.slice (some ⟨g,off,none⟩) n' c')∧w'.cell? ⟨g,off+k * 5,none⟩=some (.string name)∧w'.cell? ⟨g,off+k * 5+1,none⟩=some (.int .i64 params)∧w'.cell? ⟨g,off+k * 5+2,none⟩=some (.int .i64 locals)∧w'.cell? ⟨g,off+k * 5+3,none⟩=some (.bool result)∧w'.cell? ⟨g,off+k * 5+4,none⟩=some (.slice aax um aay))
       (first|exact⟨bS'.cell 1,bS'.cell 2,KC.out _ hBc⟩|go_keep)
       (first|(go_at_call 29;refine(HC.out _ hBc).mono ?_;rintro e wq ⟨rfl,hbq⟩;replace hBc:=hBc.trans (hbq.mono hBc.size);replace bS':=bS'.step hbq)|(go_at_call 30;refine(ahg (RT.out.below ((hBs.trans (hBc.mono hBs.size)).mono hB)) hN).mono ?_;rintro e wq ⟨rfl,rfl⟩))
       clear hdn
       go_wp2_with fail
       go_roundw
       case rel=>exact⟨k+1,by omega,by go_num,HQ,hbs.trans (hBc.mono hbs.size)⟩
       case measure=>simp[intOf];omega
      ·rw[decide_eq_false hge] at hpa
       have HF2:Hid (R=false):=by show _=_;rw[HF1.out,al0 hpa]
       clear hpa HP HF1
       have hdn:decide ((0:Int)≤N)=true:=by simpa using hge
       go_region_held3 (fun w'=>w'.cell? ⟨w.heap.size,1,none⟩=some (.slice A n c)∧w'.cell? ⟨w.heap.size,2,none⟩=some (.slice (some ⟨g,off,none⟩) n' c')∧w'.cell? ⟨g,off+k * 5,none⟩=some (.string name)∧w'.cell? ⟨g,off+k * 5+1,none⟩=some (.int .i64 params)∧w'.cell? ⟨g,off+k * 5+2,none⟩=some (.int .i64 locals)∧w'.cell? ⟨g,off+k * 5+3,none⟩=some (.bool result)∧w'.cell? ⟨g,off+k * 5+4,none⟩=some (.slice aax um aay))
       (first|exact⟨bS'.cell 1,bS'.cell 2,KC.out _ hBc⟩|go_keep)
       (first|(go_at_call 29;refine(HC.out _ hBc).mono ?_;rintro e wq ⟨rfl,hbq⟩;replace hBc:=hBc.trans (hbq.mono hBc.size);replace bS':=bS'.step hbq)|(go_at_call 30;refine(ahg (RT.out.below ((hBs.trans (hBc.mono hBs.size)).mono hB)) hN).mono ?_;rintro e wq ⟨rfl,rfl⟩))
       clear hdn
       go_wp2_with fail
       go_ret
       exact⟨dn HF2.out.symm,hBs.trans (hBc.mono hBs.size)⟩
    ·have hkn:k=n':=by omega
     have HF2:Hid (R=true):=by show _=_;rw[HF1.out,ath fun j hj=>HP.out j (by have:=HN'.out;omega)]
     subst hkn
     go_wp2_with fail
     go_ret
     exact⟨dn HF2.out.symm,hBs⟩
end Go.Proofs.YtlpcocfadppkhaaGreatDoor
