/-
  Values that fit a type: spec.l04Items, l04All, l04Case (by program: gen_tkg.py) (by program: gen_why.py).
-/
import Derived.Test.YtfpannkadjdnaaaGreatDoorTa30
import Derived.Test.YtfpannkadjdnaaaGreatDoorTa10
import Derived.Test.YtfpannkadjdnaaaGreatDoorTa34
namespace Go.Proofs.YtfpannkadjdnaaaGreatDoor
open Go.RowKit
set_option linter.all false
set_option maxRecDepth 16000
def anu (rec:Val→Ty→Bool) (vs:List Val) (t:Ty) (k:Nat):Bool:=match vs[k]? with
 | some v=>rec v t
 | none=>true
theorem aip {a b c:Int} {v:Bool} {w:World} (h:inB a b c=v):Calls Tryz.prog 56 #[.int .i64 a,.int .i64 b,.int .i64 c] w fun e w'=>e=.returned (.bool v)∧w'=w:=by
 rw[← h];exact(oz _ _ _ _).mono fun e w' q=>⟨q.1,q.2.symm⟩
theorem ber {rec:Val→Ty→Bool} {vs:List Val} {t:Ty} {m:Nat} (hl:vs.length≤m) (h:∀ j,j < vs.length→anu rec vs t j=true):agc rec vs m t=true:=by
 rw[agc,decide_eq_true hl,Bool.true_and,List.all_eq_true];intro v hv;obtain⟨k,hk,rfl⟩:=List.getElem_of_mem hv;have:=h k hk;rw[anu,List.getElem?_eq_getElem hk] at this;exact this
theorem a5x {rec:Val→Ty→Bool} {vs:List Val} {t:Ty} {m k:Nat} (hk:k < vs.length) (h:anu rec vs t k=false):agc rec vs m t=false:=by
 rw[agc,Bool.and_eq_false_iff];rw[anu,List.getElem?_eq_getElem hk] at h;exact .inr (List.all_eq_false.2 ⟨_,List.getElem_mem hk,by simp[h]⟩)
set_option maxHeartbeats 6400000 in
theorem axe {n:Nat} (ih:afg 37 n) (vs:List Val) (most:Nat) (hm:most≤100) (t:Ty) (hok:OkT n t) {B:Nat} {v:Value} {ds:List Value} {w:World} (hB:B≤w.heap.size) (hT:aiz w) (hwf:∀ x ∈ vs,PD.wfL (Val.pd x)) (hv:Rep w B (.row 4 (vs.flatMap Val.pd)) v) (h:jq w B (Ty.pd t) ds):
  Calls Tryz.prog 51 #[v,.int .i64 most,.agg ds.toArray] w fun e w'=>e=.returned (.bool (agc (uq n) vs most t))∧Below w.heap.size w w':=by
 obtain⟨R,hR⟩:∃ R:Bool,R=agc (uq n) vs most t:=⟨_,rfl⟩;rw[← hR];have HR:=zqd hR;have IH:=zqd ih;have HT:=zqd hT;have HWF:=zqd hwf;clear hR ih hT hwf;obtain⟨vA,vN,vC,rfl,hvl,hvm,aa6⟩:=bf Val.ay (by decide) hv;unfold maxLen at hvm;have HVL:=zqd hvl;have ae5:=zqd aa6;have RV:=zqd hv;clear hvl aa6 hv;obtain⟨kind,name,labels,kids⟩:=t;have az3:=zqd hok;clear hok;obtain⟨iy,iw,rfl,r_l,r_k⟩:=Ty.open_ h;obtain⟨lA,lN,lC,rfl⟩:=r_l.form;obtain⟨kA,kN,kC,rfl⟩:=r_k.form;have RL:=zqd r_l;have RK:=zqd r_k;clear h r_l r_k;obtain⟨w0,hw0⟩:=zqe w 39 #[.int .i64 kind,.string name,.slice lA lN lC,.slice kA kN kC];have bT:=zqn hw0;have hB0:=zqb hw0;have HW0:=zqd hw0;clear hw0;go_enter Tryz.func51,Tryz.ntmps51
 by_cases hl:vN≤most
 case neg=>
  have HF:Hid (R=false):=by show _=_;rw[HR.out,agc,decide_eq_false (by have:=HVL.out;omega)];rfl
  go_wp2_with fail
  rw[← HW0.out];go_ret
  exact⟨au HF.out.symm,hB0⟩
 go_wp2_with fail
 rw[← HW0.out];clear HW0;have hlm:decide (most < vN)=false:=decide_eq_false (by omega);rw[hlm];go_loopw [7] (fun i wr=>∃ k:Nat,k≤vN∧i=.int .i64 k∧Hid (∀ j,j < k→anu (uq n) vs ⟨kind,name,labels,kids⟩ j=true)∧Below w0.heap.size w0 wr) (fun i _=>vN - (intOf i).toNat)
 case atStart=>exact⟨0,Nat.zero_le _,rfl,zqd fun j h=>absurd h (by omega),zqf _ _⟩
 case round=>
  obtain⟨k,hkn,rfl,HP,hbr⟩:=hrel;have hsr:=hbr.size;have hBr:=hB0.trans (hbr.mono hB0.size);have bTr:=bT.step hbr;by_cases hlt:k < vN
  case neg=>
   have HF:Hid (R=true):=by show _=_;rw[HR.out];exact ber (by have:=HVL.out;omega) fun j hj=>HP.out j (by have:=HVL.out;omega)
   go_wp2_with fail
   go_ret
   exact⟨au HF.out.symm,hBr⟩
  obtain⟨gv,ov,rfl,hg2,hcell2⟩:=ae5.out (by omega);obtain⟨t2,hx2,aeb⟩:=uo HVL.out hlt;obtain⟨kind2,aek,adb,aa1⟩:=t2;have afe:wr.cell? ⟨gv,ov+k * 4,none⟩=some (.int .i64 kind2):=ng hBr (by omega) (hcell2 k 0 _ _ hx2 (by rw[Val.ji];rfl));have aiv:wr.cell? ⟨gv,ov+k * 4+1,none⟩=some (.int .i64 aek):=ng hBr (by omega) (hcell2 k 1 _ _ hx2 (by rw[Val.ji];rfl));have ahk:wr.cell? ⟨gv,ov+k * 4+2,none⟩=some (.string adb):=ng hBr (by omega) (hcell2 k 2 _ _ hx2 (by rw[Val.ji];rfl));obtain⟨ad1,afr,acy⟩:∃ u,wr.cell? ⟨gv,ov+k * 4+3,none⟩=some u∧Rep wr B (.row 4 (aa1.flatMap Val.pd)) u:=xq hBr (by omega) hB (hcell2 k 3 _ _ hx2 (by rw[Val.ji];rfl));have acj:=zqd acy;clear acy;obtain⟨adg,adh,adi,rfl⟩:=acj.out.form;have HX2:=zqd hx2;have HM2:=zqd aeb;clear hx2 aeb;clear hcell2;have HS:Hid (∀ V,Below wr.heap.size wr V→V.cell? ⟨gv,ov+k * 4,none⟩=some (.int .i64 kind2)∧V.cell? ⟨gv,ov+k * 4+1,none⟩=some (.int .i64 aek)∧V.cell? ⟨gv,ov+k * 4+2,none⟩=some (.string adb)∧V.cell? ⟨gv,ov+k * 4+3,none⟩=some (.slice adg adh adi)∧V.cell? ⟨w.heap.size,0,none⟩=some (.int .i64 kind)∧V.cell? ⟨w.heap.size,1,none⟩=some (.string name)∧V.cell? ⟨w.heap.size,2,none⟩=some (.slice lA lN lC)∧V.cell? ⟨w.heap.size,3,none⟩=some (.slice kA kN kC)):=zqd fun V hV=>⟨(hV.cell (p:=⟨gv,ov+k * 4,none⟩) (by have:=hBr.size;simp only;omega)).trans afe,(hV.cell (p:=⟨gv,ov+k * 4+1,none⟩) (by have:=hBr.size;simp only;omega)).trans aiv,(hV.cell (p:=⟨gv,ov+k * 4+2,none⟩) (by have:=hBr.size;simp only;omega)).trans ahk,(hV.cell (p:=⟨gv,ov+k * 4+3,none⟩) (by have:=hBr.size;simp only;omega)).trans afr,(hV.cell (p:=⟨w.heap.size,0,none⟩) bTr.lt).trans (bTr.cell 0),(hV.cell (p:=⟨w.heap.size,1,none⟩) bTr.lt).trans (bTr.cell 1),(hV.cell (p:=⟨w.heap.size,2,none⟩) bTr.lt).trans (bTr.cell 2),(hV.cell (p:=⟨w.heap.size,3,none⟩) bTr.lt).trans (bTr.cell 3)⟩;have HC:=zqd (fun(V:World) (hV:Below wr.heap.size wr V)=>IH.out ⟨kind2,aek,adb,aa1⟩ ⟨kind,name,labels,kids⟩ B [.int .i64 kind2,.int .i64 aek,.string adb,.slice adg adh adi] [.int .i64 kind,.string name,.slice lA lN lC,.slice kA kN kC] V (Nat.le_trans (Nat.le_trans hB hBr.size) hV.size) (HT.out.below (hBr.trans (hV.mono hBr.size))) az3.out (HWF.out _ HM2.out) (Val.close_ (acj.out.below ((hV.mono hBr.size).mono hB))) (Ty.close_ (RL.out.below ((hBr.trans (hV.mono hBr.size)).mono hB)) (RK.out.below ((hBr.trans (hV.mono hBr.size)).mono hB))));obtain⟨b,hb⟩:∃ b,uq n ⟨kind2,aek,adb,aa1⟩ ⟨kind,name,labels,kids⟩=b:=⟨_,rfl⟩;rw[hb] at HC;have HFA:Hid (anu (uq n) vs ⟨kind,name,labels,kids⟩ k=b):=by show _=_;rw[anu,HX2.out];exact hb
  clear hb;have hkA:Below wr.heap.size wr wr.drew:=(zqf _ _).drew;have HBr:=zqd hBr;have Hbr:=zqd hbr;clear bTr afe aiv ahk afr acj;go_wp2_with fail
  refine zqh HS (HS.out _ hkA) fun hHeld=>?_;refine zqx 0 ?_;refine zqx 1 ?_;refine zqx 2 ?_;refine zqx 3 ?_;refine zqx 4 ?_;refine zqr 5 fun K hK=>?_;go_simp;go_at_call 37
  refine(HC.out _ hkA).mono ?_;rintro e wq ⟨rfl,hbq⟩;have hkB:=hkA.trans (hbq.mono hkA.size);cases hbv:b
  case false=>
   refine hK.out _ _ (by first|exact(HS.out _ hkB)|go_keep) (fun hHeld=>?_);clear hK K;try simp only[Act.put,zs1,zs2,zs3]
   refine zqx 6 ?_;refine wpAnyH_done (by kernel_rfl) ?_ _;have HF:Hid (R=false):=by show _=_;rw[HR.out];exact a5x (by have:=HVL.out;omega) (HFA.out.trans hbv)
   go_wp2_with fail
   go_ret
   exact⟨au HF.out.symm,HBr.out.trans (hkB.mono HBr.out.size)⟩
  case true=>
   refine hK.out _ _ (by first|exact(HS.out _ hkB)|go_keep) (fun hHeld=>?_);clear hK K;try simp only[Act.put,zs1,zs2,zs3]
   refine zqx 6 ?_;refine wpAnyH_done (by kernel_rfl) ?_ _;have HQ:=zqd (apm HP.out (HFA.out.trans hbv));go_wp2_with fail
   go_roundw
   case rel=>exact⟨k+1,by omega,by go_num,HQ,Hbr.out.trans (hkB.mono Hbr.out.size)⟩
   case measure=>simp[intOf];omega
set_option maxHeartbeats 6400000 in
theorem axf {n:Nat} (ih:afg 37 n) (vs:List Val) (ts:List Ty) (hok:∀ t ∈ ts,OkT n t) {B:Nat} {v:Value} {u:Value} {w:World} (hB:B≤w.heap.size) (hT:aiz w) (hwf:∀ x ∈ vs,PD.wfL (Val.pd x)) (hv:Rep w B (.row 4 (vs.flatMap Val.pd)) v) (h:Rep w B (.row 4 (ts.flatMap Ty.pd)) u):
  Calls Tryz.prog 54 #[v,u] w fun e w'=>e=.returned (.bool (xw (uq n) vs ts))∧Below w.heap.size w w':=by
 obtain⟨R,hR⟩:∃ R:Bool,R=xw (uq n) vs ts:=⟨_,rfl⟩;rw[← hR];have HR:=zqd hR;have IH:=zqd ih;have HT:=zqd hT;have HWF:=zqd hwf;clear hR ih hT hwf;obtain⟨vA,vN,vC,rfl,hvl,hvm,aa6⟩:=bf Val.ay (by decide) hv;unfold maxLen at hvm;have HVL:=zqd hvl;have ae5:=zqd aa6;have RV:=zqd hv;clear hvl aa6 hv;have HOK:=zqd hok;clear hok;obtain⟨uA,uN,uC,rfl,hul,hum,an7⟩:=bf Ty.ay (by decide) h;unfold maxLen at hum;have HUL:=zqd hul;have azz:=zqd an7;clear hul an7 h;go_enter Tryz.func54,Tryz.ntmps54
 by_cases hl:vN=uN
 case neg=>
  have HF:Hid (R=false):=by show _=_;rw[HR.out];exact aix (by have:=HVL.out;have:=HUL.out;omega)
  have hli:¬ (vN:Int)=(uN:Int):=by omega
  clear hl;go_wp2_with fail
  go_ret
  exact⟨au HF.out.symm,zqf _ _⟩
 subst hl;go_wp2_with fail
 go_loopw [5] (fun i wr=>∃ k:Nat,k≤vN∧i=.int .i64 k∧Hid (∀ j,j < k→ah1 (uq n) vs ts j=true)∧Below w.heap.size w wr) (fun i _=>vN - (intOf i).toNat)
 case atStart=>exact⟨0,Nat.zero_le _,rfl,zqd fun j h=>absurd h (by omega),zqf _ _⟩
 case round=>
  obtain⟨k,hkn,rfl,HP,hbr⟩:=hrel;have hsr:=hbr.size;by_cases hlt:k < vN
  case neg=>
   have HF:Hid (R=true):=by show _=_;rw[HR.out];exact aqo (by have:=HVL.out;have:=HUL.out;omega) fun j hj=>HP.out j (by have:=HVL.out;omega)
   go_wp2_with fail
   go_ret
   exact⟨au HF.out.symm,hbr⟩
  obtain⟨gv,ov,rfl,hg2,hcell2⟩:=ae5.out (by omega);obtain⟨t2,hx2,aeb⟩:=uo HVL.out hlt;obtain⟨kind2,aek,adb,aa1⟩:=t2;have afe:wr.cell? ⟨gv,ov+k * 4,none⟩=some (.int .i64 kind2):=ng hbr (by omega) (hcell2 k 0 _ _ hx2 (by rw[Val.ji];rfl));have aiv:wr.cell? ⟨gv,ov+k * 4+1,none⟩=some (.int .i64 aek):=ng hbr (by omega) (hcell2 k 1 _ _ hx2 (by rw[Val.ji];rfl));have ahk:wr.cell? ⟨gv,ov+k * 4+2,none⟩=some (.string adb):=ng hbr (by omega) (hcell2 k 2 _ _ hx2 (by rw[Val.ji];rfl));obtain⟨ad1,afr,acy⟩:∃ u,wr.cell? ⟨gv,ov+k * 4+3,none⟩=some u∧Rep wr B (.row 4 (aa1.flatMap Val.pd)) u:=xq hbr (by omega) hB (hcell2 k 3 _ _ hx2 (by rw[Val.ji];rfl));have acj:=zqd acy;clear acy;obtain⟨adg,adh,adi,rfl⟩:=acj.out.form;have HX2:=zqd hx2;have HM2:=zqd aeb;clear hx2 aeb;clear hcell2;obtain⟨gu,ou,rfl,hgu,akv⟩:=azz.out (by omega);obtain⟨x,hx,hxm⟩:=uo HUL.out hlt;obtain⟨eu,gq,lq,oq⟩:=x;obtain⟨xl,xk,c0,c1,c2,c3,Rl,Rk⟩:=acs (k:=k) (a0:=ou+k * 4) (a1:=ou+k * 4+1) (a2:=ou+k * 4+2) (a3:=ou+k * 4+3) hbr hgu hB akv hx ⟨rfl,rfl,rfl,rfl⟩;obtain⟨xlA,xlN,xlC,rfl⟩:=Rl.form;obtain⟨xkA,xkN,xkC,rfl⟩:=Rk.form;have RLX:=zqd Rl;have RKX:=zqd Rk;have HXX:=zqd hx;have az3:=zqd (HOK.out _ hxm);clear Rl Rk hx hxm akv;have HS:Hid (∀ V,Below wr.heap.size wr V→V.cell? ⟨gv,ov+k * 4,none⟩=some (.int .i64 kind2)∧V.cell? ⟨gv,ov+k * 4+1,none⟩=some (.int .i64 aek)∧V.cell? ⟨gv,ov+k * 4+2,none⟩=some (.string adb)∧V.cell? ⟨gv,ov+k * 4+3,none⟩=some (.slice adg adh adi)∧V.cell? ⟨gu,ou+k * 4,none⟩=some (.int .i64 eu)∧V.cell? ⟨gu,ou+k * 4+1,none⟩=some (.string gq)∧V.cell? ⟨gu,ou+k * 4+2,none⟩=some (.slice xlA xlN xlC)∧V.cell? ⟨gu,ou+k * 4+3,none⟩=some (.slice xkA xkN xkC)):=zqd fun V hV=>⟨zqk hV afe,zqk hV aiv,zqk hV ahk,zqk hV afr,zqk hV c0,zqk hV c1,zqk hV c2,zqk hV c3⟩;have HC:=zqd (fun(V:World) (hV:Below wr.heap.size wr V)=>IH.out ⟨kind2,aek,adb,aa1⟩ ⟨eu,gq,lq,oq⟩ B [.int .i64 kind2,.int .i64 aek,.string adb,.slice adg adh adi] [.int .i64 eu,.string gq,.slice xlA xlN xlC,.slice xkA xkN xkC] V (Nat.le_trans (Nat.le_trans hB hbr.size) hV.size) (HT.out.below (hbr.trans (hV.mono hbr.size))) az3.out (HWF.out _ HM2.out) (Val.close_ (acj.out.below ((hV.mono hbr.size).mono hB))) (Ty.close_ (RLX.out.below ((hV.mono hbr.size).mono hB)) (RKX.out.below ((hV.mono hbr.size).mono hB))));obtain⟨b,hb⟩:∃ b,uq n ⟨kind2,aek,adb,aa1⟩ ⟨eu,gq,lq,oq⟩=b:=⟨_,rfl⟩;rw[hb] at HC;have HFA:Hid (ah1 (uq n) vs ts k=b):=by show _=_;rw[ah1,HX2.out,HXX.out];exact hb
  clear hb;have hkA:Below wr.heap.size wr wr.drew:=(zqf _ _).drew;have Hbr:=zqd hbr;clear afe aiv ahk afr acj c0 c1 c2 c3;go_wp2_with fail
  refine zqh HS (HS.out _ hkA) fun hHeld=>?_;refine zqx 0 ?_;refine zqx 1 ?_;refine zqx 2 ?_;refine zqx 3 ?_;refine zqx 4 ?_;refine zqx 5 ?_;refine zqx 6 ?_;refine zqx 7 ?_;refine zqr 8 fun K hK=>?_;go_simp;go_at_call 37
  refine(HC.out _ hkA).mono ?_;rintro e wq ⟨rfl,hbq⟩;have hkB:=hkA.trans (hbq.mono hkA.size);cases hbv:b
  case false=>
   refine hK.out _ _ (by first|exact(HS.out _ hkB)|go_keep) (fun hHeld=>?_);clear hK K;try simp only[Act.put,zs1,zs2,zs3]
   refine zqx 9 ?_;refine wpAnyH_done (by kernel_rfl) ?_ _;have HF:Hid (R=false):=by show _=_;rw[HR.out];exact ate (by have:=HVL.out;omega) (HFA.out.trans hbv)
   go_wp2_with fail
   go_ret
   exact⟨au HF.out.symm,Hbr.out.trans (hkB.mono Hbr.out.size)⟩
  case true=>
   refine hK.out _ _ (by first|exact(HS.out _ hkB)|go_keep) (fun hHeld=>?_);clear hK K;try simp only[Act.put,zs1,zs2,zs3]
   refine zqx 9 ?_;refine wpAnyH_done (by kernel_rfl) ?_ _;have HQ:=zqd (apm HP.out (HFA.out.trans hbv));go_wp2_with fail
   go_roundw
   case rel=>exact⟨k+1,by omega,by go_num,HQ,Hbr.out.trans (hkB.mono Hbr.out.size)⟩
   case measure=>simp[intOf];omega
set_option maxHeartbeats 6400000 in
theorem au3 {n:Nat} (ih:afg 37 n) (vs:List Val) (t:Ty) (hok:OkT n t) {B:Nat} {v:Value} {ds:List Value} {w:World} (hB:B≤w.heap.size) (hT:aiz w) (hwf:∀ x ∈ vs,PD.wfL (Val.pd x)) (hv:Rep w B (.row 4 (vs.flatMap Val.pd)) v) (h:jq w B (Ty.pd t) ds):
  Calls Tryz.prog 57 #[v,.agg ds.toArray] w fun e w'=>e=.returned (.bool (an3 (uq n) vs t))∧Below w.heap.size w w':=by
 obtain⟨R,hR⟩:∃ R:Bool,R=an3 (uq n) vs t:=⟨_,rfl⟩;rw[← hR];have HR:=zqd hR;have IH:=zqd ih;have HT:=zqd hT;have HWF:=zqd hwf;clear hR ih hT hwf;obtain⟨vA,vN,vC,rfl,hvl,hvm,aa6⟩:=bf Val.ay (by decide) hv;unfold maxLen at hvm;have HVL:=zqd hvl;have ae5:=zqd aa6;have RV:=zqd hv;clear hvl aa6 hv;obtain⟨kind,name,labels,kids⟩:=t;have az3:=zqd hok;clear hok;have HR2:Hid (R=if kind=1 then decide (vs.length=0)else decide (vs.length=1) && vs.all (fun v=>uq n v ⟨kind,name,labels,kids⟩)):=HR.out;clear HR;obtain⟨iy,iw,rfl,r_l,r_k⟩:=Ty.open_ h;obtain⟨lA,lN,lC,rfl⟩:=r_l.form;obtain⟨kA,kN,kC,rfl⟩:=r_k.form;have RL:=zqd r_l;have RK:=zqd r_k;clear h r_l r_k;obtain⟨w0,hw0⟩:=zqe w 39 #[.int .i64 kind,.string name,.slice lA lN lC,.slice kA kN kC];have bT:=zqn hw0;have hB0:=zqb hw0;have HW0:=zqd hw0;clear hw0
 have HL0:Hid (decide ((vN:Int)=0)=decide (vs.length=0)):=by
  show _=_;have:=HVL.out;by_cases e:vN=0
  ·rw[decide_eq_true (by omega),decide_eq_true (by omega)]
  ·rw[decide_eq_false (by omega),decide_eq_false (by omega)]
 by_cases hk:kind=1
 case pos=>
  have HF:Hid (R=decide ((vN:Int)=0)):=by show _=_;rw[HR2.out,if_pos hk,HL0.out]
  subst hk;go_enter Tryz.func57,Tryz.ntmps57
  go_wp2_with fail
  rw[← HW0.out];go_ret
  exact⟨au HF.out.symm,hB0⟩
 have HR3:Hid (R=(decide (vs.length=1) && vs.all (fun v=>uq n v ⟨kind,name,labels,kids⟩))):=by show _=_;rw[HR2.out,if_neg hk]
 clear HR2 HL0;have hkA:Below w0.heap.size w0 w0.drew:=(zqf _ _).drew;by_cases hl:vN=1
 case neg=>
  have HF:Hid (R=false):=by show _=_;rw[HR3.out,decide_eq_false (by have:=HVL.out;omega)];rfl
  have hli:((vN:Int) ==1)=false:=by simp;omega
  go_enter Tryz.func57,Tryz.ntmps57
  go_wp2_with fail
  rw[← HW0.out];refine wp_region_held_drew (S:=(fun _=>True)) (by kernel_rfl) trivial (fun hHeld=>?_);refine zqx 0 ?_;refine zqx 1 ?_;refine zqx 2 ?_;refine zqx 3 ?_;refine zqo 4 ?_;try simp only[Act.put,zs1,zs2,zs3]
  refine zqo 5 ?_;try simp only[Act.put,zs1,zs2,zs3]
  refine zqo 6 ?_;try simp only[Act.put,zs1,zs2,zs3]
  refine zqo 7 ?_;try simp only[Act.put,zs1,zs2,zs3]
  refine zqo 8 ?_;try simp only[Act.put,zs1,zs2,zs3]
  refine zqx 9 ?_;refine zqx 10 ?_;refine wpAnyH_done (by kernel_rfl) ?_ _;go_wp2_with fail
  go_ret
  exact⟨au HF.out.symm,hB0.drew⟩
 subst hl
 obtain⟨x,rfl⟩:∃ x,vs=[x]:=by
  have:=HVL.out
  match vs,this with
  | [x],_=>exact⟨x,rfl⟩
 have hlt:0 < 1:=by omega
 obtain⟨k,hk0⟩:∃ k,k=0:=⟨0,rfl⟩;obtain⟨gv,ov,rfl,hg2,hcell2⟩:=ae5.out (by omega);obtain⟨t2,hx2,aeb⟩:=uo HVL.out hlt;obtain⟨kind2,aek,adb,aa1⟩:=t2;have afe:w0.cell? ⟨gv,ov+0 * 4,none⟩=some (.int .i64 kind2):=ng hB0 (by omega) (hcell2 0 0 _ _ hx2 (by rw[Val.ji];rfl));have aiv:w0.cell? ⟨gv,ov+0 * 4+1,none⟩=some (.int .i64 aek):=ng hB0 (by omega) (hcell2 0 1 _ _ hx2 (by rw[Val.ji];rfl));have ahk:w0.cell? ⟨gv,ov+0 * 4+2,none⟩=some (.string adb):=ng hB0 (by omega) (hcell2 0 2 _ _ hx2 (by rw[Val.ji];rfl));obtain⟨ad1,afr,acy⟩:∃ u,w0.cell? ⟨gv,ov+0 * 4+3,none⟩=some u∧Rep w0 B (.row 4 (aa1.flatMap Val.pd)) u:=xq hB0 (by omega) hB (hcell2 0 3 _ _ hx2 (by rw[Val.ji];rfl));have acj:=zqd acy;clear acy;obtain⟨adg,adh,adi,rfl⟩:=acj.out.form;have HX2:=zqd hx2;have HM2:=zqd aeb;clear hx2 aeb;clear hcell2;have HS:Hid (∀ V,Below w0.heap.size w0 V→V.cell? ⟨gv,ov,none⟩=some (.int .i64 kind2)∧V.cell? ⟨gv,ov+1,none⟩=some (.int .i64 aek)∧V.cell? ⟨gv,ov+2,none⟩=some (.string adb)∧V.cell? ⟨gv,ov+3,none⟩=some (.slice adg adh adi)∧V.cell? ⟨w.heap.size,0,none⟩=some (.int .i64 kind)∧V.cell? ⟨w.heap.size,1,none⟩=some (.string name)∧V.cell? ⟨w.heap.size,2,none⟩=some (.slice lA lN lC)∧V.cell? ⟨w.heap.size,3,none⟩=some (.slice kA kN kC)):=zqd fun V hV=>⟨(hV.cell (p:=⟨gv,ov,none⟩) (by have:=hB0.size;simp only;omega)).trans (by have:=afe;simpa using this),(hV.cell (p:=⟨gv,ov+1,none⟩) (by have:=hB0.size;simp only;omega)).trans (by have:=aiv;simpa using this),(hV.cell (p:=⟨gv,ov+2,none⟩) (by have:=hB0.size;simp only;omega)).trans (by have:=ahk;simpa using this),(hV.cell (p:=⟨gv,ov+3,none⟩) (by have:=hB0.size;simp only;omega)).trans (by have:=afr;simpa using this),(hV.cell (p:=⟨w.heap.size,0,none⟩) bT.lt).trans (bT.cell 0),(hV.cell (p:=⟨w.heap.size,1,none⟩) bT.lt).trans (bT.cell 1),(hV.cell (p:=⟨w.heap.size,2,none⟩) bT.lt).trans (bT.cell 2),(hV.cell (p:=⟨w.heap.size,3,none⟩) bT.lt).trans (bT.cell 3)⟩;have HC:=zqd (fun(V:World) (hV:Below w0.heap.size w0 V)=>IH.out ⟨kind2,aek,adb,aa1⟩ ⟨kind,name,labels,kids⟩ B [.int .i64 kind2,.int .i64 aek,.string adb,.slice adg adh adi] [.int .i64 kind,.string name,.slice lA lN lC,.slice kA kN kC] V (Nat.le_trans (Nat.le_trans hB hB0.size) hV.size) (HT.out.below (hB0.trans (hV.mono hB0.size))) az3.out (HWF.out _ HM2.out) (Val.close_ (acj.out.below ((hV.mono hB0.size).mono hB))) (Ty.close_ (RL.out.below ((hB0.trans (hV.mono hB0.size)).mono hB)) (RK.out.below ((hB0.trans (hV.mono hB0.size)).mono hB))));obtain⟨b,hb⟩:∃ b,uq n ⟨kind2,aek,adb,aa1⟩ ⟨kind,name,labels,kids⟩=b:=⟨_,rfl⟩;rw[hb] at HC
 have HF:Hid (R=b):=by
  show _=_;have h2:=HX2.out;simp only[List.getElem?_cons_zero,Option.some.injEq] at h2;rw[HR3.out,h2,← hb];simp
 clear hb afe aiv ahk afr acj;go_enter Tryz.func57,Tryz.ntmps57
 go_wp2_with fail
 rw[← HW0.out];refine zqh HS (HS.out _ hkA) fun hHeld=>?_;refine zqx 0 ?_;refine zqx 1 ?_;refine zqx 2 ?_;refine zqx 3 ?_;refine zqx 4 ?_;refine zqx 5 ?_;refine zqx 6 ?_;refine zqx 7 ?_;refine zqr 8 fun K hK=>?_;go_simp;go_at_call 37
 refine(HC.out _ hkA).mono ?_;rintro e wq ⟨rfl,hbq⟩;have hkB:=hkA.trans (hbq.mono hkA.size);refine hK.out _ _ (by first|exact(HS.out _ hkB)|go_keep) (fun hHeld=>?_);clear hK K;try simp only[Act.put,zs1,zs2,zs3]
 refine zqx 9 ?_;refine zqx 10 ?_;refine wpAnyH_done (by kernel_rfl) ?_ _;go_wp2_with fail
 go_ret
 exact⟨au HF.out.symm,hB0.trans (hkB.mono hB0.size)⟩
end Go.Proofs.YtfpannkadjdnaaaGreatDoor
