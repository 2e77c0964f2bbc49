/-
  Values that fit a type: impl.fits (by program: gen_tkf.py) (by program: gen_why.py).
-/
import Derived.Test.YtfpannkadjdnaaaGreatDoorTa28
import Derived.Test.YtfpannkadjdnaaaGreatDoorTa29
namespace Go.Proofs.YtfpannkadjdnaaaGreatDoor
open Go.RowKit
set_option linter.all false
set_option maxRecDepth 16000
def afg (fid:Nat) (n:Nat):Prop:=∀ (v:Val) (t:Ty) (B:Nat) (cs ds:List Value) (w:World),B≤w.heap.size→aiz w→OkT n t→PD.wfL (Val.pd v)→jq w B (Val.pd v) cs→jq w B (Ty.pd t) ds→
 Calls Tryz.prog fid #[.agg cs.toArray,.agg ds.toArray] w fun e w'=>e=.returned (.bool (uq n v t))∧Below w.heap.size w w'
theorem ada {vk vn:Int} {vt:ByteArray} {vks:List Val} (h:PD.wfL (Val.pd ⟨vk,vn,vt,vks⟩)):vt.size≤maxLen∧∀ v ∈ vks,PD.wfL (Val.pd v):=by
 rw[Val.ji] at h;simp only[PD.wfL,PD.wf] at h;exact⟨h.2.2.1,ahq.1 h.2.2.2.1⟩
theorem toList_nil {s : ByteArray} : s.toList.isEmpty = decide (s.size = 0) := by
  rw [ByteArray.toList_eq];cases h : s.data.toList with
  | nil => have : s.size = 0 := by show s.data.size = 0; rw [← Array.length_toList, h]; rfl
           rw [this]; rfl
  | cons a r => have : ¬ s.size = 0 := by show ¬ s.data.size = 0; rw [← Array.length_toList, h]; simp
                rw [decide_eq_false this]; rfl
theorem size_nil {s:ByteArray} (h:s.size=0):s=⟨#[]⟩:=by
 apply ByteArray.ext;exact Array.eq_empty_of_size_eq_zero h
theorem apm {p:Nat→Bool} {k:Nat} (hp:∀ j,j < k→p j=true) (h:p k=true):∀ j,j < k+1→p j=true:=fun j hj=>by
 by_cases e:j=k
 ·rw[e];exact h
 ·exact hp j (by omega)
theorem aqo {n:Nat} {vks:List Val} {L:List Ty} (hl:L.length=vks.length) (h:∀ j,j < vks.length→ah1 (uq n) vks L j=true):xw (uq n) vks L=true:=by
 rw[xw,decide_eq_true hl,Bool.true_and];exact List.all_eq_true.2 fun k hk=>h k (List.mem_range.1 hk)
theorem ate {n:Nat} {vks:List Val} {L:List Ty} {j:Nat} (hj:j < vks.length) (h:ah1 (uq n) vks L j=false):xw (uq n) vks L=false:=by
 rw[xw,Bool.and_eq_false_iff];exact .inr (List.all_eq_false.2 ⟨j,List.mem_range.2 hj,by simp[h]⟩)
set_option maxHeartbeats 12800000 in
theorem ax3 {n:Nat} (ih:afg 26 n):afg 26 (n+1):=by
 intro v t B cs ds w hB hT hok hwf hv h;obtain⟨vk,vn,vt,vks⟩:=v;obtain⟨kind,name,labels,kids⟩:=t;obtain⟨R,hR⟩:∃ R,uq (n+1) ⟨vk,vn,vt,vks⟩ ⟨kind,name,labels,kids⟩=R:=⟨_,rfl⟩;rw[hR];have HR:Hid (R=(decide (vk=kind) && (adu kind labels.length vn && ((decide (vt.size=0) ||decide (kind=11)) && (as1 vt && xw (uq n) vks (og kind vn vks.length kids)))))):=hR.symm;clear hR;obtain⟨hw1,hw2⟩:=ada hwf;have HW2:=zqd hw2;have HOK:=zqd (qg hok);have HSH:Hid (Ty.shapes ⟨kind,name,labels,kids⟩=true):=hok.2;have IH:=zqd ih;have HT:=zqd hT;clear ih hwf hw2 hok hT;obtain⟨adx,rfl,r_v⟩:=Val.open_ hv;obtain⟨vA,vN,vC,rfl⟩:=r_v.form;obtain⟨iy,iw,rfl,r_l,r_k⟩:=Ty.open_ h;obtain⟨lA,lN,lC,rfl⟩:=r_l.form;obtain⟨kA,kN,kC,rfl⟩:=r_k.form;have hvl:vN=vks.length:=by obtain⟨A',n',c',he,hnl,_⟩:=bf Val.ay (by decide) r_v;injection he with e1 e2 e3;omega
 have hvm:vN≤maxLen:=by obtain⟨A',n',c',he,_,hm,_⟩:=bf Val.ay (by decide) r_v;injection he with e1 e2 e3;omega
 have hll:lN=labels.length:=by obtain⟨A',n',c',he,hnl,_⟩:=bf jo (by decide) r_l;injection he with e1 e2 e3;omega
 have hkl:kN=kids.length:=by obtain⟨A',n',c',he,hnl,_⟩:=bf Ty.ay (by decide) r_k;injection he with e1 e2 e3;omega
 unfold maxLen at hvm;have RV:=zqd r_v;have RL:=zqd r_l;have RK:=zqd r_k;have HVL:=zqd hvl;have HLL:=zqd hll;have HKL:=zqd hkl;clear hv h r_v r_l r_k hvl hll hkl;obtain⟨w0,hw0⟩:∃ V,V=(w.alloc (.cells #[.int .i64 vk,.int .i64 vn,.string vt,.slice vA vN vC] 33)).alloc (.cells #[.int .i64 kind,.string name,.slice lA lN lC,.slice kA kN kC] 39):=⟨_,rfl⟩;have bV:Blk w0 w.heap.size 33 #[.int .i64 vk,.int .i64 vn,.string vt,.slice vA vN vC]:=by rw[hw0];exact(Blk.new w _ _).alloc _
 have bT:=zn21 hw0;have hB0:Below w.heap.size w w0:=by rw[hw0];exact((zqf _ _).alloc (zql _) _).alloc (by simp) _
 have HW0:=zqd hw0;clear hw0;obtain⟨v0,v1,v2,v3⟩:=zc4 bV;obtain⟨t0,t1,t2,t3⟩:=zc4 bT;have bor:=zqd (fun(V:World) (hV:Below w.heap.size w V)=>Val.close_ (kind:=vk) (num:=vn) (text:=vt) (RV.out.below (hV.mono hB)));have bos:=zqd (fun(V:World) (hV:Below w.heap.size w V)=>Ty.close_ (kind:=kind) (name:=name) (RL.out.below (hV.mono hB)) (RK.out.below (hV.mono hB)));by_cases hk:vk=kind
 case neg=>
  have HF:Hid (R=false):=by show _=_;rw[HR.out,decide_eq_false hk];rfl
  go_enter Tryz.func26,Tryz.ntmps26
  go_wp2_with fail
  rw[← HW0.out];go_ret
  exact⟨au HF.out.symm,hB0⟩
 subst hk;have HR2:Hid (R=(adu vk labels.length vn && ((decide (vt.size=0) ||decide (vk=11)) && (as1 vt && xw (uq n) vks (og vk vn vks.length kids))))):=by show _=_;rw[HR.out,decide_eq_true rfl];rfl
 clear HR;have HNO:=zqd (a5v vk vn vt vks vk name labels kids HSH.out (Nat.le_trans hB hB0.size) (bor.out w0 hB0) (bos.out w0 hB0));obtain⟨b1,hb1⟩:∃ b,adu vk labels.length vn=b:=⟨_,rfl⟩;rw[hb1] at HNO HR2;have HB1:=zqd hb1;clear hb1;go_enter Tryz.func26,Tryz.ntmps26
 go_wp2_with fail
 rw[← HW0.out];clear HW0;refine HNO.out.mono ?_;rintro e w1 ⟨rfl,hc1⟩;have hB1:=hB0.trans (hc1.mono hB0.size);have bV1:=bV.step hc1;have bT1:=bT.step hc1;clear v0 v1 v2 v3 t0 t1 t2 t3;obtain⟨v0,v1,v2,v3⟩:=zc4 bV1;obtain⟨t0,t1,t2,t3⟩:=zc4 bT1;cases b1
 case false=>
  have HF:Hid (R=false):=HR2.out;go_wp2_with fail
  go_ret
  exact⟨au HF.out.symm,hB1⟩
 have HTX:=zqd (awf vt hw1 w1 (HT.out.below hB1));obtain⟨b2,hb2⟩:∃ b,as1 vt=b:=⟨_,rfl⟩;rw[show(decide (vt.size≤24) && (agd (byt vt)).isSome)=b2 from hb2] at HTX;rw[hb2] at HR2;clear hb2;have HKT:=zqd (fun(V:World) (hV:Below w.heap.size w V)=>azv vk vn vt vks vk name labels kids HSH.out (fun hh=>akt HSH.out HB1.out hh) (Nat.le_trans hB hV.size) (bor.out V hV) (bos.out V hV));have htail:∀ b:Bool,Hid (R=(b2 && b))∨True:=fun _=>.inr trivial;clear htail;by_cases hz:vt.size=0
 case pos=>
  have HR3:Hid (R=(b2 && xw (uq n) vks (og vk vn vks.length kids))):=by show _=_;rw[HR2.out,decide_eq_true hz];rfl
  clear HR2;obtain rfl:=size_nil hz;clear hz;go_wp2_with fail
  refine HTX.out.mono ?_;rintro e w2 ⟨rfl,hc2⟩;have hB2:=hB1.trans (hc2.mono hB1.size);have bV2:=bV1.step hc2;have bT2:=bT1.step hc2;clear v0 v1 v2 v3 t0 t1 t2 t3;obtain⟨v0,v1,v2,v3⟩:=zc4 bV2;obtain⟨t0,t1,t2,t3⟩:=zc4 bT2;cases b2
  case false=>
   have HF:Hid (R=false):=HR3.out;go_wp2_with fail
   go_ret
   exact⟨au HF.out.symm,hB2⟩
  have HR4:Hid (R=xw (uq n) vks (og vk vn vks.length kids)):=HR3.out;clear HR3;obtain⟨L,hL⟩:∃ L,og vk vn vks.length kids=L:=⟨_,rfl⟩;have HKC:=zqd (HKT.out w2 hB2);have bd4:Hid (∀ t ∈ L,OkT n t):=zqd fun t ht=>HOK.out t (afm (by rw[hL];exact ht));rw[hL] at HKC HR4;clear hL;go_wp2_with fail
  refine HKC.out.mono ?_;rintro e w3 ⟨u,rfl,hu,hc3⟩;have hB3:=hB2.trans (hc3.mono hB2.size);have bV3:=bV2.step hc3;have bT3:=bT2.step hc3;clear v0 v1 v2 v3 t0 t1 t2 t3;obtain⟨v0,v1,v2,v3⟩:=zc4 bV3;obtain⟨t0,t1,t2,t3⟩:=zc4 bT3;obtain⟨uA,uN,uC,rfl,hul,hum,an7⟩:=bf Ty.ay (by decide) hu;unfold maxLen at hum;have HUL:=zqd hul;have azz:=zqd an7;clear hu hul an7;by_cases hlen:uN=vN
  case neg=>
   have HF:Hid (R=false):=by show _=_;rw[HR4.out];exact aix (by have:=HUL.out;have:=HVL.out;omega)
   have hli:¬ (uN:Int)=(vN:Int):=by omega
   clear hlen;go_wp2_with fail
   go_ret
   exact⟨au HF.out.symm,hB3⟩
  subst hlen;obtain⟨A',n',c',he,hnl,_,aa6⟩:=bf Val.ay (by decide) RV.out;obtain⟨rfl,rfl,rfl⟩:vA=A'∧uN=n'∧vC=c':=by injection he with e1 e2 e3;exact⟨e1,e2,e3⟩
  have ae5:=zqd aa6;clear he hnl aa6;go_wp2_with fail
  go_loopw [55] (fun i wr=>∃ k:Nat,k≤uN∧i=.int .i64 k∧Hid (∀ j,j < k→ah1 (uq n) vks L j=true)∧Below w3.heap.size w3 wr) (fun i _=>uN - (intOf i).toNat)
  case atStart=>exact⟨0,Nat.zero_le _,rfl,zqd fun j h=>absurd h (by omega),zqf _ _⟩
  case round=>
   obtain⟨k,hkn,rfl,HP,hbr⟩:=hrel;have hsr:=hbr.size;have hBr:=hB3.trans (hbr.mono hB3.size);by_cases hlt:k < uN
   case neg=>
    have HF:Hid (R=true):=by show _=_;rw[HR4.out];exact aqo (by have:=HUL.out;have:=HVL.out;omega) fun j hj=>HP.out j (by have:=HVL.out;omega)
    go_wp2_with fail
    go_ret
    exact⟨au HF.out.symm,hBr⟩
   obtain⟨gv,ov,rfl,hg2,hcell2⟩:=ae5.out (by omega);obtain⟨t2,hx2,aeb⟩:=uo HVL.out hlt;obtain⟨kind2,aek,adb,aa1⟩:=t2;have afe:wr.cell? ⟨gv,ov+k * 4,none⟩=some (.int .i64 kind2):=ng hBr (by omega) (hcell2 k 0 _ _ hx2 (by rw[Val.ji];rfl));have aiv:wr.cell? ⟨gv,ov+k * 4+1,none⟩=some (.int .i64 aek):=ng hBr (by omega) (hcell2 k 1 _ _ hx2 (by rw[Val.ji];rfl));have ahk:wr.cell? ⟨gv,ov+k * 4+2,none⟩=some (.string adb):=ng hBr (by omega) (hcell2 k 2 _ _ hx2 (by rw[Val.ji];rfl));obtain⟨ad1,afr,acy⟩:∃ u,wr.cell? ⟨gv,ov+k * 4+3,none⟩=some u∧Rep wr B (.row 4 (aa1.flatMap Val.pd)) u:=xq hBr (by omega) hB (hcell2 k 3 _ _ hx2 (by rw[Val.ji];rfl));have acj:=zqd acy;clear acy;obtain⟨adg,adh,adi,rfl⟩:=acj.out.form;have HX2:=zqd hx2;have HM2:=zqd aeb;clear hx2 aeb;clear hcell2;obtain⟨gu,ou,rfl,hgu,akv⟩:=azz.out (by omega);obtain⟨x,hx,hxm⟩:=uo HUL.out hlt;obtain⟨eu,gq,lq,oq⟩:=x;obtain⟨xl,xk,c0,c1,c2,c3,Rl,Rk⟩:=acs (k:=k) (a0:=ou+k * 4) (a1:=ou+k * 4+1) (a2:=ou+k * 4+2) (a3:=ou+k * 4+3) hbr hgu (zql _) akv hx ⟨rfl,rfl,rfl,rfl⟩;obtain⟨xlA,xlN,xlC,rfl⟩:=Rl.form;obtain⟨xkA,xkN,xkC,rfl⟩:=Rk.form;have RLX:=zqd Rl;have RKX:=zqd Rk;have HXX:=zqd hx;have HXM:=zqd hxm;clear Rl Rk hx hxm akv;obtain⟨wb,hwb⟩:=zqe wr 33 #[.int .i64 kind2,.int .i64 aek,.string adb,.slice adg adh adi];have bE:=zqn hwb;have hbb:=zqb hwb;have hBb:=hBr.trans (hbb.mono hBr.size);have HS:Hid (∀ V,Below wb.heap.size wb V→V.cell? ⟨wr.heap.size,0,none⟩=some (.int .i64 kind2)∧V.cell? ⟨wr.heap.size,1,none⟩=some (.int .i64 aek)∧V.cell? ⟨wr.heap.size,2,none⟩=some (.string adb)∧V.cell? ⟨wr.heap.size,3,none⟩=some (.slice adg adh adi)∧V.cell? ⟨gu,ou+k * 4,none⟩=some (.int .i64 eu)∧V.cell? ⟨gu,ou+k * 4+1,none⟩=some (.string gq)∧V.cell? ⟨gu,ou+k * 4+2,none⟩=some (.slice xlA xlN xlC)∧V.cell? ⟨gu,ou+k * 4+3,none⟩=some (.slice xkA xkN xkC)):=zqd fun V hV=>⟨(hV.cell (p:=⟨wr.heap.size,0,none⟩) bE.lt).trans (bE.cell 0),(hV.cell (p:=⟨wr.heap.size,1,none⟩) bE.lt).trans (bE.cell 1),(hV.cell (p:=⟨wr.heap.size,2,none⟩) bE.lt).trans (bE.cell 2),(hV.cell (p:=⟨wr.heap.size,3,none⟩) bE.lt).trans (bE.cell 3),(hV.cell (p:=⟨gu,ou+k * 4,none⟩) (by have:=hbb.size;simp only;omega)).trans (zqk hbb c0),(hV.cell (p:=⟨gu,ou+k * 4+1,none⟩) (by have:=hbb.size;simp only;omega)).trans (zqk hbb c1),(hV.cell (p:=⟨gu,ou+k * 4+2,none⟩) (by have:=hbb.size;simp only;omega)).trans (zqk hbb c2),(hV.cell (p:=⟨gu,ou+k * 4+3,none⟩) (by have:=hbb.size;simp only;omega)).trans (zqk hbb c3)⟩;have HC:=zqd (fun(V:World) (hV:Below wb.heap.size wb V)=>IH.out ⟨kind2,aek,adb,aa1⟩ ⟨eu,gq,lq,oq⟩ w3.heap.size [.int .i64 kind2,.int .i64 aek,.string adb,.slice adg adh adi] [.int .i64 eu,.string gq,.slice xlA xlN xlC,.slice xkA xkN xkC] V (Nat.le_trans (Nat.le_trans hsr hbb.size) hV.size) (HT.out.below (hBb.trans (hV.mono hBb.size))) (bd4.out _ HXM.out) (HW2.out _ HM2.out) ((Val.close_ (acj.out.below ((hbb.trans (hV.mono hbb.size)).mono (Nat.le_trans hB hBr.size)))).more (Nat.le_trans hB hB3.size)) (Ty.close_ (RLX.out.below ((hbb.trans (hV.mono hbb.size)).mono hsr)) (RKX.out.below ((hbb.trans (hV.mono hbb.size)).mono hsr))));obtain⟨b,hb⟩:∃ b,uq n ⟨kind2,aek,adb,aa1⟩ ⟨eu,gq,lq,oq⟩=b:=⟨_,rfl⟩;rw[hb] at HC;have HFA:Hid (ah1 (uq n) vks L k=b):=by show _=_;rw[ah1,HX2.out,HXX.out];exact hb
   clear hb;have hkA:Below wb.heap.size wb wb.drew:=(zqf _ _).drew;have HBb:=zqd hBb;have Hbb:=zqd hbb;have HBK:Hid (Below w3.heap.size w3 wb):=hbr.trans (hbb.mono hsr);clear bE hBb hbb c0 c1 c2 c3;go_wp2_with fail
   rw[← hwb];clear hwb afe aiv ahk afr acj;refine zqh HS (HS.out _ hkA) fun hHeld=>?_;refine zqx 0 ?_;refine zqx 1 ?_;refine zqx 2 ?_;refine zqx 3 ?_;refine zqx 4 ?_;refine zqr 5 fun K hK=>?_;go_simp;go_at_call 26
   refine(HC.out _ hkA).mono ?_;rintro e wq ⟨rfl,hbq⟩;have hkB:=hkA.trans (hbq.mono hkA.size);cases hbv:b
   case false=>
    refine hK.out _ _ (by first|exact(HS.out _ hkB)|go_keep) (fun hHeld=>?_);clear hK K;try simp only[Act.put,zs1,zs2,zs3]
    refine zqx 6 ?_;refine wpAnyH_done (by kernel_rfl) ?_ _;have HF:Hid (R=false):=by show _=_;rw[HR4.out];exact ate (by have:=HVL.out;omega) (HFA.out.trans hbv)
    go_wp2_with fail
    go_ret
    exact⟨au HF.out.symm,HBb.out.trans (hkB.mono HBb.out.size)⟩
   case true=>
    refine hK.out _ _ (by first|exact(HS.out _ hkB)|go_keep) (fun hHeld=>?_);clear hK K;try simp only[Act.put,zs1,zs2,zs3]
    refine zqx 6 ?_;refine wpAnyH_done (by kernel_rfl) ?_ _;have HQ:=zqd (apm HP.out (HFA.out.trans hbv));go_wp2_with fail
    go_roundw
    case rel=>exact⟨k+1,by omega,by go_num,HQ,HBK.out.trans (hkB.mono HBK.out.size)⟩
    case measure=>simp[intOf];omega
 have hem:vt.toList.isEmpty=false:=by rw[toList_nil,decide_eq_false hz]
 by_cases h11:vk=11
 case neg=>
  have HF:Hid (R=false):=by show _=_;rw[HR2.out,decide_eq_false hz,decide_eq_false h11];rfl
  clear hz;go_wp2_with fail
  go_ret
  exact⟨au HF.out.symm,hB1⟩
 subst h11;have HR3:Hid (R=(b2 && xw (uq n) vks (og 11 vn vks.length kids))):=by show _=_;rw[HR2.out,decide_eq_false hz];rfl
 clear HR2 hz;go_wp2_with fail
 refine HTX.out.mono ?_;rintro e w2 ⟨rfl,hc2⟩;have hB2:=hB1.trans (hc2.mono hB1.size);have bV2:=bV1.step hc2;have bT2:=bT1.step hc2;clear v0 v1 v2 v3 t0 t1 t2 t3;obtain⟨v0,v1,v2,v3⟩:=zc4 bV2;obtain⟨t0,t1,t2,t3⟩:=zc4 bT2;cases b2
 case false=>
  have HF:Hid (R=false):=HR3.out;go_wp2_with fail
  go_ret
  exact⟨au HF.out.symm,hB2⟩
 have HR4:Hid (R=xw (uq n) vks (og 11 vn vks.length kids)):=HR3.out;clear HR3;obtain⟨L,hL⟩:∃ L,og 11 vn vks.length kids=L:=⟨_,rfl⟩;have HKC:=zqd (HKT.out w2 hB2);have bd4:Hid (∀ t ∈ L,OkT n t):=zqd fun t ht=>HOK.out t (afm (by rw[hL];exact ht));rw[hL] at HKC HR4;clear hL;go_wp2_with fail
 refine HKC.out.mono ?_;rintro e w3 ⟨u,rfl,hu,hc3⟩;have hB3:=hB2.trans (hc3.mono hB2.size);have bV3:=bV2.step hc3;have bT3:=bT2.step hc3;clear v0 v1 v2 v3 t0 t1 t2 t3;obtain⟨v0,v1,v2,v3⟩:=zc4 bV3;obtain⟨t0,t1,t2,t3⟩:=zc4 bT3;obtain⟨uA,uN,uC,rfl,hul,hum,an7⟩:=bf Ty.ay (by decide) hu;unfold maxLen at hum;have HUL:=zqd hul;have azz:=zqd an7;clear hu hul an7;by_cases hlen:uN=vN
 case neg=>
  have HF:Hid (R=false):=by show _=_;rw[HR4.out];exact aix (by have:=HUL.out;have:=HVL.out;omega)
  have hli:¬ (uN:Int)=(vN:Int):=by omega
  clear hlen;go_wp2_with fail
  go_ret
  exact⟨au HF.out.symm,hB3⟩
 subst hlen;obtain⟨A',n',c',he,hnl,_,aa6⟩:=bf Val.ay (by decide) RV.out;obtain⟨rfl,rfl,rfl⟩:vA=A'∧uN=n'∧vC=c':=by injection he with e1 e2 e3;exact⟨e1,e2,e3⟩
 have ae5:=zqd aa6;clear he hnl aa6;go_wp2_with fail
 go_loopw [55] (fun i wr=>∃ k:Nat,k≤uN∧i=.int .i64 k∧Hid (∀ j,j < k→ah1 (uq n) vks L j=true)∧Below w3.heap.size w3 wr) (fun i _=>uN - (intOf i).toNat)
 case atStart=>exact⟨0,Nat.zero_le _,rfl,zqd fun j h=>absurd h (by omega),zqf _ _⟩
 case round=>
  obtain⟨k,hkn,rfl,HP,hbr⟩:=hrel;have hsr:=hbr.size;have hBr:=hB3.trans (hbr.mono hB3.size);by_cases hlt:k < uN
  case neg=>
   have HF:Hid (R=true):=by show _=_;rw[HR4.out];exact aqo (by have:=HUL.out;have:=HVL.out;omega) fun j hj=>HP.out j (by have:=HVL.out;omega)
   go_wp2_with fail
   go_ret
   exact⟨au HF.out.symm,hBr⟩
  obtain⟨gv,ov,rfl,hg2,hcell2⟩:=ae5.out (by omega);obtain⟨t2,hx2,aeb⟩:=uo HVL.out hlt;obtain⟨kind2,aek,adb,aa1⟩:=t2;have afe:wr.cell? ⟨gv,ov+k * 4,none⟩=some (.int .i64 kind2):=ng hBr (by omega) (hcell2 k 0 _ _ hx2 (by rw[Val.ji];rfl));have aiv:wr.cell? ⟨gv,ov+k * 4+1,none⟩=some (.int .i64 aek):=ng hBr (by omega) (hcell2 k 1 _ _ hx2 (by rw[Val.ji];rfl));have ahk:wr.cell? ⟨gv,ov+k * 4+2,none⟩=some (.string adb):=ng hBr (by omega) (hcell2 k 2 _ _ hx2 (by rw[Val.ji];rfl));obtain⟨ad1,afr,acy⟩:∃ u,wr.cell? ⟨gv,ov+k * 4+3,none⟩=some u∧Rep wr B (.row 4 (aa1.flatMap Val.pd)) u:=xq hBr (by omega) hB (hcell2 k 3 _ _ hx2 (by rw[Val.ji];rfl));have acj:=zqd acy;clear acy;obtain⟨adg,adh,adi,rfl⟩:=acj.out.form;have HX2:=zqd hx2;have HM2:=zqd aeb;clear hx2 aeb;clear hcell2;obtain⟨gu,ou,rfl,hgu,akv⟩:=azz.out (by omega);obtain⟨x,hx,hxm⟩:=uo HUL.out hlt;obtain⟨eu,gq,lq,oq⟩:=x;obtain⟨xl,xk,c0,c1,c2,c3,Rl,Rk⟩:=acs (k:=k) (a0:=ou+k * 4) (a1:=ou+k * 4+1) (a2:=ou+k * 4+2) (a3:=ou+k * 4+3) hbr hgu (zql _) akv hx ⟨rfl,rfl,rfl,rfl⟩;obtain⟨xlA,xlN,xlC,rfl⟩:=Rl.form;obtain⟨xkA,xkN,xkC,rfl⟩:=Rk.form;have RLX:=zqd Rl;have RKX:=zqd Rk;have HXX:=zqd hx;have HXM:=zqd hxm;clear Rl Rk hx hxm akv;obtain⟨wb,hwb⟩:=zqe wr 33 #[.int .i64 kind2,.int .i64 aek,.string adb,.slice adg adh adi];have bE:=zqn hwb;have hbb:=zqb hwb;have hBb:=hBr.trans (hbb.mono hBr.size);have HS:Hid (∀ V,Below wb.heap.size wb V→V.cell? ⟨wr.heap.size,0,none⟩=some (.int .i64 kind2)∧V.cell? ⟨wr.heap.size,1,none⟩=some (.int .i64 aek)∧V.cell? ⟨wr.heap.size,2,none⟩=some (.string adb)∧V.cell? ⟨wr.heap.size,3,none⟩=some (.slice adg adh adi)∧V.cell? ⟨gu,ou+k * 4,none⟩=some (.int .i64 eu)∧V.cell? ⟨gu,ou+k * 4+1,none⟩=some (.string gq)∧V.cell? ⟨gu,ou+k * 4+2,none⟩=some (.slice xlA xlN xlC)∧V.cell? ⟨gu,ou+k * 4+3,none⟩=some (.slice xkA xkN xkC)):=zqd fun V hV=>⟨(hV.cell (p:=⟨wr.heap.size,0,none⟩) bE.lt).trans (bE.cell 0),(hV.cell (p:=⟨wr.heap.size,1,none⟩) bE.lt).trans (bE.cell 1),(hV.cell (p:=⟨wr.heap.size,2,none⟩) bE.lt).trans (bE.cell 2),(hV.cell (p:=⟨wr.heap.size,3,none⟩) bE.lt).trans (bE.cell 3),(hV.cell (p:=⟨gu,ou+k * 4,none⟩) (by have:=hbb.size;simp only;omega)).trans (zqk hbb c0),(hV.cell (p:=⟨gu,ou+k * 4+1,none⟩) (by have:=hbb.size;simp only;omega)).trans (zqk hbb c1),(hV.cell (p:=⟨gu,ou+k * 4+2,none⟩) (by have:=hbb.size;simp only;omega)).trans (zqk hbb c2),(hV.cell (p:=⟨gu,ou+k * 4+3,none⟩) (by have:=hbb.size;simp only;omega)).trans (zqk hbb c3)⟩;have HC:=zqd (fun(V:World) (hV:Below wb.heap.size wb V)=>IH.out ⟨kind2,aek,adb,aa1⟩ ⟨eu,gq,lq,oq⟩ w3.heap.size [.int .i64 kind2,.int .i64 aek,.string adb,.slice adg adh adi] [.int .i64 eu,.string gq,.slice xlA xlN xlC,.slice xkA xkN xkC] V (Nat.le_trans (Nat.le_trans hsr hbb.size) hV.size) (HT.out.below (hBb.trans (hV.mono hBb.size))) (bd4.out _ HXM.out) (HW2.out _ HM2.out) ((Val.close_ (acj.out.below ((hbb.trans (hV.mono hbb.size)).mono (Nat.le_trans hB hBr.size)))).more (Nat.le_trans hB hB3.size)) (Ty.close_ (RLX.out.below ((hbb.trans (hV.mono hbb.size)).mono hsr)) (RKX.out.below ((hbb.trans (hV.mono hbb.size)).mono hsr))));obtain⟨b,hb⟩:∃ b,uq n ⟨kind2,aek,adb,aa1⟩ ⟨eu,gq,lq,oq⟩=b:=⟨_,rfl⟩;rw[hb] at HC;have HFA:Hid (ah1 (uq n) vks L k=b):=by show _=_;rw[ah1,HX2.out,HXX.out];exact hb
  clear hb;have hkA:Below wb.heap.size wb wb.drew:=(zqf _ _).drew;have HBb:=zqd hBb;have Hbb:=zqd hbb;have HBK:Hid (Below w3.heap.size w3 wb):=hbr.trans (hbb.mono hsr);clear bE hBb hbb c0 c1 c2 c3;go_wp2_with fail
  rw[← hwb];clear hwb afe aiv ahk afr acj;refine zqh HS (HS.out _ hkA) fun hHeld=>?_;refine zqx 0 ?_;refine zqx 1 ?_;refine zqx 2 ?_;refine zqx 3 ?_;refine zqx 4 ?_;refine zqr 5 fun K hK=>?_;go_simp;go_at_call 26
  refine(HC.out _ hkA).mono ?_;rintro e wq ⟨rfl,hbq⟩;have hkB:=hkA.trans (hbq.mono hkA.size);cases hbv:b
  case false=>
   refine hK.out _ _ (by first|exact(HS.out _ hkB)|go_keep) (fun hHeld=>?_);clear hK K;try simp only[Act.put,zs1,zs2,zs3]
   refine zqx 6 ?_;refine wpAnyH_done (by kernel_rfl) ?_ _;have HF:Hid (R=false):=by show _=_;rw[HR4.out];exact ate (by have:=HVL.out;omega) (HFA.out.trans hbv)
   go_wp2_with fail
   go_ret
   exact⟨au HF.out.symm,HBb.out.trans (hkB.mono HBb.out.size)⟩
  case true=>
   refine hK.out _ _ (by first|exact(HS.out _ hkB)|go_keep) (fun hHeld=>?_);clear hK K;try simp only[Act.put,zs1,zs2,zs3]
   refine zqx 6 ?_;refine wpAnyH_done (by kernel_rfl) ?_ _;have HQ:=zqd (apm HP.out (HFA.out.trans hbv));go_wp2_with fail
   go_roundw
   case rel=>exact⟨k+1,by omega,by go_num,HQ,HBK.out.trans (hkB.mono HBK.out.size)⟩
   case measure=>simp[intOf];omega
theorem aqp:∀ n,afg 26 n
 | 0=>fun v t B cs ds w hB hT hok=>by
  have:=agi t;have:=hok.1;omega
 | n+1=>ax3 (aqp n)
end Go.Proofs.YtfpannkadjdnaaaGreatDoor
