/-
  A value as another type's: spec.l08Take, kinds without kids (by program: gen_tks.py) (by program: gen_why.py).
-/
import Derived.Test.YtfpannkadjdnaaaGreatDoorTa33
import Derived.Test.YtfpannkadjdnaaaGreatDoorTa31
import Derived.Test.YtfpannkadjdnaaaGreatDoorTa34
namespace Go.Proofs.YtfpannkadjdnaaaGreatDoor
open Go.RowKit
set_option linter.all false
set_option maxRecDepth 16000
set_option maxHeartbeats 12800000 in
theorem beh {n:Nat} (ih:agn 21 n) (vn:Int) (vt:ByteArray) (vks:List Val) (an:ByteArray) (al:List ByteArray) (aks:List Ty) (bn:ByteArray) (bl:List ByteArray) (bks:List Ty) (B:Nat) (cs ds es:List Value) (w:World) (hB:B≤w.heap.size) (hO:abd n 18 an al aks 18 bn bl bks vn vks) (hwf:PD.wfL (Val.pd ⟨18,vn,vt,vks⟩)) (hv:jq w B (Val.pd ⟨18,vn,vt,vks⟩) cs) (ha:jq w B (Ty.pd ⟨18,an,al,aks⟩) ds) (hb:jq w B (Ty.pd ⟨18,bn,bl,bks⟩) es):
  Calls Tryz.prog 21 #[.agg cs.toArray,.agg ds.toArray,.agg es.toArray] w fun e w'=>∃ us,e=.returned (.agg us.toArray)∧LvC w' w.heap.size w'.heap.size (Val.pd (ru (n+1) ⟨18,an,al,aks⟩ ⟨18,bn,bl,bks⟩ ⟨18,vn,vt,vks⟩)) us∧Below w.heap.size w w':=by
 obtain⟨adx,rfl,r_v⟩:=Val.open_ hv;obtain⟨vA,vN,vC,rfl⟩:=r_v.form;obtain⟨alV,akV,rfl,zy,aac⟩:=Ty.open_ ha;obtain⟨alA,alN,alC,rfl⟩:=zy.form;obtain⟨akA,akN,akC,rfl⟩:=aac.form;obtain⟨blV,bkV,rfl,aak,aal⟩:=Ty.open_ hb;obtain⟨blA,blN,blC,rfl⟩:=aak.form;obtain⟨bkA,bkN,bkC,rfl⟩:=aal.form;obtain⟨A',n',c',he,aea,agf,aa6⟩:=bf Val.ay (by decide) r_v;obtain⟨rfl,rfl,rfl⟩:vA=A'∧vN=n'∧vC=c':=by injection he with e1 e2 e3;exact⟨e1,e2,e3⟩
 unfold maxLen at agf;have HNV:=zqd aea;have ae5:=zqd aa6;have RV:=zqd r_v;clear he aea aa6 r_v;obtain⟨A',n',c',he,acz,ae6,abo⟩:=bf jo (by decide) zy;obtain⟨rfl,rfl,rfl⟩:alA=A'∧alN=n'∧alC=c':=by injection he with e1 e2 e3;exact⟨e1,e2,e3⟩
 unfold maxLen at ae6;have ag2:=zqd acz;have ag3:=zqd abo;have RAL:=zqd zy;clear he acz abo zy;obtain⟨A',n',c',he,ac0,ae7,abp⟩:=bf Ty.ay (by decide) aac;obtain⟨rfl,rfl,rfl⟩:akA=A'∧akN=n'∧akC=c':=by injection he with e1 e2 e3;exact⟨e1,e2,e3⟩
 unfold maxLen at ae7;have ah5:=zqd ac0;have agp:=zqd abp;have RAK:=zqd aac;clear he ac0 abp aac;obtain⟨A',n',c',he,ac1,ae8,abq⟩:=bf jo (by decide) aak;obtain⟨rfl,rfl,rfl⟩:blA=A'∧blN=n'∧blC=c':=by injection he with e1 e2 e3;exact⟨e1,e2,e3⟩
 unfold maxLen at ae8;have ain:=zqd ac1;have aio:=zqd abq;have RBL:=zqd aak;clear he ac1 abq aak;obtain⟨A',n',c',he,ac2,ae9,abr⟩:=bf Ty.ay (by decide) aal;obtain⟨rfl,rfl,rfl⟩:bkA=A'∧bkN=n'∧bkC=c':=by injection he with e1 e2 e3;exact⟨e1,e2,e3⟩
 unfold maxLen at ae9;have ah6:=zqd ac2;have agq:=zqd abr;have RBK:=zqd aal;clear he ac2 abr aal;have HO:=zqd hO;have IH:=zqd ih;have HWF:=zqd (ada hwf).2;clear hO ih hwf hv ha hb;obtain⟨w0,hw0⟩:∃ V,V=(((((w.alloc (.cells #[.int .i64 18,.int .i64 vn,.string vt,.slice vA vN vC] 33)).alloc (.cells #[.int .i64 18,.string an,.slice alA alN alC,.slice akA akN akC] 39)).alloc (.cells #[.int .i64 18,.string bn,.slice blA blN blC,.slice bkA bkN bkC] 39)).alloc (.cells #[.int .i64 0,.int .i64 0,.string {data:=#[]},.slice none 0 0] 33)).alloc (.cells #[.int .i64 18,.int .i64 vn,.string vt,.slice none 0 0] 33)):=⟨_,rfl⟩;have bV:=zn50 hw0;have bA:=zn51 hw0;have bB:=zn52 hw0;have bZ:=zn53 hw0;have bO:=zn54 hw0;have hB0:Below w.heap.size w w0:=by rw[hw0];exact(((((zqf _ _).alloc (zql _) _).alloc (by simp) _).alloc (by simp;omega) _).alloc (by simp;omega) _).alloc (by simp;omega) _
 have hs0:w0.heap.size=w.heap.size+1+1+1+1+1:=by rw[hw0];simp
 have HW0:=zqd hw0;clear hw0;obtain⟨c,ix,l,rfl,hl,hix,hnum⟩:=HO.out.lab (by omega);obtain rfl:=HO.out.none_ (by omega);obtain⟨Xv,hX⟩:∃ X,X=ru (n+1) ⟨18,an,al,aks⟩ ⟨18,bn,bl,bks⟩ ⟨18,(c:Int),vt,[]⟩:=⟨_,rfl⟩;rw[← hX];have HX:Hid (Xv=⟨18,(ix:Int),vt,[]⟩):=by show _=_;rw[hX,ru,aik,if_neg (by decide),hnum];rfl
 clear hX;have hja:c < alN:=by have:=ag2.out;have:=(List.getElem?_eq_some_iff.1 hl).1;omega
 obtain⟨gl,ol,rfl,hgl,hcl⟩:=ag3.out (by omega);obtain⟨q,h1,h2⟩:=hcl c 0 l _ hl rfl;rw[h2.ab2] at h1;have cl:w0.cell? ⟨gl,ol+c,none⟩=some (.string l):=(hB0.cell (p:=⟨gl,ol+c,none⟩) (by simp only;omega)).trans (by simpa using h1);clear h1 h2 hcl;have HS:Hid (∀ V,Below (w.heap.size+1+1+1+1) w0 V→V.cell? ⟨w.heap.size,1,none⟩=some (.int .i64 (c:Int))∧V.cell? ⟨w.heap.size+1,2,none⟩=some (.slice (some ⟨gl,ol,none⟩) alN alC)∧V.cell? ⟨w.heap.size+1+1,2,none⟩=some (.slice blA blN blC)∧V.cell? ⟨gl,ol+c,none⟩=some (.string l)):=zqd fun V hV=>⟨(bV.below hV (by omega)).cell 1,(bA.below hV (by omega)).cell 2,(bB.below hV (by omega)).cell 2,zqk hV cl⟩;have LB:=zqd (fun(V:World) (hV:Below w.heap.size w V)=>(ahf (t:=l) (w:=V) (RBL.out.below (hV.mono hB))).mono fun e w' h=>(⟨h.1,by rw[h.2];exact zqf _ _⟩:_∧Below V.heap.size V w'));rw[show aav (strEq l) bl=(ix:Int)from hix] at LB;have h4w:w.heap.size+1+1+1+1≤w0.heap.size:=by omega
 have hkA:Below w0.heap.size w0 w0.drew:=(zqf _ _).drew;clear cl hl hix hnum;go_enter Tryz.func21,Tryz.ntmps21
 go_wp2_with fail
 rw[← HW0.out];clear HW0;refine zqh HS (HS.out _ (hkA.mono h4w)) fun hHeld=>?_;refine zqx 0 ?_;refine zqx 1 ?_;refine zqx 2 ?_;refine zqx 3 ?_;refine zqx 4 ?_;refine zqx 5 ?_;refine zqx 6 ?_;refine zqx 7 ?_;refine zqr 8 fun K hK=>?_;go_simp;go_at_call 39
 refine(LB.out _ (hB0.trans (hkA.mono hB0.size))).mono ?_;rintro e1 wq ⟨rfl,hbq⟩;have hkB:=hkA.trans (hbq.mono hkA.size);have bOq:=bO.step hkB;have z1:wq.cell? ⟨w.heap.size+1+1+1+1,1,none⟩=some (.int .i64 (c:Int)):=bOq.cell 1;have f1:=bOq.frozen 1;have hB4:Below (w.heap.size+1+1+1+1) w0 (wq.setCell ⟨w.heap.size+1+1+1+1,1,none⟩ (.int .i64 (ix:Int))):=(hkB.mono h4w).setCell (zql _) _;refine hK.out _ _ (by first|exact(HS.out _ (hkB.mono h4w))|go_keep) (fun hHeld=>?_);clear hK K;try simp only[Act.put,zs1,zs2,zs3]
 refine zqx 9 ?_;refine zqr 10 fun K hK=>?_;go_simp;refine hK.out _ _ (by first|exact(HS.out _ hB4)|go_keep) (fun hHeld=>?_);clear hK K;try simp only[Act.put,zs1,zs2,zs3]
 refine wpAnyH_done (by kernel_rfl) ?_ _;obtain⟨wt,hwt⟩:∃ V,V=(wq.setCell ⟨w.heap.size+1+1+1+1,1,none⟩ (.int .i64 (ix:Int))):=⟨_,rfl⟩;rw[← hwt];rw[← hwt] at hB4
 have bN4:Blk wt (w.heap.size+1+1+1+1) 33 #[.int .i64 18,.int .i64 (ix:Int),.string vt,.slice none 0 0]:=by
  rw[hwt];have:=bOq.l7 1 (.int .i64 (ix:Int));simpa using this
 have hBt:Below w.heap.size w wt:=by rw[hwt];exact(hB0.trans (hkB.mono hB0.size)).setCell (by simp only;omega) _
 have hst:w0.heap.size≤wt.heap.size:=by rw[hwt];have:=hkB.size;simpa [World.setCell] using this
 have bZt:=bZ.below hB4 (by omega);clear bV bA bB bZ bO bOq z1 f1 hwt hB4;have bZ:=bZt;have bO:=bN4;clear bZt bN4 HS LB;have hdone:=(Grow.none_ (e:=33) (sz:=4) hBt).done;have hlo:=Nat.le_refl wt.heap.size;have hwl:=hBt.size;obtain⟨cO0,cO1,cO2,cO3⟩:=zc4 bO;have z0:wt.cell? ⟨w.heap.size+1+1+1,0,none⟩=some (.int .i64 0):=bZ.cell 0;have f0:=bZ.frozen 0;have z1:wt.cell? ⟨w.heap.size+1+1+1,1,none⟩=some (.int .i64 0):=bZ.cell 1;have f1:=bZ.frozen 1;have z2:wt.cell? ⟨w.heap.size+1+1+1,2,none⟩=some (.string {data:=#[]}):=bZ.cell 2;have f2:=bZ.frozen 2;have z3:wt.cell? ⟨w.heap.size+1+1+1,3,none⟩=some (.slice none 0 0):=bZ.cell 3;have f3:=bZ.frozen 3;go_wp2_with fail
 have bN:Blk ((((wt.setCell ⟨w.heap.size+1+1+1,0,none⟩ (.int .i64 18)).setCell ⟨w.heap.size+1+1+1,1,none⟩ (.int .i64 (ix:Int))).setCell ⟨w.heap.size+1+1+1,2,none⟩ (.string vt)).setCell ⟨w.heap.size+1+1+1,3,none⟩ (.slice none 0 0)) (w.heap.size+1+1+1) 33 #[.int .i64 18,.int .i64 (ix:Int),.string vt,.slice none 0 0]:=by
  have:=((((bZ.l7 0 (.int .i64 18)).l7 1 (.int .i64 (ix:Int))).l7 2 (.string vt)).l7 3 (.slice none 0 0));simpa using this
 have n0:=bN.cell 0;have n1:=bN.cell 1;have n2:=bN.cell 2;have n3:=bN.cell 3
 have k1:Below w.heap.size w ((((wt.setCell ⟨w.heap.size+1+1+1,0,none⟩ (.int .i64 18)).setCell ⟨w.heap.size+1+1+1,1,none⟩ (.int .i64 (ix:Int))).setCell ⟨w.heap.size+1+1+1,2,none⟩ (.string vt)).setCell ⟨w.heap.size+1+1+1,3,none⟩ (.slice none 0 0)):=by
  iterate 4 (refine Below.setCell ?_ (by simp;try omega) _)
  exact hBt
 have hbase:LvC wt wt.heap.size wt.heap.size [.lit (.int .i64 18),.lit (.int .i64 (ix:Int)),.lit (.string vt),.row 4 (([]:List Val).flatMap Val.pd)] [.int .i64 18,.int .i64 (ix:Int),.string vt,.slice none 0 0]:=LvC.lit (LvC.lit (LvC.lit (LvC.cons hdone (LvC.nil0 _) (zql _) hlo (zql _)) _) _) _
 have hpost:∃ us,Ending.returned (.agg #[.int .i64 18,.int .i64 (ix:Int),.string vt,.slice none 0 0])=.returned (.agg us.toArray)∧LvC ((((wt.setCell ⟨w.heap.size+1+1+1,0,none⟩ (.int .i64 18)).setCell ⟨w.heap.size+1+1+1,1,none⟩ (.int .i64 (ix:Int))).setCell ⟨w.heap.size+1+1+1,2,none⟩ (.string vt)).setCell ⟨w.heap.size+1+1+1,3,none⟩ (.slice none 0 0)) w.heap.size ((((wt.setCell ⟨w.heap.size+1+1+1,0,none⟩ (.int .i64 18)).setCell ⟨w.heap.size+1+1+1,1,none⟩ (.int .i64 (ix:Int))).setCell ⟨w.heap.size+1+1+1,2,none⟩ (.string vt)).setCell ⟨w.heap.size+1+1+1,3,none⟩ (.slice none 0 0)).heap.size (Val.pd Xv) us∧Below w.heap.size w ((((wt.setCell ⟨w.heap.size+1+1+1,0,none⟩ (.int .i64 18)).setCell ⟨w.heap.size+1+1+1,1,none⟩ (.int .i64 (ix:Int))).setCell ⟨w.heap.size+1+1+1,2,none⟩ (.string vt)).setCell ⟨w.heap.size+1+1+1,3,none⟩ (.slice none 0 0)):=by
  refine⟨[.int .i64 18,.int .i64 (ix:Int),.string vt,.slice none 0 0],rfl,?_,k1⟩;rw[HX.out,Val.ji];refine LvC.low (lo2:=wt.heap.size) ?_ (by omega);refine LvC.more (hi:=wt.heap.size) ?_ (zql _) (by simp[World.setCell]) (zql _)
  iterate 4 (refine LvC.setCell ?_ (.inl (by simp;omega)) _)
  exact hbase
 exact bodyPost_ret (v:=.agg #[.int .i64 18,.int .i64 (ix:Int),.string vt,.slice none 0 0]) (by simp[results,Tryz.results21,go_sem,n0,n1,n2,n3]) rfl hpost
set_option maxHeartbeats 12800000 in
theorem a3a {n:Nat} (ih:agn 21 n) (ak:Int) (vn:Int) (vt:ByteArray) (vks:List Val) (an:ByteArray) (al:List ByteArray) (aks:List Ty) (bk:Int) (nb:¬ (12≤bk∧bk≤19)) (bn:ByteArray) (bl:List ByteArray) (bks:List Ty) (B:Nat) (cs ds es:List Value) (w:World) (hB:B≤w.heap.size) (hO:abd n ak an al aks bk bn bl bks vn vks) (hwf:PD.wfL (Val.pd ⟨ak,vn,vt,vks⟩)) (hv:jq w B (Val.pd ⟨ak,vn,vt,vks⟩) cs) (ha:jq w B (Ty.pd ⟨ak,an,al,aks⟩) ds) (hb:jq w B (Ty.pd ⟨bk,bn,bl,bks⟩) es):
  Calls Tryz.prog 21 #[.agg cs.toArray,.agg ds.toArray,.agg es.toArray] w fun e w'=>∃ us,e=.returned (.agg us.toArray)∧LvC w' w.heap.size w'.heap.size (Val.pd (ru (n+1) ⟨ak,an,al,aks⟩ ⟨bk,bn,bl,bks⟩ ⟨ak,vn,vt,vks⟩)) us∧Below w.heap.size w w':=by
 obtain⟨adx,rfl,r_v⟩:=Val.open_ hv;obtain⟨vA,vN,vC,rfl⟩:=r_v.form;obtain⟨alV,akV,rfl,zy,aac⟩:=Ty.open_ ha;obtain⟨alA,alN,alC,rfl⟩:=zy.form;obtain⟨akA,akN,akC,rfl⟩:=aac.form;obtain⟨blV,bkV,rfl,aak,aal⟩:=Ty.open_ hb;obtain⟨blA,blN,blC,rfl⟩:=aak.form;obtain⟨bkA,bkN,bkC,rfl⟩:=aal.form;obtain⟨A',n',c',he,aea,agf,aa6⟩:=bf Val.ay (by decide) r_v;obtain⟨rfl,rfl,rfl⟩:vA=A'∧vN=n'∧vC=c':=by injection he with e1 e2 e3;exact⟨e1,e2,e3⟩
 unfold maxLen at agf;have HNV:=zqd aea;have ae5:=zqd aa6;have RV:=zqd r_v;clear he aea aa6 r_v;obtain⟨A',n',c',he,acz,ae6,abo⟩:=bf jo (by decide) zy;obtain⟨rfl,rfl,rfl⟩:alA=A'∧alN=n'∧alC=c':=by injection he with e1 e2 e3;exact⟨e1,e2,e3⟩
 unfold maxLen at ae6;have ag2:=zqd acz;have ag3:=zqd abo;have RAL:=zqd zy;clear he acz abo zy;obtain⟨A',n',c',he,ac0,ae7,abp⟩:=bf Ty.ay (by decide) aac;obtain⟨rfl,rfl,rfl⟩:akA=A'∧akN=n'∧akC=c':=by injection he with e1 e2 e3;exact⟨e1,e2,e3⟩
 unfold maxLen at ae7;have ah5:=zqd ac0;have agp:=zqd abp;have RAK:=zqd aac;clear he ac0 abp aac;obtain⟨A',n',c',he,ac1,ae8,abq⟩:=bf jo (by decide) aak;obtain⟨rfl,rfl,rfl⟩:blA=A'∧blN=n'∧blC=c':=by injection he with e1 e2 e3;exact⟨e1,e2,e3⟩
 unfold maxLen at ae8;have ain:=zqd ac1;have aio:=zqd abq;have RBL:=zqd aak;clear he ac1 abq aak;obtain⟨A',n',c',he,ac2,ae9,abr⟩:=bf Ty.ay (by decide) aal;obtain⟨rfl,rfl,rfl⟩:bkA=A'∧bkN=n'∧bkC=c':=by injection he with e1 e2 e3;exact⟨e1,e2,e3⟩
 unfold maxLen at ae9;have ah6:=zqd ac2;have agq:=zqd abr;have RBK:=zqd aal;clear he ac2 abr aal;have HO:=zqd hO;have IH:=zqd ih;have HWF:=zqd (ada hwf).2;clear hO ih hwf hv ha hb;obtain⟨w0,hw0⟩:∃ V,V=(((((w.alloc (.cells #[.int .i64 ak,.int .i64 vn,.string vt,.slice vA vN vC] 33)).alloc (.cells #[.int .i64 ak,.string an,.slice alA alN alC,.slice akA akN akC] 39)).alloc (.cells #[.int .i64 bk,.string bn,.slice blA blN blC,.slice bkA bkN bkC] 39)).alloc (.cells #[.int .i64 0,.int .i64 0,.string {data:=#[]},.slice none 0 0] 33)).alloc (.cells #[.int .i64 bk,.int .i64 vn,.string vt,.slice none 0 0] 33)):=⟨_,rfl⟩;have bV:=zn50 hw0;have bA:=zn51 hw0;have bB:=zn52 hw0;have bZ:=zn53 hw0;have bO:=zn54 hw0;have hB0:Below w.heap.size w w0:=by rw[hw0];exact(((((zqf _ _).alloc (zql _) _).alloc (by simp) _).alloc (by simp;omega) _).alloc (by simp;omega) _).alloc (by simp;omega) _
 have hs0:w0.heap.size=w.heap.size+1+1+1+1+1:=by rw[hw0];simp
 have HW0:=zqd hw0;clear hw0
 have hak:¬ (12≤ak∧ak≤19):=by
  rcases ai8 HO.out.may with ⟨h1,h2⟩|⟨h1,_,_⟩
  ·have:3≤ak∧ak≤9:=abm.1 h1;omega
  ·omega
 obtain rfl:=HO.out.none_ (by omega);obtain⟨Xv,hX⟩:∃ X,X=ru (n+1) ⟨ak,an,al,aks⟩ ⟨bk,bn,bl,bks⟩ ⟨ak,vn,vt,[]⟩:=⟨_,rfl⟩;rw[← hX];have HX:Hid (Xv=⟨bk,vn,vt,[]⟩):=by show _=_;rw[hX,ru,aik,if_neg (by omega),agb (by omega) (by omega) al bl vn];rfl
 clear hX;have n12:¬ bk=12:=by omega
 have n13:¬ bk=13:=by omega
 have n14:¬ bk=14:=by omega
 have n15:¬ bk=15:=by omega
 have n16:¬ bk=16:=by omega
 have n17:¬ bk=17:=by omega
 have n18:¬ bk=18:=by omega
 have n19:¬ bk=19:=by omega
 clear nb hak;go_enter Tryz.func21,Tryz.ntmps21
 go_upto_region 2 with fail
 rw[← HW0.out];clear HW0;obtain⟨cB0,cB1,cB2,cB3⟩:=zc4 bB;have hdone:=(Grow.none_ (e:=33) (sz:=4) hB0).done;have hlo:=Nat.le_refl w0.heap.size;have hwl:=hB0.size;obtain⟨cO0,cO1,cO2,cO3⟩:=zc4 bO;have z0:w0.cell? ⟨w.heap.size+1+1+1,0,none⟩=some (.int .i64 0):=bZ.cell 0;have f0:=bZ.frozen 0;have z1:w0.cell? ⟨w.heap.size+1+1+1,1,none⟩=some (.int .i64 0):=bZ.cell 1;have f1:=bZ.frozen 1;have z2:w0.cell? ⟨w.heap.size+1+1+1,2,none⟩=some (.string {data:=#[]}):=bZ.cell 2;have f2:=bZ.frozen 2;have z3:w0.cell? ⟨w.heap.size+1+1+1,3,none⟩=some (.slice none 0 0):=bZ.cell 3;have f3:=bZ.frozen 3;go_wp2_with fail
 have bN:Blk ((((w0.setCell ⟨w.heap.size+1+1+1,0,none⟩ (.int .i64 bk)).setCell ⟨w.heap.size+1+1+1,1,none⟩ (.int .i64 vn)).setCell ⟨w.heap.size+1+1+1,2,none⟩ (.string vt)).setCell ⟨w.heap.size+1+1+1,3,none⟩ (.slice none 0 0)) (w.heap.size+1+1+1) 33 #[.int .i64 bk,.int .i64 vn,.string vt,.slice none 0 0]:=by
  have:=((((bZ.l7 0 (.int .i64 bk)).l7 1 (.int .i64 vn)).l7 2 (.string vt)).l7 3 (.slice none 0 0));simpa using this
 have n0:=bN.cell 0;have n1:=bN.cell 1;have n2:=bN.cell 2;have n3:=bN.cell 3
 have k1:Below w.heap.size w ((((w0.setCell ⟨w.heap.size+1+1+1,0,none⟩ (.int .i64 bk)).setCell ⟨w.heap.size+1+1+1,1,none⟩ (.int .i64 vn)).setCell ⟨w.heap.size+1+1+1,2,none⟩ (.string vt)).setCell ⟨w.heap.size+1+1+1,3,none⟩ (.slice none 0 0)):=by
  iterate 4 (refine Below.setCell ?_ (by simp;try omega) _)
  exact hB0
 have hbase:LvC w0 w0.heap.size w0.heap.size [.lit (.int .i64 bk),.lit (.int .i64 vn),.lit (.string vt),.row 4 (([]:List Val).flatMap Val.pd)] [.int .i64 bk,.int .i64 vn,.string vt,.slice none 0 0]:=LvC.lit (LvC.lit (LvC.lit (LvC.cons hdone (LvC.nil0 _) (zql _) hlo (zql _)) _) _) _
 have hpost:∃ us,Ending.returned (.agg #[.int .i64 bk,.int .i64 vn,.string vt,.slice none 0 0])=.returned (.agg us.toArray)∧LvC ((((w0.setCell ⟨w.heap.size+1+1+1,0,none⟩ (.int .i64 bk)).setCell ⟨w.heap.size+1+1+1,1,none⟩ (.int .i64 vn)).setCell ⟨w.heap.size+1+1+1,2,none⟩ (.string vt)).setCell ⟨w.heap.size+1+1+1,3,none⟩ (.slice none 0 0)) w.heap.size ((((w0.setCell ⟨w.heap.size+1+1+1,0,none⟩ (.int .i64 bk)).setCell ⟨w.heap.size+1+1+1,1,none⟩ (.int .i64 vn)).setCell ⟨w.heap.size+1+1+1,2,none⟩ (.string vt)).setCell ⟨w.heap.size+1+1+1,3,none⟩ (.slice none 0 0)).heap.size (Val.pd Xv) us∧Below w.heap.size w ((((w0.setCell ⟨w.heap.size+1+1+1,0,none⟩ (.int .i64 bk)).setCell ⟨w.heap.size+1+1+1,1,none⟩ (.int .i64 vn)).setCell ⟨w.heap.size+1+1+1,2,none⟩ (.string vt)).setCell ⟨w.heap.size+1+1+1,3,none⟩ (.slice none 0 0)):=by
  refine⟨[.int .i64 bk,.int .i64 vn,.string vt,.slice none 0 0],rfl,?_,k1⟩;rw[HX.out,Val.ji];refine LvC.low (lo2:=w0.heap.size) ?_ (by omega);refine LvC.more (hi:=w0.heap.size) ?_ (zql _) (by simp[World.setCell]) (zql _)
  iterate 4 (refine LvC.setCell ?_ (.inl (by simp;omega)) _)
  exact hbase
 exact bodyPost_ret (v:=.agg #[.int .i64 bk,.int .i64 vn,.string vt,.slice none 0 0]) (by simp[results,Tryz.results21,go_sem,n0,n1,n2,n3]) rfl hpost
set_option maxHeartbeats 12800000 in
theorem bei {n:Nat} (ih:agn 21 n) (vn:Int) (vt:ByteArray) (vks:List Val) (an:ByteArray) (al:List ByteArray) (aks:List Ty) (bn:ByteArray) (bl:List ByteArray) (bks:List Ty) (B:Nat) (cs ds es:List Value) (w:World) (hB:B≤w.heap.size) (hO:abd n 19 an al aks 19 bn bl bks vn vks) (hwf:PD.wfL (Val.pd ⟨19,vn,vt,vks⟩)) (hv:jq w B (Val.pd ⟨19,vn,vt,vks⟩) cs) (ha:jq w B (Ty.pd ⟨19,an,al,aks⟩) ds) (hb:jq w B (Ty.pd ⟨19,bn,bl,bks⟩) es):
  Calls Tryz.prog 21 #[.agg cs.toArray,.agg ds.toArray,.agg es.toArray] w fun e w'=>∃ us,e=.returned (.agg us.toArray)∧LvC w' w.heap.size w'.heap.size (Val.pd (ru (n+1) ⟨19,an,al,aks⟩ ⟨19,bn,bl,bks⟩ ⟨19,vn,vt,vks⟩)) us∧Below w.heap.size w w':=by
 obtain⟨adx,rfl,r_v⟩:=Val.open_ hv;obtain⟨vA,vN,vC,rfl⟩:=r_v.form;obtain⟨alV,akV,rfl,zy,aac⟩:=Ty.open_ ha;obtain⟨alA,alN,alC,rfl⟩:=zy.form;obtain⟨akA,akN,akC,rfl⟩:=aac.form;obtain⟨blV,bkV,rfl,aak,aal⟩:=Ty.open_ hb;obtain⟨blA,blN,blC,rfl⟩:=aak.form;obtain⟨bkA,bkN,bkC,rfl⟩:=aal.form;obtain⟨A',n',c',he,aea,agf,aa6⟩:=bf Val.ay (by decide) r_v;obtain⟨rfl,rfl,rfl⟩:vA=A'∧vN=n'∧vC=c':=by injection he with e1 e2 e3;exact⟨e1,e2,e3⟩
 unfold maxLen at agf;have HNV:=zqd aea;have ae5:=zqd aa6;have RV:=zqd r_v;clear he aea aa6 r_v;obtain⟨A',n',c',he,acz,ae6,abo⟩:=bf jo (by decide) zy;obtain⟨rfl,rfl,rfl⟩:alA=A'∧alN=n'∧alC=c':=by injection he with e1 e2 e3;exact⟨e1,e2,e3⟩
 unfold maxLen at ae6;have ag2:=zqd acz;have ag3:=zqd abo;have RAL:=zqd zy;clear he acz abo zy;obtain⟨A',n',c',he,ac0,ae7,abp⟩:=bf Ty.ay (by decide) aac;obtain⟨rfl,rfl,rfl⟩:akA=A'∧akN=n'∧akC=c':=by injection he with e1 e2 e3;exact⟨e1,e2,e3⟩
 unfold maxLen at ae7;have ah5:=zqd ac0;have agp:=zqd abp;have RAK:=zqd aac;clear he ac0 abp aac;obtain⟨A',n',c',he,ac1,ae8,abq⟩:=bf jo (by decide) aak;obtain⟨rfl,rfl,rfl⟩:blA=A'∧blN=n'∧blC=c':=by injection he with e1 e2 e3;exact⟨e1,e2,e3⟩
 unfold maxLen at ae8;have ain:=zqd ac1;have aio:=zqd abq;have RBL:=zqd aak;clear he ac1 abq aak;obtain⟨A',n',c',he,ac2,ae9,abr⟩:=bf Ty.ay (by decide) aal;obtain⟨rfl,rfl,rfl⟩:bkA=A'∧bkN=n'∧bkC=c':=by injection he with e1 e2 e3;exact⟨e1,e2,e3⟩
 unfold maxLen at ae9;have ah6:=zqd ac2;have agq:=zqd abr;have RBK:=zqd aal;clear he ac2 abr aal;have HO:=zqd hO;have IH:=zqd ih;have HWF:=zqd (ada hwf).2;clear hO ih hwf hv ha hb;obtain⟨w0,hw0⟩:∃ V,V=(((((w.alloc (.cells #[.int .i64 19,.int .i64 vn,.string vt,.slice vA vN vC] 33)).alloc (.cells #[.int .i64 19,.string an,.slice alA alN alC,.slice akA akN akC] 39)).alloc (.cells #[.int .i64 19,.string bn,.slice blA blN blC,.slice bkA bkN bkC] 39)).alloc (.cells #[.int .i64 0,.int .i64 0,.string {data:=#[]},.slice none 0 0] 33)).alloc (.cells #[.int .i64 19,.int .i64 0,.string vt,.slice none 0 0] 33)):=⟨_,rfl⟩;have bV:=zn50 hw0;have bA:=zn51 hw0;have bB:=zn52 hw0;have bZ:=zn53 hw0;have bO:=zn54 hw0;have hB0:Below w.heap.size w w0:=by rw[hw0];exact(((((zqf _ _).alloc (zql _) _).alloc (by simp) _).alloc (by simp;omega) _).alloc (by simp;omega) _).alloc (by simp;omega) _
 have hs0:w0.heap.size=w.heap.size+1+1+1+1+1:=by rw[hw0];simp
 have HW0:=zqd hw0;clear hw0;have hbn:=abm.1 ((am0 _ _).symm.trans HO.out.num);have a2x:=ab7 HO.out.sa;have au0:=ab7 HO.out.sb;have hpw:(2:Int) ^ al.length≤65536:=az0 a2x;obtain⟨m,rfl⟩:∃ m:Nat,vn=(m:Int):=⟨vn.toNat,by omega⟩;have byv:m < 65536:=by omega
 clear hbn hpw;have HFI:Hid (alq al bl):=HO.out.flags;have HND:Hid (al.Nodup):=auy HO.out.sa;obtain rfl:=HO.out.none_ (by omega);obtain⟨Xv,hX⟩:∃ X,X=ru (n+1) ⟨19,an,al,aks⟩ ⟨19,bn,bl,bks⟩ ⟨19,(m:Int),vt,[]⟩:=⟨_,rfl⟩;rw[← hX];have HX:Hid (Xv=⟨19,((ae4 al bl (m:Int) al.length:Nat):Int),vt,[]⟩):=by show _=_;rw[hX,ru,aik,if_neg (by decide),aah,if_neg (by omega),if_pos rfl];rfl
 clear hX;obtain⟨N,hN⟩:∃ f:Nat→Nat,f=ae4 al bl (m:Int):=⟨_,rfl⟩;have HNN:=zqd hN;clear hN;go_enter Tryz.func21,Tryz.ntmps21
 go_wp2_with fail
 rw[← HW0.out];clear HW0
 have beg:Hid (Blk w0 (w.heap.size+1+1+1+1) 33 #[.int .i64 19,.int .i64 (N 0),.string vt,.slice none 0 0]):=by
  show Blk _ _ _ _;have:N 0=0:=by rw[HNN.out];rfl
  rw[this];exact bO
 go_loopw [15] (fun i wr=>∃ k:Nat,k≤alN∧i=.int .i64 k∧Hid (Below w.heap.size w wr)∧Hid (Blk wr (w.heap.size) 33 #[.int .i64 19,.int .i64 (m:Int),.string vt,.slice vA vN vC])∧Hid (Blk wr (w.heap.size+1) 39 #[.int .i64 19,.string an,.slice alA alN alC,.slice akA akN akC])∧Hid (Blk wr (w.heap.size+1+1) 39 #[.int .i64 19,.string bn,.slice blA blN blC,.slice bkA bkN bkC])∧Hid (Blk wr (w.heap.size+1+1+1) 33 #[.int .i64 0,.int .i64 0,.string {data:=#[]},.slice none 0 0])∧Hid (Blk wr (w.heap.size+1+1+1+1) 33 #[.int .i64 19,.int .i64 (N k),.string vt,.slice none 0 0])) (fun i _=>alN - (intOf i).toNat)
 case atStart=>exact⟨0,Nat.zero_le _,rfl,zqd hB0,zqd bV,zqd bA,zqd bB,zqd bZ,beg⟩
 case round=>
  clear bV bA bB bZ bO;obtain⟨k,hkn,rfl,HBR,HV,HA,HB,HZ,HU⟩:=hrel;have hbr:=HBR.out;have hsr:=hbr.size;have bV:=HV.out;have bA:=HA.out;have bB:=HB.out;have bZ:=HZ.out;have bO:=HU.out;clear HV HA HB HZ HU;have a2:wr.cell? ⟨w.heap.size+1,2,none⟩=some (.slice alA alN alC):=bA.cell 2;have v1:wr.cell? ⟨w.heap.size,1,none⟩=some (.int .i64 (m:Int)):=bV.cell 1;by_cases hlt:k < alN
  case pos=>
   have atg:k≤16:=by have:=ag2.out;omega
   have hka:k < al.length:=by have:=ag2.out;omega
   obtain⟨gl,ol,rfl,hgl,hcl⟩:=ag3.out (by omega);obtain⟨l,hl,_⟩:=uo ag2.out hlt;obtain⟨q,h1,h2⟩:=hcl k 0 l _ hl rfl;rw[h2.ab2] at h1;have cl:wr.cell? ⟨gl,ol+k,none⟩=some (.string l):=(hbr.cell (p:=⟨gl,ol+k,none⟩) (by simp only;omega)).trans (by simpa using h1);clear h1 h2 hcl;obtain⟨ix,hix,byw⟩:=HFI.out k l hl;have hfa:aff al bl k=ix:=by simp only[aff,hl,hix,Int.toNat_natCast]
   obtain⟨hfree,hN16,az2⟩:=aw4 HFI.out HND.out au0 (m:Int) hka;rw[hfa] at hfree az2;rw[← HNN.out] at hfree hN16;obtain⟨bt,hbt⟩:∃ b:Int,bits .and .i64 ((m:Int) / 2 ^ k) 1=b:=⟨_,rfl⟩;have hbit:bt=amz (m:Int) k:=by rw[← hbt,az1];rfl
   have hku:IntKind.u64.wrap (k:Int)=(k:Int):=by rw[IntKind.wrap_u64];omega
   have hiu:IntKind.u64.wrap (ix:Int)=(ix:Int):=by rw[IntKind.wrap_u64];omega
   by_cases hb1:bt=1
   case neg=>
    have HN1:Hid (N (k+1)=N k):=by
     show _=_;rw[HNN.out];rcases atf al bl (m:Int) k with ⟨h1,h2⟩|⟨h1,h2⟩
     ·exact absurd (hbit.trans h1) hb1
     ·exact h2
    clear hbit hfree hfa hix hl cl;go_wp2_with fail
    go_roundw
    case rel=>exact⟨k+1,by omega,by go_num,zqd hbr,zqd bV,zqd bA,zqd bB,zqd bZ,zqd (by rw[HN1.out];exact bO)⟩
    case measure=>simp[intOf];omega
   subst hb1
   have HN1:Hid (N (k+1)=N k+2 ^ ix):=by
    show _=_;rw[HNN.out];rcases atf al bl (m:Int) k with ⟨h1,h2⟩|⟨h1,h2⟩
    ·rw[h2,hfa]
    ·rw[h1] at hbit;exact absurd hbit (by decide)
   have hp:=auz az2;have hq:((N (k+1):Nat):Int)=(N k:Int)+2 ^ ix:=by rw[HN1.out];simp
   have hval:IntKind.i64.wrap ((N k:Int)+IntKind.i64.wrap (1 * 2 ^ ix))=((N (k+1):Nat):Int):=by
    rw[ape,ape,Int.one_mul,IntWalk.wrap64_in ((2:Int) ^ ix) ⟨by omega,by omega⟩,IntWalk.wrap64_in _ ⟨by omega,by omega⟩,hq]
   have bou:IntKind.i64.wrap ((N k:Int)+IntKind.i64.wrap (2 ^ ix))=((N (k+1):Nat):Int):=by rw[Int.one_mul] at hval;exact hval
   clear hq hp hbit hfree hfa HN1;have LB:=zqd (fun(V:World) (hV:Below w.heap.size w V)=>(ahf (t:=l) (w:=V) (RBL.out.below (hV.mono hB))).mono fun e w' h=>(⟨h.1,by rw[h.2];exact zqf _ _⟩:_∧Below V.heap.size V w'));rw[show aav (strEq l) bl=(ix:Int)from hix] at LB;clear hix hl;have HS:Hid (∀ V,Below (w.heap.size+1+1+1+1) wr V→V.cell? ⟨w.heap.size+1,2,none⟩=some (.slice (some ⟨gl,ol,none⟩) alN alC)∧V.cell? ⟨w.heap.size+1+1,2,none⟩=some (.slice blA blN blC)∧V.cell? ⟨gl,ol+k,none⟩=some (.string l)):=zqd fun V hV=>⟨(bA.below hV (by omega)).cell 2,(bB.below hV (by omega)).cell 2,zqk hV cl⟩;have h4w:w.heap.size+1+1+1+1≤wr.heap.size:=by have:=bO.lt;omega
   have hkA:Below wr.heap.size wr wr.drew:=(zqf _ _).drew;have cO:wr.cell? ⟨w.heap.size+1+1+1+1,1,none⟩=some (.int .i64 (N k)):=bO.cell 1;have cOd:wr.drew.cell? ⟨w.heap.size+1+1+1+1,1,none⟩=some (.int .i64 (N k)):=cO;go_wp2_with fail
   refine zqh HS (HS.out _ (hkA.mono h4w)) fun hHeld=>?_;refine zqx 0 ?_;refine zqx 2 ?_;refine zqx 3 ?_;refine zqx 4 ?_;refine zqx 5 ?_;refine zqx 6 ?_;refine zqx 7 ?_;refine zqx 8 ?_;refine zqs [1,9] ?_;refine AllReadyH.cons (o:=?b3q) ?bwa (fun K hK=>?bwb) (AllReadyH.cons (o:=?b3r) ?bwc (fun K hK=>?bwe) AllReadyH.nil)
   case bwa=>
    simp only[zg1,zg2,zg3];rfl
   case bwc=>
    simp only[zg1,zg2,zg3];rfl
   case bwb=>
    go_simp;refine hK.out _ _ (by first|exact(HS.out _ (hkA.mono h4w))|go_keep) (fun hHeld=>?_);clear hK K;try simp only[Act.put,zs1,zs2,zs3]
    refine zqr 9 fun K hK=>?_;go_simp;go_at_call 39
    refine(LB.out _ (hbr.trans (hkA.mono hsr))).mono ?_;rintro e1 wq ⟨rfl,hbq⟩;have hkB:=hkA.trans (hbq.mono hkA.size);have bOq:=bO.step hkB;have cOq:wq.cell? ⟨w.heap.size+1+1+1+1,1,none⟩=some (.int .i64 (N k)):=bOq.cell 1;have f1:=bOq.frozen 1;have hB4:Below (w.heap.size+1+1+1+1) wr (wq.setCell ⟨w.heap.size+1+1+1+1,1,none⟩ (.int .i64 (N (k+1)))):=(hkB.mono h4w).setCell (zql _) _;refine hK.out _ _ (by first|exact(HS.out _ (hkB.mono h4w))|go_keep) (fun hHeld=>?_);clear hK K;try simp only[Act.put,zs1,zs2,zs3]
    refine zqx 10 ?_;refine zqx 11 ?_;refine zqx 12 ?_;refine zqx 13 ?_;refine zqr 14 fun K hK=>?_;go_simp;try rw[hval]
    try rw[bou]
    refine hK.out _ _ (by first|exact(HS.out _ hB4)|go_keep) (fun hHeld=>?_);clear hK K;try simp only[Act.put,zs1,zs2,zs3]
    refine wpAnyH_done (by kernel_rfl) ?_ _
    have bN4:Blk (wq.setCell ⟨w.heap.size+1+1+1+1,1,none⟩ (.int .i64 (N (k+1)))) (w.heap.size+1+1+1+1) 33 #[.int .i64 19,.int .i64 (N (k+1)),.string vt,.slice none 0 0]:=by
     have:=bOq.l7 1 (.int .i64 (N (k+1)));simpa using this
    go_wp2_with fail
    go_roundw
    case rel=>exact⟨k+1,by omega,by go_num,zqd ((hbr.trans (hkB.mono hsr)).setCell (by simp only;omega) _),zqd (bV.below hB4 (by omega)),zqd (bA.below hB4 (by omega)),zqd (bB.below hB4 (by omega)),zqd (bZ.below hB4 (by omega)),zqd bN4⟩
    case measure=>simp[intOf];omega
   case bwe=>
    go_simp;go_at_call 39
    refine(LB.out _ (hbr.trans (hkA.mono hsr))).mono ?_;rintro e1 wq ⟨rfl,hbq⟩;have hkB:=hkA.trans (hbq.mono hkA.size);have bOq:=bO.step hkB;have cOq:wq.cell? ⟨w.heap.size+1+1+1+1,1,none⟩=some (.int .i64 (N k)):=bOq.cell 1;have f1:=bOq.frozen 1;have hB4:Below (w.heap.size+1+1+1+1) wr (wq.setCell ⟨w.heap.size+1+1+1+1,1,none⟩ (.int .i64 (N (k+1)))):=(hkB.mono h4w).setCell (zql _) _;refine hK.out _ _ (by first|exact(HS.out _ (hkB.mono h4w))|go_keep) (fun hHeld=>?_);clear hK K;try simp only[Act.put,zs1,zs2,zs3]
    refine zqx 10 ?_;refine zqx 11 ?_;refine zqr 1 fun K hK=>?_;go_simp;refine hK.out _ _ (by first|exact(HS.out _ (hkB.mono h4w))|go_keep) (fun hHeld=>?_);clear hK K;try simp only[Act.put,zs1,zs2,zs3]
    refine zqx 12 ?_;refine zqx 13 ?_;refine zqr 14 fun K hK=>?_;go_simp;try rw[hval]
    try rw[bou]
    refine hK.out _ _ (by first|exact(HS.out _ hB4)|go_keep) (fun hHeld=>?_);clear hK K;try simp only[Act.put,zs1,zs2,zs3]
    refine wpAnyH_done (by kernel_rfl) ?_ _
    have bN4:Blk (wq.setCell ⟨w.heap.size+1+1+1+1,1,none⟩ (.int .i64 (N (k+1)))) (w.heap.size+1+1+1+1) 33 #[.int .i64 19,.int .i64 (N (k+1)),.string vt,.slice none 0 0]:=by
     have:=bOq.l7 1 (.int .i64 (N (k+1)));simpa using this
    go_wp2_with fail
    go_roundw
    case rel=>exact⟨k+1,by omega,by go_num,zqd ((hbr.trans (hkB.mono hsr)).setCell (by simp only;omega) _),zqd (bV.below hB4 (by omega)),zqd (bA.below hB4 (by omega)),zqd (bB.below hB4 (by omega)),zqd (bZ.below hB4 (by omega)),zqd bN4⟩
    case measure=>simp[intOf];omega
  case neg=>
   replace HX:Hid (Xv=⟨19,((N k:Nat):Int),vt,[]⟩):=by show _=_;rw[HX.out,HNN.out,show k=alN by omega,ag2.out]
   obtain⟨nu,hnu⟩:∃ v:Int,v=((N k:Nat):Int):=⟨_,rfl⟩;rw[← hnu] at bO HX;have hst5:=bO.lt;clear hnu HNN HFI HND HBR;have hdone:=(Grow.none_ (e:=33) (sz:=4) hbr).done;have hlo:=Nat.le_refl wr.heap.size;have hwl:=hbr.size;obtain⟨cO0,cO1,cO2,cO3⟩:=zc4 bO;have z0:wr.cell? ⟨w.heap.size+1+1+1,0,none⟩=some (.int .i64 0):=bZ.cell 0;have f0:=bZ.frozen 0;have z1:wr.cell? ⟨w.heap.size+1+1+1,1,none⟩=some (.int .i64 0):=bZ.cell 1;have f1:=bZ.frozen 1;have z2:wr.cell? ⟨w.heap.size+1+1+1,2,none⟩=some (.string {data:=#[]}):=bZ.cell 2;have f2:=bZ.frozen 2;have z3:wr.cell? ⟨w.heap.size+1+1+1,3,none⟩=some (.slice none 0 0):=bZ.cell 3;have f3:=bZ.frozen 3;go_wp2_with fail
   have bN:Blk ((((wr.setCell ⟨w.heap.size+1+1+1,0,none⟩ (.int .i64 19)).setCell ⟨w.heap.size+1+1+1,1,none⟩ (.int .i64 nu)).setCell ⟨w.heap.size+1+1+1,2,none⟩ (.string vt)).setCell ⟨w.heap.size+1+1+1,3,none⟩ (.slice none 0 0)) (w.heap.size+1+1+1) 33 #[.int .i64 19,.int .i64 nu,.string vt,.slice none 0 0]:=by
    have:=((((bZ.l7 0 (.int .i64 19)).l7 1 (.int .i64 nu)).l7 2 (.string vt)).l7 3 (.slice none 0 0));simpa using this
   have n0:=bN.cell 0;have n1:=bN.cell 1;have n2:=bN.cell 2;have n3:=bN.cell 3
   have k1:Below w.heap.size w ((((wr.setCell ⟨w.heap.size+1+1+1,0,none⟩ (.int .i64 19)).setCell ⟨w.heap.size+1+1+1,1,none⟩ (.int .i64 nu)).setCell ⟨w.heap.size+1+1+1,2,none⟩ (.string vt)).setCell ⟨w.heap.size+1+1+1,3,none⟩ (.slice none 0 0)):=by
    iterate 4 (refine Below.setCell ?_ (by simp;try omega) _)
    exact hbr
   have hbase:LvC wr wr.heap.size wr.heap.size [.lit (.int .i64 19),.lit (.int .i64 nu),.lit (.string vt),.row 4 (([]:List Val).flatMap Val.pd)] [.int .i64 19,.int .i64 nu,.string vt,.slice none 0 0]:=LvC.lit (LvC.lit (LvC.lit (LvC.cons hdone (LvC.nil0 _) (zql _) hlo (zql _)) _) _) _
   have hpost:∃ us,Ending.returned (.agg #[.int .i64 19,.int .i64 nu,.string vt,.slice none 0 0])=.returned (.agg us.toArray)∧LvC ((((wr.setCell ⟨w.heap.size+1+1+1,0,none⟩ (.int .i64 19)).setCell ⟨w.heap.size+1+1+1,1,none⟩ (.int .i64 nu)).setCell ⟨w.heap.size+1+1+1,2,none⟩ (.string vt)).setCell ⟨w.heap.size+1+1+1,3,none⟩ (.slice none 0 0)) w.heap.size ((((wr.setCell ⟨w.heap.size+1+1+1,0,none⟩ (.int .i64 19)).setCell ⟨w.heap.size+1+1+1,1,none⟩ (.int .i64 nu)).setCell ⟨w.heap.size+1+1+1,2,none⟩ (.string vt)).setCell ⟨w.heap.size+1+1+1,3,none⟩ (.slice none 0 0)).heap.size (Val.pd Xv) us∧Below w.heap.size w ((((wr.setCell ⟨w.heap.size+1+1+1,0,none⟩ (.int .i64 19)).setCell ⟨w.heap.size+1+1+1,1,none⟩ (.int .i64 nu)).setCell ⟨w.heap.size+1+1+1,2,none⟩ (.string vt)).setCell ⟨w.heap.size+1+1+1,3,none⟩ (.slice none 0 0)):=by
    refine⟨[.int .i64 19,.int .i64 nu,.string vt,.slice none 0 0],rfl,?_,k1⟩;rw[HX.out,Val.ji];refine LvC.low (lo2:=wr.heap.size) ?_ (by omega);refine LvC.more (hi:=wr.heap.size) ?_ (zql _) (by simp[World.setCell]) (zql _)
    iterate 4 (refine LvC.setCell ?_ (.inl (by simp;omega)) _)
    exact hbase
   exact bodyPost_ret (v:=.agg #[.int .i64 19,.int .i64 nu,.string vt,.slice none 0 0]) (by simp[results,Tryz.results21,go_sem,n0,n1,n2,n3]) rfl hpost
end Go.Proofs.YtfpannkadjdnaaaGreatDoor
