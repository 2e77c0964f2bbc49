/-
  Types of cases and of kids: impl.caseType, kidTypes, numOk (by program: gen_tkk.py) (by program: gen_why.py).
-/
import Derived.Test.YtfpannkadjdnaaaGreatDoorTa13
import Derived.Test.YtfpannkadjdnaaaGreatDoorTa24
import Derived.Test.YtfpannkadjdnaaaGreatDoorTa23
import Derived.Test.YtfpannkadjdnaaaGreatDoorTa25
import Derived.Test.YtfpannkadjdnaaaGreatDoorTa26
namespace Go.Proofs.YtfpannkadjdnaaaGreatDoor
open Go.RowKit
set_option linter.all false
set_option maxRecDepth 16000
def btd:Ty:=⟨0,⟨#[]⟩,[],[]⟩
theorem ajq {w:World} {B sz:Nat}:Rep w B (.row sz []) (.slice none 0 0):=by
 rw[Rep];exact⟨_,_,_,rfl,by simp,by unfold maxLen;omega,fun h=>absurd h (by omega)⟩
def apl (o:Option Ty) (B:Nat) (w:World) (e:Ending) (w':World):Prop:=∃ us,e=.returned (.tuple #[.agg us.toArray,.bool o.isSome])∧jq w' B (Ty.pd (o.getD btd)) us∧Below w.heap.size w w'
set_option maxHeartbeats 3200000 in
theorem azs (t:Ty) (num:Int) (h0:0≤num) (h1:num≤4611686018427387904) {B:Nat} {cs:List Value} {w:World} (hB:B≤w.heap.size) (h:jq w B (Ty.pd t) cs):
  Calls Tryz.prog 78 #[.agg cs.toArray,.int .i64 num] w fun e w'=>apl (caseT t.kind num t.kids) B w e w':=by
 obtain⟨kind,name,labels,kids⟩:=t;obtain⟨R,hR⟩:∃ R:Option Ty,R=caseT kind num kids:=⟨_,rfl⟩;show Calls _ _ _ _ fun e w'=>apl (caseT kind num kids) B w e w';rw[← hR];have HR:=zqd hR;clear hR;obtain⟨iy,iw,rfl,r_l,r_k⟩:=Ty.open_ h;obtain⟨lA,lN,lC,rfl⟩:=r_l.form;obtain⟨kA,kN,kC,rfl⟩:=r_k.form;obtain⟨A',n',c',he,hnl,hm,hat⟩:=bf Ty.ay (by decide) r_k;obtain⟨rfl,rfl,rfl⟩:kA=A'∧kN=n'∧kC=c':=by injection he with e1 e2 e3;exact⟨e1,e2,e3⟩
 unfold maxLen at hm;have HN:=zqd hnl;have HSZ:=zqd (fun(V:World) (hV:Below w.heap.size w V)=>a1n hnl (r_k.below (hV.mono hB)));clear h r_l he hnl;obtain⟨w0,hw0⟩:∃ V,V=(w.alloc (.cells #[.int .i64 kind,.string name,.slice lA lN lC,.slice kA kN kC] 39)).alloc (.cells #[.int .i64 0,.string {data:=#[]},.slice none 0 0,.slice none 0 0] 39):=⟨_,rfl⟩;have bA:Blk w0 w.heap.size 39 #[.int .i64 kind,.string name,.slice lA lN lC,.slice kA kN kC]:=by rw[hw0];exact(Blk.new w _ _).alloc _
 have bR:=zn21 hw0;have hB0:Below w.heap.size w w0:=by rw[hw0];exact((zqf _ _).alloc (zql _) _).alloc (by simp) _
 have HW0:=zqd hw0;clear hw0;have a0:w0.cell? ⟨w.heap.size,0,none⟩=some (.int .i64 kind):=bA.cell 0;have a3:w0.cell? ⟨w.heap.size,3,none⟩=some (.slice kA kN kC):=bA.cell 3;have f0:=bR.frozen 0;have z0:w0.cell? ⟨w.heap.size+1,0,none⟩=some (.int .i64 0):=bR.cell 0;have f1:=bR.frozen 1;have z1:w0.cell? ⟨w.heap.size+1,1,none⟩=some (.string {data:=#[]}):=bR.cell 1;have f2:=bR.frozen 2;have z2:w0.cell? ⟨w.heap.size+1,2,none⟩=some (.slice none 0 0):=bR.cell 2;have f3:=bR.frozen 3;have z3:w0.cell? ⟨w.heap.size+1,3,none⟩=some (.slice none 0 0):=bR.cell 3;by_cases hk:kind=13
 case pos=>
  subst hk;by_cases hn:num=0
  case pos=>
   subst hn;have HF:Hid (R=some ⟨1,⟨#[]⟩,[],[]⟩):=HR.out;have hw0:=HW0.out;clear HW0;subst hw0;go_enter Tryz.func78,Tryz.ntmps78
   go_wp2_with fail
   have bN:Blk ((w.alloc (.cells #[.int .i64 13,.string name,.slice lA lN lC,.slice kA kN kC] 39)).alloc (.cells #[.int .i64 1,.string {data:=#[]},.slice none 0 0,.slice none 0 0] 39)) (w.heap.size+1) 39 #[.int .i64 1,.string {data:=#[]},.slice none 0 0,.slice none 0 0]:=by
    have:=Blk.new (w.alloc (.cells #[.int .i64 13,.string name,.slice lA lN lC,.slice kA kN kC] 39)) 39 #[.int .i64 1,.string {data:=#[]},.slice none 0 0,.slice none 0 0];simpa using this
   have n0:=bN.cell 0;have n1:=bN.cell 1;have n2:=bN.cell 2;have n3:=bN.cell 3;have k1:Below w.heap.size w ((w.alloc (.cells #[.int .i64 13,.string name,.slice lA lN lC,.slice kA kN kC] 39)).alloc (.cells #[.int .i64 1,.string {data:=#[]},.slice none 0 0,.slice none 0 0] 39)):=((zqf _ _).alloc (zql _) _).alloc (by simp) _
   have hpost:apl R B w (.returned (.tuple #[.agg #[.int .i64 1,.string {data:=#[]},.slice none 0 0,.slice none 0 0],.bool true])) ((w.alloc (.cells #[.int .i64 13,.string name,.slice lA lN lC,.slice kA kN kC] 39)).alloc (.cells #[.int .i64 1,.string {data:=#[]},.slice none 0 0,.slice none 0 0] 39)):=by
    show ∃ us,_;rw[HF.out];exact⟨[.int .i64 1,.string {data:=#[]},.slice none 0 0,.slice none 0 0],rfl,Ty.close_ ajq ajq,k1⟩
   exact bodyPost_ret (v:=.tuple #[.agg #[.int .i64 1,.string {data:=#[]},.slice none 0 0,.slice none 0 0],.bool true]) (by simp[results,Tryz.results78,go_sem,n0,n1,n2,n3]) rfl hpost
  obtain⟨nm,hnm⟩:∃ q:Int,q=num - 1:=⟨_,rfl⟩;have hn0:0≤nm∧nm≤4611686018427387904:=by omega
  have hwr:wrap64 (num - 1)=nm:=by rw[a5f (by omega) (by omega)];exact hnm.symm
  have hwr2:IntKind.i64.wrap (num - 1)=nm:=(IntWalk.i64_in _ (by omega)).trans hnm.symm;have bd1:Hid (∀ j:Nat,(j:Int)=nm→caseT 13 num kids=kids[j]?):=zqd fun j hj=>by rw[caseT,if_pos rfl,if_neg hn,if_pos (by omega)];congr 1;omega
  have HNO:Hid ((kN:Int)≤nm→caseT 13 num kids=none):=zqd fun hh=>by rw[caseT,if_pos rfl,if_neg hn,if_pos (by omega)];exact List.getElem?_eq_none (by have:=HN.out;omega)
  clear hnm;have HCS:=zqd (HSZ.out w0 hB0);have hkN:(kN:Int) - 1≤9223372036854775807∧-1≤(kN:Int) - 1:=by omega
  go_enter Tryz.func78,Tryz.ntmps78
  go_wp2_with fail
  rw[← HW0.out];clear HW0;refine HCS.out.mono ?_;rintro e w1 ⟨rfl,hq⟩;replace hq:=hq.symm;subst hq;by_cases hin:nm < (kN:Int)
  case neg=>
   have hv:inB (nm) 0 ((kN:Int) - 1)=false:=ap3 (by omega);have HF:Hid (R=none):=by show _=_;rw[HR.out];exact HNO.out (Int.not_lt.1 hin)
   go_wp2_with fail
   refine(acn hv).mono ?_;rintro e w2 ⟨rfl,hq⟩;replace hq:=hq.symm;subst hq;go_wp2_with fail
   have bN:Blk ((((w0.setCell ⟨w.heap.size+1,0,none⟩ (.int .i64 0)).setCell ⟨w.heap.size+1,1,none⟩ (.string {data:=#[]})).setCell ⟨w.heap.size+1,2,none⟩ (.slice none 0 0)).setCell ⟨w.heap.size+1,3,none⟩ (.slice none 0 0)) (w.heap.size+1) 39 #[.int .i64 0,.string {data:=#[]},.slice none 0 0,.slice none 0 0]:=by
    have:=((((bR.l7 0 (.int .i64 0)).l7 1 (.string {data:=#[]})).l7 2 (.slice none 0 0)).l7 3 (.slice none 0 0));simpa using this
   have n0:=bN.cell 0;have n1:=bN.cell 1;have n2:=bN.cell 2;have n3:=bN.cell 3
   have k1:Below w.heap.size w ((((w0.setCell ⟨w.heap.size+1,0,none⟩ (.int .i64 0)).setCell ⟨w.heap.size+1,1,none⟩ (.string {data:=#[]})).setCell ⟨w.heap.size+1,2,none⟩ (.slice none 0 0)).setCell ⟨w.heap.size+1,3,none⟩ (.slice none 0 0)):=by
    iterate 4 (refine Below.setCell ?_ (by simp) _)
    exact hB0
   have k2:Below B w ((((w0.setCell ⟨w.heap.size+1,0,none⟩ (.int .i64 0)).setCell ⟨w.heap.size+1,1,none⟩ (.string {data:=#[]})).setCell ⟨w.heap.size+1,2,none⟩ (.slice none 0 0)).setCell ⟨w.heap.size+1,3,none⟩ (.slice none 0 0)):=k1.mono hB
   have hpost:apl R B w (.returned (.tuple #[.agg #[.int .i64 0,.string {data:=#[]},.slice none 0 0,.slice none 0 0],.bool false])) ((((w0.setCell ⟨w.heap.size+1,0,none⟩ (.int .i64 0)).setCell ⟨w.heap.size+1,1,none⟩ (.string {data:=#[]})).setCell ⟨w.heap.size+1,2,none⟩ (.slice none 0 0)).setCell ⟨w.heap.size+1,3,none⟩ (.slice none 0 0)):=by
    show ∃ us,_;rw[HF.out];exact⟨[.int .i64 0,.string {data:=#[]},.slice none 0 0,.slice none 0 0],rfl,Ty.close_ ajq ajq,k1⟩
   exact bodyPost_ret (v:=.tuple #[.agg #[.int .i64 0,.string {data:=#[]},.slice none 0 0,.slice none 0 0],.bool false]) (by simp[results,Tryz.results78,go_sem,n0,n1,n2,n3]) rfl hpost
  have hv:inB (nm) 0 ((kN:Int) - 1)=true:=afp (by omega) (by omega);obtain⟨g,off,rfl,hg,hcell⟩:=hat (by omega);obtain⟨j,hj⟩:∃ j:Nat,(j:Int)=nm:=⟨(nm).toNat,by omega⟩;have hjk:j < kN:=by omega
  obtain⟨x,hx,_⟩:=uo HN.out hjk;obtain⟨eu,gq,lq,oq⟩:=x;have HF:Hid (R=some ⟨eu,gq,lq,oq⟩):=by show _=_;rw[HR.out];exact bd1.out j hj ▸ hx
  obtain⟨xl,xk,c0,c1,c2,c3,Rl,Rk⟩:=acs (k:=j) (a0:=off+j * 4) (a1:=off+j * 4+1) (a2:=off+j * 4+2) (a3:=off+j * 4+3) (Below.refl w.heap.size w) hg hB hcell hx ⟨rfl,rfl,rfl,rfl⟩;obtain⟨xlA,xlN,xlC,rfl⟩:=Rl.form;obtain⟨xkA,xkN,xkC,rfl⟩:=Rk.form;have e0:w0.cell? ⟨g,off+j * 4,none⟩=some (.int .i64 eu):=zqk hB0 c0;have e1:w0.cell? ⟨g,off+j * 4+1,none⟩=some (.string gq):=zqk hB0 c1;have e2:w0.cell? ⟨g,off+j * 4+2,none⟩=some (.slice xlA xlN xlC):=zqk hB0 c2;have e3:w0.cell? ⟨g,off+j * 4+3,none⟩=some (.slice xkA xkN xkC):=zqk hB0 c3;have HRl:=zqd Rl;have HRk:=zqd Rk;clear c0 c1 c2 c3 Rl Rk hcell hat hx;have hjt:(nm).toNat=j:=by omega
  have hj0:(0:Int)≤nm:=by omega
  go_wp2_with fail
  refine(acn hv).mono ?_;rintro e w2 ⟨rfl,hq⟩;replace hq:=hq.symm;subst hq;go_wp2_with fail
  have bN:Blk ((((w0.setCell ⟨w.heap.size+1,0,none⟩ (.int .i64 eu)).setCell ⟨w.heap.size+1,1,none⟩ (.string gq)).setCell ⟨w.heap.size+1,2,none⟩ (.slice xlA xlN xlC)).setCell ⟨w.heap.size+1,3,none⟩ (.slice xkA xkN xkC)) (w.heap.size+1) 39 #[.int .i64 eu,.string gq,.slice xlA xlN xlC,.slice xkA xkN xkC]:=by
   have:=((((bR.l7 0 (.int .i64 eu)).l7 1 (.string gq)).l7 2 (.slice xlA xlN xlC)).l7 3 (.slice xkA xkN xkC));simpa using this
  have n0:=bN.cell 0;have n1:=bN.cell 1;have n2:=bN.cell 2;have n3:=bN.cell 3
  have k1:Below w.heap.size w ((((w0.setCell ⟨w.heap.size+1,0,none⟩ (.int .i64 eu)).setCell ⟨w.heap.size+1,1,none⟩ (.string gq)).setCell ⟨w.heap.size+1,2,none⟩ (.slice xlA xlN xlC)).setCell ⟨w.heap.size+1,3,none⟩ (.slice xkA xkN xkC)):=by
   iterate 4 (refine Below.setCell ?_ (by simp) _)
   exact hB0
  have k2:Below B w ((((w0.setCell ⟨w.heap.size+1,0,none⟩ (.int .i64 eu)).setCell ⟨w.heap.size+1,1,none⟩ (.string gq)).setCell ⟨w.heap.size+1,2,none⟩ (.slice xlA xlN xlC)).setCell ⟨w.heap.size+1,3,none⟩ (.slice xkA xkN xkC)):=k1.mono hB
  have hpost:apl R B w (.returned (.tuple #[.agg #[.int .i64 eu,.string gq,.slice xlA xlN xlC,.slice xkA xkN xkC],.bool true])) ((((w0.setCell ⟨w.heap.size+1,0,none⟩ (.int .i64 eu)).setCell ⟨w.heap.size+1,1,none⟩ (.string gq)).setCell ⟨w.heap.size+1,2,none⟩ (.slice xlA xlN xlC)).setCell ⟨w.heap.size+1,3,none⟩ (.slice xkA xkN xkC)):=by
   show ∃ us,_;rw[HF.out];exact⟨[.int .i64 eu,.string gq,.slice xlA xlN xlC,.slice xkA xkN xkC],rfl,Ty.close_ (HRl.out.below k2) (HRk.out.below k2),k1⟩
  exact bodyPost_ret (v:=.tuple #[.agg #[.int .i64 eu,.string gq,.slice xlA xlN xlC,.slice xkA xkN xkC],.bool true]) (by simp[results,Tryz.results78,go_sem,n0,n1,n2,n3]) rfl hpost
 case neg=>
  have bd1:Hid (∀ j:Nat,(j:Int)=num→caseT kind num kids=kids[j]?):=zqd fun j hj=>by rw[caseT,if_neg hk,if_pos h0];congr 1;omega
  have HNO:Hid ((kN:Int)≤num→caseT kind num kids=none):=zqd fun hh=>by rw[caseT,if_neg hk,if_pos h0];exact List.getElem?_eq_none (by have:=HN.out;omega)
  have HCS:=zqd (HSZ.out w0 hB0);have hkN:(kN:Int) - 1≤9223372036854775807∧-1≤(kN:Int) - 1:=by omega
  go_enter Tryz.func78,Tryz.ntmps78
  go_wp2_with fail
  rw[← HW0.out];clear HW0;refine HCS.out.mono ?_;rintro e w1 ⟨rfl,hq⟩;replace hq:=hq.symm;subst hq;by_cases hin:num < (kN:Int)
  case neg=>
   have hv:inB (num) 0 ((kN:Int) - 1)=false:=ap3 (by omega);have HF:Hid (R=none):=by show _=_;rw[HR.out];exact HNO.out (Int.not_lt.1 hin)
   go_wp2_with fail
   refine(acn hv).mono ?_;rintro e w2 ⟨rfl,hq⟩;replace hq:=hq.symm;subst hq;go_wp2_with fail
   have bN:Blk ((((w0.setCell ⟨w.heap.size+1,0,none⟩ (.int .i64 0)).setCell ⟨w.heap.size+1,1,none⟩ (.string {data:=#[]})).setCell ⟨w.heap.size+1,2,none⟩ (.slice none 0 0)).setCell ⟨w.heap.size+1,3,none⟩ (.slice none 0 0)) (w.heap.size+1) 39 #[.int .i64 0,.string {data:=#[]},.slice none 0 0,.slice none 0 0]:=by
    have:=((((bR.l7 0 (.int .i64 0)).l7 1 (.string {data:=#[]})).l7 2 (.slice none 0 0)).l7 3 (.slice none 0 0));simpa using this
   have n0:=bN.cell 0;have n1:=bN.cell 1;have n2:=bN.cell 2;have n3:=bN.cell 3
   have k1:Below w.heap.size w ((((w0.setCell ⟨w.heap.size+1,0,none⟩ (.int .i64 0)).setCell ⟨w.heap.size+1,1,none⟩ (.string {data:=#[]})).setCell ⟨w.heap.size+1,2,none⟩ (.slice none 0 0)).setCell ⟨w.heap.size+1,3,none⟩ (.slice none 0 0)):=by
    iterate 4 (refine Below.setCell ?_ (by simp) _)
    exact hB0
   have k2:Below B w ((((w0.setCell ⟨w.heap.size+1,0,none⟩ (.int .i64 0)).setCell ⟨w.heap.size+1,1,none⟩ (.string {data:=#[]})).setCell ⟨w.heap.size+1,2,none⟩ (.slice none 0 0)).setCell ⟨w.heap.size+1,3,none⟩ (.slice none 0 0)):=k1.mono hB
   have hpost:apl R B w (.returned (.tuple #[.agg #[.int .i64 0,.string {data:=#[]},.slice none 0 0,.slice none 0 0],.bool false])) ((((w0.setCell ⟨w.heap.size+1,0,none⟩ (.int .i64 0)).setCell ⟨w.heap.size+1,1,none⟩ (.string {data:=#[]})).setCell ⟨w.heap.size+1,2,none⟩ (.slice none 0 0)).setCell ⟨w.heap.size+1,3,none⟩ (.slice none 0 0)):=by
    show ∃ us,_;rw[HF.out];exact⟨[.int .i64 0,.string {data:=#[]},.slice none 0 0,.slice none 0 0],rfl,Ty.close_ ajq ajq,k1⟩
   exact bodyPost_ret (v:=.tuple #[.agg #[.int .i64 0,.string {data:=#[]},.slice none 0 0,.slice none 0 0],.bool false]) (by simp[results,Tryz.results78,go_sem,n0,n1,n2,n3]) rfl hpost
  have hv:inB (num) 0 ((kN:Int) - 1)=true:=afp (by omega) (by omega);obtain⟨g,off,rfl,hg,hcell⟩:=hat (by omega);obtain⟨j,hj⟩:∃ j:Nat,(j:Int)=num:=⟨(num).toNat,by omega⟩;have hjk:j < kN:=by omega
  obtain⟨x,hx,_⟩:=uo HN.out hjk;obtain⟨eu,gq,lq,oq⟩:=x;have HF:Hid (R=some ⟨eu,gq,lq,oq⟩):=by show _=_;rw[HR.out];exact bd1.out j hj ▸ hx
  obtain⟨xl,xk,c0,c1,c2,c3,Rl,Rk⟩:=acs (k:=j) (a0:=off+j * 4) (a1:=off+j * 4+1) (a2:=off+j * 4+2) (a3:=off+j * 4+3) (Below.refl w.heap.size w) hg hB hcell hx ⟨rfl,rfl,rfl,rfl⟩;obtain⟨xlA,xlN,xlC,rfl⟩:=Rl.form;obtain⟨xkA,xkN,xkC,rfl⟩:=Rk.form;have e0:w0.cell? ⟨g,off+j * 4,none⟩=some (.int .i64 eu):=zqk hB0 c0;have e1:w0.cell? ⟨g,off+j * 4+1,none⟩=some (.string gq):=zqk hB0 c1;have e2:w0.cell? ⟨g,off+j * 4+2,none⟩=some (.slice xlA xlN xlC):=zqk hB0 c2;have e3:w0.cell? ⟨g,off+j * 4+3,none⟩=some (.slice xkA xkN xkC):=zqk hB0 c3;have HRl:=zqd Rl;have HRk:=zqd Rk;clear c0 c1 c2 c3 Rl Rk hcell hat hx;have hjt:(num).toNat=j:=by omega
  have hj0:(0:Int)≤num:=by omega
  go_wp2_with fail
  refine(acn hv).mono ?_;rintro e w2 ⟨rfl,hq⟩;replace hq:=hq.symm;subst hq;go_wp2_with fail
  have bN:Blk ((((w0.setCell ⟨w.heap.size+1,0,none⟩ (.int .i64 eu)).setCell ⟨w.heap.size+1,1,none⟩ (.string gq)).setCell ⟨w.heap.size+1,2,none⟩ (.slice xlA xlN xlC)).setCell ⟨w.heap.size+1,3,none⟩ (.slice xkA xkN xkC)) (w.heap.size+1) 39 #[.int .i64 eu,.string gq,.slice xlA xlN xlC,.slice xkA xkN xkC]:=by
   have:=((((bR.l7 0 (.int .i64 eu)).l7 1 (.string gq)).l7 2 (.slice xlA xlN xlC)).l7 3 (.slice xkA xkN xkC));simpa using this
  have n0:=bN.cell 0;have n1:=bN.cell 1;have n2:=bN.cell 2;have n3:=bN.cell 3
  have k1:Below w.heap.size w ((((w0.setCell ⟨w.heap.size+1,0,none⟩ (.int .i64 eu)).setCell ⟨w.heap.size+1,1,none⟩ (.string gq)).setCell ⟨w.heap.size+1,2,none⟩ (.slice xlA xlN xlC)).setCell ⟨w.heap.size+1,3,none⟩ (.slice xkA xkN xkC)):=by
   iterate 4 (refine Below.setCell ?_ (by simp) _)
   exact hB0
  have k2:Below B w ((((w0.setCell ⟨w.heap.size+1,0,none⟩ (.int .i64 eu)).setCell ⟨w.heap.size+1,1,none⟩ (.string gq)).setCell ⟨w.heap.size+1,2,none⟩ (.slice xlA xlN xlC)).setCell ⟨w.heap.size+1,3,none⟩ (.slice xkA xkN xkC)):=k1.mono hB
  have hpost:apl R B w (.returned (.tuple #[.agg #[.int .i64 eu,.string gq,.slice xlA xlN xlC,.slice xkA xkN xkC],.bool true])) ((((w0.setCell ⟨w.heap.size+1,0,none⟩ (.int .i64 eu)).setCell ⟨w.heap.size+1,1,none⟩ (.string gq)).setCell ⟨w.heap.size+1,2,none⟩ (.slice xlA xlN xlC)).setCell ⟨w.heap.size+1,3,none⟩ (.slice xkA xkN xkC)):=by
   show ∃ us,_;rw[HF.out];exact⟨[.int .i64 eu,.string gq,.slice xlA xlN xlC,.slice xkA xkN xkC],rfl,Ty.close_ (HRl.out.below k2) (HRk.out.below k2),k1⟩
  exact bodyPost_ret (v:=.tuple #[.agg #[.int .i64 eu,.string gq,.slice xlA xlN xlC,.slice xkA xkN xkC],.bool true]) (by simp[results,Tryz.results78,go_sem,n0,n1,n2,n3]) rfl hpost
def byq (ts:List Ty) (w:World) (e:Ending) (w':World):Prop:=∃ u,e=.returned (.tuple #[u,.bool true])∧Rep w' w'.heap.size (.row 4 (ts.flatMap Ty.pd)) u∧Below w.heap.size w w'
def atc (B:Nat) (ts:List Ty) (w:World) (e:Ending) (w':World):Prop:=∃ u,e=.returned (.tuple #[u,.bool true])∧ag0 w' B w.heap.size 4 (ts.flatMap Ty.pd) u∧Below w.heap.size w w'
theorem row_one {W:World} {B G lo:Nat} {t:Ty} {us:List Value} (hb:Blk W G 39 us.toArray) (hlo:lo≤G) (h:jq W B (Ty.pd t) us):ag0 W B lo 4 ([t].flatMap Ty.pd) (.slice (some ⟨G,0,none⟩) 1 1):=by
 have hl:=Ty.ay t;refine⟨_,_,_,rfl,by rw[List.flatMap_cons,List.flatMap_nil,List.append_nil,hl],by unfold maxLen;omega,fun _=>⟨G,0,rfl,.inr hlo,hb.lt,fun j x hx=>?_⟩⟩;rw[List.flatMap_cons,List.flatMap_nil,List.append_nil] at hx;have hj:=(List.getElem?_eq_some_iff.1 hx).1;have hj2:j < us.length:=by rw[← h.1];exact hj
 refine⟨us[j],?_,h.2 j x _ hx (List.getElem?_eq_getElem hj2)⟩;rw[Nat.zero_add,hb.cell j,List.getElem?_toArray,List.getElem?_eq_getElem hj2]
set_option maxHeartbeats 6400000 in
theorem ag1 (vk vn:Int) (vt:ByteArray) (vks:List Val) (kind:Int) (name:ByteArray) (labels:List ByteArray) (kids:List Ty) (hok:Ty.shapes ⟨kind,name,labels,kids⟩=true) (hc:(kind=13∨kind=14∨kind=17)→(0≤vn∧vn≤4611686018427387904)∧∃ s,caseT kind vn kids=some s)
  {B:Nat} {cs ds:List Value} {w:World} (hB:B≤w.heap.size) (hv:jq w B (Val.pd ⟨vk,vn,vt,vks⟩) cs) (h:jq w B (Ty.pd ⟨kind,name,labels,kids⟩) ds):
  Calls Tryz.prog 45 #[.agg cs.toArray,.agg ds.toArray] w fun e w'=>atc B (og kind vn vks.length kids) w e w':=by
 obtain⟨L,hL⟩:∃ L,L=og kind vn vks.length kids:=⟨_,rfl⟩;rw[← hL];have HL:=zqd hL;have HIN:=av1 hok;have HSH:=zqd (shF hok);clear hL hok;obtain⟨adx,rfl,r_v⟩:=Val.open_ hv;obtain⟨vA,vN,vC,rfl⟩:=r_v.form;obtain⟨iy,iw,rfl,r_l,r_k⟩:=Ty.open_ h;obtain⟨lA,lN,lC,rfl⟩:=r_l.form;obtain⟨kA,kN,kC,rfl⟩:=r_k.form;have hvl:vN=vks.length:=by obtain⟨A',n',c',he,hnl,_⟩:=bf Val.ay (by decide) r_v;injection he with e1 e2 e3;omega
 have hvm:vN≤maxLen:=by obtain⟨A',n',c',he,_,hm,_⟩:=bf Val.ay (by decide) r_v;injection he with e1 e2 e3;omega
 have hll:lN=labels.length:=by obtain⟨A',n',c',he,hnl,_⟩:=bf jo (by decide) r_l;injection he with e1 e2 e3;omega
 have hkl:kN=kids.length:=by obtain⟨A',n',c',he,hnl,_⟩:=bf Ty.ay (by decide) r_k;injection he with e1 e2 e3;omega
 unfold maxLen at hvm;have RV:=zqd r_v;have RL:=zqd r_l;have RK:=zqd r_k;have HVL:=zqd hvl;have HLL:=zqd hll;have HKL:=zqd hkl;clear hv h r_v r_l r_k hvl hll hkl;obtain⟨w0,hw0⟩:∃ V,V=(w.alloc (.cells #[.int .i64 vk,.int .i64 vn,.string vt,.slice vA vN vC] 33)).alloc (.cells #[.int .i64 kind,.string name,.slice lA lN lC,.slice kA kN kC] 39):=⟨_,rfl⟩;have bV:Blk w0 w.heap.size 33 #[.int .i64 vk,.int .i64 vn,.string vt,.slice vA vN vC]:=by rw[hw0];exact(Blk.new w _ _).alloc _
 have bT:=zn21 hw0;have hB0:Below w.heap.size w w0:=by rw[hw0];exact((zqf _ _).alloc (zql _) _).alloc (by simp) _
 have HW0:=zqd hw0;clear hw0;obtain⟨v0,v1,v2,v3⟩:=zc4 bV;obtain⟨t0,t1,t2,t3⟩:=zc4 bT;have bdz:=zqd (fun(V:World) (hV:Below w.heap.size w V)=>Ty.close_ (kind:=kind) (name:=name) (RL.out.below (hV.mono hB)) (RK.out.below (hV.mono hB)));by_cases h12:kind=12
 case pos=>
  subst h12;have h1:=ade (.inl rfl) HSH.out.right;obtain⟨k0,rfl⟩:∃ k0,kids=[k0]:=by match kids,h1 with|[x],_=>exact⟨x,rfl⟩
  have HF:Hid (L=List.replicate (min vN 8) k0):=by show _=_;rw[HL.out,amb,HVL.out]
  obtain⟨m,hm⟩:∃ m,m=min vN 8:=⟨_,rfl⟩;have hmin:min (vN:Int) 8=(m:Int):=by rw[hm];omega
  have hm8:m≤8:=by rw[hm];omega
  rw[← hm] at HF;have HRP:=zqd (a2p k0 m hm8 (Nat.le_trans hB hB0.size) (RK.out.below (hB0.mono hB)));clear hm h1;go_enter Tryz.func45,Tryz.ntmps45
  go_wp2_with fail
  rw[← HW0.out];clear HW0;refine HRP.out.mono ?_;rintro e w1 ⟨u,rfl,hu,hb1⟩;obtain⟨uA,uN,uC,rfl⟩:=hu.form;have HU:=zqd hu;have hB1:=hB0.trans (hb1.mono hB0.size);clear hu;go_wp2_with fail
  go_ret2
  exact⟨_,rfl,by rw[HF.out];exact HU.out.low hB0.size,hB1⟩
 by_cases h15:kind=15∨kind=16
 case pos=>
  have HF:Hid (L=kids):=by show _=_;rw[HL.out,agz h15]
  rcases h15 with rfl|rfl
  ·go_enter Tryz.func45,Tryz.ntmps45
   go_wp2_with fail
   rw[← HW0.out];go_ret2
   exact⟨_,rfl,by rw[HF.out];exact ag0.a5s (RK.out.below (hB0.mono hB)) (Nat.le_trans hB hB0.size),hB0⟩
  ·go_enter Tryz.func45,Tryz.ntmps45
   go_wp2_with fail
   rw[← HW0.out];go_ret2
   exact⟨_,rfl,by rw[HF.out];exact ag0.a5s (RK.out.below (hB0.mono hB)) (Nat.le_trans hB hB0.size),hB0⟩
 by_cases h13:kind=13∨kind=14∨kind=17
 case pos=>
  obtain⟨⟨hn0,hn1⟩,s,hs⟩:=hc h13;have HF:Hid (L=if s.kind=1 then [] else [s]):=by show _=_;rw[HL.out,og,if_neg h12,if_neg h15,if_pos h13,hs];rfl
  have HCT:=zqd (azs ⟨kind,name,labels,kids⟩ vn hn0 hn1 (w:=w0) (Nat.le_trans hB hB0.size) (bdz.out w0 hB0));rw[show caseT (Ty.kind ⟨kind,name,labels,kids⟩) vn (Ty.kids ⟨kind,name,labels,kids⟩)=some s from hs] at HCT;clear h12 h15 hc hs;obtain⟨aas,aa8,adp,aeh⟩:=s;have HFK:Hid (L=if aas=1 then [] else [⟨aas,aa8,adp,aeh⟩]):=HF.out;clear HF;rcases h13 with rfl|rfl|rfl
  ·go_enter Tryz.func45,Tryz.ntmps45
   go_wp2_with fail
   rw[← HW0.out];clear HW0;refine HCT.out.mono ?_;rintro e w1 ⟨us,rfl,hus,hb1⟩;have hB1:=hB0.trans (hb1.mono hB0.size);clear v0 v1 v2 v3 t0 t1 t2 t3;obtain⟨slV,skV,rfl,aql,aqm⟩:=Ty.open_ (show jq w1 B (Ty.pd ⟨aas,aa8,adp,aeh⟩) us from hus);obtain⟨slA,slN,slC,rfl⟩:=aql.form;obtain⟨skA,skN,skC,rfl⟩:=aqm.form;have HUS:=zqd hus;clear hus aql aqm;obtain⟨w2,hw2⟩:=zqe w1 39 #[.int .i64 aas,.string aa8,.slice slA slN slC,.slice skA skN skC];have bS:=zqn hw2;have hb2:=zqb hw2;have hB2:=hB1.trans (hb2.mono hB1.size);have aqn:Hid (jq w2 B (Ty.pd ⟨aas,aa8,adp,aeh⟩) [.int .i64 aas,.string aa8,.slice slA slN slC,.slice skA skN skC]):=zqd (HUS.out.below (hb2.mono (Nat.le_trans hB hB1.size)));obtain⟨s0,s1,s2,s3⟩:=zc4 bS;have HIU:=zqd (am1 ⟨aas,aa8,adp,aeh⟩ aqn.out);obtain⟨b,hb⟩:∃ b,Ty.isUnit ⟨aas,aa8,adp,aeh⟩=b:=⟨_,rfl⟩;rw[hb] at HIU;have HBS:=zqd bS;have HB2:=zqd hB2;clear bS hb2 hB2;subst hw2;go_wp2_with fail
   refine HIU.out.mono ?_;rintro e w3 ⟨rfl,hb3⟩;have hB3:=HB2.out.trans (hb3.mono HB2.out.size);have bS3:=HBS.out.step hb3;clear s0 s1 s2 s3;obtain⟨s0,s1,s2,s3⟩:=zc4 bS3;cases b
   case true=>
    have hk1:aas=1:=by simpa [Ty.isUnit,Ty.kind] using hb
    have HF:Hid (L=[]):=by show _=_;rw[HFK.out,if_pos hk1]
    clear hk1 hb;go_wp2_with fail
    go_ret2
    exact⟨_,rfl,by rw[HF.out];exact ag0.nil,hB3⟩
   case false=>
    have hk1:¬ aas=1:=by simpa [Ty.isUnit,Ty.kind] using hb
    have HF:Hid (L=[⟨aas,aa8,adp,aeh⟩]):=by show _=_;rw[HFK.out,if_neg hk1]
    clear hk1 hb;have azt:Hid (jq w3 B (Ty.pd ⟨aas,aa8,adp,aeh⟩) [.int .i64 aas,.string aa8,.slice slA slN slC,.slice skA skN skC]):=zqd (aqn.out.below (hb3.mono (Nat.le_trans hB HB2.out.size)))
    have azu:Hid (atc B L w (.returned (.tuple #[.slice (some ⟨w3.heap.size,0,none⟩) 1 1,.bool true])) (w3.alloc (.cells #[.int .i64 aas,.string aa8,.slice slA slN slC,.slice skA skN skC] 39))):=by
     show atc _ _ _ _ _;have h4:Below w3.heap.size w3 (w3.alloc (.cells #[.int .i64 aas,.string aa8,.slice slA slN slC,.slice skA skN skC] 39)):=(zqf _ _).alloc (zql _) _;rw[HF.out];exact⟨_,rfl,row_one (us:=[.int .i64 aas,.string aa8,.slice slA slN slC,.slice skA skN skC]) (Blk.new w3 _ _) hB3.size (azt.out.below (h4.mono (Nat.le_trans hB hB3.size))),hB3.trans (h4.mono hB3.size)⟩
    go_wp2_with fail
    go_ret2
    exact azu.out
  ·go_enter Tryz.func45,Tryz.ntmps45
   go_wp2_with fail
   rw[← HW0.out];clear HW0;refine HCT.out.mono ?_;rintro e w1 ⟨us,rfl,hus,hb1⟩;have hB1:=hB0.trans (hb1.mono hB0.size);clear v0 v1 v2 v3 t0 t1 t2 t3;obtain⟨slV,skV,rfl,aql,aqm⟩:=Ty.open_ (show jq w1 B (Ty.pd ⟨aas,aa8,adp,aeh⟩) us from hus);obtain⟨slA,slN,slC,rfl⟩:=aql.form;obtain⟨skA,skN,skC,rfl⟩:=aqm.form;have HUS:=zqd hus;clear hus aql aqm;obtain⟨w2,hw2⟩:=zqe w1 39 #[.int .i64 aas,.string aa8,.slice slA slN slC,.slice skA skN skC];have bS:=zqn hw2;have hb2:=zqb hw2;have hB2:=hB1.trans (hb2.mono hB1.size);have aqn:Hid (jq w2 B (Ty.pd ⟨aas,aa8,adp,aeh⟩) [.int .i64 aas,.string aa8,.slice slA slN slC,.slice skA skN skC]):=zqd (HUS.out.below (hb2.mono (Nat.le_trans hB hB1.size)));obtain⟨s0,s1,s2,s3⟩:=zc4 bS;have HIU:=zqd (am1 ⟨aas,aa8,adp,aeh⟩ aqn.out);obtain⟨b,hb⟩:∃ b,Ty.isUnit ⟨aas,aa8,adp,aeh⟩=b:=⟨_,rfl⟩;rw[hb] at HIU;have HBS:=zqd bS;have HB2:=zqd hB2;clear bS hb2 hB2;subst hw2;go_wp2_with fail
   refine HIU.out.mono ?_;rintro e w3 ⟨rfl,hb3⟩;have hB3:=HB2.out.trans (hb3.mono HB2.out.size);have bS3:=HBS.out.step hb3;clear s0 s1 s2 s3;obtain⟨s0,s1,s2,s3⟩:=zc4 bS3;cases b
   case true=>
    have hk1:aas=1:=by simpa [Ty.isUnit,Ty.kind] using hb
    have HF:Hid (L=[]):=by show _=_;rw[HFK.out,if_pos hk1]
    clear hk1 hb;go_wp2_with fail
    go_ret2
    exact⟨_,rfl,by rw[HF.out];exact ag0.nil,hB3⟩
   case false=>
    have hk1:¬ aas=1:=by simpa [Ty.isUnit,Ty.kind] using hb
    have HF:Hid (L=[⟨aas,aa8,adp,aeh⟩]):=by show _=_;rw[HFK.out,if_neg hk1]
    clear hk1 hb;have azt:Hid (jq w3 B (Ty.pd ⟨aas,aa8,adp,aeh⟩) [.int .i64 aas,.string aa8,.slice slA slN slC,.slice skA skN skC]):=zqd (aqn.out.below (hb3.mono (Nat.le_trans hB HB2.out.size)))
    have azu:Hid (atc B L w (.returned (.tuple #[.slice (some ⟨w3.heap.size,0,none⟩) 1 1,.bool true])) (w3.alloc (.cells #[.int .i64 aas,.string aa8,.slice slA slN slC,.slice skA skN skC] 39))):=by
     show atc _ _ _ _ _;have h4:Below w3.heap.size w3 (w3.alloc (.cells #[.int .i64 aas,.string aa8,.slice slA slN slC,.slice skA skN skC] 39)):=(zqf _ _).alloc (zql _) _;rw[HF.out];exact⟨_,rfl,row_one (us:=[.int .i64 aas,.string aa8,.slice slA slN slC,.slice skA skN skC]) (Blk.new w3 _ _) hB3.size (azt.out.below (h4.mono (Nat.le_trans hB hB3.size))),hB3.trans (h4.mono hB3.size)⟩
    go_wp2_with fail
    go_ret2
    exact azu.out
  ·go_enter Tryz.func45,Tryz.ntmps45
   go_wp2_with fail
   rw[← HW0.out];clear HW0;refine HCT.out.mono ?_;rintro e w1 ⟨us,rfl,hus,hb1⟩;have hB1:=hB0.trans (hb1.mono hB0.size);clear v0 v1 v2 v3 t0 t1 t2 t3;obtain⟨slV,skV,rfl,aql,aqm⟩:=Ty.open_ (show jq w1 B (Ty.pd ⟨aas,aa8,adp,aeh⟩) us from hus);obtain⟨slA,slN,slC,rfl⟩:=aql.form;obtain⟨skA,skN,skC,rfl⟩:=aqm.form;have HUS:=zqd hus;clear hus aql aqm;obtain⟨w2,hw2⟩:=zqe w1 39 #[.int .i64 aas,.string aa8,.slice slA slN slC,.slice skA skN skC];have bS:=zqn hw2;have hb2:=zqb hw2;have hB2:=hB1.trans (hb2.mono hB1.size);have aqn:Hid (jq w2 B (Ty.pd ⟨aas,aa8,adp,aeh⟩) [.int .i64 aas,.string aa8,.slice slA slN slC,.slice skA skN skC]):=zqd (HUS.out.below (hb2.mono (Nat.le_trans hB hB1.size)));obtain⟨s0,s1,s2,s3⟩:=zc4 bS;have HIU:=zqd (am1 ⟨aas,aa8,adp,aeh⟩ aqn.out);obtain⟨b,hb⟩:∃ b,Ty.isUnit ⟨aas,aa8,adp,aeh⟩=b:=⟨_,rfl⟩;rw[hb] at HIU;have HBS:=zqd bS;have HB2:=zqd hB2;clear bS hb2 hB2;subst hw2;go_wp2_with fail
   refine HIU.out.mono ?_;rintro e w3 ⟨rfl,hb3⟩;have hB3:=HB2.out.trans (hb3.mono HB2.out.size);have bS3:=HBS.out.step hb3;clear s0 s1 s2 s3;obtain⟨s0,s1,s2,s3⟩:=zc4 bS3;cases b
   case true=>
    have hk1:aas=1:=by simpa [Ty.isUnit,Ty.kind] using hb
    have HF:Hid (L=[]):=by show _=_;rw[HFK.out,if_pos hk1]
    clear hk1 hb;go_wp2_with fail
    go_ret2
    exact⟨_,rfl,by rw[HF.out];exact ag0.nil,hB3⟩
   case false=>
    have hk1:¬ aas=1:=by simpa [Ty.isUnit,Ty.kind] using hb
    have HF:Hid (L=[⟨aas,aa8,adp,aeh⟩]):=by show _=_;rw[HFK.out,if_neg hk1]
    clear hk1 hb;have azt:Hid (jq w3 B (Ty.pd ⟨aas,aa8,adp,aeh⟩) [.int .i64 aas,.string aa8,.slice slA slN slC,.slice skA skN skC]):=zqd (aqn.out.below (hb3.mono (Nat.le_trans hB HB2.out.size)))
    have azu:Hid (atc B L w (.returned (.tuple #[.slice (some ⟨w3.heap.size,0,none⟩) 1 1,.bool true])) (w3.alloc (.cells #[.int .i64 aas,.string aa8,.slice slA slN slC,.slice skA skN skC] 39))):=by
     show atc _ _ _ _ _;have h4:Below w3.heap.size w3 (w3.alloc (.cells #[.int .i64 aas,.string aa8,.slice slA slN slC,.slice skA skN skC] 39)):=(zqf _ _).alloc (zql _) _;rw[HF.out];exact⟨_,rfl,row_one (us:=[.int .i64 aas,.string aa8,.slice slA slN slC,.slice skA skN skC]) (Blk.new w3 _ _) hB3.size (azt.out.below (h4.mono (Nat.le_trans hB hB3.size))),hB3.trans (h4.mono hB3.size)⟩
    go_wp2_with fail
    go_ret2
    exact azu.out
 have HF:Hid (L=[]):=by show _=_;rw[HL.out,og,if_neg h12,if_neg h15,if_neg h13]
 have n13:¬ kind=13:=fun e=>h13 (.inl e);have n14:¬ kind=14:=fun e=>h13 (.inr (.inl e));have n17:¬ kind=17:=fun e=>h13 (.inr (.inr e));have n15:¬ kind=15:=fun e=>h15 (.inl e);have n16:¬ kind=16:=fun e=>h15 (.inr e);clear h13 h15 hc;go_enter Tryz.func45,Tryz.ntmps45
 go_wp2_with fail
 rw[← HW0.out];go_ret2
 exact⟨_,rfl,by rw[HF.out];exact ag0.nil,hB0⟩
theorem azv (vk vn:Int) (vt:ByteArray) (vks:List Val) (kind:Int) (name:ByteArray) (labels:List ByteArray) (kids:List Ty) (hok:Ty.shapes ⟨kind,name,labels,kids⟩=true) (hc:(kind=13∨kind=14∨kind=17)→(0≤vn∧vn≤4611686018427387904)∧∃ s,caseT kind vn kids=some s)
  {B:Nat} {cs ds:List Value} {w:World} (hB:B≤w.heap.size) (hv:jq w B (Val.pd ⟨vk,vn,vt,vks⟩) cs) (h:jq w B (Ty.pd ⟨kind,name,labels,kids⟩) ds):
  Calls Tryz.prog 45 #[.agg cs.toArray,.agg ds.toArray] w fun e w'=>byq (og kind vn vks.length kids) w e w':=
 (ag1 vk vn vt vks kind name labels kids hok hc hB hv h).mono fun e w' q=>by
  obtain⟨u,h1,h2,h3⟩:=q;exact⟨u,h1,h2.rep (Nat.le_trans hB h3.size),h3⟩
end Go.Proofs.YtfpannkadjdnaaaGreatDoor
