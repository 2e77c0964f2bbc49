/-
  The first reason between two rows of interfaces: impl.faceOf, impl.whyNotFaces (by program: gen_wde.py) (by program: gen_why.py).
-/
import Derived.Test.YtbafphecjijdmaaGreatDoorUb48
import Derived.Deep.Cut
import Derived.Deep.CutRange
namespace Go.Proofs.YtbafphecjijdmaaGreatDoor
open Go.RowKit
set_option linter.all false
set_option maxRecDepth 16000
def a9x (fs:List cu) (p n:ByteArray) (B:Nat) (w:World) (e:Ending) (w':World):Prop:=
 Below w.heap.size w w'∧(((∀ (j:Nat) (y:cu),fs[j]?=some y→¬ (y.package=p∧y.name=n))∧e=.returned (.tuple #[.agg #[.string {data:=#[]},.string {data:=#[]},.string {data:=#[]},.slice none 0 0,.slice none 0 0],.bool false]))∨
  ∃ (j:Nat) (y:cu) (us:List Value),fs[j]?=some y∧(y.package=p∧y.name=n)∧(∀ (i:Nat) (z:cu),i < j→fs[i]?=some z→¬ (z.package=p∧z.name=n))∧e=.returned (.tuple #[.agg us.toArray,.bool true])∧lq w' B (cu.pd y) us)
set_option maxHeartbeats 3200000 in
theorem bfc (fs:List cu) (p n:ByteArray) {B:Nat} {v:Value} {w:World} (hB:B≤w.heap.size) (h:Rep w B (.row 5 (fs.flatMap cu.pd)) v):
  Calls Tryz.prog 76 #[v,.string p,.string n] w fun e w'=>a9x fs p n B w e w':=by
 have HFQ:Hid (∀ (e:Ending) (w':World),a9x fs p n B w e w'→a9x fs p n B w e w'):=zqd fun _ _ h=>h
 obtain⟨A,m,c,rfl,hnl,hm,hat⟩:=ni cu.jd (by decide) h
 unfold maxLen at hm
 have HN:=zqd hnl
 clear h hnl
 obtain⟨w0,hw0⟩:=zqe w 30 #[.string {data:=#[]},.string {data:=#[]},.string {data:=#[]},.slice none 0 0,.slice none 0 0]
 have bR0:=zqn hw0
 have hB0:=zqb hw0
 have HW0:=zqd hw0
 clear hw0
 go_enter Tryz.func76,Tryz.ntmps76
 go_wp2_with fail
 rw[← HW0.out]
 clear HW0
 go_loopw [12] (fun i wr=>∃ k:Nat,k≤m∧i=.int .i64 k∧Hid (∀ (q:Nat) (y:cu),q < k→fs[q]?=some y→¬ (y.package=p∧y.name=n))∧Below w0.heap.size w0 wr) (fun i _=>m - (intOf i).toNat)
 case atStart=>exact⟨0,Nat.zero_le _,rfl,zqd fun q y h=>absurd h (by omega),zqf _ _⟩
 case round=>
  obtain⟨k,hk,rfl,HP,hbr⟩:=hrel
  have hBr:=hB0.trans (hbr.mono hB0.size)
  have hsr:=hbr.size
  have bRr:=bR0.step hbr
  have hlR:=bRr.lt
  by_cases hlt:k < m
  case neg=>
   have HF:Hid (∀ (j:Nat) (y:cu),fs[j]?=some y→¬ (y.package=p∧y.name=n)):=zqd fun j y hj=>HP.out j y (by have:=(List.getElem?_eq_some_iff.1 hj).1;have:=HN.out;omega) hj
   have f0:=bRr.frozen 0
   have z0:wr.cell? ⟨w.heap.size,0,none⟩=some (.string {data:=#[]}):=bRr.cell 0
   have f1:=bRr.frozen 1
   have z1:wr.cell? ⟨w.heap.size,1,none⟩=some (.string {data:=#[]}):=bRr.cell 1
   have f2:=bRr.frozen 2
   have z2:wr.cell? ⟨w.heap.size,2,none⟩=some (.string {data:=#[]}):=bRr.cell 2
   have f3:=bRr.frozen 3
   have z3:wr.cell? ⟨w.heap.size,3,none⟩=some (.slice none 0 0):=bRr.cell 3
   have f4:=bRr.frozen 4
   have z4:wr.cell? ⟨w.heap.size,4,none⟩=some (.slice none 0 0):=bRr.cell 4
   go_wp2_with fail
   have bN:Blk ((((((wr.setCell ⟨w.heap.size,0,none⟩ (.string {data:=#[]})).setCell ⟨w.heap.size,1,none⟩ (.string {data:=#[]})).setCell ⟨w.heap.size,2,none⟩ (.string {data:=#[]})).setCell ⟨w.heap.size,3,none⟩ (.slice none 0 0)).setCell ⟨w.heap.size,4,none⟩ (.slice none 0 0))) w.heap.size 30 #[.string {data:=#[]},.string {data:=#[]},.string {data:=#[]},.slice none 0 0,.slice none 0 0]:=by
    have:=(((((bRr.aam 0 (.string {data:=#[]})).aam 1 (.string {data:=#[]})).aam 2 (.string {data:=#[]})).aam 3 (.slice none 0 0)).aam 4 (.slice none 0 0))
    simpa using this
   have n0:=bN.cell 0
   have n1:=bN.cell 1
   have n2:=bN.cell 2
   have n3:=bN.cell 3
   have n4:=bN.cell 4
   have hpost:a9x fs p n B w (.returned (.tuple #[.agg #[.string {data:=#[]},.string {data:=#[]},.string {data:=#[]},.slice none 0 0,.slice none 0 0],.bool false])) ((((((wr.setCell ⟨w.heap.size,0,none⟩ (.string {data:=#[]})).setCell ⟨w.heap.size,1,none⟩ (.string {data:=#[]})).setCell ⟨w.heap.size,2,none⟩ (.string {data:=#[]})).setCell ⟨w.heap.size,3,none⟩ (.slice none 0 0)).setCell ⟨w.heap.size,4,none⟩ (.slice none 0 0))):=by
    refine⟨?_,.inl ⟨HF.out,rfl⟩⟩
    iterate 5 (refine Below.setCell ?_ (by simp) _)
    exact hBr
   exact bodyPost_ret (v:=.tuple #[.agg #[.string {data:=#[]},.string {data:=#[]},.string {data:=#[]},.slice none 0 0,.slice none 0 0],.bool false]) (by simp[results,Tryz.results76,go_sem,n0,n1,n2,n3,n4]) rfl hpost
  obtain⟨g,off,rfl,hg2,hcell2⟩:=hat (by omega)
  obtain⟨t2,hx2,ab1⟩:=um HN.out hlt
  obtain⟨lu,name2,tq,ac3,afj⟩:=t2
  have ah5:wr.cell? ⟨g,off+k * 5,none⟩=some (.string lu):=bg hBr (by omega) (hcell2 k 0 _ _ hx2 (by rw[cu.aj];rfl))
  have ad5:wr.cell? ⟨g,off+k * 5+1,none⟩=some (.string name2):=bg hBr (by omega) (hcell2 k 1 _ _ hx2 (by rw[cu.aj];rfl))
  have aiu:wr.cell? ⟨g,off+k * 5+2,none⟩=some (.string tq):=bg hBr (by omega) (hcell2 k 2 _ _ hx2 (by rw[cu.aj];rfl))
  obtain⟨aou,ahj,ae5⟩:∃ u,wr.cell? ⟨g,off+k * 5+3,none⟩=some u∧Rep wr B (.row 1 (ac3.flatMap qj)) u:=jc hBr (by omega) hB (hcell2 k 3 _ _ hx2 (by rw[cu.aj];rfl))
  have aej:=zqd ae5
  clear ae5
  obtain⟨aw2,akz,ahk⟩:∃ u,wr.cell? ⟨g,off+k * 5+4,none⟩=some u∧Rep wr B (.row 7 (afj.flatMap Fun.pd)) u:=jc hBr (by omega) hB (hcell2 k 4 _ _ hx2 (by rw[cu.aj];rfl))
  have agk:=zqd ahk
  clear ahk
  obtain⟨uo,uq,uw,rfl⟩:=aej.out.form
  obtain⟨abd,abe,abf,rfl⟩:=agk.out.form
  have HX2:=zqd hx2
  have HM2:=zqd ab1
  clear hx2 ab1
  clear hcell2
  obtain⟨wb,hwb⟩:=zqe wr 30 #[.string lu,.string name2,.string tq,.slice uo uq uw,.slice abd abe abf]
  have bE:=zqn hwb
  have hbb:=zqb hwb
  have hBb:=hBr.trans (hbb.mono hBr.size)
  have bRb:=bRr.step hbb
  obtain⟨e0,e1,e2,e3,e4⟩:=zc5 bE
  have f0:=bRr.frozen 0
  have z0:wr.cell? ⟨w.heap.size,0,none⟩=some (.string {data:=#[]}):=bRr.cell 0
  have f1:=bRr.frozen 1
  have z1:wr.cell? ⟨w.heap.size,1,none⟩=some (.string {data:=#[]}):=bRr.cell 1
  have f2:=bRr.frozen 2
  have z2:wr.cell? ⟨w.heap.size,2,none⟩=some (.string {data:=#[]}):=bRr.cell 2
  have f3:=bRr.frozen 3
  have z3:wr.cell? ⟨w.heap.size,3,none⟩=some (.slice none 0 0):=bRr.cell 3
  have f4:=bRr.frozen 4
  have z4:wr.cell? ⟨w.heap.size,4,none⟩=some (.slice none 0 0):=bRr.cell 4
  have HBb:=zqd hBb
  have HRR:=zqd bRr
  have Hbb:=zqd hbb
  have HBr:=zqd hBr
  clear bE hBb bRb hbb bRr
  by_cases hpe:lu=p
  case neg=>
   have hs1:(lu.toList ==p.toList)=false:=aeu hpe
   have ay6:=zqd (fun(q:Nat) (y:cu) (hq:q < k+1) (hy:fs[q]?=some y)=>(by
    by_cases e:q=k
    ·subst e;rw[Option.some.inj (hy.symm.trans HX2.out)];exact fun hh=>hpe hh.1
    ·exact HP.out q y (by omega) hy:¬ (y.package=p∧y.name=n)))
   have HBW:Hid (Below w0.heap.size w0 wb):=hbr.trans (Hbb.out.mono hbr.size)
   subst hwb
   go_wp2_with fail
   go_roundw
   case rel=>exact⟨k+1,by omega,by go_num,ay6,HBW.out⟩
   case measure=>simp[intOf];omega
  have hs1:(lu.toList ==p.toList)=true:=by rw[hpe];simp
  have HPE:=zqd hpe
  clear hpe
  by_cases hne:name2=n
  case neg=>
   have hs2:(name2.toList ==n.toList)=false:=aeu hne
   have ay6:=zqd (fun(q:Nat) (y:cu) (hq:q < k+1) (hy:fs[q]?=some y)=>(by
    by_cases e:q=k
    ·subst e;rw[Option.some.inj (hy.symm.trans HX2.out)];exact fun hh=>hne hh.2
    ·exact HP.out q y (by omega) hy:¬ (y.package=p∧y.name=n)))
   have HBW:Hid (Below w0.heap.size w0 wb):=hbr.trans (Hbb.out.mono hbr.size)
   subst hwb
   go_wp2_with fail
   go_roundw
   case rel=>exact⟨k+1,by omega,by go_num,ay6,HBW.out⟩
   case measure=>simp[intOf];omega
  have hs2:(name2.toList ==n.toList)=true:=by rw[hne];simp
  have HEQ:Hid (lu=p∧name2=n):=⟨HPE.out,hne⟩
  clear hne
  have alq:=zqd (fun(V:World) (hV:Below wr.heap.size wr V)=>cu.close_ (package:=lu) (name:=name2) (version:=tq) (aej.out.below (hV.mono (Nat.le_trans hB hBr.size))) (agk.out.below (hV.mono (Nat.le_trans hB hBr.size))))
  have bw8:Hid (Below w.heap.size w ((((((wr.setCell ⟨w.heap.size,0,none⟩ (.string lu)).setCell ⟨w.heap.size,1,none⟩ (.string name2)).setCell ⟨w.heap.size,2,none⟩ (.string tq)).setCell ⟨w.heap.size,3,none⟩ (.slice uo uq uw)).setCell ⟨w.heap.size,4,none⟩ (.slice abd abe abf)).alloc (.cells #[.string lu,.string name2,.string tq,.slice uo uq uw,.slice abd abe abf] 30))∧Below B wr ((((((wr.setCell ⟨w.heap.size,0,none⟩ (.string lu)).setCell ⟨w.heap.size,1,none⟩ (.string name2)).setCell ⟨w.heap.size,2,none⟩ (.string tq)).setCell ⟨w.heap.size,3,none⟩ (.slice uo uq uw)).setCell ⟨w.heap.size,4,none⟩ (.slice abd abe abf)).alloc (.cells #[.string lu,.string name2,.string tq,.slice uo uq uw,.slice abd abe abf] 30))):=by
   refine⟨Below.alloc ?_ (by simp only[World.size_setCell];exact HBr.out.size) _,Below.alloc ?_ (by simp only[World.size_setCell];have:=HBr.out.size;omega) _⟩
   ·iterate 5 (refine Below.setCell ?_ (by simp) _)
    exact HBr.out
   ·iterate 5 (refine Below.setCell ?_ hB _)
    exact zqf _ _
  subst hwb
  go_wp2_with fail
  obtain⟨k1,k2⟩:=bw8.out
  have bN:Blk (((((((wr.setCell ⟨w.heap.size,0,none⟩ (.string lu)).setCell ⟨w.heap.size,1,none⟩ (.string name2)).setCell ⟨w.heap.size,2,none⟩ (.string tq)).setCell ⟨w.heap.size,3,none⟩ (.slice uo uq uw)).setCell ⟨w.heap.size,4,none⟩ (.slice abd abe abf)).alloc (.cells #[.string lu,.string name2,.string tq,.slice uo uq uw,.slice abd abe abf] 30))) w.heap.size 30 #[.string lu,.string name2,.string tq,.slice uo uq uw,.slice abd abe abf]:=by
   have:=((((((HRR.out.aam 0 (.string lu)).aam 1 (.string name2)).aam 2 (.string tq)).aam 3 (.slice uo uq uw)).aam 4 (.slice abd abe abf))).alloc (.cells #[.string lu,.string name2,.string tq,.slice uo uq uw,.slice abd abe abf] 30)
   simpa using this
  have n0:=bN.cell 0
  have n1:=bN.cell 1
  have n2:=bN.cell 2
  have n3:=bN.cell 3
  have n4:=bN.cell 4
  have hpost:a9x fs p n B w (.returned (.tuple #[.agg #[.string lu,.string name2,.string tq,.slice uo uq uw,.slice abd abe abf],.bool true])) (((((((wr.setCell ⟨w.heap.size,0,none⟩ (.string lu)).setCell ⟨w.heap.size,1,none⟩ (.string name2)).setCell ⟨w.heap.size,2,none⟩ (.string tq)).setCell ⟨w.heap.size,3,none⟩ (.slice uo uq uw)).setCell ⟨w.heap.size,4,none⟩ (.slice abd abe abf)).alloc (.cells #[.string lu,.string name2,.string tq,.slice uo uq uw,.slice abd abe abf] 30))):=by
   refine⟨k1,.inr ⟨k,_,[.string lu,.string name2,.string tq,.slice uo uq uw,.slice abd abe abf],HX2.out,HEQ.out,HP.out,rfl,?_⟩⟩
   exact cu.close_ (aej.out.below k2) (agk.out.below k2)
  exact bodyPost_ret (v:=.tuple #[.agg #[.string lu,.string name2,.string tq,.slice uo uq uw,.slice abd abe abf],.bool true]) (by simp[results,Tryz.results76,go_sem,n0,n1,n2,n3,n4]) rfl hpost
set_option maxHeartbeats 12800000 in
theorem a9y (hs ws:List cu) (hoh:afa hs=true) (how:afa ws=true) (hwh:∀ f ∈ hs,PD.wfL (cu.pd f)) (hww:∀ f ∈ ws,PD.wfL (cu.pd f)) (hzh:∀ f ∈ hs,PD.szL (cu.pd f)≤1048576) (hzw:∀ f ∈ ws,PD.szL (cu.pd f)≤1048576)
  (word:ByteArray) (hwd:word.size≤100) {B:Nat} {hv wv:Value} {w:World} (hB:B≤w.heap.size) (hT:akm w) (h:Rep w B (.row 5 (hs.flatMap cu.pd)) hv) (k:Rep w B (.row 5 (ws.flatMap cu.pd)) wv):
  Calls Tryz.prog 41 #[wv,hv,.string word,.bool true] w fun e w'=>WQ (an5 word hs ws) w e w':=by
 obtain⟨R,hR⟩:∃ R:Why,R=an5 word hs ws:=⟨_,rfl⟩
 rw[← hR]
 unfold WQ
 have HR:Hid (R=zq (amx word hs ws) ws.length):=hR
 clear hR
 obtain⟨wA,wN,wC,rfl,a9q,bkq,be9⟩:=ni cu.jd (by decide) k
 unfold maxLen at bkq
 have aue:=zqd a9q
 clear k
 obtain⟨hA,hN,hC,rfl⟩:=h.form
 have R_h:=zqd h
 clear h
 have w6_:wN≤6:=by have:=av8 how;omega
 clear a9q
 have HOH:=zqd (al4 hoh)
 have HOW:=zqd (al4 how)
 have HFO:=zqd (fun(p n:ByteArray) (V:World) (hV:Below w.heap.size w V)=>bfc hs p n (w:=V) (Nat.le_trans hB hV.size) (R_h.out.below (hV.mono hB)))
 have HFC:=zqd (fun(y x:cu) (hy:y ∈ hs) (hx:x ∈ ws) (V:World) (hV:Below w.heap.size w V) us vs (p:lq V B (cu.pd y) us) (q:lq V B (cu.pd x) vs)=>be7 y x (al4 hoh y hy) (al4 how x hx) (hwh y hy) (hww x hx) (hzh y hy) (hzw x hx) word hwd (w:=V) (Nat.le_trans hB hV.size) (hT.below hV) p q)
 clear hoh how hwh hww hzh hzw hT
 obtain⟨w0,hw0,bR0,hB0,hs0⟩:=rb1 w
 have HW0:=zqd hw0
 have HS0:=zqd hs0
 clear hw0 hs0
 go_enter Tryz.func41,Tryz.ntmps41
 go_wp2_with fail
 rw[← HW0.out]
 clear HW0
 go_loopw [20] (fun i wr=>∃ k:Nat,k≤wN∧i=.int .i64 k∧Hid (zq (amx word hs ws) k=none)∧Below w0.heap.size w0 wr) (fun i _=>wN - (intOf i).toNat)
 case atStart=>exact⟨0,Nat.zero_le _,rfl,zqd rfl,zqf _ _⟩
 case round=>
  obtain⟨k,hk,rfl,HP,hbr⟩:=hrel
  have hBr:=hB0.trans (hbr.mono hB0.size)
  have hsr:=hbr.size
  have bRr:=bR0.step hbr
  by_cases hlt:k < wN
  case neg=>
   have hkn:k=wN:=by omega
   have HF:Hid (R=none):=by show _=_;rw[HR.out,← aue.out,← hkn,HP.out]
   subst hkn
   go_wp2_with fail
   refine(afu _).mono ?_
   rintro e wz ⟨rfl,hbz⟩
   have hBz:=hBr.trans (hbz.mono hBr.size)
   have bRz:=bRr.step hbz
   have hsz:=hbz.size
   obtain⟨r0,r1,f0,f1⟩:=zr bRz
   go_wp2_with fail
   obtain⟨n0,n1,nB⟩:=aaw bRz hBz (by omega) (0) (⟨#[]⟩)
   exact bodyPost_ret (v:=.tuple #[.agg #[.int .i64 0,.string {data:=#[]}],.bool false]) (by simp[results,Tryz.results41,go_sem,n0,n1]) rfl ⟨qc (by rw[HF.out];rfl) (by rw[HF.out];rfl) (by rw[HF.out];rfl),nB⟩
  obtain⟨gw,ow,rfl,hg2,hcell2⟩:=be9 (by omega)
  obtain⟨t2,hx2,ab1⟩:=um aue.out hlt
  obtain⟨lu,name2,tq,ac3,afj⟩:=t2
  have ah5:wr.cell? ⟨gw,ow+k * 5,none⟩=some (.string lu):=bg hBr (by omega) (hcell2 k 0 _ _ hx2 (by rw[cu.aj];rfl))
  have ad5:wr.cell? ⟨gw,ow+k * 5+1,none⟩=some (.string name2):=bg hBr (by omega) (hcell2 k 1 _ _ hx2 (by rw[cu.aj];rfl))
  have aiu:wr.cell? ⟨gw,ow+k * 5+2,none⟩=some (.string tq):=bg hBr (by omega) (hcell2 k 2 _ _ hx2 (by rw[cu.aj];rfl))
  obtain⟨aou,ahj,ae5⟩:∃ u,wr.cell? ⟨gw,ow+k * 5+3,none⟩=some u∧Rep wr B (.row 1 (ac3.flatMap qj)) u:=jc hBr (by omega) hB (hcell2 k 3 _ _ hx2 (by rw[cu.aj];rfl))
  have aej:=zqd ae5
  clear ae5
  obtain⟨aw2,akz,ahk⟩:∃ u,wr.cell? ⟨gw,ow+k * 5+4,none⟩=some u∧Rep wr B (.row 7 (afj.flatMap Fun.pd)) u:=jc hBr (by omega) hB (hcell2 k 4 _ _ hx2 (by rw[cu.aj];rfl))
  have agk:=zqd ahk
  clear ahk
  obtain⟨uo,uq,uw,rfl⟩:=aej.out.form
  obtain⟨abd,abe,abf,rfl⟩:=agk.out.form
  have HX2:=zqd hx2
  have HM2:=zqd ab1
  clear hx2 ab1
  clear hcell2
  have HXF:=zqd (anf (HOW.out _ HM2.out))
  have aps:lu.size≤12:=HXF.out.pk
  have bkc:name2.size≤12:=HXF.out.nm
  have hlR:=bRr.lt
  obtain⟨wb,hwb⟩:=zqe wr 30 #[.string lu,.string name2,.string tq,.slice uo uq uw,.slice abd abe abf]
  have bE:=zqn hwb
  have hbb:=zqb hwb
  have hBb:=hBr.trans (hbb.mono hBr.size)
  have bRb:=bRr.step hbb
  have alq:=zqd (fun(V:World) (hV:Below wr.heap.size wr V)=>cu.close_ (package:=lu) (name:=name2) (version:=tq) (aej.out.below (hV.mono (Nat.le_trans hB hBr.size))) (agk.out.below (hV.mono (Nat.le_trans hB hBr.size))))
  have HC0:=zqd (HFO.out lu name2 wb hBb)
  obtain⟨e0,e1⟩:=zc2 bE
  have HBb:=zqd hBb
  have HRB:=zqd bRb
  have Hbb:=zqd hbb
  have HE:=zqd bE
  clear bE hBb bRb hbb bRr
  subst hwb
  go_wp2_with fail
  refine HC0.out.mono ?_
  rintro e w2 ⟨hb2,hans⟩
  have hB2:=HBb.out.trans (hb2.mono HBb.out.size)
  have bR2:=HRB.out.step hb2
  have bE2:=HE.out.step hb2
  have hs2:=hb2.size
  have hsb:=Hbb.out.size
  clear e0 e1 HC0
  rcases hans with ⟨hno,rfl⟩|⟨j,y,us,hj,heq,hbf,rfl,hus⟩
  case inl=>
   have a9a:(9223372036854775807 < word.size+lu.size)=False:=eq_false (by omega)
   obtain⟨q1,al2⟩:∃ p,word ++lu=p:=⟨_,rfl⟩
   have a9b:q1.size≤112:=by rw[← al2,ByteArray.size_append];omega
   have a9c:(9223372036854775807 < q1.size+(⟨#[47]⟩:ByteArray).size)=False:=eq_false (by have z_:(⟨#[47]⟩:ByteArray).size=1:=rfl;omega)
   have bw5:(9223372036854775807 < q1.size+1)=False:=eq_false (by omega)
   obtain⟨q2,al3⟩:∃ p,q1 ++(⟨#[47]⟩:ByteArray)=p:=⟨_,rfl⟩
   have a9d:q2.size≤113:=by rw[← al3,ByteArray.size_append];have z_:(⟨#[47]⟩:ByteArray).size=1:=rfl;omega
   have bw6:(9223372036854775807 < q2.size+name2.size)=False:=eq_false (by omega)
   obtain⟨q3,a9s⟩:∃ p,q2 ++name2=p:=⟨_,rfl⟩
   have bw7:q3.size≤125:=by rw[← a9s,ByteArray.size_append];omega
   have HQ3:Hid (aol word lu name2=q3):=by show _=_;rw[← a9s,← al3,← al2];simp only[aol,a0p,ByteArray.append_assoc]
   have HF:Hid (R=some (11,q3)):=by show _=_;rw[HR.out,ada HP.out (bcm HX2.out hno) _ (by have:=aue.out;omega)];simp only;rw[HQ3.out]
   obtain⟨x0,x1⟩:=zc2 bE2
   have a3b:Below w2.heap.size w2 (w2.alloc (.cells #[.string {data:=#[]},.string {data:=#[]},.string {data:=#[]},.slice none 0 0,.slice none 0 0] 30)):=(zqf _ _).alloc (zql _) _
   have y0:(w2.alloc (.cells #[.string {data:=#[]},.string {data:=#[]},.string {data:=#[]},.slice none 0 0,.slice none 0 0] 30)).cell? ⟨wr.heap.size,0,none⟩=some (.string lu):=(a3b.cell (p:=⟨wr.heap.size,0,none⟩) bE2.lt).trans x0
   have y1:(w2.alloc (.cells #[.string {data:=#[]},.string {data:=#[]},.string {data:=#[]},.slice none 0 0,.slice none 0 0] 30)).cell? ⟨wr.heap.size,1,none⟩=some (.string name2):=(a3b.cell (p:=⟨wr.heap.size,1,none⟩) bE2.lt).trans x1
   have b3t:=zqd a3b
   have bw9:=bR2.step a3b
   have bsh:=hB2.trans (a3b.mono hB2.size)
   clear x0 x1 a3b hno
   go_wp2_with fail
   refine(ae6 11 q3 _).mono ?_
   rintro e wz ⟨rfl,hbz⟩
   have hBz:=bsh.trans (hbz.mono bsh.size)
   have bRz:=bw9.step hbz
   have hsz:=hbz.size
   obtain⟨r0,r1,f0,f1⟩:=zr bRz
   go_wp2_with fail
   obtain⟨n0,n1,nB⟩:=aaw bRz hBz (by omega) (11) (q3)
   exact bodyPost_ret (v:=.tuple #[.agg #[.int .i64 11,.string q3],.bool true]) (by simp[results,Tryz.results41,go_sem,n0,n1]) rfl ⟨qc (by rw[HF.out];rfl) (by rw[HF.out];rfl) (by rw[HF.out];rfl),nB⟩
  case inr=>
   obtain⟨yp,yn,yv,yr,yf⟩:=y
   obtain⟨yrV,yfV,rfl,bkv,bkw⟩:=cu.open_ hus
   obtain⟨u3A,u3N,u3C,rfl⟩:=bkv.form
   obtain⟨u4A,u4N,u4C,rfl⟩:=bkw.form
   have RYR:=zqd bkv
   have RYF:=zqd bkw
   clear hus bkv bkw
   have HJ:=zqd hj
   have HEQ:=zqd heq
   have HBF:=zqd hbf
   clear hj heq hbf
   obtain⟨w3,hw3⟩:=zqe w2 30 #[.string yp,.string yn,.string yv,.slice u3A u3N u3C,.slice u4A u4N u4C]
   have bO:=zqn hw3
   have hb3:=zqb hw3
   have hB3:=hB2.trans (hb3.mono hB2.size)
   have bR3:=bR2.step hb3
   have bE3:=bE2.step hb3
   have hs3:=hb3.size
   have HW3:=zqd hw3
   clear hw3
   have hle:=bE3.lt
   have hlo:=bO.lt
   go_upto_region 7 with fail
   rw[← HW3.out]
   clear HW3
   go_cut [14,15] from 21 to 61 (fun v14 v15 wx=>∃ p q:Nat,v14=.pointer (some ⟨p,0,none⟩)∧v15=.pointer (some ⟨q,0,none⟩)∧Hid (p≠q∧w3.heap.size≤p∧w3.heap.size≤q)∧Hid (Blk wx p 30 #[.string lu,.string name2,.string tq,.slice uo uq uw,.slice abd abe abf]∧Blk wx q 30 #[.string yp,.string yn,.string yv,.slice u3A u3N u3C,.slice u4A u4N u4C])∧Below w3.heap.size w3 wx)
   case first=>
    have hd:Below w3.heap.size w3 w3.drew:=(zqf _ _).drew
    obtain⟨a0,a1,a2,a3,a4⟩:=zc5 bE3
    obtain⟨b0,b1,b2,b3,b4⟩:=zc5 bO
    have HS:Hid (∀ V,Below w3.heap.size w3 V→V.cell? ⟨wr.heap.size,0,none⟩=some (.string lu)∧V.cell? ⟨wr.heap.size,1,none⟩=some (.string name2)∧V.cell? ⟨wr.heap.size,2,none⟩=some (.string tq)∧V.cell? ⟨wr.heap.size,3,none⟩=some (.slice uo uq uw)∧V.cell? ⟨wr.heap.size,4,none⟩=some (.slice abd abe abf)∧V.cell? ⟨w2.heap.size,0,none⟩=some (.string yp)∧V.cell? ⟨w2.heap.size,1,none⟩=some (.string yn)∧V.cell? ⟨w2.heap.size,2,none⟩=some (.string yv)∧V.cell? ⟨w2.heap.size,3,none⟩=some (.slice u3A u3N u3C)∧V.cell? ⟨w2.heap.size,4,none⟩=some (.slice u4A u4N u4C)):=zqd fun V hV=>⟨(hV.cell (p:=⟨wr.heap.size,0,none⟩) hle).trans a0,(hV.cell (p:=⟨wr.heap.size,1,none⟩) hle).trans a1,(hV.cell (p:=⟨wr.heap.size,2,none⟩) hle).trans a2,(hV.cell (p:=⟨wr.heap.size,3,none⟩) hle).trans a3,(hV.cell (p:=⟨wr.heap.size,4,none⟩) hle).trans a4,(hV.cell (p:=⟨w2.heap.size,0,none⟩) hlo).trans b0,(hV.cell (p:=⟨w2.heap.size,1,none⟩) hlo).trans b1,(hV.cell (p:=⟨w2.heap.size,2,none⟩) hlo).trans b2,(hV.cell (p:=⟨w2.heap.size,3,none⟩) hlo).trans b3,(hV.cell (p:=⟨w2.heap.size,4,none⟩) hlo).trans b4⟩
    clear a0 b0 a1 b1 a2 b2 a3 b3 a4 b4
    have HD:=zqd hd
    refine wp_region_held_drew (S:=(fun w'=>w'.cell? ⟨wr.heap.size,0,none⟩=some (.string lu)∧w'.cell? ⟨wr.heap.size,1,none⟩=some (.string name2)∧w'.cell? ⟨wr.heap.size,2,none⟩=some (.string tq)∧w'.cell? ⟨wr.heap.size,3,none⟩=some (.slice uo uq uw)∧w'.cell? ⟨wr.heap.size,4,none⟩=some (.slice abd abe abf)∧w'.cell? ⟨w2.heap.size,0,none⟩=some (.string yp)∧w'.cell? ⟨w2.heap.size,1,none⟩=some (.string yn)∧w'.cell? ⟨w2.heap.size,2,none⟩=some (.string yv)∧w'.cell? ⟨w2.heap.size,3,none⟩=some (.slice u3A u3N u3C)∧w'.cell? ⟨w2.heap.size,4,none⟩=some (.slice u4A u4N u4C))) (by kernel_rfl) (HS.out _ hd) (fun hHeld=>?_)
    refine zqt 0 ?_
    try simp only[Act.put,zs1,zs2,zs3]
    refine zqt 1 ?_
    try simp only[Act.put,zs1,zs2,zs3]
    refine zqs [2,3] ?_
    refine AllReadyH.cons (o:=?bv6) ?bj6 (fun K hK=>?bj7) (AllReadyH.cons (o:=?b3u) ?bxa (fun K hK=>?bxb) AllReadyH.nil)
    case bj6=>
     simp only[zg1,zg2,zg3];rfl
    case bxa=>
     simp only[zg1,zg2,zg3];rfl
    case bj7=>
     go_simp
     refine hK.out _ _ (by first|exact(HS.out _ (by repeat(first|with_reducible exact zqf _ _|with_reducible refine Below.drew ?_|with_reducible refine Below.setCell ?_ (by simp) _|with_reducible refine Below.alloc ?_ (by simp) _)))|go_keep) (fun hHeld=>?_)
     clear hK K
     try simp only[Act.put,zs1,zs2,zs3]
     refine zqr 3 fun K hK=>?_
     go_simp
     refine hK.out _ _ (by first|exact(HS.out _ (by repeat(first|with_reducible exact zqf _ _|with_reducible refine Below.drew ?_|with_reducible refine Below.setCell ?_ (by simp) _|with_reducible refine Below.alloc ?_ (by simp) _)))|go_keep) (fun hHeld=>?_)
     clear hK K
     try simp only[Act.put,zs1,zs2,zs3]
     refine zqr 4 fun K hK=>?_
     go_simp
     refine hK.out _ _ (by first|exact(HS.out _ (by repeat(first|with_reducible exact zqf _ _|with_reducible refine Below.drew ?_|with_reducible refine Below.setCell ?_ (by simp) _|with_reducible refine Below.alloc ?_ (by simp) _)))|go_keep) (fun hHeld=>?_)
     clear hK K
     try simp only[Act.put,zs1,zs2,zs3]
     refine zqr 5 fun K hK=>?_
     go_simp
     refine hK.out _ _ (by first|exact(HS.out _ (by repeat(first|with_reducible exact zqf _ _|with_reducible refine Below.drew ?_|with_reducible refine Below.setCell ?_ (by simp) _|with_reducible refine Below.alloc ?_ (by simp) _)))|go_keep) (fun hHeld=>?_)
     clear hK K
     try simp only[Act.put,zs1,zs2,zs3]
     refine wpAnyH_done (by kernel_rfl) ?_ _
     go_wp2_with fail
     go_meet
     exact⟨w3.heap.size,w3.heap.size+1,rfl,rfl,zqd ⟨by omega,by omega,by omega⟩,zqd ⟨((Blk.new w3 _ _).alloc _).drew,by have:=(Blk.new (w3.alloc (.cells #[.string lu,.string name2,.string tq,.slice uo uq uw,.slice abd abe abf] 30)) 30 #[.string yp,.string yn,.string yv,.slice u3A u3N u3C,.slice u4A u4N u4C]).drew;simpa using this⟩,(((zqf _ _).alloc (zql _) _).alloc (by simp) _).drew⟩
    case bxb=>
     go_simp
     refine hK.out _ _ (by first|exact(HS.out _ (by repeat(first|with_reducible exact zqf _ _|with_reducible refine Below.drew ?_|with_reducible refine Below.setCell ?_ (by simp) _|with_reducible refine Below.alloc ?_ (by simp) _)))|go_keep) (fun hHeld=>?_)
     clear hK K
     try simp only[Act.put,zs1,zs2,zs3]
     refine zqr 2 fun K hK=>?_
     go_simp
     refine hK.out _ _ (by first|exact(HS.out _ (by repeat(first|with_reducible exact zqf _ _|with_reducible refine Below.drew ?_|with_reducible refine Below.setCell ?_ (by simp) _|with_reducible refine Below.alloc ?_ (by simp) _)))|go_keep) (fun hHeld=>?_)
     clear hK K
     try simp only[Act.put,zs1,zs2,zs3]
     refine zqr 4 fun K hK=>?_
     go_simp
     refine hK.out _ _ (by first|exact(HS.out _ (by repeat(first|with_reducible exact zqf _ _|with_reducible refine Below.drew ?_|with_reducible refine Below.setCell ?_ (by simp) _|with_reducible refine Below.alloc ?_ (by simp) _)))|go_keep) (fun hHeld=>?_)
     clear hK K
     try simp only[Act.put,zs1,zs2,zs3]
     refine zqr 5 fun K hK=>?_
     go_simp
     refine hK.out _ _ (by first|exact(HS.out _ (by repeat(first|with_reducible exact zqf _ _|with_reducible refine Below.drew ?_|with_reducible refine Below.setCell ?_ (by simp) _|with_reducible refine Below.alloc ?_ (by simp) _)))|go_keep) (fun hHeld=>?_)
     clear hK K
     try simp only[Act.put,zs1,zs2,zs3]
     refine wpAnyH_done (by kernel_rfl) ?_ _
     go_wp2_with fail
     go_meet
     exact⟨w3.heap.size+1,w3.heap.size,rfl,rfl,zqd ⟨by omega,by omega,by omega⟩,zqd ⟨by have:=(Blk.new (w3.alloc (.cells #[.string yp,.string yn,.string yv,.slice u3A u3N u3C,.slice u4A u4N u4C] 30)) 30 #[.string lu,.string name2,.string tq,.slice uo uq uw,.slice abd abe abf]).drew;simpa using this,((Blk.new w3 _ _).alloc _).drew⟩,(((zqf _ _).alloc (zql _) _).alloc (by simp) _).drew⟩
   case rest=>
    obtain⟨p,q,rfl,rfl,HPQ,bsi,hbx⟩:=hcut
    have hsx:=hbx.size
    have hBx:=hB3.trans (hbx.mono hB3.size)
    have bRx:=bR3.step hbx
    have bEx:=bE3.step hbx
    have bOx:=bO.step hbx
    have bP:=bsi.out.1
    have bQ:=bsi.out.2
    obtain⟨hpq,hp3,hq3⟩:=HPQ.out
    have hqp:q≠p:=fun e=>hpq e.symm
    have HW0:Hid (Below w0.heap.size w0 wc):=((((hbr.trans (Hbb.out.mono hbr.size)).trans (hb2.mono (by omega))).trans (hb3.mono (by omega))).trans (hbx.mono (by omega)))
    obtain⟨a0,a1,a2,a3,a4⟩:=zc5 bEx
    obtain⟨b0,b1,b2,b3,b4⟩:=zc5 bOx
    have HS:Hid (∀ V,Below w3.heap.size wc V→V.cell? ⟨wr.heap.size,0,none⟩=some (.string lu)∧V.cell? ⟨wr.heap.size,1,none⟩=some (.string name2)∧V.cell? ⟨wr.heap.size,2,none⟩=some (.string tq)∧V.cell? ⟨wr.heap.size,3,none⟩=some (.slice uo uq uw)∧V.cell? ⟨wr.heap.size,4,none⟩=some (.slice abd abe abf)∧V.cell? ⟨w2.heap.size,0,none⟩=some (.string yp)∧V.cell? ⟨w2.heap.size,1,none⟩=some (.string yn)∧V.cell? ⟨w2.heap.size,2,none⟩=some (.string yv)∧V.cell? ⟨w2.heap.size,3,none⟩=some (.slice u3A u3N u3C)∧V.cell? ⟨w2.heap.size,4,none⟩=some (.slice u4A u4N u4C)):=zqd fun V hV=>⟨(hV.cell (p:=⟨wr.heap.size,0,none⟩) hle).trans a0,(hV.cell (p:=⟨wr.heap.size,1,none⟩) hle).trans a1,(hV.cell (p:=⟨wr.heap.size,2,none⟩) hle).trans a2,(hV.cell (p:=⟨wr.heap.size,3,none⟩) hle).trans a3,(hV.cell (p:=⟨wr.heap.size,4,none⟩) hle).trans a4,(hV.cell (p:=⟨w2.heap.size,0,none⟩) hlo).trans b0,(hV.cell (p:=⟨w2.heap.size,1,none⟩) hlo).trans b1,(hV.cell (p:=⟨w2.heap.size,2,none⟩) hlo).trans b2,(hV.cell (p:=⟨w2.heap.size,3,none⟩) hlo).trans b3,(hV.cell (p:=⟨w2.heap.size,4,none⟩) hlo).trans b4⟩
    clear a0 b0 a1 b1 a2 b2 a3 b3 a4 b4
    have hd:Below w3.heap.size wc wc.drew:=(zqf _ _).drew
    have fp0:wc.frozen? ⟨p,0,none⟩=false:=bP.frozen 0
    have fq0:wc.frozen? ⟨q,0,none⟩=false:=bQ.frozen 0
    have zp0:wc.cell? ⟨p,0,none⟩=some (.string lu):=bP.cell 0
    have zq0:wc.cell? ⟨q,0,none⟩=some (.string yp):=bQ.cell 0
    have fp1:wc.frozen? ⟨p,1,none⟩=false:=bP.frozen 1
    have fq1:wc.frozen? ⟨q,1,none⟩=false:=bQ.frozen 1
    have zp1:wc.cell? ⟨p,1,none⟩=some (.string name2):=bP.cell 1
    have zq1:wc.cell? ⟨q,1,none⟩=some (.string yn):=bQ.cell 1
    have fp2:wc.frozen? ⟨p,2,none⟩=false:=bP.frozen 2
    have fq2:wc.frozen? ⟨q,2,none⟩=false:=bQ.frozen 2
    have zp2:wc.cell? ⟨p,2,none⟩=some (.string tq):=bP.cell 2
    have zq2:wc.cell? ⟨q,2,none⟩=some (.string yv):=bQ.cell 2
    have fp3:wc.frozen? ⟨p,3,none⟩=false:=bP.frozen 3
    have fq3:wc.frozen? ⟨q,3,none⟩=false:=bQ.frozen 3
    have zp3:wc.cell? ⟨p,3,none⟩=some (.slice uo uq uw):=bP.cell 3
    have zq3:wc.cell? ⟨q,3,none⟩=some (.slice u3A u3N u3C):=bQ.cell 3
    have fp4:wc.frozen? ⟨p,4,none⟩=false:=bP.frozen 4
    have fq4:wc.frozen? ⟨q,4,none⟩=false:=bQ.frozen 4
    have zp4:wc.cell? ⟨p,4,none⟩=some (.slice abd abe abf):=bP.cell 4
    have zq4:wc.cell? ⟨q,4,none⟩=some (.slice u4A u4N u4C):=bQ.cell 4
    go_wp2_with fail
    refine wp_region_held_drew (S:=(fun w'=>w'.cell? ⟨wr.heap.size,0,none⟩=some (.string lu)∧w'.cell? ⟨wr.heap.size,1,none⟩=some (.string name2)∧w'.cell? ⟨wr.heap.size,2,none⟩=some (.string tq)∧w'.cell? ⟨wr.heap.size,3,none⟩=some (.slice uo uq uw)∧w'.cell? ⟨wr.heap.size,4,none⟩=some (.slice abd abe abf)∧w'.cell? ⟨w2.heap.size,0,none⟩=some (.string yp)∧w'.cell? ⟨w2.heap.size,1,none⟩=some (.string yn)∧w'.cell? ⟨w2.heap.size,2,none⟩=some (.string yv)∧w'.cell? ⟨w2.heap.size,3,none⟩=some (.slice u3A u3N u3C)∧w'.cell? ⟨w2.heap.size,4,none⟩=some (.slice u4A u4N u4C))) (by kernel_rfl) (HS.out _ hd) (fun hHeld=>?_)
    refine zqt 0 ?_
    try simp only[Act.put,zs1,zs2,zs3]
    refine zqt 1 ?_
    try simp only[Act.put,zs1,zs2,zs3]
    refine zqr 2 fun K hK=>?_
    go_simp
    refine hK.out _ _ (by first|exact(HS.out _ (by repeat(first|with_reducible exact hd|with_reducible exact zqf _ _|with_reducible refine Below.drew ?_|with_reducible refine Below.setCell ?_ hp3 _|with_reducible refine Below.setCell ?_ hq3 _)))|go_keep) (fun hHeld=>?_)
    clear hK K
    try simp only[Act.put,zs1,zs2,zs3]
    refine zqr 3 fun K hK=>?_
    go_simp
    refine hK.out _ _ (by first|exact(HS.out _ (by repeat(first|with_reducible exact hd|with_reducible exact zqf _ _|with_reducible refine Below.drew ?_|with_reducible refine Below.setCell ?_ hp3 _|with_reducible refine Below.setCell ?_ hq3 _)))|go_keep) (fun hHeld=>?_)
    clear hK K
    try simp only[Act.put,zs1,zs2,zs3]
    refine wpAnyH_done (by kernel_rfl) ?_ _
    obtain⟨w9,hw9⟩:∃ V,V=(((((((((((wc.setCell ⟨p,0,none⟩ (.string yp)).setCell ⟨p,1,none⟩ (.string yn)).setCell ⟨p,2,none⟩ (.string yv)).setCell ⟨p,3,none⟩ (.slice u3A u3N u3C)).setCell ⟨p,4,none⟩ (.slice u4A u4N u4C)).setCell ⟨q,0,none⟩ (.string lu)).setCell ⟨q,1,none⟩ (.string name2)).setCell ⟨q,2,none⟩ (.string tq)).setCell ⟨q,3,none⟩ (.slice uo uq uw)).setCell ⟨q,4,none⟩ (.slice abd abe abf))).drew:=⟨_,rfl⟩
    have bP9:Blk w9 p 30 #[.string yp,.string yn,.string yv,.slice u3A u3N u3C,.slice u4A u4N u4C]:=by
     rw[hw9]
     have h1:=(((((bP.aam 0 (.string yp)).aam 1 (.string yn)).aam 2 (.string yv)).aam 3 (.slice u3A u3N u3C)).aam 4 (.slice u4A u4N u4C))
     have h2:=((((((((((h1).far (p:=⟨q,0,none⟩) hpq (.string lu))).far (p:=⟨q,1,none⟩) hpq (.string name2))).far (p:=⟨q,2,none⟩) hpq (.string tq))).far (p:=⟨q,3,none⟩) hpq (.slice uo uq uw))).far (p:=⟨q,4,none⟩) hpq (.slice abd abe abf)).drew
     simpa using h2
    have bQ9:Blk w9 q 30 #[.string lu,.string name2,.string tq,.slice uo uq uw,.slice abd abe abf]:=by
     rw[hw9]
     have h1:=((((((((((bQ).far (p:=⟨p,0,none⟩) hqp (.string yp))).far (p:=⟨p,1,none⟩) hqp (.string yn))).far (p:=⟨p,2,none⟩) hqp (.string yv))).far (p:=⟨p,3,none⟩) hqp (.slice u3A u3N u3C))).far (p:=⟨p,4,none⟩) hqp (.slice u4A u4N u4C))
     have h2:=((((((h1.aam 0 (.string lu)).aam 1 (.string name2)).aam 2 (.string tq)).aam 3 (.slice uo uq uw)).aam 4 (.slice abd abe abf))).drew
     simpa using h2
    have hb9:Below w3.heap.size wc w9:=by
     rw[hw9]
     refine Below.drew ?_
     iterate 5 (refine Below.setCell ?_ hq3 _)
     iterate 5 (refine Below.setCell ?_ hp3 _)
     exact zqf _ _
    rw[← hw9]
    clear hw9 fp0 fq0 zp0 zq0 fp1 fq1 zp1 zq1 fp2 fq2 zp2 zq2 fp3 fq3 zp3 zq3 fp4 fq4 zp4 zq4
    have hs9:=hb9.size
    have hB9:=hBx.trans (hb9.mono (by have:=hBx.size;have:=hB3.size;omega))
    have bR9:=bRx.below (hb9.mono (zql _)) (by have:=bR3.lt;omega)
    obtain⟨a0,a1,a2,a3,a4⟩:=zc5 bP9
    obtain⟨b0,b1,b2,b3,b4⟩:=zc5 bQ9
    have HR2:=zqd (HFC.out ⟨yp,yn,yv,yr,yf⟩ ⟨lu,name2,tq,ac3,afj⟩ (List.mem_of_getElem? HJ.out) HM2.out w9 hB9 [.string yp,.string yn,.string yv,.slice u3A u3N u3C,.slice u4A u4N u4C] [.string lu,.string name2,.string tq,.slice uo uq uw,.slice abd abe abf] (cu.close_ (RYR.out.below ((hb3.mono (by omega)).trans ((hbx.mono (by omega)).trans (hb9.mono (by omega))))) (RYF.out.below ((hb3.mono (by omega)).trans ((hbx.mono (by omega)).trans (hb9.mono (by omega)))))) (alq.out w9 ((Hbb.out.trans (hb2.mono (by omega))).trans ((hb3.mono (by omega)).trans ((hbx.mono (by omega)).trans (hb9.mono (by omega)))))))
    obtain⟨R2,hR2⟩:∃ r,aha ⟨yp,yn,yv,yr,yf⟩ ⟨lu,name2,tq,ac3,afj⟩ (aol word lu name2) true=r:=⟨_,rfl⟩
    have HK2:Hid (amx word hs ws k=R2):=by show _=_;rw[bcn HX2.out HJ.out HEQ.out HBF.out];exact hR2
    replace HR2:=HR2.out
    unfold WQ at HR2
    rw[show aha ⟨yp,yn,yv,yr,yf⟩ ⟨lu,name2,tq,ac3,afj⟩ (aol word (cu.package ⟨lu,name2,tq,ac3,afj⟩) (cu.name ⟨lu,name2,tq,ac3,afj⟩)) true=R2 from hR2] at HR2
    obtain⟨RK,RS,RN,HRK,HRS,HRN⟩:=agp R2
    rw[HRK.out,HRS.out,HRN.out] at HR2
    clear hR2
    replace HR2:=zqd HR2
    go_wp2_with fail
    refine HR2.out.mono ?_
    rintro e wq ⟨rfl,hbq⟩
    have hBq:=hB9.trans (hbq.mono hB9.size)
    have hsq:=hbq.size
    clear a0 b0 a1 b1 a2 b2 a3 b3 a4 b4
    obtain⟨w6,hw6⟩:=zqe wq 34 #[.int .i64 RK,.string RS]
    have bX:=zqn hw6
    have hb6:=zqb hw6
    have hB6:=hBq.trans (hb6.mono hBq.size)
    have bR6:=(bR9.step hbq).step hb6
    have hs6:=hb6.size
    cases RN
    case true=>
     have HF:Hid (R=some (RK,RS)):=by show _=_;rw[HR.out,← HRK.out,← HRS.out];exact ada HP.out (by rw[HK2.out];exact af2 HRN.out) _ (by have:=aue.out;omega)
     obtain⟨q0,q1⟩:=rq bX
     obtain⟨r0,r1,f0,f1⟩:=zr bR6
     have HB6:=zqd hB6
     have HR6:=zqd bR6
     clear bX hb6 hB6 bR6
     subst hw6
     go_wp2_with fail
     obtain⟨n0,n1,nB⟩:=aaw HR6.out HB6.out (by omega) (RK) (RS)
     exact bodyPost_ret (v:=.tuple #[.agg #[.int .i64 RK,.string RS],.bool true]) (by simp[results,Tryz.results41,go_sem,n0,n1]) rfl ⟨qc (by rw[HF.out];rfl) (by rw[HF.out];rfl) (by rw[HF.out];rfl),nB⟩
    case false=>
     have HQ:=zqd (ae4 HP.out (by rw[HK2.out];exact af0 HRN.out))
     have HBW:Hid (Below w0.heap.size w0 w6):=((HW0.out.trans (hb9.mono (by omega))).trans (hbq.mono (by omega))).trans (hb6.mono (by omega))
     clear bX hb6 hB6 bR6
     subst hw6
     go_wp2_with fail
     go_roundw
     case rel=>exact⟨k+1,by omega,by go_num,HQ,HBW.out⟩
     case measure=>simp[intOf];omega
end Go.Proofs.YtbafphecjijdmaaGreatDoor
