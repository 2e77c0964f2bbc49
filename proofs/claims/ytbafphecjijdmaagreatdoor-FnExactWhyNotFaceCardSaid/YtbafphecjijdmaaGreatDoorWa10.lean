/-
  spec.SameType, impl.SameType: the same bool (by program: gen_samety.py).
  A table of numbers that a row lists, in the world.
-/
import Derived.Test.YtbafphecjijdmaaGreatDoorWa09
import Derived.Deep.RegionHeld3
import Derived.Test.YtbafphecjijdmaaGreatDoorWa01
import Derived.Lib.LaidU8
import Derived.LaidMore
import Derived.MakeChecks
namespace Go.Proofs.YtbafphecjijdmaaGreatDoor
open Go.RowKit
set_option linter.unusedVariables false
set_option linter.unusedSimpArgs false
set_option linter.unnecessarySimpa false
set_option maxRecDepth 100000
def afa:Nat→Ty→Ty→Bool
 | 0,_,_=>false
 | n+1,⟨kind,name,labels,kids⟩,⟨wu,dh,dn,jf⟩=>decide (kind=wu) && decide (name=dh) && same2 strEq labels dn && same2 (afa n) kids jf
theorem aw2 (a:Array Value) (W:World):Sem.run Tryz.prog (callFunc 163 a) W=.ok (.enter 163 a) W:=by kernel_rfl
theorem az2 {n:Nat} (hn:n≤100) (ih:∀ (x y:Ty) (B:Nat) (cs ds:List Value) (w:World),B≤w.heap.size→jy w B (Ty.pd x) cs→jy w B (Ty.pd y) ds→Calls Tryz.prog 147 #[.agg cs.toArray,.agg ds.toArray,.int .i64 n] w fun e w'=>e=.returned (.bool (afa n x y))∧Below w.heap.size w w')
  (x y:Ty) {B L:Nat} {cs ds:List Value} {w:World} (hB:B≤w.heap.size) (hL:w.cell? ⟨L,0,none⟩=some (.int .i64 ((n+1:Nat):Int))) (hLt:L < w.heap.size) (h:jy w B (Ty.pd x) cs) (k:jy w B (Ty.pd y) ds):
  Calls Tryz.prog 163 (#[.agg cs.toArray,.agg ds.toArray] ++#[.pointer (some ⟨L,0,none⟩)]) w fun e w'=>e=.returned (.bool (afa n x y))∧Below w.heap.size w w':=by
 have IH:=Lib.hid (ih x y)
 clear ih
 obtain⟨R,hR⟩:∃ R,R=afa n x y:=⟨_,rfl⟩
 rw[← hR]
 rw[← hR] at IH
 have HR:=Lib.hid hR
 clear hR
 obtain⟨kind,name,labels,kids⟩:=x
 obtain⟨iq,qp,rfl,bf,eu⟩:=Ty.open_ h
 obtain⟨jk,gy,je,rfl⟩:=bf.form
 have pq:=Lib.hid bf
 clear bf
 obtain⟨qc,gu,lu,rfl⟩:=eu.form
 have qm:=Lib.hid eu
 clear eu
 obtain⟨wu,dh,dn,jf⟩:=y
 obtain⟨ab1,adt,rfl,dw,jd⟩:=Ty.open_ k
 obtain⟨jr,jc,jm,rfl⟩:=dw.form
 have xw:=Lib.hid dw
 clear dw
 obtain⟨ni,ig,jq,rfl⟩:=jd.form
 have zu:=Lib.hid jd
 clear jd
 clear h k
 obtain⟨w0,hw0⟩:∃ W,W=(w.alloc (.cells #[.int .i64 kind,.string name,.slice jk gy je,.slice qc gu lu] 60)).alloc (.cells #[.int .i64 wu,.string dh,.slice jr jc jm,.slice ni ig jq] 60):=⟨_,rfl⟩
 have hB0:Below w.heap.size w w0:=by rw[hw0];exact((Below.refl _ _).alloc (Nat.le_refl _) _).alloc (by simp) _
 have hs0:=hB0.size
 have hL0:((w.alloc (.cells #[.int .i64 kind,.string name,.slice jk gy je,.slice qc gu lu] 60)).alloc (.cells #[.int .i64 wu,.string dh,.slice jr jc jm,.slice ni ig jq] 60)).cell? ⟨L,0,none⟩=some (.int .i64 ((n+1:Nat):Int)):=by rw[← hw0];exact(hB0.cell (p:=⟨L,0,none⟩) hLt).trans hL
 rw[Int.natCast_add] at hL0
 clear hL
 have hsub:((n:Int)+((1:Nat):Int)) - 1=n:=by omega
 have HW:=Lib.hid hw0
 clear hw0
 go_enter Tryz.func163,Tryz.ntmps163
 go_wp2_with fail
 rw[← HW.out]
 refine(IH.out B [.int .i64 kind,.string name,.slice jk gy je,.slice qc gu lu] [.int .i64 wu,.string dh,.slice jr jc jm,.slice ni ig jq] w0 (Nat.le_trans hB hs0) (Ty.close_ (pq.out.below (hB0.mono hB)) (qm.out.below (hB0.mono hB))) (Ty.close_ (xw.out.below (hB0.mono hB)) (zu.out.below (hB0.mono hB)))).mono ?_
 rintro e w1 ⟨rfl,hb1⟩
 go_wp2_with fail
 go_ret
 exact⟨rfl,hB0.trans (hb1.mono hs0)⟩
set_option maxHeartbeats 3200000 in
theorem aou:∀ (n:Nat),n≤100→∀ (x y:Ty) (B:Nat) (cs ds:List Value) (w:World),B≤w.heap.size→jy w B (Ty.pd x) cs→jy w B (Ty.pd y) ds→Calls Tryz.prog 147 #[.agg cs.toArray,.agg ds.toArray,.int .i64 n] w fun e w'=>e=.returned (.bool (afa n x y))∧Below w.heap.size w w'
 | 0,_,x,y,B,cs,ds,w,hB,h,k=>by
  obtain⟨kind,name,labels,kids⟩:=x
  obtain⟨iq,qp,rfl,bf,eu⟩:=Ty.open_ h
  obtain⟨jk,gy,je,rfl⟩:=bf.form
  have pq:=Lib.hid bf
  clear bf
  obtain⟨qc,gu,lu,rfl⟩:=eu.form
  have qm:=Lib.hid eu
  clear eu
  obtain⟨wu,dh,dn,jf⟩:=y
  obtain⟨ab1,adt,rfl,dw,jd⟩:=Ty.open_ k
  obtain⟨jr,jc,jm,rfl⟩:=dw.form
  have xw:=Lib.hid dw
  clear dw
  obtain⟨ni,ig,jq,rfl⟩:=jd.form
  have zu:=Lib.hid jd
  clear jd
  clear h k
  have HF:Hid (afa 0 (⟨kind,name,labels,kids⟩:Ty) (⟨wu,dh,dn,jf⟩:Ty)=false):=Lib.hid rfl
  go_enter Tryz.func147,Tryz.ntmps147
  go_wp2_with fail
  go_ret
  exact⟨ah HF.out.symm,(((Below.refl _ _).alloc (Nat.le_refl _) _).alloc (by simp) _).alloc (by simp;omega) _⟩
 | n+1,hn,x,y,B,cs,ds,w,hB,h,k=>by
  have IH:=Lib.hid (aou n (by omega))
  have hn0:(((n+1:Nat):Int) ==0)=false:=by simp;omega
  obtain⟨N,hN⟩:∃ N:Int,N=((n+1:Nat):Int):=⟨_,rfl⟩
  rw[← hN] at hn0 ⊢
  have HN:=Lib.hid hN
  clear hN
  obtain⟨kind,name,labels,kids⟩:=x
  obtain⟨iq,qp,rfl,bf,eu⟩:=Ty.open_ h
  obtain⟨jk,gy,je,rfl⟩:=bf.form
  have pq:=Lib.hid bf
  clear bf
  obtain⟨qc,gu,lu,rfl⟩:=eu.form
  have qm:=Lib.hid eu
  clear eu
  obtain⟨wu,dh,dn,jf⟩:=y
  obtain⟨ab1,adt,rfl,dw,jd⟩:=Ty.open_ k
  obtain⟨jr,jc,jm,rfl⟩:=dw.form
  have xw:=Lib.hid dw
  clear dw
  obtain⟨ni,ig,jq,rfl⟩:=jd.form
  have zu:=Lib.hid jd
  clear jd
  clear h k
  by_cases amm:kind=wu
  case neg=>
   have HF:Hid (afa (n+1) (⟨kind,name,labels,kids⟩:Ty) (⟨wu,dh,dn,jf⟩:Ty)=false):=by show _=_;simp[afa,amm]
   have hs:(kind ==wu)=false:=by simpa using amm
   have hs2:(kind != wu)=true:=by simpa using amm
   go_enter Tryz.func147,Tryz.ntmps147
   go_wp2_with fail
   go_ret
   exact⟨ah HF.out.symm,(((Below.refl _ _).alloc (Nat.le_refl _) _).alloc (by simp) _).alloc (by simp;omega) _⟩
  subst amm
  by_cases aov:name=dh
  case neg=>
   have HF:Hid (afa (n+1) (⟨kind,name,labels,kids⟩:Ty) (⟨kind,dh,dn,jf⟩:Ty)=false):=by show _=_;simp[afa,aov]
   have hs:(name.toList ==dh.toList)=false:=ae0 aov
   have hs2:(name.toList != dh.toList)=true:=by simpa using hs
   go_enter Tryz.func147,Tryz.ntmps147
   go_wp2_with fail
   go_ret
   exact⟨ah HF.out.symm,(((Below.refl _ _).alloc (Nat.le_refl _) _).alloc (by simp) _).alloc (by simp;omega) _⟩
  subst aov
  have HF:Hid (afa (n+1) (⟨kind,name,labels,kids⟩:Ty) (⟨kind,name,dn,jf⟩:Ty)=(same2 strEq labels dn && same2 (afa n) kids jf)):=by show _=_;simp[afa]
  obtain⟨w0,hw0⟩:∃ W,W=((w.alloc (.cells #[.int .i64 kind,.string name,.slice jk gy je,.slice qc gu lu] 60)).alloc (.cells #[.int .i64 kind,.string name,.slice jr jc jm,.slice ni ig jq] 60)).alloc (.cells #[.int .i64 N] 3):=⟨_,rfl⟩
  have bA:Blk w0 w.heap.size 60 #[.int .i64 kind,.string name,.slice jk gy je,.slice qc gu lu]:=by rw[hw0];exact((Blk.new w _ _).alloc _).alloc _
  have bC:Blk w0 (w.heap.size+1) 60 #[.int .i64 kind,.string name,.slice jr jc jm,.slice ni ig jq]:=by rw[hw0];have:=(Blk.new (w.alloc (.cells #[.int .i64 kind,.string name,.slice jk gy je,.slice qc gu lu] 60)) 60 #[.int .i64 kind,.string name,.slice jr jc jm,.slice ni ig jq]).alloc (.cells #[.int .i64 N] 3);simpa using this
  have bL:Blk w0 (w.heap.size+1+1) 3 #[.int .i64 N]:=by rw[hw0];have:=Blk.new ((w.alloc (.cells #[.int .i64 kind,.string name,.slice jk gy je,.slice qc gu lu] 60)).alloc (.cells #[.int .i64 kind,.string name,.slice jr jc jm,.slice ni ig jq] 60)) 3 #[.int .i64 N];simpa using this
  have hB0:Below w.heap.size w w0:=by rw[hw0];exact(((Below.refl _ _).alloc (Nat.le_refl _) _).alloc (by simp) _).alloc (by simp;omega) _
  have hs0:=hB0.size
  go_enter Tryz.func147,Tryz.ntmps147
  go_wp2_with fail
  rw[← hw0]
  clear hw0
  refine(avr (pq.out.below (hB0.mono hB)) (xw.out.below (hB0.mono hB))).mono ?_
  rintro e w1 ⟨rfl,hb1⟩
  have hB1:=hB0.trans (hb1.mono hs0)
  replace bA:=bA.step hb1
  replace bC:=bC.step hb1
  replace bL:=bL.step hb1
  have c1:w1.cell? ⟨w.heap.size,3,none⟩=some (.slice qc gu lu):=bA.cell 3
  have c2:w1.cell? ⟨w.heap.size+1,3,none⟩=some (.slice ni ig jq):=bC.cell 3
  clear bA bC
  cases hi:same2 strEq labels dn
  ·go_wp2_with fail
   go_ret
   exact⟨ah (by rw[HF.out,hi];rfl),hB1⟩
  ·have hlt:=bL.lt
   go_wp2_with fail
   refine(a1m 163 #[.pointer (some ⟨w.heap.size+1+1,0,none⟩)] (afa n) (Nat.le_trans hB hB1.size) (qm.out.below (hB1.mono hB)) (zu.out.below (hB1.mono hB)) aw2 (fun x _ y _ cs ds W hW hr1 hr2=>az2 (by omega) IH.out x y (Nat.le_trans (Nat.le_trans hB hB1.size) hW.size) (by rw[← HN.out];exact(bL.step hW).cell 0) (Nat.lt_of_lt_of_le hlt hW.size) hr1 hr2)).mono ?_
   rintro e w2 ⟨rfl,hb2⟩
   go_wp2_with fail
   go_ret
   exact⟨ah (by rw[HF.out,hi];rfl),hB1.trans (hb2.mono hB1.size)⟩
theorem au0 (x y:Ty) {B:Nat} {cs ds:List Value} {w:World} (hB:B≤w.heap.size) (h:jy w B (Ty.pd x) cs) (k:jy w B (Ty.pd y) ds):
  Calls Tryz.prog 121 #[.agg cs.toArray,.agg ds.toArray] w fun e w'=>e=.returned (.bool (afa 100 x y))∧Below w.heap.size w w':=by
 have IH:=Lib.hid (aou 100 (Nat.le_refl _) x y)
 obtain⟨R,hR⟩:∃ R,R=afa 100 x y:=⟨_,rfl⟩
 rw[← hR]
 rw[← hR] at IH
 clear hR
 obtain⟨kind,name,labels,kids⟩:=x
 obtain⟨iq,qp,rfl,bf,eu⟩:=Ty.open_ h
 obtain⟨jk,gy,je,rfl⟩:=bf.form
 have pq:=Lib.hid bf
 clear bf
 obtain⟨qc,gu,lu,rfl⟩:=eu.form
 have qm:=Lib.hid eu
 clear eu
 obtain⟨wu,dh,dn,jf⟩:=y
 obtain⟨ab1,adt,rfl,dw,jd⟩:=Ty.open_ k
 obtain⟨jr,jc,jm,rfl⟩:=dw.form
 have xw:=Lib.hid dw
 clear dw
 obtain⟨ni,ig,jq,rfl⟩:=jd.form
 have zu:=Lib.hid jd
 clear jd
 clear h k
 obtain⟨w0,hw0⟩:∃ W,W=(w.alloc (.cells #[.int .i64 kind,.string name,.slice jk gy je,.slice qc gu lu] 60)).alloc (.cells #[.int .i64 wu,.string dh,.slice jr jc jm,.slice ni ig jq] 60):=⟨_,rfl⟩
 have hB0:Below w.heap.size w w0:=by rw[hw0];exact((Below.refl _ _).alloc (Nat.le_refl _) _).alloc (by simp) _
 have hs0:=hB0.size
 go_enter Tryz.func121,Tryz.ntmps121
 go_wp2_with fail
 rw[← hw0]
 refine(IH.out B [.int .i64 kind,.string name,.slice jk gy je,.slice qc gu lu] [.int .i64 wu,.string dh,.slice jr jc jm,.slice ni ig jq] w0 (Nat.le_trans hB hs0) (Ty.close_ (pq.out.below (hB0.mono hB)) (qm.out.below (hB0.mono hB))) (Ty.close_ (xw.out.below (hB0.mono hB)) (zu.out.below (hB0.mono hB)))).mono ?_
 rintro e w1 ⟨rfl,hb1⟩
 go_wp2_with fail
 go_ret
 exact⟨rfl,hB0.trans (hb1.mono hs0)⟩
set_option maxHeartbeats 1600000 in
theorem az3 {B:Nat} {v u:Value} {xs ys:List ByteArray} {w:World} (h:Rep w B (.row 1 (xs.flatMap tu)) v) (k:Rep w B (.row 1 (ys.flatMap tu)) u):
  Calls Tryz.prog 155 #[v,u] w fun e w'=>e=.returned (.bool (same2 strEq xs ys))∧Below w.heap.size w w':=by
 obtain⟨A,n,c,rfl,hnl,hm,hat⟩:=ny aat (by decide) h
 obtain⟨A',n',c',rfl,ald,hm',hat'⟩:=ny aat (by decide) k
 unfold maxLen at hm hm'
 have HN:=Lib.hid hnl
 have HM:=Lib.hid ald
 clear h k hnl ald
 by_cases hnm:n=n'
 ·subst hnm
  go_enter Tryz.func155,Tryz.ntmps155
  go_wp2_with fail
  go_loopw [5] (fun i wr=>∃ k:Nat,k≤n∧i=.int .i64 k∧Hid (∀ (j:Nat) (a b:ByteArray),j < k→xs[j]?=some a→ys[j]?=some b→strEq a b=true)∧∃ q,wr=w.drewN q) (fun i _=>n - (intOf i).toNat)
  case atStart=>exact⟨0,Nat.zero_le _,rfl,Lib.hid fun j a b h=>absurd h (by omega),0,rfl⟩
  case round=>
   obtain⟨k,hk,rfl,HP,q,rfl⟩:=hrel
   by_cases hlt:k < n
   ·obtain⟨g,off,rfl,hg,hcell⟩:=hat (by omega)
    obtain⟨g',off',rfl,hg',hcell'⟩:=hat' (by omega)
    obtain⟨x,hx,_⟩:=xg HN.out hlt
    obtain⟨y,hy,_⟩:=xg HM.out hlt
    have hlt':(k:Int) < (n:Int):=by omega
    have c_x:w.cell? ⟨g,off+k,none⟩=some (.string x):=by
     obtain⟨u,hu,hr⟩:=hcell k 0 _ _ hx rfl
     rw[hr.ad8] at hu
     simpa using hu
    have c_y:w.cell? ⟨g',off'+k,none⟩=some (.string y):=by
     obtain⟨u,hu,hr⟩:=hcell' k 0 _ _ hy rfl
     rw[hr.ad8] at hu
     simpa using hu
    have HX:=Lib.hid hx
    have HY:=Lib.hid hy
    clear hx hy hcell hcell' hat hat'
    by_cases hb:x=y
    ·have HQ:=Lib.hid (aol (p:=strEq) HP.out HX.out HY.out (by simp[strEq,hb]))
     subst hb
     go_wp2_with fail
     go_quiet (fail)
     go_wp2_with fail
     go_roundw
     case rel=>exact⟨k+1,by omega,by go_num,HQ,_,rfl⟩
     case measure=>simp[intOf];omega
    ·have HF:Hid (same2 strEq xs ys=false):=aok HX.out HY.out (by simp[strEq,hb])
     have hs:(x.toList ==y.toList)=false:=ae0 hb
     clear hb
     go_wp2_with fail
     go_quiet (fail)
     go_wp2_with fail
     go_ret
     exact⟨ah HF.out.symm,by rw[World.drewN_drewN];exact below_drewN (Below.refl _ _) _⟩
   ·have HF:Hid (same2 strEq xs ys=true):=apf hlt HN.out HM.out HP.out
    have hkn:k=n:=by omega
    subst hkn
    go_wp2_with fail
    go_ret
    exact⟨ah HF.out.symm,below_drewN (Below.refl _ _) _⟩
 ·have HF:Hid (same2 strEq xs ys=false):=aqy (by have:=HN.out;have:=HM.out;omega)
  have hb:((n:Int) != (n':Int))=true:=by simp;omega
  clear hat hat'
  go_enter Tryz.func155,Tryz.ntmps155
  go_wp2_with fail
  go_ret
  exact⟨ah HF.out.symm,Below.refl _ _⟩
set_option maxHeartbeats 6400000 in
theorem as1:∀ (n:Nat),n≤100→∀ (x y:Ty) (B:Nat) (cs ds:List Value) (w:World),B≤w.heap.size→jy w B (Ty.pd x) cs→jy w B (Ty.pd y) ds→Calls Tryz.prog 135 #[.agg cs.toArray,.agg ds.toArray,.int .i64 (101 - (n:Int))] w fun e w'=>e=.returned (.bool (afa n x y))∧Below w.heap.size w w'
 | 0,_,x,y,B,cs,ds,w,hB,h,k=>by
  obtain⟨kind,name,labels,kids⟩:=x
  obtain⟨iq,qp,rfl,bf,eu⟩:=Ty.open_ h
  obtain⟨jk,gy,je,rfl⟩:=bf.form
  have pq:=Lib.hid bf
  clear bf
  obtain⟨qc,gu,lu,rfl⟩:=eu.form
  have qm:=Lib.hid eu
  clear eu
  obtain⟨wu,dh,dn,jf⟩:=y
  obtain⟨ab1,adt,rfl,dw,jd⟩:=Ty.open_ k
  obtain⟨jr,jc,jm,rfl⟩:=dw.form
  have xw:=Lib.hid dw
  clear dw
  obtain⟨ni,ig,jq,rfl⟩:=jd.form
  have zu:=Lib.hid jd
  clear jd
  clear h k
  have HF:Hid (afa 0 (⟨kind,name,labels,kids⟩:Ty) (⟨wu,dh,dn,jf⟩:Ty)=false):=Lib.hid rfl
  go_enter Tryz.func135,Tryz.ntmps135
  go_wp2_with fail
  go_ret
  exact⟨ah HF.out.symm,((Below.refl _ _).alloc (Nat.le_refl _) _).alloc (by simp) _⟩
 | n+1,hn,x,y,B,cs,ds,w,hB,h,k=>by
  have IH:=Lib.hid (as1 n (by omega))
  obtain⟨N,hN⟩:∃ N:Int,N=101 - ((n+1:Nat):Int):=⟨_,rfl⟩
  have hN1:N+1=101 - (n:Int):=by omega
  have hN2:N≤100:=by omega
  have hN3:0≤N:=by omega
  rw[← hN]
  rw[← hN1] at IH
  clear hN hN1
  obtain⟨kind,name,labels,kids⟩:=x
  obtain⟨iq,qp,rfl,bf,eu⟩:=Ty.open_ h
  obtain⟨jk,gy,je,rfl⟩:=bf.form
  have pq:=Lib.hid bf
  clear bf
  obtain⟨qc,gu,lu,rfl⟩:=eu.form
  have qm:=Lib.hid eu
  clear eu
  obtain⟨wu,dh,dn,jf⟩:=y
  obtain⟨ab1,adt,rfl,dw,jd⟩:=Ty.open_ k
  obtain⟨jr,jc,jm,rfl⟩:=dw.form
  have xw:=Lib.hid dw
  clear dw
  obtain⟨ni,ig,jq,rfl⟩:=jd.form
  have zu:=Lib.hid jd
  clear jd
  clear h k
  by_cases amm:kind=wu
  case neg=>
   have HF:Hid (afa (n+1) (⟨kind,name,labels,kids⟩:Ty) (⟨wu,dh,dn,jf⟩:Ty)=false):=by show _=_;simp[afa,amm]
   have hs:(kind ==wu)=false:=by simpa using amm
   have hs2:(kind != wu)=true:=by simpa using amm
   go_enter Tryz.func135,Tryz.ntmps135
   go_wp2_with fail
   go_ret
   exact⟨ah HF.out.symm,((Below.refl _ _).alloc (Nat.le_refl _) _).alloc (by simp) _⟩
  subst amm
  by_cases aov:name=dh
  case neg=>
   have HF:Hid (afa (n+1) (⟨kind,name,labels,kids⟩:Ty) (⟨kind,dh,dn,jf⟩:Ty)=false):=by show _=_;simp[afa,aov]
   have hs:(name.toList ==dh.toList)=false:=ae0 aov
   have hs2:(name.toList != dh.toList)=true:=by simpa using hs
   go_enter Tryz.func135,Tryz.ntmps135
   go_wp2_with fail
   go_ret
   exact⟨ah HF.out.symm,((Below.refl _ _).alloc (Nat.le_refl _) _).alloc (by simp) _⟩
  subst aov
  have HF:Hid (afa (n+1) (⟨kind,name,labels,kids⟩:Ty) (⟨kind,name,dn,jf⟩:Ty)=(same2 strEq labels dn && same2 (afa n) kids jf)):=by show _=_;simp[afa]
  obtain⟨_,_,_,he,ab7,aed,adk⟩:=ny Ty.jw (by decide) qm.out
  injection he with e1 e2 e3
  subst e1 e2 e3
  unfold maxLen at aed
  have aax:=Lib.hid ab7
  clear ab7
  obtain⟨_,_,_,he,abe,adv,acv⟩:=ny Ty.jw (by decide) zu.out
  injection he with e1 e2 e3
  subst e1 e2 e3
  unfold maxLen at adv
  have aar:=Lib.hid abe
  clear abe
  obtain⟨w0,hw0⟩:∃ W,W=(w.alloc (.cells #[.int .i64 kind,.string name,.slice jk gy je,.slice qc gu lu] 60)).alloc (.cells #[.int .i64 kind,.string name,.slice jr jc jm,.slice ni ig jq] 60):=⟨_,rfl⟩
  have bA:Blk w0 w.heap.size 60 #[.int .i64 kind,.string name,.slice jk gy je,.slice qc gu lu]:=by rw[hw0];exact(Blk.new w _ _).alloc _
  have bC:Blk w0 (w.heap.size+1) 60 #[.int .i64 kind,.string name,.slice jr jc jm,.slice ni ig jq]:=by rw[hw0];have:=Blk.new (w.alloc (.cells #[.int .i64 kind,.string name,.slice jk gy je,.slice qc gu lu] 60)) 60 #[.int .i64 kind,.string name,.slice jr jc jm,.slice ni ig jq];simpa using this
  have hB0:Below w.heap.size w w0:=by rw[hw0];exact((Below.refl _ _).alloc (Nat.le_refl _) _).alloc (by simp) _
  have hs0:=hB0.size
  go_enter Tryz.func135,Tryz.ntmps135
  go_wp2_with fail
  rw[← hw0]
  clear hw0
  refine(az3 (pq.out.below (hB0.mono hB)) (xw.out.below (hB0.mono hB))).mono ?_
  rintro e w1 ⟨rfl,hb1⟩
  have hB1:=hB0.trans (hb1.mono hs0)
  replace bA:=bA.step hb1
  replace bC:=bC.step hb1
  have c1:w1.cell? ⟨w.heap.size,3,none⟩=some (.slice qc gu lu):=bA.cell 3
  have c2:w1.cell? ⟨w.heap.size+1,3,none⟩=some (.slice ni ig jq):=bC.cell 3
  cases hi:same2 strEq labels dn
  case false=>
   go_wp2_with fail
   go_ret
   exact⟨ah (by rw[HF.out,hi];rfl),hB1⟩
  by_cases hl:gu=ig
  case neg=>
   have hs:((gu:Int) != (ig:Int))=true:=by simp;omega
   have HQ:Hid (same2 (afa n) kids jf=false):=aqy (by have:=aax.out;have:=aar.out;omega)
   go_wp2_with fail
   go_ret
   exact⟨ah (by rw[HF.out,hi,HQ.out];rfl),hB1⟩
  subst hl
  have HI:=Lib.hid hi
  clear hi
  go_wp2_with fail
  clear c1 c2
  go_loopw [7] (fun i wr=>∃ k:Nat,k≤gu∧i=.int .i64 k∧Hid (∀ (j:Nat) (a b:Ty),j < k→kids[j]?=some a→jf[j]?=some b→afa n a b=true)∧Below w1.heap.size w1 wr) (fun i _=>gu - (intOf i).toNat)
  case atStart=>exact⟨0,Nat.zero_le _,rfl,Lib.hid fun j a b h=>absurd h (by omega),Below.refl _ _⟩
  case round=>
   obtain⟨k,hk,rfl,HP2,hbr⟩:=hrel
   have hBr:=hB1.trans (hbr.mono hB1.size)
   have hsz:=hbr.size
   have hA:=bA.lt
   have hC:=bC.lt
   have a3:wr.cell? ⟨w.heap.size,3,none⟩=some (.slice qc gu lu):=(bA.step hbr).cell 3
   have a4:wr.cell? ⟨w.heap.size+1,3,none⟩=some (.slice ni gu jq):=(bC.step hbr).cell 3
   by_cases hlt:k < gu
   ·obtain⟨g,off,rfl,hg,hcell⟩:=adk (by omega)
    obtain⟨g',off',rfl,hg',hcell'⟩:=acv (by omega)
    obtain⟨x,hx,_⟩:=xg aax.out hlt
    obtain⟨y,hy,_⟩:=xg aar.out hlt
    have hlt':(k:Int) < (gu:Int):=by omega
    obtain⟨uf,qj,aaj,aby⟩:=x
    obtain⟨qw,qh,aak,abz⟩:=y
    have acw:wr.cell? ⟨g,off+k * 4,none⟩=some (.int .i64 uf):=gq hBr (by omega) (hcell k 0 _ _ hx (by rw[Ty.ay];rfl))
    have ac4:wr.cell? ⟨g',off'+k * 4,none⟩=some (.int .i64 qw):=gq hBr (by omega) (hcell' k 0 _ _ hy (by rw[Ty.ay];rfl))
    have acu:wr.cell? ⟨g,off+k * 4+1,none⟩=some (.string qj):=gq hBr (by omega) (hcell k 1 _ _ hx (by rw[Ty.ay];rfl))
    have acy:wr.cell? ⟨g',off'+k * 4+1,none⟩=some (.string qh):=gq hBr (by omega) (hcell' k 1 _ _ hy (by rw[Ty.ay];rfl))
    obtain⟨uh,abo,aw3⟩:∃ u,wr.cell? ⟨g,off+k * 4+2,none⟩=some u∧Rep wr B (.row 1 (aaj.flatMap tu)) u:=ku hBr (by omega) hB (hcell k 2 _ _ hx (by rw[Ty.ay];rfl))
    have qy:=Lib.hid aw3
    clear aw3
    obtain⟨uz,abq,aw4⟩:∃ u,wr.cell? ⟨g',off'+k * 4+2,none⟩=some u∧Rep wr B (.row 1 (aak.flatMap tu)) u:=ku hBr (by omega) hB (hcell' k 2 _ _ hy (by rw[Ty.ay];rfl))
    have qo:=Lib.hid aw4
    clear aw4
    obtain⟨zf,acz,a1n⟩:∃ u,wr.cell? ⟨g,off+k * 4+3,none⟩=some u∧Rep wr B (.row 4 (aby.flatMap Ty.pd)) u:=ku hBr (by omega) hB (hcell k 3 _ _ hx (by rw[Ty.ay];rfl))
    have yw:=Lib.hid a1n
    clear a1n
    obtain⟨aae,ac5,a1o⟩:∃ u,wr.cell? ⟨g',off'+k * 4+3,none⟩=some u∧Rep wr B (.row 4 (abz.flatMap Ty.pd)) u:=ku hBr (by omega) hB (hcell' k 3 _ _ hy (by rw[Ty.ay];rfl))
    have yu:=Lib.hid a1o
    clear a1o
    have CC:=Lib.hid (IH.out ⟨uf,qj,aaj,aby⟩ ⟨qw,qh,aak,abz⟩ B [.int .i64 uf,.string qj,uh,zf] [.int .i64 qw,.string qh,uz,aae] wr.drew (Nat.le_trans hB hBr.size) ((Ty.close_ qy.out yw.out).below (Below.refl _ _).drew) ((Ty.close_ qo.out yu.out).below (Below.refl _ _).drew))
    have HX:=Lib.hid hx
    have HY:=Lib.hid hy
    clear hx hy hcell hcell' adk acv bA bC
    have hwr:IntKind.i64.wrap (N+1)=N+1:=IntWalk.i64_in _ (by omega)
    go_wp2_with fail
    go_region_held3 (fun w'=>w'.cell? ⟨w.heap.size,3,none⟩=some (.slice (some ⟨g,off,none⟩) gu lu)∧w'.cell? ⟨w.heap.size+1,3,none⟩=some (.slice (some ⟨g',off',none⟩) gu jq)∧w'.cell? ⟨g,off+k * 4,none⟩=some (.int .i64 uf)∧w'.cell? ⟨g',off'+k * 4,none⟩=some (.int .i64 qw)∧w'.cell? ⟨g,off+k * 4+1,none⟩=some (.string qj)∧w'.cell? ⟨g',off'+k * 4+1,none⟩=some (.string qh)∧w'.cell? ⟨g,off+k * 4+2,none⟩=some (uh)∧w'.cell? ⟨g',off'+k * 4+2,none⟩=some (uz)∧w'.cell? ⟨g,off+k * 4+3,none⟩=some (zf)∧w'.cell? ⟨g',off'+k * 4+3,none⟩=some (aae))
     (first|go_keep|exact⟨(hb9.cell (p:=⟨w.heap.size,3,none⟩) (by show w.heap.size < wr.heap.size;omega)).trans a3,(hb9.cell (p:=⟨w.heap.size+1,3,none⟩) (by show w.heap.size+1 < wr.heap.size;omega)).trans a4,(hb9.cell (p:=⟨g,off+k * 4,none⟩) (by show g < wr.heap.size;omega)).trans acw,(hb9.cell (p:=⟨g',off'+k * 4,none⟩) (by show g' < wr.heap.size;omega)).trans ac4,(hb9.cell (p:=⟨g,off+k * 4+1,none⟩) (by show g < wr.heap.size;omega)).trans acu,(hb9.cell (p:=⟨g',off'+k * 4+1,none⟩) (by show g' < wr.heap.size;omega)).trans acy,(hb9.cell (p:=⟨g,off+k * 4+2,none⟩) (by show g < wr.heap.size;omega)).trans abo,(hb9.cell (p:=⟨g',off'+k * 4+2,none⟩) (by show g' < wr.heap.size;omega)).trans abq,(hb9.cell (p:=⟨g,off+k * 4+3,none⟩) (by show g < wr.heap.size;omega)).trans acz,(hb9.cell (p:=⟨g',off'+k * 4+3,none⟩) (by show g' < wr.heap.size;omega)).trans ac5⟩)
     (first|(go_at_call 135;refine CC.out.mono ?_;rintro e w9 ⟨rfl,bob⟩;have hb9:Below wr.heap.size wr w9:=(Below.refl _ _).drew.trans bob))
    clear a3 a4
    have hB9:=hBr.trans (hb9.mono hBr.size)
    have boc:=hbr.trans (hb9.mono hsz)
    cases hbq:afa n ⟨uf,qj,aaj,aby⟩ ⟨qw,qh,aak,abz⟩
    ·have HQ2:Hid (same2 (afa n) kids jf=false):=aok HX.out HY.out hbq
     go_wp2_with fail
     go_ret
     exact⟨ah (by rw[HF.out,HQ2.out,Bool.and_false]),hB9⟩
    ·have HQ2:=Lib.hid (aol HP2.out HX.out HY.out hbq)
     go_wp2_with fail
     go_roundw
     case rel=>exact⟨k+1,by omega,by go_num,HQ2,boc⟩
     case measure=>simp[intOf];omega
   ·have HQ2:Hid (same2 (afa n) kids jf=true):=apf hlt aax.out aar.out HP2.out
    have hkn:k=gu:=by omega
    subst hkn
    go_wp2_with fail
    go_ret
    exact⟨ah (by rw[HF.out,HI.out,HQ2.out];rfl),hBr⟩
theorem au1 (x y:Ty) {B:Nat} {cs ds:List Value} {w:World} (hB:B≤w.heap.size) (h:jy w B (Ty.pd x) cs) (k:jy w B (Ty.pd y) ds):
  Calls Tryz.prog 108 #[.agg cs.toArray,.agg ds.toArray] w fun e w'=>e=.returned (.bool (afa 100 x y))∧Below w.heap.size w w':=by
 have IH:=Lib.hid (as1 100 (Nat.le_refl _) x y)
 obtain⟨R,hR⟩:∃ R,R=afa 100 x y:=⟨_,rfl⟩
 rw[← hR]
 rw[← hR] at IH
 clear hR
 obtain⟨kind,name,labels,kids⟩:=x
 obtain⟨iq,qp,rfl,bf,eu⟩:=Ty.open_ h
 obtain⟨jk,gy,je,rfl⟩:=bf.form
 have pq:=Lib.hid bf
 clear bf
 obtain⟨qc,gu,lu,rfl⟩:=eu.form
 have qm:=Lib.hid eu
 clear eu
 obtain⟨wu,dh,dn,jf⟩:=y
 obtain⟨ab1,adt,rfl,dw,jd⟩:=Ty.open_ k
 obtain⟨jr,jc,jm,rfl⟩:=dw.form
 have xw:=Lib.hid dw
 clear dw
 obtain⟨ni,ig,jq,rfl⟩:=jd.form
 have zu:=Lib.hid jd
 clear jd
 clear h k
 obtain⟨w0,hw0⟩:∃ W,W=(w.alloc (.cells #[.int .i64 kind,.string name,.slice jk gy je,.slice qc gu lu] 60)).alloc (.cells #[.int .i64 wu,.string dh,.slice jr jc jm,.slice ni ig jq] 60):=⟨_,rfl⟩
 have hB0:Below w.heap.size w w0:=by rw[hw0];exact((Below.refl _ _).alloc (Nat.le_refl _) _).alloc (by simp) _
 have hs0:=hB0.size
 go_enter Tryz.func108,Tryz.ntmps108
 go_wp2_with fail
 rw[← hw0]
 refine(IH.out B [.int .i64 kind,.string name,.slice jk gy je,.slice qc gu lu] [.int .i64 wu,.string dh,.slice jr jc jm,.slice ni ig jq] w0 (Nat.le_trans hB hs0) (Ty.close_ (pq.out.below (hB0.mono hB)) (qm.out.below (hB0.mono hB))) (Ty.close_ (xw.out.below (hB0.mono hB)) (zu.out.below (hB0.mono hB)))).mono ?_
 rintro e w1 ⟨rfl,hb1⟩
 go_wp2_with fail
 go_ret
 exact⟨rfl,hB0.trans (hb1.mono hs0)⟩
end Go.Proofs.YtbafphecjijdmaaGreatDoor
namespace Go.Proofs.YtbafphecjijdmaaGreatDoor
open Go.RowKit Go.Shelf
set_option linter.unusedVariables false
set_option linter.unusedSimpArgs false
set_option linter.unnecessarySimpa false
theorem a4q {P:Program} {W:World} {name:String} {k:IntKind} {zs:List Int} {g:Nat} {t e:TypeId} {n:Nat}
  (hg:P.globalNamed name=some g) (hty:(P.globals[g]?).map (·.type)=some t) (ht:P.underlying t=some (.array n e)) (he:P.underlying e=some (.int k)) (hce:P.cellsOf e=1) (hct:P.cellsOf t=n)
  (h:Lib.VarReads P W name (Lib.tabData k zs)):Lib.TabIs P W name k zs:=by
 obtain⟨g',t',cs,fuel,p,hg',ht',hvar,hd⟩:=h
 obtain rfl:=Option.some.inj (hg.symm.trans hg')
 obtain rfl:=Option.some.inj (hty.symm.trans ht')
 unfold Lib.TabIs
 rw[hvar,← Lib.cells_of_tab ht he hce hct hd]
theorem a4r {P:Program} {w w':World} {name:String} {k:IntKind} {zs:List Int} (h:Lib.TabIs P w name k zs) (hb:Below w.heap.size w w'):Lib.TabIs P w' name k zs:=by
 unfold Lib.TabIs World.var? at *
 cases hg:P.globalNamed name with
 | none=>simp[hg] at h
 | some g=>
  simp only[hg,Option.bind_some] at h ⊢
  have hlt:g < w.heap.size:=by
   rcases Nat.lt_or_ge g w.heap.size with h'|h'
   ·exact h'
   ·rw[Array.getElem?_eq_none h'] at h;simp at h
  rw[hb.block g hlt]
  exact h
end Go.Proofs.YtbafphecjijdmaaGreatDoor
