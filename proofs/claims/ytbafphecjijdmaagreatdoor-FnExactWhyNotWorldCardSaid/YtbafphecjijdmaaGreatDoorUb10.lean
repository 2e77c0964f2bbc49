/-
  spec.SameType, impl.SameType: the same bool (by program: gen_samety.py). (and 2 more texts)
-/
import Derived.Test.YtbafphecjijdmaaGreatDoorUb09
import Derived.Deep.RegionHeld3
import Derived.Test.YtbafphecjijdmaaGreatDoorUb01
import Derived.Lib.LaidU8
import Derived.LaidMore
import Derived.MakeChecks
import Derived.Test.YtbafphecjijdmaaGreatDoorRows
namespace Go.Proofs.YtbafphecjijdmaaGreatDoor
open Go.RowKit
set_option linter.all false
set_option maxRecDepth 100000
def afq:Nat→Ty→Ty→Bool
 | 0,_,_=>false
 | n+1,⟨kind,name,labels,kids⟩,⟨xw,dw,eu,jk⟩=>decide (kind=xw) && decide (name=dw) && same2 strEq labels eu && same2 (afq n) kids jk
theorem a0b (a:Array Value) (W:World):Sem.run Tryz.prog (callFunc 163 a) W=.ok (.enter 163 a) W:=by kernel_rfl
theorem a4l {n:Nat} (hn:n≤100) (ih:∀ (x y:Ty) (B:Nat) (cs ds:List Value) (w:World),B≤w.heap.size→lq w B (Ty.pd x) cs→lq w B (Ty.pd y) ds→Calls Tryz.prog 147 #[.agg cs.toArray,.agg ds.toArray,.int .i64 n] w fun e w'=>e=.returned (.bool (afq n x y))∧Below w.heap.size w w')
  (x y:Ty) {B L:Nat} {cs ds:List Value} {w:World} (hB:B≤w.heap.size) (hL:w.cell? ⟨L,0,none⟩=some (.int .i64 ((n+1:Nat):Int))) (hLt:L < w.heap.size) (h:lq w B (Ty.pd x) cs) (k:lq w B (Ty.pd y) ds):
  Calls Tryz.prog 163 (#[.agg cs.toArray,.agg ds.toArray] ++#[.pointer (some ⟨L,0,none⟩)]) w fun e w'=>e=.returned (.bool (afq n x y))∧Below w.heap.size w w':=by
 have IH:=zqd (ih x y)
 clear ih
 obtain⟨R,hR⟩:∃ R,R=afq n x y:=⟨_,rfl⟩
 rw[← hR]
 rw[← hR] at IH
 have HR:=zqd hR
 clear hR
 obtain⟨kind,name,labels,kids⟩:=x
 obtain⟨iw,qw,rfl,bf,gu⟩:=Ty.open_ h
 obtain⟨jo,ig,ji,rfl⟩:=bf.form
 have pz:=zqd bf
 clear bf
 obtain⟨qg,gy,l9,rfl⟩:=gu.form
 have qo:=zqd gu
 clear gu
 obtain⟨xw,dw,eu,jk⟩:=y
 obtain⟨acd,ad9,rfl,gq,jg⟩:=Ty.open_ k
 obtain⟨jy,jf,jr,rfl⟩:=gq.form
 have yj:=zqd gq
 clear gq
 obtain⟨oq,iq,jw,rfl⟩:=jg.form
 have aah:=zqd jg
 clear jg
 clear h k
 obtain⟨w0,hw0⟩:∃ W,W=(w.alloc (.cells #[.int .i64 kind,.string name,.slice jo ig ji,.slice qg gy l9] 60)).alloc (.cells #[.int .i64 xw,.string dw,.slice jy jf jr,.slice oq iq jw] 60):=⟨_,rfl⟩
 have hB0:Below w.heap.size w w0:=by rw[hw0];exact((zqf _ _).alloc (zql _) _).alloc (by simp) _
 have hs0:=hB0.size
 have hL0:((w.alloc (.cells #[.int .i64 kind,.string name,.slice jo ig ji,.slice qg gy l9] 60)).alloc (.cells #[.int .i64 xw,.string dw,.slice jy jf jr,.slice oq iq jw] 60)).cell? ⟨L,0,none⟩=some (.int .i64 ((n+1:Nat):Int)):=by rw[← hw0];exact(hB0.cell (p:=⟨L,0,none⟩) hLt).trans hL
 rw[Int.natCast_add] at hL0
 clear hL
 have hsub:((n:Int)+((1:Nat):Int)) - 1=n:=by omega
 have HW:=zqd hw0
 clear hw0
 go_enter Tryz.func163,Tryz.ntmps163
 go_wp2_with fail
 rw[← HW.out]
 refine(IH.out B [.int .i64 kind,.string name,.slice jo ig ji,.slice qg gy l9] [.int .i64 xw,.string dw,.slice jy jf jr,.slice oq iq jw] w0 (Nat.le_trans hB hs0) (Ty.close_ (pz.out.below (hB0.mono hB)) (qo.out.below (hB0.mono hB))) (Ty.close_ (yj.out.below (hB0.mono hB)) (aah.out.below (hB0.mono hB)))).mono ?_
 rintro e w1 ⟨rfl,hb1⟩
 go_wp2_with fail
 go_ret
 exact⟨rfl,hB0.trans (hb1.mono hs0)⟩
set_option maxHeartbeats 3200000 in
theorem aqe:∀ (n:Nat),n≤100→∀ (x y:Ty) (B:Nat) (cs ds:List Value) (w:World),B≤w.heap.size→lq w B (Ty.pd x) cs→lq w B (Ty.pd y) ds→Calls Tryz.prog 147 #[.agg cs.toArray,.agg ds.toArray,.int .i64 n] w fun e w'=>e=.returned (.bool (afq n x y))∧Below w.heap.size w w'
 | 0,_,x,y,B,cs,ds,w,hB,h,k=>by
  obtain⟨kind,name,labels,kids⟩:=x
  obtain⟨iw,qw,rfl,bf,gu⟩:=Ty.open_ h
  obtain⟨jo,ig,ji,rfl⟩:=bf.form
  have pz:=zqd bf
  clear bf
  obtain⟨qg,gy,l9,rfl⟩:=gu.form
  have qo:=zqd gu
  clear gu
  obtain⟨xw,dw,eu,jk⟩:=y
  obtain⟨acd,ad9,rfl,gq,jg⟩:=Ty.open_ k
  obtain⟨jy,jf,jr,rfl⟩:=gq.form
  have yj:=zqd gq
  clear gq
  obtain⟨oq,iq,jw,rfl⟩:=jg.form
  have aah:=zqd jg
  clear jg
  clear h k
  have HF:Hid (afq 0 (⟨kind,name,labels,kids⟩:Ty) (⟨xw,dw,eu,jk⟩:Ty)=false):=zqd rfl
  go_enter Tryz.func147,Tryz.ntmps147
  go_wp2_with fail
  go_ret
  exact⟨ah HF.out.symm,(((zqf _ _).alloc (zql _) _).alloc (by simp) _).alloc (by simp;omega) _⟩
 | n+1,hn,x,y,B,cs,ds,w,hB,h,k=>by
  have IH:=zqd (aqe n (by omega))
  have hn0:(((n+1:Nat):Int) ==0)=false:=by simp;omega
  obtain⟨N,hN⟩:∃ N:Int,N=((n+1:Nat):Int):=⟨_,rfl⟩
  rw[← hN] at hn0 ⊢
  have HN:=zqd hN
  clear hN
  obtain⟨kind,name,labels,kids⟩:=x
  obtain⟨iw,qw,rfl,bf,gu⟩:=Ty.open_ h
  obtain⟨jo,ig,ji,rfl⟩:=bf.form
  have pz:=zqd bf
  clear bf
  obtain⟨qg,gy,l9,rfl⟩:=gu.form
  have qo:=zqd gu
  clear gu
  obtain⟨xw,dw,eu,jk⟩:=y
  obtain⟨acd,ad9,rfl,gq,jg⟩:=Ty.open_ k
  obtain⟨jy,jf,jr,rfl⟩:=gq.form
  have yj:=zqd gq
  clear gq
  obtain⟨oq,iq,jw,rfl⟩:=jg.form
  have aah:=zqd jg
  clear jg
  clear h k
  by_cases anu:kind=xw
  case neg=>
   have HF:Hid (afq (n+1) (⟨kind,name,labels,kids⟩:Ty) (⟨xw,dw,eu,jk⟩:Ty)=false):=by show _=_;simp[afq,anu]
   have hs:(kind ==xw)=false:=by simpa using anu
   have hs2:(kind != xw)=true:=by simpa using anu
   go_enter Tryz.func147,Tryz.ntmps147
   go_wp2_with fail
   go_ret
   exact⟨ah HF.out.symm,(((zqf _ _).alloc (zql _) _).alloc (by simp) _).alloc (by simp;omega) _⟩
  subst anu
  by_cases aqf:name=dw
  case neg=>
   have HF:Hid (afq (n+1) (⟨kind,name,labels,kids⟩:Ty) (⟨kind,dw,eu,jk⟩:Ty)=false):=by show _=_;simp[afq,aqf]
   have hs:(name.toList ==dw.toList)=false:=aeu aqf
   have hs2:(name.toList != dw.toList)=true:=by simpa using hs
   go_enter Tryz.func147,Tryz.ntmps147
   go_wp2_with fail
   go_ret
   exact⟨ah HF.out.symm,(((zqf _ _).alloc (zql _) _).alloc (by simp) _).alloc (by simp;omega) _⟩
  subst aqf
  have HF:Hid (afq (n+1) (⟨kind,name,labels,kids⟩:Ty) (⟨kind,name,eu,jk⟩:Ty)=(same2 strEq labels eu && same2 (afq n) kids jk)):=by show _=_;simp[afq]
  obtain⟨w0,hw0⟩:∃ W,W=((w.alloc (.cells #[.int .i64 kind,.string name,.slice jo ig ji,.slice qg gy l9] 60)).alloc (.cells #[.int .i64 kind,.string name,.slice jy jf jr,.slice oq iq jw] 60)).alloc (.cells #[.int .i64 N] 3):=⟨_,rfl⟩
  have bA:Blk w0 w.heap.size 60 #[.int .i64 kind,.string name,.slice jo ig ji,.slice qg gy l9]:=by rw[hw0];exact((Blk.new w _ _).alloc _).alloc _
  have bC:Blk w0 (w.heap.size+1) 60 #[.int .i64 kind,.string name,.slice jy jf jr,.slice oq iq jw]:=by rw[hw0];have:=(Blk.new (w.alloc (.cells #[.int .i64 kind,.string name,.slice jo ig ji,.slice qg gy l9] 60)) 60 #[.int .i64 kind,.string name,.slice jy jf jr,.slice oq iq jw]).alloc (.cells #[.int .i64 N] 3);simpa using this
  have bL:Blk w0 (w.heap.size+1+1) 3 #[.int .i64 N]:=by rw[hw0];have:=Blk.new ((w.alloc (.cells #[.int .i64 kind,.string name,.slice jo ig ji,.slice qg gy l9] 60)).alloc (.cells #[.int .i64 kind,.string name,.slice jy jf jr,.slice oq iq jw] 60)) 3 #[.int .i64 N];simpa using this
  have hB0:Below w.heap.size w w0:=by rw[hw0];exact(((zqf _ _).alloc (zql _) _).alloc (by simp) _).alloc (by simp;omega) _
  have hs0:=hB0.size
  go_enter Tryz.func147,Tryz.ntmps147
  go_wp2_with fail
  rw[← hw0]
  clear hw0
  refine(ayf (pz.out.below (hB0.mono hB)) (yj.out.below (hB0.mono hB))).mono ?_
  rintro e w1 ⟨rfl,hb1⟩
  have hB1:=hB0.trans (hb1.mono hs0)
  replace bA:=bA.step hb1
  replace bC:=bC.step hb1
  replace bL:=bL.step hb1
  have c1:w1.cell? ⟨w.heap.size,3,none⟩=some (.slice qg gy l9):=bA.cell 3
  have c2:w1.cell? ⟨w.heap.size+1,3,none⟩=some (.slice oq iq jw):=bC.cell 3
  clear bA bC
  cases hi:same2 strEq labels eu
  ·go_wp2_with fail
   go_ret
   exact⟨ah (by rw[HF.out,hi];rfl),hB1⟩
  ·have hlt:=bL.lt
   go_wp2_with fail
   refine(a6y 163 #[.pointer (some ⟨w.heap.size+1+1,0,none⟩)] (afq n) (Nat.le_trans hB hB1.size) (qo.out.below (hB1.mono hB)) (aah.out.below (hB1.mono hB)) a0b (fun x _ y _ cs ds W hW hr1 hr2=>a4l (by omega) IH.out x y (Nat.le_trans (Nat.le_trans hB hB1.size) hW.size) (by rw[← HN.out];exact(bL.step hW).cell 0) (Nat.lt_of_lt_of_le hlt hW.size) hr1 hr2)).mono ?_
   rintro e w2 ⟨rfl,hb2⟩
   go_wp2_with fail
   go_ret
   exact⟨ah (by rw[HF.out,hi];rfl),hB1.trans (hb2.mono hB1.size)⟩
theorem axj (x y:Ty) {B:Nat} {cs ds:List Value} {w:World} (hB:B≤w.heap.size) (h:lq w B (Ty.pd x) cs) (k:lq w B (Ty.pd y) ds):
  Calls Tryz.prog 121 #[.agg cs.toArray,.agg ds.toArray] w fun e w'=>e=.returned (.bool (afq 100 x y))∧Below w.heap.size w w':=by
 have IH:=zqd (aqe 100 (zql _) x y)
 obtain⟨R,hR⟩:∃ R,R=afq 100 x y:=⟨_,rfl⟩
 rw[← hR]
 rw[← hR] at IH
 clear hR
 obtain⟨kind,name,labels,kids⟩:=x
 obtain⟨iw,qw,rfl,bf,gu⟩:=Ty.open_ h
 obtain⟨jo,ig,ji,rfl⟩:=bf.form
 have pz:=zqd bf
 clear bf
 obtain⟨qg,gy,l9,rfl⟩:=gu.form
 have qo:=zqd gu
 clear gu
 obtain⟨xw,dw,eu,jk⟩:=y
 obtain⟨acd,ad9,rfl,gq,jg⟩:=Ty.open_ k
 obtain⟨jy,jf,jr,rfl⟩:=gq.form
 have yj:=zqd gq
 clear gq
 obtain⟨oq,iq,jw,rfl⟩:=jg.form
 have aah:=zqd jg
 clear jg
 clear h k
 obtain⟨w0,hw0⟩:∃ W,W=(w.alloc (.cells #[.int .i64 kind,.string name,.slice jo ig ji,.slice qg gy l9] 60)).alloc (.cells #[.int .i64 xw,.string dw,.slice jy jf jr,.slice oq iq jw] 60):=⟨_,rfl⟩
 have hB0:Below w.heap.size w w0:=by rw[hw0];exact((zqf _ _).alloc (zql _) _).alloc (by simp) _
 have hs0:=hB0.size
 go_enter Tryz.func121,Tryz.ntmps121
 go_wp2_with fail
 rw[← hw0]
 refine(IH.out B [.int .i64 kind,.string name,.slice jo ig ji,.slice qg gy l9] [.int .i64 xw,.string dw,.slice jy jf jr,.slice oq iq jw] w0 (Nat.le_trans hB hs0) (Ty.close_ (pz.out.below (hB0.mono hB)) (qo.out.below (hB0.mono hB))) (Ty.close_ (yj.out.below (hB0.mono hB)) (aah.out.below (hB0.mono hB)))).mono ?_
 rintro e w1 ⟨rfl,hb1⟩
 go_wp2_with fail
 go_ret
 exact⟨rfl,hB0.trans (hb1.mono hs0)⟩
set_option maxHeartbeats 1600000 in
theorem a4m {B:Nat} {v u:Value} {xs ys:List ByteArray} {w:World} (h:Rep w B (.row 1 (xs.flatMap qj)) v) (k:Rep w B (.row 1 (ys.flatMap qj)) u):
  Calls Tryz.prog 155 #[v,u] w fun e w'=>e=.returned (.bool (same2 strEq xs ys))∧Below w.heap.size w w':=by
 obtain⟨A,n,c,rfl,hnl,hm,hat⟩:=ni aaz (by decide) h
 obtain⟨A',n',c',rfl,alb,hm',hat'⟩:=ni aaz (by decide) k
 unfold maxLen at hm hm'
 have HN:=zqd hnl
 have HM:=zqd alb
 clear h k hnl alb
 by_cases hnm:n=n'
 ·subst hnm
  go_enter Tryz.func155,Tryz.ntmps155
  go_wp2_with fail
  go_loopw [5] (fun i wr=>∃ k:Nat,k≤n∧i=.int .i64 k∧Hid (∀ (j:Nat) (a b:ByteArray),j < k→xs[j]?=some a→ys[j]?=some b→strEq a b=true)∧∃ q,wr=w.drewN q) (fun i _=>n - (intOf i).toNat)
  case atStart=>exact⟨0,Nat.zero_le _,rfl,zqd fun j a b h=>absurd h (by omega),0,rfl⟩
  case round=>
   obtain⟨k,hk,rfl,HP,q,rfl⟩:=hrel
   by_cases hlt:k < n
   ·obtain⟨g,off,rfl,hg,hcell⟩:=hat (by omega)
    obtain⟨g',off',rfl,hg',hcell'⟩:=hat' (by omega)
    obtain⟨x,hx,_⟩:=um HN.out hlt
    obtain⟨y,hy,_⟩:=um HM.out hlt
    have hlt':(k:Int) < (n:Int):=by omega
    have c_x:w.cell? ⟨g,off+k,none⟩=some (.string x):=by
     obtain⟨u,hu,hr⟩:=hcell k 0 _ _ hx rfl
     rw[hr.ad8] at hu
     simpa using hu
    have c_y:w.cell? ⟨g',off'+k,none⟩=some (.string y):=by
     obtain⟨u,hu,hr⟩:=hcell' k 0 _ _ hy rfl
     rw[hr.ad8] at hu
     simpa using hu
    have HX:=zqd hx
    have HY:=zqd hy
    clear hx hy hcell hcell' hat hat'
    by_cases hb:x=y
    ·have HQ:=zqd (apz (p:=strEq) HP.out HX.out HY.out (by simp[strEq,hb]))
     subst hb
     go_wp2_with fail
     go_quiet (fail)
     go_wp2_with fail
     go_roundw
     case rel=>exact⟨k+1,by omega,by go_num,HQ,_,rfl⟩
     case measure=>simp[intOf];omega
    ·have HF:Hid (same2 strEq xs ys=false):=apy HX.out HY.out (by simp[strEq,hb])
     have hs:(x.toList ==y.toList)=false:=aeu hb
     clear hb
     go_wp2_with fail
     go_quiet (fail)
     go_wp2_with fail
     go_ret
     exact⟨ah HF.out.symm,by rw[World.drewN_drewN];exact below_drewN (zqf _ _) _⟩
   ·have HF:Hid (same2 strEq xs ys=true):=aq6 hlt HN.out HM.out HP.out
    have hkn:k=n:=by omega
    subst hkn
    go_wp2_with fail
    go_ret
    exact⟨ah HF.out.symm,below_drewN (zqf _ _) _⟩
 ·have HF:Hid (same2 strEq xs ys=false):=as2 (by have:=HN.out;have:=HM.out;omega)
  have hb:((n:Int) != (n':Int))=true:=by simp;omega
  clear hat hat'
  go_enter Tryz.func155,Tryz.ntmps155
  go_wp2_with fail
  go_ret
  exact⟨ah HF.out.symm,zqf _ _⟩
set_option maxHeartbeats 6400000 in
theorem avb:∀ (n:Nat),n≤100→∀ (x y:Ty) (B:Nat) (cs ds:List Value) (w:World),B≤w.heap.size→lq w B (Ty.pd x) cs→lq w B (Ty.pd y) ds→Calls Tryz.prog 135 #[.agg cs.toArray,.agg ds.toArray,.int .i64 (101 - (n:Int))] w fun e w'=>e=.returned (.bool (afq n x y))∧Below w.heap.size w w'
 | 0,_,x,y,B,cs,ds,w,hB,h,k=>by
  obtain⟨kind,name,labels,kids⟩:=x
  obtain⟨iw,qw,rfl,bf,gu⟩:=Ty.open_ h
  obtain⟨jo,ig,ji,rfl⟩:=bf.form
  have pz:=zqd bf
  clear bf
  obtain⟨qg,gy,l9,rfl⟩:=gu.form
  have qo:=zqd gu
  clear gu
  obtain⟨xw,dw,eu,jk⟩:=y
  obtain⟨acd,ad9,rfl,gq,jg⟩:=Ty.open_ k
  obtain⟨jy,jf,jr,rfl⟩:=gq.form
  have yj:=zqd gq
  clear gq
  obtain⟨oq,iq,jw,rfl⟩:=jg.form
  have aah:=zqd jg
  clear jg
  clear h k
  have HF:Hid (afq 0 (⟨kind,name,labels,kids⟩:Ty) (⟨xw,dw,eu,jk⟩:Ty)=false):=zqd rfl
  go_enter Tryz.func135,Tryz.ntmps135
  go_wp2_with fail
  go_ret
  exact⟨ah HF.out.symm,((zqf _ _).alloc (zql _) _).alloc (by simp) _⟩
 | n+1,hn,x,y,B,cs,ds,w,hB,h,k=>by
  have IH:=zqd (avb n (by omega))
  obtain⟨N,hN⟩:∃ N:Int,N=101 - ((n+1:Nat):Int):=⟨_,rfl⟩
  have hN1:N+1=101 - (n:Int):=by omega
  have hN2:N≤100:=by omega
  have hN3:0≤N:=by omega
  rw[← hN]
  rw[← hN1] at IH
  clear hN hN1
  obtain⟨kind,name,labels,kids⟩:=x
  obtain⟨iw,qw,rfl,bf,gu⟩:=Ty.open_ h
  obtain⟨jo,ig,ji,rfl⟩:=bf.form
  have pz:=zqd bf
  clear bf
  obtain⟨qg,gy,l9,rfl⟩:=gu.form
  have qo:=zqd gu
  clear gu
  obtain⟨xw,dw,eu,jk⟩:=y
  obtain⟨acd,ad9,rfl,gq,jg⟩:=Ty.open_ k
  obtain⟨jy,jf,jr,rfl⟩:=gq.form
  have yj:=zqd gq
  clear gq
  obtain⟨oq,iq,jw,rfl⟩:=jg.form
  have aah:=zqd jg
  clear jg
  clear h k
  by_cases anu:kind=xw
  case neg=>
   have HF:Hid (afq (n+1) (⟨kind,name,labels,kids⟩:Ty) (⟨xw,dw,eu,jk⟩:Ty)=false):=by show _=_;simp[afq,anu]
   have hs:(kind ==xw)=false:=by simpa using anu
   have hs2:(kind != xw)=true:=by simpa using anu
   go_enter Tryz.func135,Tryz.ntmps135
   go_wp2_with fail
   go_ret
   exact⟨ah HF.out.symm,((zqf _ _).alloc (zql _) _).alloc (by simp) _⟩
  subst anu
  by_cases aqf:name=dw
  case neg=>
   have HF:Hid (afq (n+1) (⟨kind,name,labels,kids⟩:Ty) (⟨kind,dw,eu,jk⟩:Ty)=false):=by show _=_;simp[afq,aqf]
   have hs:(name.toList ==dw.toList)=false:=aeu aqf
   have hs2:(name.toList != dw.toList)=true:=by simpa using hs
   go_enter Tryz.func135,Tryz.ntmps135
   go_wp2_with fail
   go_ret
   exact⟨ah HF.out.symm,((zqf _ _).alloc (zql _) _).alloc (by simp) _⟩
  subst aqf
  have HF:Hid (afq (n+1) (⟨kind,name,labels,kids⟩:Ty) (⟨kind,name,eu,jk⟩:Ty)=(same2 strEq labels eu && same2 (afq n) kids jk)):=by show _=_;simp[afq]
  obtain⟨_,_,_,he,acf,aev,ad2⟩:=ni Ty.jd (by decide) qo.out
  injection he with e1 e2 e3
  subst e1 e2 e3
  unfold maxLen at aev
  have aa3:=zqd acf
  clear acf
  obtain⟨_,_,_,he,abp,aeb,ac9⟩:=ni Ty.jd (by decide) aah.out
  injection he with e1 e2 e3
  subst e1 e2 e3
  unfold maxLen at aeb
  have aay:=zqd abp
  clear abp
  obtain⟨w0,hw0⟩:∃ W,W=(w.alloc (.cells #[.int .i64 kind,.string name,.slice jo ig ji,.slice qg gy l9] 60)).alloc (.cells #[.int .i64 kind,.string name,.slice jy jf jr,.slice oq iq jw] 60):=⟨_,rfl⟩
  have bA:Blk w0 w.heap.size 60 #[.int .i64 kind,.string name,.slice jo ig ji,.slice qg gy l9]:=by rw[hw0];exact(Blk.new w _ _).alloc _
  have bC:Blk w0 (w.heap.size+1) 60 #[.int .i64 kind,.string name,.slice jy jf jr,.slice oq iq jw]:=by rw[hw0];have:=Blk.new (w.alloc (.cells #[.int .i64 kind,.string name,.slice jo ig ji,.slice qg gy l9] 60)) 60 #[.int .i64 kind,.string name,.slice jy jf jr,.slice oq iq jw];simpa using this
  have hB0:Below w.heap.size w w0:=by rw[hw0];exact((zqf _ _).alloc (zql _) _).alloc (by simp) _
  have hs0:=hB0.size
  go_enter Tryz.func135,Tryz.ntmps135
  go_wp2_with fail
  rw[← hw0]
  clear hw0
  refine(a4m (pz.out.below (hB0.mono hB)) (yj.out.below (hB0.mono hB))).mono ?_
  rintro e w1 ⟨rfl,hb1⟩
  have hB1:=hB0.trans (hb1.mono hs0)
  replace bA:=bA.step hb1
  replace bC:=bC.step hb1
  have c1:w1.cell? ⟨w.heap.size,3,none⟩=some (.slice qg gy l9):=bA.cell 3
  have c2:w1.cell? ⟨w.heap.size+1,3,none⟩=some (.slice oq iq jw):=bC.cell 3
  cases hi:same2 strEq labels eu
  case false=>
   go_wp2_with fail
   go_ret
   exact⟨ah (by rw[HF.out,hi];rfl),hB1⟩
  by_cases hl:gy=iq
  case neg=>
   have hs:((gy:Int) != (iq:Int))=true:=by simp;omega
   have HQ:Hid (same2 (afq n) kids jk=false):=as2 (by have:=aa3.out;have:=aay.out;omega)
   go_wp2_with fail
   go_ret
   exact⟨ah (by rw[HF.out,hi,HQ.out];rfl),hB1⟩
  subst hl
  have HI:=zqd hi
  clear hi
  go_wp2_with fail
  clear c1 c2
  go_loopw [7] (fun i wr=>∃ k:Nat,k≤gy∧i=.int .i64 k∧Hid (∀ (j:Nat) (a b:Ty),j < k→kids[j]?=some a→jk[j]?=some b→afq n a b=true)∧Below w1.heap.size w1 wr) (fun i _=>gy - (intOf i).toNat)
  case atStart=>exact⟨0,Nat.zero_le _,rfl,zqd fun j a b h=>absurd h (by omega),zqf _ _⟩
  case round=>
   obtain⟨k,hk,rfl,HP2,hbr⟩:=hrel
   have hBr:=hB1.trans (hbr.mono hB1.size)
   have hsz:=hbr.size
   have hA:=bA.lt
   have hC:=bC.lt
   have a3:wr.cell? ⟨w.heap.size,3,none⟩=some (.slice qg gy l9):=(bA.step hbr).cell 3
   have a4:wr.cell? ⟨w.heap.size+1,3,none⟩=some (.slice oq gy jw):=(bC.step hbr).cell 3
   by_cases hlt:k < gy
   ·obtain⟨g,off,rfl,hg,hcell⟩:=ad2 (by omega)
    obtain⟨g',off',rfl,hg',hcell'⟩:=ac9 (by omega)
    obtain⟨x,hx,_⟩:=um aa3.out hlt
    obtain⟨y,hy,_⟩:=um aay.out hlt
    have hlt':(k:Int) < (gy:Int):=by omega
    obtain⟨tu,ql,aat,ab8⟩:=x
    obtain⟨qx,qh,aau,ab9⟩:=y
    have adb:wr.cell? ⟨g,off+k * 4,none⟩=some (.int .i64 tu):=bg hBr (by omega) (hcell k 0 _ _ hx (by rw[Ty.aj];rfl))
    have adl:wr.cell? ⟨g',off'+k * 4,none⟩=some (.int .i64 qx):=bg hBr (by omega) (hcell' k 0 _ _ hy (by rw[Ty.aj];rfl))
    have ac8:wr.cell? ⟨g,off+k * 4+1,none⟩=some (.string ql):=bg hBr (by omega) (hcell k 1 _ _ hx (by rw[Ty.aj];rfl))
    have ade:wr.cell? ⟨g',off'+k * 4+1,none⟩=some (.string qh):=bg hBr (by omega) (hcell' k 1 _ _ hy (by rw[Ty.aj];rfl))
    obtain⟨ug,abx,a0c⟩:∃ u,wr.cell? ⟨g,off+k * 4+2,none⟩=some u∧Rep wr B (.row 1 (aat.flatMap qj)) u:=jc hBr (by omega) hB (hcell k 2 _ _ hx (by rw[Ty.aj];rfl))
    have qy:=zqd a0c
    clear a0c
    obtain⟨xq,ab2,a0d⟩:∃ u,wr.cell? ⟨g',off'+k * 4+2,none⟩=some u∧Rep wr B (.row 1 (aau.flatMap qj)) u:=jc hBr (by omega) hB (hcell' k 2 _ _ hy (by rw[Ty.aj];rfl))
    have qp:=zqd a0d
    clear a0d
    obtain⟨zo,adf,a6z⟩:∃ u,wr.cell? ⟨g,off+k * 4+3,none⟩=some u∧Rep wr B (.row 4 (ab8.flatMap Ty.pd)) u:=jc hBr (by omega) hB (hcell k 3 _ _ hx (by rw[Ty.aj];rfl))
    have y8:=zqd a6z
    clear a6z
    obtain⟨aal,adn,a7a⟩:∃ u,wr.cell? ⟨g',off'+k * 4+3,none⟩=some u∧Rep wr B (.row 4 (ab9.flatMap Ty.pd)) u:=jc hBr (by omega) hB (hcell' k 3 _ _ hy (by rw[Ty.aj];rfl))
    have y5:=zqd a7a
    clear a7a
    have CC:=zqd (IH.out ⟨tu,ql,aat,ab8⟩ ⟨qx,qh,aau,ab9⟩ B [.int .i64 tu,.string ql,ug,zo] [.int .i64 qx,.string qh,xq,aal] wr.drew (Nat.le_trans hB hBr.size) ((Ty.close_ qy.out y8.out).below (zqf _ _).drew) ((Ty.close_ qp.out y5.out).below (zqf _ _).drew))
    have HX:=zqd hx
    have HY:=zqd hy
    clear hx hy hcell hcell' ad2 ac9 bA bC
    have hwr:IntKind.i64.wrap (N+1)=N+1:=IntWalk.i64_in _ (by omega)
    go_wp2_with fail
    go_region_held3 (fun w'=>w'.cell? ⟨w.heap.size,3,none⟩=some (.slice (some ⟨g,off,none⟩) gy l9)∧w'.cell? ⟨w.heap.size+1,3,none⟩=some (.slice (some ⟨g',off',none⟩) gy jw)∧w'.cell? ⟨g,off+k * 4,none⟩=some (.int .i64 tu)∧w'.cell? ⟨g',off'+k * 4,none⟩=some (.int .i64 qx)∧w'.cell? ⟨g,off+k * 4+1,none⟩=some (.string ql)∧w'.cell? ⟨g',off'+k * 4+1,none⟩=some (.string qh)∧w'.cell? ⟨g,off+k * 4+2,none⟩=some (ug)∧w'.cell? ⟨g',off'+k * 4+2,none⟩=some (xq)∧w'.cell? ⟨g,off+k * 4+3,none⟩=some (zo)∧w'.cell? ⟨g',off'+k * 4+3,none⟩=some (aal))
     (first|go_keep|exact⟨(hb9.cell (p:=⟨w.heap.size,3,none⟩) (by show w.heap.size < wr.heap.size;omega)).trans a3,(hb9.cell (p:=⟨w.heap.size+1,3,none⟩) (by show w.heap.size+1 < wr.heap.size;omega)).trans a4,(hb9.cell (p:=⟨g,off+k * 4,none⟩) (by show g < wr.heap.size;omega)).trans adb,(hb9.cell (p:=⟨g',off'+k * 4,none⟩) (by show g' < wr.heap.size;omega)).trans adl,(hb9.cell (p:=⟨g,off+k * 4+1,none⟩) (by show g < wr.heap.size;omega)).trans ac8,(hb9.cell (p:=⟨g',off'+k * 4+1,none⟩) (by show g' < wr.heap.size;omega)).trans ade,(hb9.cell (p:=⟨g,off+k * 4+2,none⟩) (by show g < wr.heap.size;omega)).trans abx,(hb9.cell (p:=⟨g',off'+k * 4+2,none⟩) (by show g' < wr.heap.size;omega)).trans ab2,(hb9.cell (p:=⟨g,off+k * 4+3,none⟩) (by show g < wr.heap.size;omega)).trans adf,(hb9.cell (p:=⟨g',off'+k * 4+3,none⟩) (by show g' < wr.heap.size;omega)).trans adn⟩)
     (first|(go_at_call 135;refine CC.out.mono ?_;rintro e w9 ⟨rfl,buw⟩;have hb9:Below wr.heap.size wr w9:=(zqf _ _).drew.trans buw))
    clear a3 a4
    have hB9:=hBr.trans (hb9.mono hBr.size)
    have bux:=hbr.trans (hb9.mono hsz)
    cases hbq:afq n ⟨tu,ql,aat,ab8⟩ ⟨qx,qh,aau,ab9⟩
    ·have HQ2:Hid (same2 (afq n) kids jk=false):=apy HX.out HY.out hbq
     go_wp2_with fail
     go_ret
     exact⟨ah (by rw[HF.out,HQ2.out,Bool.and_false]),hB9⟩
    ·have HQ2:=zqd (apz HP2.out HX.out HY.out hbq)
     go_wp2_with fail
     go_roundw
     case rel=>exact⟨k+1,by omega,by go_num,HQ2,bux⟩
     case measure=>simp[intOf];omega
   ·have HQ2:Hid (same2 (afq n) kids jk=true):=aq6 hlt aa3.out aay.out HP2.out
    have hkn:k=gy:=by omega
    subst hkn
    go_wp2_with fail
    go_ret
    exact⟨ah (by rw[HF.out,HI.out,HQ2.out];rfl),hBr⟩
theorem axk (x y:Ty) {B:Nat} {cs ds:List Value} {w:World} (hB:B≤w.heap.size) (h:lq w B (Ty.pd x) cs) (k:lq w B (Ty.pd y) ds):
  Calls Tryz.prog 108 #[.agg cs.toArray,.agg ds.toArray] w fun e w'=>e=.returned (.bool (afq 100 x y))∧Below w.heap.size w w':=by
 have IH:=zqd (avb 100 (zql _) x y)
 obtain⟨R,hR⟩:∃ R,R=afq 100 x y:=⟨_,rfl⟩
 rw[← hR]
 rw[← hR] at IH
 clear hR
 obtain⟨kind,name,labels,kids⟩:=x
 obtain⟨iw,qw,rfl,bf,gu⟩:=Ty.open_ h
 obtain⟨jo,ig,ji,rfl⟩:=bf.form
 have pz:=zqd bf
 clear bf
 obtain⟨qg,gy,l9,rfl⟩:=gu.form
 have qo:=zqd gu
 clear gu
 obtain⟨xw,dw,eu,jk⟩:=y
 obtain⟨acd,ad9,rfl,gq,jg⟩:=Ty.open_ k
 obtain⟨jy,jf,jr,rfl⟩:=gq.form
 have yj:=zqd gq
 clear gq
 obtain⟨oq,iq,jw,rfl⟩:=jg.form
 have aah:=zqd jg
 clear jg
 clear h k
 obtain⟨w0,hw0⟩:∃ W,W=(w.alloc (.cells #[.int .i64 kind,.string name,.slice jo ig ji,.slice qg gy l9] 60)).alloc (.cells #[.int .i64 xw,.string dw,.slice jy jf jr,.slice oq iq jw] 60):=⟨_,rfl⟩
 have hB0:Below w.heap.size w w0:=by rw[hw0];exact((zqf _ _).alloc (zql _) _).alloc (by simp) _
 have hs0:=hB0.size
 go_enter Tryz.func108,Tryz.ntmps108
 go_wp2_with fail
 rw[← hw0]
 refine(IH.out B [.int .i64 kind,.string name,.slice jo ig ji,.slice qg gy l9] [.int .i64 xw,.string dw,.slice jy jf jr,.slice oq iq jw] w0 (Nat.le_trans hB hs0) (Ty.close_ (pz.out.below (hB0.mono hB)) (qo.out.below (hB0.mono hB))) (Ty.close_ (yj.out.below (hB0.mono hB)) (aah.out.below (hB0.mono hB)))).mono ?_
 rintro e w1 ⟨rfl,hb1⟩
 go_wp2_with fail
 go_ret
 exact⟨rfl,hB0.trans (hb1.mono hs0)⟩
end Go.Proofs.YtbafphecjijdmaaGreatDoor
namespace Go.Proofs.YtbafphecjijdmaaGreatDoor
open Go.RowKit Go.Shelf
set_option linter.all false
theorem bau {P:Program} {W:World} {name:String} {k:IntKind} {zs:List Int} {g:Nat} {t e:TypeId} {n:Nat}
  (hg:P.globalNamed name=some g) (hty:(P.globals[g]?).map (·.type)=some t) (ht:P.underlying t=some (.array n e)) (he:P.underlying e=some (.int k)) (hce:P.cellsOf e=1) (hct:P.cellsOf t=n)
  (h:Lib.VarReads P W name (Lib.tabData k zs)):Lib.TabIs P W name k zs:=by
 obtain⟨g',t',cs,fuel,p,hg',ht',hvar,hd⟩:=h
 obtain rfl:=Option.some.inj (hg.symm.trans hg')
 obtain rfl:=Option.some.inj (hty.symm.trans ht')
 unfold Lib.TabIs
 rw[hvar,← Lib.cells_of_tab ht he hce hct hd]
theorem bav {P:Program} {w w':World} {name:String} {k:IntKind} {zs:List Int} (h:Lib.TabIs P w name k zs) (hb:Below w.heap.size w w'):Lib.TabIs P w' name k zs:=by
 unfold Lib.TabIs World.var? at *
 cases hg:P.globalNamed name with
 | none=>simp[hg] at h
 | some g=>
  simp only[hg,Option.bind_some] at h ⊢
  have hlt:g < w.heap.size:=by
   rcases Nat.lt_or_ge g w.heap.size with h'|h'
   ·exact h'
   ·rw[Array.getElem?_eq_none h'] at h;simp at h
  rw[hb.block g hlt]
  exact h
end Go.Proofs.YtbafphecjijdmaaGreatDoor
namespace Go.Proofs.YtbafphecjijdmaaGreatDoor
open Go.RowKit
set_option linter.all false
theorem oz (n lo hi:Int) (w:World):
  Calls Tryz.prog 123 #[.int .i64 n,.int .i64 lo,.int .i64 hi] w fun e w'=>e=.returned (.bool (inB n lo hi))∧w=w':=by
 by_cases h1:lo≤n<;>by_cases h2:n≤hi
 all_goals
  go_enter Tryz.func123,Tryz.ntmps123
  go_wp2
  go_ret
  exact⟨ah (by simp[inB,h1,h2]),rfl⟩
theorem og (n lo hi:Int) (w:World):
  Calls Tryz.prog 128 #[.int .i64 n,.int .i64 lo,.int .i64 hi] w fun e w'=>e=.returned (.bool (inB n lo hi))∧w=w':=by
 by_cases h1:lo≤n<;>by_cases h2:n≤hi
 all_goals
  go_enter Tryz.func128,Tryz.ntmps128
  go_wp2
  go_ret
  exact⟨ah (by simp[inB,h1,h2]),rfl⟩
end Go.Proofs.YtbafphecjijdmaaGreatDoor
