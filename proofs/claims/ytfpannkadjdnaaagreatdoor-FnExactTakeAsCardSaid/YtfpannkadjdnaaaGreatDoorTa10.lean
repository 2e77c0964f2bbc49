/-
  spec.SameType, impl.SameType: the same bool (by program: gen_samety.py). (and 2 more texts)
-/
import Derived.Test.YtfpannkadjdnaaaGreatDoorTa09
import Derived.Deep.RegionHeld3
import Derived.Test.YtfpannkadjdnaaaGreatDoorTa01
import Derived.Lib.LaidU8
import Derived.LaidMore
import Derived.MakeChecks
import Derived.Test.YtfpannkadjdnaaaGreatDoorRows
namespace Go.Proofs.YtfpannkadjdnaaaGreatDoor
open Go.RowKit
set_option linter.all false
set_option maxRecDepth 100000
def aei:Nat→Ty→Ty→Bool
 | 0,_,_=>false
 | n+1,⟨kind,name,labels,kids⟩,⟨jf,cu,dw,je⟩=>decide (kind=jf) && decide (name=cu) && same2 strEq labels dw && same2 (aei n) kids je
theorem aui (a:Array Value) (W:World):Sem.run Tryz.prog (callFunc 117 a) W=.ok (.enter 117 a) W:=by kernel_rfl
theorem axn {n:Nat} (hn:n≤100) (ih:∀ (x y:Ty) (B:Nat) (cs ds:List Value) (w:World),B≤w.heap.size→jq w B (Ty.pd x) cs→jq w B (Ty.pd y) ds→Calls Tryz.prog 100 #[.agg cs.toArray,.agg ds.toArray,.int .i64 n] w fun e w'=>e=.returned (.bool (aei n x y))∧Below w.heap.size w w')
  (x y:Ty) {B L:Nat} {cs ds:List Value} {w:World} (hB:B≤w.heap.size) (hL:w.cell? ⟨L,0,none⟩=some (.int .i64 ((n+1:Nat):Int))) (hLt:L < w.heap.size) (h:jq w B (Ty.pd x) cs) (k:jq w B (Ty.pd y) ds):
  Calls Tryz.prog 117 (#[.agg cs.toArray,.agg ds.toArray] ++#[.pointer (some ⟨L,0,none⟩)]) w fun e w'=>e=.returned (.bool (aei n x y))∧Below w.heap.size w w':=by
 have IH:=zqd (ih x y);clear ih;obtain⟨R,hR⟩:∃ R,R=aei n x y:=⟨_,rfl⟩;rw[← hR];rw[← hR] at IH;have HR:=zqd hR;clear hR;obtain⟨kind,name,labels,kids⟩:=x;obtain⟨iy,iw,rfl,dh,dn⟩:=Ty.open_ h;obtain⟨jy,jc,jl,rfl⟩:=dh.form;have pz:=zqd dh;clear dh;obtain⟨l9,iq,ku,rfl⟩:=dn.form;have pq:=zqd dn;clear dn;obtain⟨jf,cu,dw,je⟩:=y;obtain⟨oh,tq,rfl,ig,jh⟩:=Ty.open_ k;obtain⟨lg,jg,jm,rfl⟩:=ig.form;have qy:=zqd ig;clear ig;obtain⟨mg,jd,jr,rfl⟩:=jh.form;have xu:=zqd jh;clear jh;clear h k;obtain⟨w0,hw0⟩:∃ W,W=(w.alloc (.cells #[.int .i64 kind,.string name,.slice jy jc jl,.slice l9 iq ku] 39)).alloc (.cells #[.int .i64 jf,.string cu,.slice lg jg jm,.slice mg jd jr] 39):=⟨_,rfl⟩;have hB0:Below w.heap.size w w0:=by rw[hw0];exact((zqf _ _).alloc (zql _) _).alloc (by simp) _
 have hs0:=hB0.size;have hL0:((w.alloc (.cells #[.int .i64 kind,.string name,.slice jy jc jl,.slice l9 iq ku] 39)).alloc (.cells #[.int .i64 jf,.string cu,.slice lg jg jm,.slice mg jd jr] 39)).cell? ⟨L,0,none⟩=some (.int .i64 ((n+1:Nat):Int)):=by rw[← hw0];exact(hB0.cell (p:=⟨L,0,none⟩) hLt).trans hL
 rw[Int.natCast_add] at hL0;clear hL;have hsub:((n:Int)+((1:Nat):Int)) - 1=n:=by omega
 have HW:=zqd hw0;clear hw0;go_enter Tryz.func117,Tryz.ntmps117
 go_wp2_with fail
 rw[← HW.out];refine(IH.out B [.int .i64 kind,.string name,.slice jy jc jl,.slice l9 iq ku] [.int .i64 jf,.string cu,.slice lg jg jm,.slice mg jd jr] w0 (Nat.le_trans hB hs0) (Ty.close_ (pz.out.below (hB0.mono hB)) (pq.out.below (hB0.mono hB))) (Ty.close_ (qy.out.below (hB0.mono hB)) (xu.out.below (hB0.mono hB)))).mono ?_;rintro e w1 ⟨rfl,hb1⟩;go_wp2_with fail
 go_ret
 exact⟨rfl,hB0.trans (hb1.mono hs0)⟩
set_option maxHeartbeats 3200000 in
theorem am8:∀ (n:Nat),n≤100→∀ (x y:Ty) (B:Nat) (cs ds:List Value) (w:World),B≤w.heap.size→jq w B (Ty.pd x) cs→jq w B (Ty.pd y) ds→Calls Tryz.prog 100 #[.agg cs.toArray,.agg ds.toArray,.int .i64 n] w fun e w'=>e=.returned (.bool (aei n x y))∧Below w.heap.size w w'
 | 0,_,x,y,B,cs,ds,w,hB,h,k=>by
  obtain⟨kind,name,labels,kids⟩:=x;obtain⟨iy,iw,rfl,dh,dn⟩:=Ty.open_ h;obtain⟨jy,jc,jl,rfl⟩:=dh.form;have pz:=zqd dh;clear dh;obtain⟨l9,iq,ku,rfl⟩:=dn.form;have pq:=zqd dn;clear dn;obtain⟨jf,cu,dw,je⟩:=y;obtain⟨oh,tq,rfl,ig,jh⟩:=Ty.open_ k;obtain⟨lg,jg,jm,rfl⟩:=ig.form;have qy:=zqd ig;clear ig;obtain⟨mg,jd,jr,rfl⟩:=jh.form;have xu:=zqd jh;clear jh;clear h k;have HF:Hid (aei 0 (⟨kind,name,labels,kids⟩:Ty) (⟨jf,cu,dw,je⟩:Ty)=false):=zqd rfl;go_enter Tryz.func100,Tryz.ntmps100
  go_wp2_with fail
  go_ret
  exact⟨au HF.out.symm,(((zqf _ _).alloc (zql _) _).alloc (by simp) _).alloc (by simp;omega) _⟩
 | n+1,hn,x,y,B,cs,ds,w,hB,h,k=>by
  have IH:=zqd (am8 n (by omega));have hn0:(((n+1:Nat):Int) ==0)=false:=by simp;omega
  obtain⟨N,hN⟩:∃ N:Int,N=((n+1:Nat):Int):=⟨_,rfl⟩;rw[← hN] at hn0 ⊢;have HN:=zqd hN;clear hN;obtain⟨kind,name,labels,kids⟩:=x;obtain⟨iy,iw,rfl,dh,dn⟩:=Ty.open_ h;obtain⟨jy,jc,jl,rfl⟩:=dh.form;have pz:=zqd dh;clear dh;obtain⟨l9,iq,ku,rfl⟩:=dn.form;have pq:=zqd dn;clear dn;obtain⟨jf,cu,dw,je⟩:=y;obtain⟨oh,tq,rfl,ig,jh⟩:=Ty.open_ k;obtain⟨lg,jg,jm,rfl⟩:=ig.form;have qy:=zqd ig;clear ig;obtain⟨mg,jd,jr,rfl⟩:=jh.form;have xu:=zqd jh;clear jh;clear h k;by_cases ak6:kind=jf
  case neg=>
   have HF:Hid (aei (n+1) (⟨kind,name,labels,kids⟩:Ty) (⟨jf,cu,dw,je⟩:Ty)=false):=by show _=_;simp[aei,ak6]
   have hs:(kind ==jf)=false:=by simpa using ak6
   have hs2:(kind != jf)=true:=by simpa using ak6
   go_enter Tryz.func100,Tryz.ntmps100
   go_wp2_with fail
   go_ret
   exact⟨au HF.out.symm,(((zqf _ _).alloc (zql _) _).alloc (by simp) _).alloc (by simp;omega) _⟩
  subst ak6;by_cases am9:name=cu
  case neg=>
   have HF:Hid (aei (n+1) (⟨kind,name,labels,kids⟩:Ty) (⟨kind,cu,dw,je⟩:Ty)=false):=by show _=_;simp[aei,am9]
   have hs:(name.toList ==cu.toList)=false:=ag8 am9;have hs2:(name.toList != cu.toList)=true:=by simpa using hs
   go_enter Tryz.func100,Tryz.ntmps100
   go_wp2_with fail
   go_ret
   exact⟨au HF.out.symm,(((zqf _ _).alloc (zql _) _).alloc (by simp) _).alloc (by simp;omega) _⟩
  subst am9;have HF:Hid (aei (n+1) (⟨kind,name,labels,kids⟩:Ty) (⟨kind,name,dw,je⟩:Ty)=(same2 strEq labels dw && same2 (aei n) kids je)):=by show _=_;simp[aei]
  obtain⟨w0,hw0⟩:∃ W,W=((w.alloc (.cells #[.int .i64 kind,.string name,.slice jy jc jl,.slice l9 iq ku] 39)).alloc (.cells #[.int .i64 kind,.string name,.slice lg jg jm,.slice mg jd jr] 39)).alloc (.cells #[.int .i64 N] 3):=⟨_,rfl⟩;have bA:Blk w0 w.heap.size 39 #[.int .i64 kind,.string name,.slice jy jc jl,.slice l9 iq ku]:=by rw[hw0];exact((Blk.new w _ _).alloc _).alloc _
  have bC:=zn31 hw0;have bL:=zn32 hw0;have hB0:Below w.heap.size w w0:=by rw[hw0];exact(((zqf _ _).alloc (zql _) _).alloc (by simp) _).alloc (by simp;omega) _
  have hs0:=hB0.size;go_enter Tryz.func100,Tryz.ntmps100
  go_wp2_with fail
  rw[← hw0];clear hw0;refine(asv (pz.out.below (hB0.mono hB)) (qy.out.below (hB0.mono hB))).mono ?_;rintro e w1 ⟨rfl,hb1⟩;have hB1:=hB0.trans (hb1.mono hs0);replace bA:=bA.step hb1;replace bC:=bC.step hb1;replace bL:=bL.step hb1;have c1:w1.cell? ⟨w.heap.size,3,none⟩=some (.slice l9 iq ku):=bA.cell 3;have c2:w1.cell? ⟨w.heap.size+1,3,none⟩=some (.slice mg jd jr):=bC.cell 3;clear bA bC;cases hi:same2 strEq labels dw
  ·go_wp2_with fail
   go_ret
   exact⟨au (by rw[HF.out,hi];rfl),hB1⟩
  ·have hlt:=bL.lt
   go_wp2_with fail
   refine(ayx 117 #[.pointer (some ⟨w.heap.size+1+1,0,none⟩)] (aei n) (Nat.le_trans hB hB1.size) (pq.out.below (hB1.mono hB)) (xu.out.below (hB1.mono hB)) aui (fun x _ y _ cs ds W hW hr1 hr2=>axn (by omega) IH.out x y (Nat.le_trans (Nat.le_trans hB hB1.size) hW.size) (by rw[← HN.out];exact(bL.step hW).cell 0) (Nat.lt_of_lt_of_le hlt hW.size) hr1 hr2)).mono ?_;rintro e w2 ⟨rfl,hb2⟩;go_wp2_with fail
   go_ret
   exact⟨au (by rw[HF.out,hi];rfl),hB1.trans (hb2.mono hB1.size)⟩
theorem arw (x y:Ty) {B:Nat} {cs ds:List Value} {w:World} (hB:B≤w.heap.size) (h:jq w B (Ty.pd x) cs) (k:jq w B (Ty.pd y) ds):
  Calls Tryz.prog 85 #[.agg cs.toArray,.agg ds.toArray] w fun e w'=>e=.returned (.bool (aei 100 x y))∧Below w.heap.size w w':=by
 have IH:=zqd (am8 100 (zql _) x y);obtain⟨R,hR⟩:∃ R,R=aei 100 x y:=⟨_,rfl⟩;rw[← hR];rw[← hR] at IH;clear hR;obtain⟨kind,name,labels,kids⟩:=x;obtain⟨iy,iw,rfl,dh,dn⟩:=Ty.open_ h;obtain⟨jy,jc,jl,rfl⟩:=dh.form;have pz:=zqd dh;clear dh;obtain⟨l9,iq,ku,rfl⟩:=dn.form;have pq:=zqd dn;clear dn;obtain⟨jf,cu,dw,je⟩:=y;obtain⟨oh,tq,rfl,ig,jh⟩:=Ty.open_ k;obtain⟨lg,jg,jm,rfl⟩:=ig.form;have qy:=zqd ig;clear ig;obtain⟨mg,jd,jr,rfl⟩:=jh.form;have xu:=zqd jh;clear jh;clear h k;obtain⟨w0,hw0⟩:∃ W,W=(w.alloc (.cells #[.int .i64 kind,.string name,.slice jy jc jl,.slice l9 iq ku] 39)).alloc (.cells #[.int .i64 jf,.string cu,.slice lg jg jm,.slice mg jd jr] 39):=⟨_,rfl⟩;have hB0:Below w.heap.size w w0:=by rw[hw0];exact((zqf _ _).alloc (zql _) _).alloc (by simp) _
 have hs0:=hB0.size;go_enter Tryz.func85,Tryz.ntmps85
 go_wp2_with fail
 rw[← hw0];refine(IH.out B [.int .i64 kind,.string name,.slice jy jc jl,.slice l9 iq ku] [.int .i64 jf,.string cu,.slice lg jg jm,.slice mg jd jr] w0 (Nat.le_trans hB hs0) (Ty.close_ (pz.out.below (hB0.mono hB)) (pq.out.below (hB0.mono hB))) (Ty.close_ (qy.out.below (hB0.mono hB)) (xu.out.below (hB0.mono hB)))).mono ?_;rintro e w1 ⟨rfl,hb1⟩;go_wp2_with fail
 go_ret
 exact⟨rfl,hB0.trans (hb1.mono hs0)⟩
set_option maxHeartbeats 1600000 in
theorem axo {B:Nat} {v u:Value} {xs ys:List ByteArray} {w:World} (h:Rep w B (.row 1 (xs.flatMap aam)) v) (k:Rep w B (.row 1 (ys.flatMap aam)) u):
  Calls Tryz.prog 106 #[v,u] w fun e w'=>e=.returned (.bool (same2 strEq xs ys))∧Below w.heap.size w w':=by
 obtain⟨A,n,c,rfl,hnl,hm,hat⟩:=bf jo (by decide) h;obtain⟨A',n',c',rfl,ak2,hm',hat'⟩:=bf jo (by decide) k;unfold maxLen at hm hm';have HN:=zqd hnl;have HM:=zqd ak2;clear h k hnl ak2;by_cases hnm:n=n'
 ·subst hnm
  go_enter Tryz.func106,Tryz.ntmps106
  go_wp2_with fail
  go_loopw [5] (fun i wr=>∃ k:Nat,k≤n∧i=.int .i64 k∧Hid (∀ (j:Nat) (a b:ByteArray),j < k→xs[j]?=some a→ys[j]?=some b→strEq a b=true)∧∃ q,wr=w.drewN q) (fun i _=>n - (intOf i).toNat)
  case atStart=>exact⟨0,Nat.zero_le _,rfl,zqd fun j a b h=>absurd h (by omega),0,rfl⟩
  case round=>
   obtain⟨k,hk,rfl,HP,q,rfl⟩:=hrel;by_cases hlt:k < n
   ·obtain⟨g,off,rfl,hg,hcell⟩:=hat (by omega)
    obtain⟨g',off',rfl,hg',hcell'⟩:=hat' (by omega);obtain⟨x,hx,_⟩:=uo HN.out hlt;obtain⟨y,hy,_⟩:=uo HM.out hlt;have hlt':(k:Int) < (n:Int):=by omega
    have c_x:w.cell? ⟨g,off+k,none⟩=some (.string x):=by
     obtain⟨u,hu,hr⟩:=hcell k 0 _ _ hx rfl;rw[hr.ab2] at hu;simpa using hu
    have c_y:w.cell? ⟨g',off'+k,none⟩=some (.string y):=by
     obtain⟨u,hu,hr⟩:=hcell' k 0 _ _ hy rfl;rw[hr.ab2] at hu;simpa using hu
    have HX:=zqd hx;have HY:=zqd hy;clear hx hy hcell hcell' hat hat';by_cases hb:x=y
    ·have HQ:=zqd (amx (p:=strEq) HP.out HX.out HY.out (by simp[strEq,hb]))
     subst hb;go_wp2_with fail
     go_quiet (fail)
     go_wp2_with fail
     go_roundw
     case rel=>exact⟨k+1,by omega,by go_num,HQ,_,rfl⟩
     case measure=>simp[intOf];omega
    ·have HF:Hid (same2 strEq xs ys=false):=amw HX.out HY.out (by simp[strEq,hb])
     have hs:(x.toList ==y.toList)=false:=ag8 hb;clear hb;go_wp2_with fail
     go_quiet (fail)
     go_wp2_with fail
     go_ret
     exact⟨au HF.out.symm,by rw[World.drewN_drewN];exact below_drewN (zqf _ _) _⟩
   ·have HF:Hid (same2 strEq xs ys=true):=an1 hlt HN.out HM.out HP.out
    have hkn:k=n:=by omega
    subst hkn;go_wp2_with fail
    go_ret
    exact⟨au HF.out.symm,below_drewN (zqf _ _) _⟩
 ·have HF:Hid (same2 strEq xs ys=false):=ao8 (by have:=HN.out;have:=HM.out;omega)
  have hb:((n:Int) != (n':Int))=true:=by simp;omega
  clear hat hat';go_enter Tryz.func106,Tryz.ntmps106
  go_wp2_with fail
  go_ret
  exact⟨au HF.out.symm,zqf _ _⟩
set_option maxHeartbeats 6400000 in
theorem aqe:∀ (n:Nat),n≤100→∀ (x y:Ty) (B:Nat) (cs ds:List Value) (w:World),B≤w.heap.size→jq w B (Ty.pd x) cs→jq w B (Ty.pd y) ds→Calls Tryz.prog 90 #[.agg cs.toArray,.agg ds.toArray,.int .i64 (101 - (n:Int))] w fun e w'=>e=.returned (.bool (aei n x y))∧Below w.heap.size w w'
 | 0,_,x,y,B,cs,ds,w,hB,h,k=>by
  obtain⟨kind,name,labels,kids⟩:=x;obtain⟨iy,iw,rfl,dh,dn⟩:=Ty.open_ h;obtain⟨jy,jc,jl,rfl⟩:=dh.form;have pz:=zqd dh;clear dh;obtain⟨l9,iq,ku,rfl⟩:=dn.form;have pq:=zqd dn;clear dn;obtain⟨jf,cu,dw,je⟩:=y;obtain⟨oh,tq,rfl,ig,jh⟩:=Ty.open_ k;obtain⟨lg,jg,jm,rfl⟩:=ig.form;have qy:=zqd ig;clear ig;obtain⟨mg,jd,jr,rfl⟩:=jh.form;have xu:=zqd jh;clear jh;clear h k;have HF:Hid (aei 0 (⟨kind,name,labels,kids⟩:Ty) (⟨jf,cu,dw,je⟩:Ty)=false):=zqd rfl;go_enter Tryz.func90,Tryz.ntmps90
  go_wp2_with fail
  go_ret
  exact⟨au HF.out.symm,((zqf _ _).alloc (zql _) _).alloc (by simp) _⟩
 | n+1,hn,x,y,B,cs,ds,w,hB,h,k=>by
  have IH:=zqd (aqe n (by omega));obtain⟨N,hN⟩:∃ N:Int,N=101 - ((n+1:Nat):Int):=⟨_,rfl⟩;have hN1:N+1=101 - (n:Int):=by omega
  have hN2:N≤100:=by omega
  have hN3:0≤N:=by omega
  rw[← hN];rw[← hN1] at IH;clear hN hN1;obtain⟨kind,name,labels,kids⟩:=x;obtain⟨iy,iw,rfl,dh,dn⟩:=Ty.open_ h;obtain⟨jy,jc,jl,rfl⟩:=dh.form;have pz:=zqd dh;clear dh;obtain⟨l9,iq,ku,rfl⟩:=dn.form;have pq:=zqd dn;clear dn;obtain⟨jf,cu,dw,je⟩:=y;obtain⟨oh,tq,rfl,ig,jh⟩:=Ty.open_ k;obtain⟨lg,jg,jm,rfl⟩:=ig.form;have qy:=zqd ig;clear ig;obtain⟨mg,jd,jr,rfl⟩:=jh.form;have xu:=zqd jh;clear jh;clear h k;by_cases ak6:kind=jf
  case neg=>
   have HF:Hid (aei (n+1) (⟨kind,name,labels,kids⟩:Ty) (⟨jf,cu,dw,je⟩:Ty)=false):=by show _=_;simp[aei,ak6]
   have hs:(kind ==jf)=false:=by simpa using ak6
   have hs2:(kind != jf)=true:=by simpa using ak6
   go_enter Tryz.func90,Tryz.ntmps90
   go_wp2_with fail
   go_ret
   exact⟨au HF.out.symm,((zqf _ _).alloc (zql _) _).alloc (by simp) _⟩
  subst ak6;by_cases am9:name=cu
  case neg=>
   have HF:Hid (aei (n+1) (⟨kind,name,labels,kids⟩:Ty) (⟨kind,cu,dw,je⟩:Ty)=false):=by show _=_;simp[aei,am9]
   have hs:(name.toList ==cu.toList)=false:=ag8 am9;have hs2:(name.toList != cu.toList)=true:=by simpa using hs
   go_enter Tryz.func90,Tryz.ntmps90
   go_wp2_with fail
   go_ret
   exact⟨au HF.out.symm,((zqf _ _).alloc (zql _) _).alloc (by simp) _⟩
  subst am9;have HF:Hid (aei (n+1) (⟨kind,name,labels,kids⟩:Ty) (⟨kind,name,dw,je⟩:Ty)=(same2 strEq labels dw && same2 (aei n) kids je)):=by show _=_;simp[aei]
  obtain⟨_,_,_,he,aa3,ac7,ab6⟩:=bf Ty.ay (by decide) pq.out;injection he with e1 e2 e3
  subst e1 e2 e3;unfold maxLen at ac7;have zo:=zqd aa3;clear aa3;obtain⟨_,_,_,he,aao,ab9,abk⟩:=bf Ty.ay (by decide) xu.out;injection he with e1 e2 e3
  subst e1 e2 e3;unfold maxLen at ab9;have zf:=zqd aao;clear aao;obtain⟨w0,hw0⟩:∃ W,W=(w.alloc (.cells #[.int .i64 kind,.string name,.slice jy jc jl,.slice l9 iq ku] 39)).alloc (.cells #[.int .i64 kind,.string name,.slice lg jg jm,.slice mg jd jr] 39):=⟨_,rfl⟩;have bA:Blk w0 w.heap.size 39 #[.int .i64 kind,.string name,.slice jy jc jl,.slice l9 iq ku]:=by rw[hw0];exact(Blk.new w _ _).alloc _
  have bC:=zn21 hw0;have hB0:Below w.heap.size w w0:=by rw[hw0];exact((zqf _ _).alloc (zql _) _).alloc (by simp) _
  have hs0:=hB0.size;go_enter Tryz.func90,Tryz.ntmps90
  go_wp2_with fail
  rw[← hw0];clear hw0;refine(axo (pz.out.below (hB0.mono hB)) (qy.out.below (hB0.mono hB))).mono ?_;rintro e w1 ⟨rfl,hb1⟩;have hB1:=hB0.trans (hb1.mono hs0);replace bA:=bA.step hb1;replace bC:=bC.step hb1;have c1:w1.cell? ⟨w.heap.size,3,none⟩=some (.slice l9 iq ku):=bA.cell 3;have c2:w1.cell? ⟨w.heap.size+1,3,none⟩=some (.slice mg jd jr):=bC.cell 3;cases hi:same2 strEq labels dw
  case false=>
   go_wp2_with fail
   go_ret
   exact⟨au (by rw[HF.out,hi];rfl),hB1⟩
  by_cases hl:iq=jd
  case neg=>
   have hs:((iq:Int) != (jd:Int))=true:=by simp;omega
   have HQ:Hid (same2 (aei n) kids je=false):=ao8 (by have:=zo.out;have:=zf.out;omega);go_wp2_with fail
   go_ret
   exact⟨au (by rw[HF.out,hi,HQ.out];rfl),hB1⟩
  subst hl;have HI:=zqd hi;clear hi;go_wp2_with fail
  clear c1 c2;go_loopw [7] (fun i wr=>∃ k:Nat,k≤iq∧i=.int .i64 k∧Hid (∀ (j:Nat) (a b:Ty),j < k→kids[j]?=some a→je[j]?=some b→aei n a b=true)∧Below w1.heap.size w1 wr) (fun i _=>iq - (intOf i).toNat)
  case atStart=>exact⟨0,Nat.zero_le _,rfl,zqd fun j a b h=>absurd h (by omega),zqf _ _⟩
  case round=>
   obtain⟨k,hk,rfl,HP2,hbr⟩:=hrel;have hBr:=hB1.trans (hbr.mono hB1.size);have hsz:=hbr.size;have hA:=bA.lt;have hC:=bC.lt;have a3:wr.cell? ⟨w.heap.size,3,none⟩=some (.slice l9 iq ku):=(bA.step hbr).cell 3;have a4:wr.cell? ⟨w.heap.size+1,3,none⟩=some (.slice mg iq jr):=(bC.step hbr).cell 3;by_cases hlt:k < iq
   ·obtain⟨g,off,rfl,hg,hcell⟩:=ab6 (by omega)
    obtain⟨g',off',rfl,hg',hcell'⟩:=abk (by omega);obtain⟨x,hx,_⟩:=uo zo.out hlt;obtain⟨y,hy,_⟩:=uo zf.out hlt;have hlt':(k:Int) < (iq:Int):=by omega
    obtain⟨eu,gq,lq,oq⟩:=x;obtain⟨jv,jw,qc,um⟩:=y;have acd:wr.cell? ⟨g,off+k * 4,none⟩=some (.int .i64 eu):=ng hBr (by omega) (hcell k 0 _ _ hx (by rw[Ty.ji];rfl));have ace:wr.cell? ⟨g',off'+k * 4,none⟩=some (.int .i64 jv):=ng hBr (by omega) (hcell' k 0 _ _ hy (by rw[Ty.ji];rfl));have acf:wr.cell? ⟨g,off+k * 4+1,none⟩=some (.string gq):=ng hBr (by omega) (hcell k 1 _ _ hx (by rw[Ty.ji];rfl));have acg:wr.cell? ⟨g',off'+k * 4+1,none⟩=some (.string jw):=ng hBr (by omega) (hcell' k 1 _ _ hy (by rw[Ty.ji];rfl));obtain⟨uh,aa9,auj⟩:∃ u,wr.cell? ⟨g,off+k * 4+2,none⟩=some u∧Rep wr B (.row 1 (lq.flatMap aam)) u:=xq hBr (by omega) hB (hcell k 2 _ _ hx (by rw[Ty.ji];rfl));have qo:=zqd auj;clear auj;obtain⟨uj,abb,auk⟩:∃ u,wr.cell? ⟨g',off'+k * 4+2,none⟩=some u∧Rep wr B (.row 1 (qc.flatMap aam)) u:=xq hBr (by omega) hB (hcell' k 2 _ _ hy (by rw[Ty.ji];rfl));have qp:=zqd auk;clear auk;obtain⟨y8,ach,ayz⟩:∃ u,wr.cell? ⟨g,off+k * 4+3,none⟩=some u∧Rep wr B (.row 4 (oq.flatMap Ty.pd)) u:=xq hBr (by omega) hB (hcell k 3 _ _ hx (by rw[Ty.ji];rfl));have x9:=zqd ayz;clear ayz;obtain⟨y9,aci,ay0⟩:∃ u,wr.cell? ⟨g',off'+k * 4+3,none⟩=some u∧Rep wr B (.row 4 (um.flatMap Ty.pd)) u:=xq hBr (by omega) hB (hcell' k 3 _ _ hy (by rw[Ty.ji];rfl));have yc:=zqd ay0;clear ay0;have CC:=zqd (IH.out ⟨eu,gq,lq,oq⟩ ⟨jv,jw,qc,um⟩ B [.int .i64 eu,.string gq,uh,y8] [.int .i64 jv,.string jw,uj,y9] wr.drew (Nat.le_trans hB hBr.size) ((Ty.close_ qo.out x9.out).below (zqf _ _).drew) ((Ty.close_ qp.out yc.out).below (zqf _ _).drew));have HX:=zqd hx;have HY:=zqd hy;clear hx hy hcell hcell' ab6 abk bA bC;have hwr:IntKind.i64.wrap (N+1)=N+1:=IntWalk.i64_in _ (by omega);go_wp2_with fail
    go_region_held3 (fun w'=>w'.cell? ⟨w.heap.size,3,none⟩=some (.slice (some ⟨g,off,none⟩) iq ku)∧w'.cell? ⟨w.heap.size+1,3,none⟩=some (.slice (some ⟨g',off',none⟩) iq jr)∧w'.cell? ⟨g,off+k * 4,none⟩=some (.int .i64 eu)∧w'.cell? ⟨g',off'+k * 4,none⟩=some (.int .i64 jv)∧w'.cell? ⟨g,off+k * 4+1,none⟩=some (.string gq)∧w'.cell? ⟨g',off'+k * 4+1,none⟩=some (.string jw)∧w'.cell? ⟨g,off+k * 4+2,none⟩=some (uh)∧w'.cell? ⟨g',off'+k * 4+2,none⟩=some (uj)∧w'.cell? ⟨g,off+k * 4+3,none⟩=some (y8)∧w'.cell? ⟨g',off'+k * 4+3,none⟩=some (y9))
     (first|go_keep|exact⟨(hb9.cell (p:=⟨w.heap.size,3,none⟩) (by show w.heap.size < wr.heap.size;omega)).trans a3,(hb9.cell (p:=⟨w.heap.size+1,3,none⟩) (by show w.heap.size+1 < wr.heap.size;omega)).trans a4,(hb9.cell (p:=⟨g,off+k * 4,none⟩) (by show g < wr.heap.size;omega)).trans acd,(hb9.cell (p:=⟨g',off'+k * 4,none⟩) (by show g' < wr.heap.size;omega)).trans ace,(hb9.cell (p:=⟨g,off+k * 4+1,none⟩) (by show g < wr.heap.size;omega)).trans acf,(hb9.cell (p:=⟨g',off'+k * 4+1,none⟩) (by show g' < wr.heap.size;omega)).trans acg,(hb9.cell (p:=⟨g,off+k * 4+2,none⟩) (by show g < wr.heap.size;omega)).trans aa9,(hb9.cell (p:=⟨g',off'+k * 4+2,none⟩) (by show g' < wr.heap.size;omega)).trans abb,(hb9.cell (p:=⟨g,off+k * 4+3,none⟩) (by show g < wr.heap.size;omega)).trans ach,(hb9.cell (p:=⟨g',off'+k * 4+3,none⟩) (by show g' < wr.heap.size;omega)).trans aci⟩)
     (first|(go_at_call 90;refine CC.out.mono ?_;rintro e w9 ⟨rfl,bx6⟩;have hb9:Below wr.heap.size wr w9:=(zqf _ _).drew.trans bx6))
    clear a3 a4;have hB9:=hBr.trans (hb9.mono hBr.size);have bx7:=hbr.trans (hb9.mono hsz);cases hbq:aei n ⟨eu,gq,lq,oq⟩ ⟨jv,jw,qc,um⟩
    ·have HQ2:Hid (same2 (aei n) kids je=false):=amw HX.out HY.out hbq
     go_wp2_with fail
     go_ret
     exact⟨au (by rw[HF.out,HQ2.out,Bool.and_false]),hB9⟩
    ·have HQ2:=zqd (amx HP2.out HX.out HY.out hbq)
     go_wp2_with fail
     go_roundw
     case rel=>exact⟨k+1,by omega,by go_num,HQ2,bx7⟩
     case measure=>simp[intOf];omega
   ·have HQ2:Hid (same2 (aei n) kids je=true):=an1 hlt zo.out zf.out HP2.out
    have hkn:k=iq:=by omega
    subst hkn;go_wp2_with fail
    go_ret
    exact⟨au (by rw[HF.out,HI.out,HQ2.out];rfl),hBr⟩
theorem arx (x y:Ty) {B:Nat} {cs ds:List Value} {w:World} (hB:B≤w.heap.size) (h:jq w B (Ty.pd x) cs) (k:jq w B (Ty.pd y) ds):
  Calls Tryz.prog 64 #[.agg cs.toArray,.agg ds.toArray] w fun e w'=>e=.returned (.bool (aei 100 x y))∧Below w.heap.size w w':=by
 have IH:=zqd (aqe 100 (zql _) x y);obtain⟨R,hR⟩:∃ R,R=aei 100 x y:=⟨_,rfl⟩;rw[← hR];rw[← hR] at IH;clear hR;obtain⟨kind,name,labels,kids⟩:=x;obtain⟨iy,iw,rfl,dh,dn⟩:=Ty.open_ h;obtain⟨jy,jc,jl,rfl⟩:=dh.form;have pz:=zqd dh;clear dh;obtain⟨l9,iq,ku,rfl⟩:=dn.form;have pq:=zqd dn;clear dn;obtain⟨jf,cu,dw,je⟩:=y;obtain⟨oh,tq,rfl,ig,jh⟩:=Ty.open_ k;obtain⟨lg,jg,jm,rfl⟩:=ig.form;have qy:=zqd ig;clear ig;obtain⟨mg,jd,jr,rfl⟩:=jh.form;have xu:=zqd jh;clear jh;clear h k;obtain⟨w0,hw0⟩:∃ W,W=(w.alloc (.cells #[.int .i64 kind,.string name,.slice jy jc jl,.slice l9 iq ku] 39)).alloc (.cells #[.int .i64 jf,.string cu,.slice lg jg jm,.slice mg jd jr] 39):=⟨_,rfl⟩;have hB0:Below w.heap.size w w0:=by rw[hw0];exact((zqf _ _).alloc (zql _) _).alloc (by simp) _
 have hs0:=hB0.size;go_enter Tryz.func64,Tryz.ntmps64
 go_wp2_with fail
 rw[← hw0];refine(IH.out B [.int .i64 kind,.string name,.slice jy jc jl,.slice l9 iq ku] [.int .i64 jf,.string cu,.slice lg jg jm,.slice mg jd jr] w0 (Nat.le_trans hB hs0) (Ty.close_ (pz.out.below (hB0.mono hB)) (pq.out.below (hB0.mono hB))) (Ty.close_ (qy.out.below (hB0.mono hB)) (xu.out.below (hB0.mono hB)))).mono ?_;rintro e w1 ⟨rfl,hb1⟩;go_wp2_with fail
 go_ret
 exact⟨rfl,hB0.trans (hb1.mono hs0)⟩
end Go.Proofs.YtfpannkadjdnaaaGreatDoor
namespace Go.Proofs.YtfpannkadjdnaaaGreatDoor
open Go.RowKit Go.Shelf
set_option linter.all false
theorem a0v {P:Program} {W:World} {name:String} {k:IntKind} {zs:List Int} {g:Nat} {t e:TypeId} {n:Nat}
  (hg:P.globalNamed name=some g) (hty:(P.globals[g]?).map (·.type)=some t) (ht:P.underlying t=some (.array n e)) (he:P.underlying e=some (.int k)) (hce:P.cellsOf e=1) (hct:P.cellsOf t=n)
  (h:Lib.VarReads P W name (Lib.tabData k zs)):Lib.TabIs P W name k zs:=by
 obtain⟨g',t',cs,fuel,p,hg',ht',hvar,hd⟩:=h;obtain rfl:=Option.some.inj (hg.symm.trans hg');obtain rfl:=Option.some.inj (hty.symm.trans ht');unfold Lib.TabIs;rw[hvar,← Lib.cells_of_tab ht he hce hct hd]
theorem a0w {P:Program} {w w':World} {name:String} {k:IntKind} {zs:List Int} (h:Lib.TabIs P w name k zs) (hb:Below w.heap.size w w'):Lib.TabIs P w' name k zs:=by
 unfold Lib.TabIs World.var? at *;cases hg:P.globalNamed name with
 | none=>simp[hg] at h
 | some g=>
  simp only[hg,Option.bind_some] at h ⊢
  have hlt:g < w.heap.size:=by
   rcases Nat.lt_or_ge g w.heap.size with h'|h'
   ·exact h'
   ·rw[Array.getElem?_eq_none h'] at h;simp at h
  rw[hb.block g hlt];exact h
end Go.Proofs.YtfpannkadjdnaaaGreatDoor
namespace Go.Proofs.YtfpannkadjdnaaaGreatDoor
open Go.RowKit
set_option linter.all false
theorem oz (n lo hi:Int) (w:World):
  Calls Tryz.prog 56 #[.int .i64 n,.int .i64 lo,.int .i64 hi] w fun e w'=>e=.returned (.bool (inB n lo hi))∧w=w':=by
 by_cases h1:lo≤n<;>by_cases h2:n≤hi
 all_goals
  go_enter Tryz.func56,Tryz.ntmps56
  go_wp2
  go_ret
  exact⟨au (by simp[inB,h1,h2]),rfl⟩
theorem ny (n lo hi:Int) (w:World):
  Calls Tryz.prog 67 #[.int .i64 n,.int .i64 lo,.int .i64 hi] w fun e w'=>e=.returned (.bool (inB n lo hi))∧w=w':=by
 by_cases h1:lo≤n<;>by_cases h2:n≤hi
 all_goals
  go_enter Tryz.func67,Tryz.ntmps67
  go_wp2
  go_ret
  exact⟨au (by simp[inB,h1,h2]),rfl⟩
end Go.Proofs.YtfpannkadjdnaaaGreatDoor
