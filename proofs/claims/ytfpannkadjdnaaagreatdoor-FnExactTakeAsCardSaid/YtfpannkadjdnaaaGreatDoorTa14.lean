/-
  slices.IndexFunc and slices.ContainsFunc at the program's types (by program: genfn.py). (and 2 more texts)
-/
import Derived.Test.YtfpannkadjdnaaaGreatDoorTa04
import Derived.Test.YtfpannkadjdnaaaGreatDoorTa09
import Derived.Test.YtfpannkadjdnaaaGreatDoorTa10
import Derived.Test.YtfpannkadjdnaaaGreatDoorRows
import Derived.Shelf.SortM.Plain
import Derived.Shelf.SortM.SortNone
namespace Go.Proofs.YtfpannkadjdnaaaGreatDoor
open Go.RowKit
set_option linter.all false
set_option maxRecDepth 100000
set_option maxHeartbeats 800000 in
theorem azc (fid:Nat) (caps:Array Value) (p:Ty→Bool) {B:Nat} {v:Value} {ts:List Ty} {w:World} (hB:B≤w.heap.size) (h:Rep w B (.row 4 (ts.flatMap Ty.pd)) v)
  (hcf:∀ a W,Sem.run Tryz.prog (callFunc fid a) W=.ok (.enter fid a) W)
  (hp:∀ t ∈ ts,∀ (cs:List Value) (W:World),Below w.heap.size w W→jq W B (Ty.pd t) cs→Calls Tryz.prog fid (#[.agg cs.toArray] ++caps) W fun e w'=>e=.returned (.bool (p t))∧Below W.heap.size W w'):
  Calls Tryz.prog 91 #[v,.func (.func fid) #[] caps] w fun e w'=>e=.returned (.int .i64 (aav p ts))∧Below w.heap.size w w':=by
 obtain⟨A,n,c,rfl,hnl,hm,hat⟩:=bf Ty.ay (by decide) h;unfold maxLen at hm;have HN:=zqd hnl;have HQ:=zqd hp;clear h hnl hp;go_enter Tryz.func91,Tryz.ntmps91
 go_wp2_with fail
 go_loopw [8] (fun i wr=>∃ k:Nat,k≤n∧i=.int .i64 k∧Hid (∀ (j:Nat) (t:Ty),j < k→ts[j]?=some t→p t=false)∧Below w.heap.size w wr) (fun i _=>n - (intOf i).toNat)
 case atStart=>exact⟨0,Nat.zero_le _,rfl,zqd fun j t h=>absurd h (by omega),zqf _ _⟩
 case round=>
  obtain⟨k,hk,rfl,HP,hbr⟩:=hrel;by_cases hlt:k < n
  ·obtain⟨g,off,rfl,hg,hcell⟩:=hat (by omega)
   obtain⟨t,hx,hmem⟩:=uo HN.out hlt;obtain⟨kind,name,labels,kids⟩:=t;have c0:wr.cell? ⟨g,off+k * 4,none⟩=some (.int .i64 kind):=ng hbr (by omega) (hcell k 0 _ _ hx (by rw[Ty.ji];rfl));have c1:wr.cell? ⟨g,off+k * 4+1,none⟩=some (.string name):=ng hbr (by omega) (hcell k 1 _ _ hx (by rw[Ty.ji];rfl));obtain⟨iy,c2,hr2⟩:∃ u,wr.cell? ⟨g,off+k * 4+2,none⟩=some u∧Rep wr B (.row 1 (labels.flatMap aam)) u:=xq hbr (by omega) hB (hcell k 2 _ _ hx (by rw[Ty.ji];rfl));have HR2:=zqd hr2;clear hr2;obtain⟨iw,c3,hr3⟩:∃ u,wr.cell? ⟨g,off+k * 4+3,none⟩=some u∧Rep wr B (.row 4 (kids.flatMap Ty.pd)) u:=xq hbr (by omega) hB (hcell k 3 _ _ hx (by rw[Ty.ji];rfl));have HR3:=zqd hr3;clear hr3;have hc:=HQ.out _ hmem [.int .i64 kind,.string name,iy,iw] wr hbr (Ty.close_ HR2.out HR3.out);obtain⟨t,ht⟩:∃ t:Ty,t=⟨kind,name,labels,kids⟩:=⟨_,rfl⟩;rw[← ht] at hc hx;clear ht;have HC:=zqd hc;have HX:=zqd hx;clear hc hx hmem hcell;go_wp2_with fail
   refine HC.out.mono ?_;rintro e w1 ⟨rfl,hb1⟩;have hB1:=hbr.trans (hb1.mono hbr.size);cases hb:p t
   ·go_wp2_with fail
    go_roundw
    case rel=>exact⟨k+1,by omega,by go_num,zqd (aij HP.out HX.out hb),hB1⟩
    case measure=>simp[intOf];omega
   ·have HI:Hid (aav p ts=(k:Int)):=am7 HP.out HX.out hb
    go_wp2_with fail
    go_ret
    exact⟨aa2 HI.out.symm,hB1⟩
  ·have hkn:k=n:=by omega
   subst hkn;have HI:Hid (aav p ts=-1):=al9 fun j t ht=>HP.out j t (by have:=(List.getElem?_eq_some_iff.1 ht).1;have:=HN.out;omega) ht;go_wp2_with fail
   go_ret
   exact⟨aa2 HI.out.symm,hbr⟩
theorem ane (fid:Nat) (caps:Array Value) (p:Ty→Bool) {B:Nat} {v:Value} {ts:List Ty} {w:World} (hB:B≤w.heap.size) (h:Rep w B (.row 4 (ts.flatMap Ty.pd)) v)
  (hcf:∀ a W,Sem.run Tryz.prog (callFunc fid a) W=.ok (.enter fid a) W)
  (hp:∀ t ∈ ts,∀ (cs:List Value) (W:World),Below w.heap.size w W→jq W B (Ty.pd t) cs→Calls Tryz.prog fid (#[.agg cs.toArray] ++caps) W fun e w'=>e=.returned (.bool (p t))∧Below W.heap.size W w'):
  Calls Tryz.prog 65 #[v,.func (.func fid) #[] caps] w fun e w'=>e=.returned (.bool (ts.any p))∧Below w.heap.size w w':=by
 have HI:=zqd (azc fid caps p hB h hcf hp);have HA:=zqd (ao7 p ts);obtain⟨i,hi⟩:∃ i,i=aav p ts:=⟨_,rfl⟩;rw[← hi] at HI HA;clear h hp hi;go_enter Tryz.func65,Tryz.ntmps65
 go_wp2_with fail
 refine HI.out.mono ?_;rintro e w1 ⟨rfl,hb1⟩;go_wp2_with fail
 go_ret
 exact⟨au HA.out,hb1⟩
set_option maxHeartbeats 800000 in
theorem av2 (fid:Nat) (caps:Array Value) (p:ByteArray→Bool) {B:Nat} {v:Value} {ts:List ByteArray} {w:World} (hB:B≤w.heap.size) (h:Rep w B (.row 1 (ts.flatMap aam)) v)
  (hcf:∀ a W,Sem.run Tryz.prog (callFunc fid a) W=.ok (.enter fid a) W)
  (hp:∀ t ∈ ts,∀ (W:World),Below w.heap.size w W→Calls Tryz.prog fid (#[.string t] ++caps) W fun e w'=>e=.returned (.bool (p t))∧Below W.heap.size W w'):
  Calls Tryz.prog 110 #[v,.func (.func fid) #[] caps] w fun e w'=>e=.returned (.int .i64 (aav p ts))∧Below w.heap.size w w':=by
 obtain⟨A,n,c,rfl,hnl,hm,hat⟩:=bf jo (by decide) h;unfold maxLen at hm;have HN:=zqd hnl;have HQ:=zqd hp;clear h hnl hp;go_enter Tryz.func110,Tryz.ntmps110
 go_wp2_with fail
 go_loopw [8] (fun i wr=>∃ k:Nat,k≤n∧i=.int .i64 k∧Hid (∀ (j:Nat) (t:ByteArray),j < k→ts[j]?=some t→p t=false)∧Below w.heap.size w wr) (fun i _=>n - (intOf i).toNat)
 case atStart=>exact⟨0,Nat.zero_le _,rfl,zqd fun j t h=>absurd h (by omega),zqf _ _⟩
 case round=>
  obtain⟨k,hk,rfl,HP,hbr⟩:=hrel;by_cases hlt:k < n
  ·obtain⟨g,off,rfl,hg,hcell⟩:=hat (by omega)
   obtain⟨t,hx,hmem⟩:=uo HN.out hlt;have c0:wr.cell? ⟨g,off+k,none⟩=some (.string t):=ng hbr (by omega) (by have:=hcell k 0 _ _ hx rfl;simpa using this);have hc:=HQ.out _ hmem wr hbr;have HC:=zqd hc;have HX:=zqd hx;clear hc hx hmem hcell;go_wp2_with fail
   refine HC.out.mono ?_;rintro e w1 ⟨rfl,hb1⟩;have hB1:=hbr.trans (hb1.mono hbr.size);cases hb:p t
   ·go_wp2_with fail
    go_roundw
    case rel=>exact⟨k+1,by omega,by go_num,zqd (aij HP.out HX.out hb),hB1⟩
    case measure=>simp[intOf];omega
   ·have HI:Hid (aav p ts=(k:Int)):=am7 HP.out HX.out hb
    go_wp2_with fail
    go_ret
    exact⟨aa2 HI.out.symm,hB1⟩
  ·have hkn:k=n:=by omega
   subst hkn;have HI:Hid (aav p ts=-1):=al9 fun j t ht=>HP.out j t (by have:=(List.getElem?_eq_some_iff.1 ht).1;have:=HN.out;omega) ht;go_wp2_with fail
   go_ret
   exact⟨aa2 HI.out.symm,hbr⟩
theorem av3 (fid:Nat) (caps:Array Value) (p:ByteArray→Bool) {B:Nat} {v:Value} {ts:List ByteArray} {w:World} (hB:B≤w.heap.size) (h:Rep w B (.row 1 (ts.flatMap aam)) v)
  (hcf:∀ a W,Sem.run Tryz.prog (callFunc fid a) W=.ok (.enter fid a) W)
  (hp:∀ t ∈ ts,∀ (W:World),Below w.heap.size w W→Calls Tryz.prog fid (#[.string t] ++caps) W fun e w'=>e=.returned (.bool (p t))∧Below W.heap.size W w'):
  Calls Tryz.prog 93 #[v,.func (.func fid) #[] caps] w fun e w'=>e=.returned (.bool (ts.any p))∧Below w.heap.size w w':=by
 have HI:=zqd (av2 fid caps p hB h hcf hp);have HA:=zqd (ao7 p ts);obtain⟨i,hi⟩:∃ i,i=aav p ts:=⟨_,rfl⟩;rw[← hi] at HI HA;clear h hp hi;go_enter Tryz.func93,Tryz.ntmps93
 go_wp2_with fail
 refine HI.out.mono ?_;rintro e w1 ⟨rfl,hb1⟩;go_wp2_with fail
 go_ret
 exact⟨au HA.out,hb1⟩
set_option maxHeartbeats 800000 in
theorem auq (x:Int) {B:Nat} {v:Value} {ts:List Int} {w:World} (hB:B≤w.heap.size) (h:Rep w B (.row 1 (ts.flatMap aoe)) v):
  Calls Tryz.prog 111 #[v,.int .i64 x] w fun e w'=>e=.returned (.int .i64 (aav (fun t=>decide (x=t)) ts))∧Below w.heap.size w w':=by
 obtain⟨A,n,c,rfl,hnl,hm,hat⟩:=bf a0r (by decide) h;unfold maxLen at hm;have HN:=zqd hnl;clear h hnl;go_enter Tryz.func111,Tryz.ntmps111
 go_wp2_with fail
 go_loopw [8] (fun i wr=>∃ k:Nat,k≤n∧i=.int .i64 k∧Hid (∀ (j:Nat) (t:Int),j < k→ts[j]?=some t→decide (x=t)=false)∧Below w.heap.size w wr) (fun i _=>n - (intOf i).toNat)
 case atStart=>exact⟨0,Nat.zero_le _,rfl,zqd fun j t h=>absurd h (by omega),zqf _ _⟩
 case round=>
  obtain⟨k,hk,rfl,HP,hbr⟩:=hrel;by_cases hlt:k < n
  ·obtain⟨g,off,rfl,hg,hcell⟩:=hat (by omega)
   obtain⟨t,hx,hmem⟩:=uo HN.out hlt;have c0:wr.cell? ⟨g,off+k,none⟩=some (.int .i64 t):=ng hbr (by omega) (by have:=hcell k 0 _ _ hx rfl;simpa using this);have HX:=zqd hx;clear hx hmem hcell;by_cases hb:x=t
   ·have HI:Hid (aav (fun t=>decide (x=t)) ts=(k:Int)):=am7 HP.out HX.out (by simp[hb])
    subst hb;go_wp2_with fail
    go_ret
    exact⟨aa2 HI.out.symm,hbr⟩
   ·have hs:(x ==t)=false:=by simpa using hb
    have HB:=zqd (aij HP.out HX.out (by simp[hb]));clear hb;go_wp2_with fail
    go_roundw
    case rel=>exact⟨k+1,by omega,by go_num,HB,hbr⟩
    case measure=>simp[intOf];omega
  ·have hkn:k=n:=by omega
   subst hkn;have HI:Hid (aav (fun t=>decide (x=t)) ts=-1):=al9 fun j t ht=>HP.out j t (by have:=(List.getElem?_eq_some_iff.1 ht).1;have:=HN.out;omega) ht;go_wp2_with fail
   go_ret
   exact⟨aa2 HI.out.symm,hbr⟩
theorem aqg (x:Int) {B:Nat} {v:Value} {ts:List Int} {w:World} (hB:B≤w.heap.size) (h:Rep w B (.row 1 (ts.flatMap aoe)) v):
  Calls Tryz.prog 95 #[v,.int .i64 x] w fun e w'=>e=.returned (.bool (ts.any (fun t=>decide (x=t))))∧Below w.heap.size w w':=by
 have HI:=zqd (auq x hB h);have HA:=zqd (ao7 (fun t=>decide (x=t)) ts);obtain⟨i,hi⟩:∃ i,i=aav (fun t=>decide (x=t)) ts:=⟨_,rfl⟩;rw[← hi] at HI HA;clear h hi;go_enter Tryz.func95,Tryz.ntmps95
 go_wp2_with fail
 refine HI.out.mono ?_;rintro e w1 ⟨rfl,hb1⟩;go_wp2_with fail
 go_ret
 exact⟨au HA.out,hb1⟩
set_option maxHeartbeats 800000 in
theorem ahb (x:ByteArray) {B:Nat} {v:Value} {ts:List ByteArray} {w:World} (hB:B≤w.heap.size) (h:Rep w B (.row 1 (ts.flatMap aam)) v):
  Calls Tryz.prog 47 #[v,.string x] w fun e w'=>e=.returned (.int .i64 (aav (fun t=>decide (x=t)) ts))∧Below w.heap.size w w':=by
 obtain⟨A,n,c,rfl,hnl,hm,hat⟩:=bf jo (by decide) h;unfold maxLen at hm;have HN:=zqd hnl;clear h hnl;go_enter Tryz.func47,Tryz.ntmps47
 go_wp2_with fail
 go_loopw [8] (fun i wr=>∃ k:Nat,k≤n∧i=.int .i64 k∧Hid (∀ (j:Nat) (t:ByteArray),j < k→ts[j]?=some t→decide (x=t)=false)∧Below w.heap.size w wr) (fun i _=>n - (intOf i).toNat)
 case atStart=>exact⟨0,Nat.zero_le _,rfl,zqd fun j t h=>absurd h (by omega),zqf _ _⟩
 case round=>
  obtain⟨k,hk,rfl,HP,hbr⟩:=hrel;by_cases hlt:k < n
  ·obtain⟨g,off,rfl,hg,hcell⟩:=hat (by omega)
   obtain⟨t,hx,hmem⟩:=uo HN.out hlt;have c0:wr.cell? ⟨g,off+k,none⟩=some (.string t):=ng hbr (by omega) (by have:=hcell k 0 _ _ hx rfl;simpa using this);have HX:=zqd hx;clear hx hmem hcell;by_cases hb:x=t
   ·have HI:Hid (aav (fun t=>decide (x=t)) ts=(k:Int)):=am7 HP.out HX.out (by simp[hb])
    subst hb;go_wp2_with fail
    go_ret
    exact⟨aa2 HI.out.symm,hbr⟩
   ·have hs:(x.toList ==t.toList)=false:=ag8 hb
    have HB:=zqd (aij HP.out HX.out (by simp[hb]));clear hb;go_wp2_with fail
    go_roundw
    case rel=>exact⟨k+1,by omega,by go_num,HB,hbr⟩
    case measure=>simp[intOf];omega
  ·have hkn:k=n:=by omega
   subst hkn;have HI:Hid (aav (fun t=>decide (x=t)) ts=-1):=al9 fun j t ht=>HP.out j t (by have:=(List.getElem?_eq_some_iff.1 ht).1;have:=HN.out;omega) ht;go_wp2_with fail
   go_ret
   exact⟨aa2 HI.out.symm,hbr⟩
end Go.Proofs.YtfpannkadjdnaaaGreatDoor
namespace Go.Proofs.YtfpannkadjdnaaaGreatDoor
open Go.RowKit
set_option linter.all false
def bdk (lo hi:Int) (t:Ty):Prop:=∀ (B:Nat) (cs:List Value) (w:World),B≤w.heap.size→jq w B (Ty.pd t) cs→
 Calls Tryz.prog 104 #[.agg cs.toArray,.int .i64 lo,.int .i64 hi] w fun e w'=>e=.returned (.bool (t.has lo hi))∧Below w.heap.size w w'
set_option maxHeartbeats 1600000 in
theorem azd {lo hi kind:Int} {name:ByteArray} {labels:List ByteArray} {kids:List Ty} (ih:∀ t ∈ kids,bdk lo hi t):bdk lo hi ⟨kind,name,labels,kids⟩:=by
 intro B cs w hB h;obtain⟨iy,iw,rfl,dh,dn⟩:=Ty.open_ h;have pz:=zqd dh;clear dh;have pq:=zqd dn;clear dn;obtain⟨A,n,c,rfl,hnl,hm,hat⟩:=bf Ty.ay (by decide) pq.out;unfold maxLen at hm;have HN:=zqd hnl;have HI:=zqd ih;clear hnl ih h;have HF:=zqd (show(Ty.mk kind name labels kids).has lo hi=(inB kind lo hi ||kids.any (Ty.has lo hi)) by rw[Ty.has,avp]);go_enter Tryz.func104,Tryz.ntmps104
 go_wp2_with fail
 refine(oz _ _ _ _).mono ?_;rintro e w' ⟨rfl,rfl⟩;cases hk:inB kind lo hi
 case true=>
  go_wp2_with fail
  go_ret
  exact⟨au (by rw[HF.out,hk];rfl),(zqf _ _).alloc (zql _) _⟩
 have HK:=zqd hk;clear hk;go_wp2_with fail
 obtain⟨w0,hw0⟩:=zqe w 39 #[.int .i64 kind,.string name,iy,.slice A n c];rw[← hw0];have bA:=zqn hw0;have hB0:=zqb hw0;clear hw0;go_loopw [7] (fun i wr=>∃ k:Nat,k≤n∧i=.int .i64 k∧Hid (∀ (j:Nat) (t:Ty),j < k→kids[j]?=some t→t.has lo hi=false)∧Below w.heap.size w wr∧Blk wr w.heap.size 39 #[.int .i64 kind,.string name,iy,.slice A n c]) (fun i _=>n - (intOf i).toNat)
 case atStart=>exact⟨0,Nat.zero_le _,rfl,zqd fun j t h=>absurd h (by omega),hB0,bA⟩
 case round=>
  obtain⟨k,hk,rfl,HP,hbr,bR⟩:=hrel;clear hB0 bA;have aqh:wr.cell? ⟨w.heap.size,3,none⟩=some (.slice A n c):=bR.cell 3;have hsz:=hbr.size;by_cases hlt:k < n
  ·obtain⟨g,off,rfl,hg2,hcell2⟩:=hat (by omega)
   obtain⟨t2,hx2,aeb⟩:=uo HN.out hlt;obtain⟨kind2,name2,aa5,aa1⟩:=t2;have afe:wr.cell? ⟨g,off+k * 4,none⟩=some (.int .i64 kind2):=ng hbr (by omega) (hcell2 k 0 _ _ hx2 (by rw[Ty.ji];rfl));have aro:wr.cell? ⟨g,off+k * 4+1,none⟩=some (.string name2):=ng hbr (by omega) (hcell2 k 1 _ _ hx2 (by rw[Ty.ji];rfl));obtain⟨adf,an4,afd⟩:∃ u,wr.cell? ⟨g,off+k * 4+2,none⟩=some u∧Rep wr B (.row 1 (aa5.flatMap aam)) u:=xq hbr (by omega) hB (hcell2 k 2 _ _ hx2 (by rw[Ty.ji];rfl));have agl:=zqd afd;clear afd;obtain⟨ad1,afr,acy⟩:∃ u,wr.cell? ⟨g,off+k * 4+3,none⟩=some u∧Rep wr B (.row 4 (aa1.flatMap Ty.pd)) u:=xq hbr (by omega) hB (hcell2 k 3 _ _ hx2 (by rw[Ty.ji];rfl));have acj:=zqd acy;clear acy;have HX2:=zqd hx2;have HM2:=zqd aeb;clear hx2 aeb;clear hcell2;have hcall:=HI.out _ HM2.out B [.int .i64 kind2,.string name2,adf,ad1] wr (Nat.le_trans hB hbr.size) (Ty.close_ agl.out acj.out);obtain⟨t,ht⟩:∃ t:Ty,t=⟨kind2,name2,aa5,aa1⟩:=⟨_,rfl⟩;have hx:=HX2.out;rw[← ht] at hcall hx;have HX:=zqd hx;have HC:=zqd hcall;clear hcall ht hx;go_wp2_with fail
   refine HC.out.mono ?_;rintro e w1 ⟨rfl,hb1⟩;have bR1:=bR.step hb1;have hB1:=hbr.trans (hb1.mono hbr.size);cases hb:t.has lo hi
   ·go_wp2_with fail
    go_roundw
    case rel=>exact⟨k+1,by omega,by go_num,zqd (aij HP.out HX.out hb),hB1,bR1⟩
    case measure=>simp[intOf];omega
   ·have HA:=zqd (avq (p:=Ty.has lo hi) HX.out hb)
    go_wp2_with fail
    go_ret
    exact⟨au (by rw[HF.out,HA.out,Bool.or_true]),hB1⟩
  ·have hkn:k=n:=by omega
   subst hkn;have HA:=zqd (any_none (p:=Ty.has lo hi) (ts:=kids) (n:=k) (by have:=HN.out;omega) HP.out);go_wp2_with fail
   go_ret
   exact⟨au (by rw[HF.out,HK.out,HA.out];rfl),hbr⟩
theorem al0 (lo hi:Int):∀ t:Ty,bdk lo hi t:=Ty.ai6 fun kind name labels kids ih=>azd ih
set_option maxHeartbeats 1600000 in
theorem aga (t:Ty) {B:Nat} {cs:List Value} {w:World} (hB:B≤w.heap.size) (h:jq w B (Ty.pd t) cs):
  Calls Tryz.prog 103 #[.agg cs.toArray] w fun e w'=>e=.returned (.bool (!aa4 t.kids))∧Below w.heap.size w w':=by
 obtain⟨kind,name,labels,kids⟩:=t;obtain⟨iy,iw,rfl,dh,dn⟩:=Ty.open_ h;have pz:=zqd dh;clear dh;have pq:=zqd dn;clear dn;obtain⟨A,n,c,rfl,hnl,hm,hat⟩:=bf Ty.ay (by decide) pq.out;unfold maxLen at hm;have HN:=zqd hnl;clear hnl h;have HF:=zqd (show(!aa4 (Ty.mk kind name labels kids).kids)=kids.any Ty.isUnit by simp[aa4,Ty.kids]);go_enter Tryz.func103,Tryz.ntmps103
 go_wp2_with fail
 obtain⟨w0,hw0⟩:=zqe w 39 #[.int .i64 kind,.string name,iy,.slice A n c];rw[← hw0];have bA:=zqn hw0;have hB0:=zqb hw0;clear hw0;have aqh:w0.cell? ⟨w.heap.size,3,none⟩=some (.slice A n c):=bA.cell 3;go_loop [3] (fun i=>∃ k:Nat,k≤n∧i=.int .i64 k∧Hid (∀ (j:Nat) (t:Ty),j < k→kids[j]?=some t→Ty.isUnit t=false)) (fun i=>n - (intOf i).toNat)
 case atStart=>exact⟨0,Nat.zero_le _,rfl,zqd fun j t h=>absurd h (by omega)⟩
 case round=>
  obtain⟨k,hk,rfl,HP⟩:=hrel;by_cases hlt:k < n
  ·obtain⟨g,off,rfl,hg2,hcell2⟩:=hat (by omega)
   obtain⟨t2,hx2,aeb⟩:=uo HN.out hlt;obtain⟨kind2,name2,aa5,aa1⟩:=t2;have afe:w0.cell? ⟨g,off+k * 4,none⟩=some (.int .i64 kind2):=ng hB0 (by omega) (hcell2 k 0 _ _ hx2 (by rw[Ty.ji];rfl));have HX2:=zqd hx2;have HM2:=zqd aeb;clear hx2 aeb;clear hcell2;obtain⟨t,ht⟩:∃ t:Ty,t=⟨kind2,name2,aa5,aa1⟩:=⟨_,rfl⟩;have hx:=HX2.out;have HU:=zqd (show t.isUnit=(kind2 ==1) by rw[ht];rfl);rw[← ht] at hx;have HX:=zqd hx;clear ht hx;cases hb:(kind2 ==1)
   ·have HB:=zqd (aij HP.out HX.out (by rw[HU.out,hb]))
    go_wp2_with fail
    go_round
    case rel=>exact⟨k+1,by omega,by go_num,HB⟩
    case measure=>simp[intOf];omega
   ·have HA:=zqd (avq (p:=Ty.isUnit) HX.out (by rw[HU.out,hb]))
    go_wp2_with fail
    go_ret
    exact⟨au (by rw[HF.out,HA.out]),hB0⟩
  ·have hkn:k=n:=by omega
   subst hkn;have HA:=zqd (any_none (p:=Ty.isUnit) (ts:=kids) (n:=k) (by have:=HN.out;omega) HP.out);go_wp2_with fail
   go_ret
   exact⟨au (by rw[HF.out,HA.out]),hB0⟩
theorem am1 (t:Ty) {B:Nat} {cs:List Value} {w:World} (h:jq w B (Ty.pd t) cs):
  Calls Tryz.prog 79 #[.agg cs.toArray] w fun e w'=>e=.returned (.bool t.isUnit)∧Below w.heap.size w w':=by
 obtain⟨kind,name,labels,kids⟩:=t;obtain⟨iy,iw,rfl,_,_⟩:=Ty.open_ h;go_enter Tryz.func79,Tryz.ntmps79
 go_wp2_with fail
 go_ret
 exact⟨au rfl,(zqf _ _).alloc (zql _) _⟩
theorem aze (a:Array Value) (W:World):Sem.run Tryz.prog (callFunc 79 a) W=.ok (.enter 79 a) W:=by kernel_rfl
theorem amc {ts:List Ty} {v:Value} {B:Nat} {w:World} (h:Rep w B (.row 4 (ts.flatMap Ty.pd)) v):
  Calls Tryz.prog 71 #[v] w fun e w'=>e=.returned (.int .i64 ts.length)∧w=w':=by
 obtain⟨A,n,c,rfl,hnl,hm,_⟩:=bf Ty.ay (by decide) h;unfold maxLen at hm;rw[← hnl];clear h hnl;go_enter Tryz.func71,Tryz.ntmps71
 go_wp2
 go_ret
 exact⟨rfl,rfl⟩
theorem ai9 {ts:List ByteArray} {v:Value} {B:Nat} {w:World} (h:Rep w B (.row 1 (ts.flatMap aam)) v):
  Calls Tryz.prog 72 #[v] w fun e w'=>e=.returned (.int .i64 ts.length)∧w=w':=by
 obtain⟨A,n,c,rfl,hnl,hm,_⟩:=bf jo (by decide) h;unfold maxLen at hm;rw[← hnl];clear h hnl;go_enter Tryz.func72,Tryz.ntmps72
 go_wp2
 go_ret
 exact⟨rfl,rfl⟩
set_option maxHeartbeats 1600000 in
theorem af5 (t:Ty) (many:Int) {B:Nat} {cs:List Value} {w:World} (hB:B≤w.heap.size) (h:jq w B (Ty.pd t) cs):
  Calls Tryz.prog 70 #[.agg cs.toArray,.int .i64 many] w fun e w'=>e=.returned (.bool (decide ((t.kids.length:Int)=many) && aa4 t.kids))∧Below w.heap.size w w':=by
 obtain⟨kind,name,labels,kids⟩:=t;obtain⟨iy,iw,rfl,dh,dn⟩:=Ty.open_ h;have pz:=zqd dh;clear dh;have pq:=zqd dn;clear dn;obtain⟨A,n,c,rfl⟩:=pq.out.form;clear h;have HF:=zqd (show(decide (((Ty.mk kind name labels kids).kids.length:Int)=many) && aa4 (Ty.mk kind name labels kids).kids)=(decide ((kids.length:Int)=many) && !kids.any Ty.isUnit) by rfl);obtain⟨L,hL⟩:∃ L:Nat,L=kids.length:=⟨_,rfl⟩;have HL:=zqd hL;clear hL;cases he:((L:Int) ==many)
 ·have HE:Hid (decide ((L:Int)=many)=false):=by show _=_;simpa using he
  go_enter Tryz.func70,Tryz.ntmps70
  go_wp2_with fail
  obtain⟨w0,hw0⟩:=zqe w 39 #[.int .i64 kind,.string name,iy,.slice A n c];rw[← hw0];have bA:=zqn hw0;have hB0:=zqb hw0;clear hw0;refine(amc (pq.out.below (hB0.mono hB))).mono ?_;rintro e w1 ⟨rfl,rfl⟩;rw[← HL.out];go_wp2_with fail
  go_ret
  exact⟨au (by rw[HF.out,← HL.out,HE.out];rfl),hB0⟩
 ·have HE:Hid (decide ((L:Int)=many)=true):=by show _=_;simpa using he
  go_enter Tryz.func70,Tryz.ntmps70
  go_wp2_with fail
  obtain⟨w0,hw0⟩:=zqe w 39 #[.int .i64 kind,.string name,iy,.slice A n c];rw[← hw0];have bA:=zqn hw0;have hB0:=zqb hw0;clear hw0;refine(amc (pq.out.below (hB0.mono hB))).mono ?_;rintro e w1 ⟨rfl,rfl⟩;rw[← HL.out];have aqh:w0.cell? ⟨w.heap.size,3,none⟩=some (.slice A n c):=bA.cell 3;go_wp2_with fail
  refine(ane 79 #[] Ty.isUnit (by have:=hB0.size;omega) (pq.out.below (hB0.mono hB)) aze (fun t _ cs W _ hr=>am1 t hr)).mono ?_;rintro e w2 ⟨rfl,hb2⟩;go_wp2_with fail
  go_ret
  exact⟨au (by rw[HF.out,← HL.out,HE.out];rfl),hB0.trans (hb2.mono hB0.size)⟩
def ayd (t:Ty):Prop:=∀ (B:Nat) (cs:List Value) (v:Value) (w:World),B≤w.heap.size→jq w B (Ty.pd t) cs→Rep w B (.row 1 ([21].flatMap aoe)) v→
 Calls Tryz.prog 73 #[.agg cs.toArray,v] w fun e w'=>e=.returned (.bool (t.has 21 21))∧Below w.heap.size w w'
theorem axr (a:Array Value) (W:World):Sem.run Tryz.prog (callFunc 96 a) W=.ok (.enter 96 a) W:=by kernel_rfl
theorem azf {t:Ty} (ih:ayd t) {B b:Nat} {cs:List Value} {v:Value} {w:World} (hB:B≤w.heap.size) (h:jq w B (Ty.pd t) cs) (k:Rep w B (.row 1 ([21].flatMap aoe)) v) (hc:w.cell? ⟨b,0,none⟩=some v) (hb:b < w.heap.size):
  Calls Tryz.prog 96 #[.agg cs.toArray,.pointer (some ⟨b,0,none⟩)] w fun e w'=>e=.returned (.bool (t.has 21 21))∧Below w.heap.size w w':=by
 obtain⟨kind,name,labels,kids⟩:=t;obtain⟨iy,iw,rfl,dh,dn⟩:=Ty.open_ h;have pz:=zqd dh;clear dh;have pq:=zqd dn;clear dn;have IH:=zqd ih;have K:=zqd k;clear ih k h;go_enter Tryz.func96,Tryz.ntmps96
 go_wp2_with fail
 obtain⟨w0,hw0⟩:=zqe w 39 #[.int .i64 kind,.string name,iy,iw];rw[← hw0];have bA:=zqn hw0;have hB0:=zqb hw0;clear hw0;refine(IH.out B [.int .i64 kind,.string name,iy,iw] v w0 (by have:=hB0.size;omega) (Ty.close_ (pz.out.below (hB0.mono hB)) (pq.out.below (hB0.mono hB))) (K.out.below (hB0.mono hB))).mono ?_;rintro e w1 ⟨rfl,hb1⟩;go_wp2_with fail
 go_ret
 exact⟨rfl,hB0.trans (hb1.mono hB0.size)⟩
set_option maxHeartbeats 1600000 in
theorem azg {kind:Int} {name:ByteArray} {labels:List ByteArray} {kids:List Ty} (ih:∀ t ∈ kids,ayd t):ayd ⟨kind,name,labels,kids⟩:=by
 intro B cs v w hB h k;obtain⟨iy,iw,rfl,dh,dn⟩:=Ty.open_ h;have pz:=zqd dh;clear dh;have pq:=zqd dn;clear dn;obtain⟨A,n,c,rfl⟩:=pq.out.form;obtain⟨A',n',c',rfl⟩:=k.form;have HI:=zqd ih;have K:=zqd k;clear h k ih;have HF:=zqd (show(Ty.mk kind name labels kids).has 21 21=(inB kind 21 21 ||kids.any (Ty.has 21 21)) by rw[Ty.has,avp])
 have HG:Hid ([21].any (fun t=>decide (kind=t))=inB kind 21 21):=by
  show _=_;rw[List.any_cons,List.any_nil,Bool.or_false,Bool.eq_iff_iff,abm,decide_eq_true_iff];omega
 go_enter Tryz.func73,Tryz.ntmps73
 go_wp2_with fail
 obtain⟨w0,hw0⟩:∃ W,W=(w.alloc (.cells #[.int .i64 kind,.string name,iy,.slice A n c] 39)).alloc (.cells #[.slice A' n' c'] 96):=⟨_,rfl⟩;rw[← hw0];have bA:Blk w0 w.heap.size 39 #[.int .i64 kind,.string name,iy,.slice A n c]:=by rw[hw0];exact(Blk.new w _ _).alloc _
 have bK:=zn21 hw0;have hB0:Below w.heap.size w w0:=by rw[hw0];exact((zqf _ _).alloc (zql _) _).alloc (by simp) _
 clear hw0;refine(aqg kind (B:=B) (by have:=hB0.size;omega) (K.out.below (hB0.mono hB))).mono ?_;rintro e w1 ⟨rfl,hb1⟩;rw[HG.out];have hB1:=hB0.trans (hb1.mono hB0.size);have bA1:=bA.step hb1;have bK1:=bK.step hb1;clear bA bK;cases hk:inB kind 21 21
 case true=>
  go_wp2_with fail
  go_ret
  exact⟨au (by rw[HF.out,hk];rfl),hB1⟩
 have HK:=zqd hk;clear hk;have aqh:w1.cell? ⟨w.heap.size,3,none⟩=some (.slice A n c):=bA1.cell 3;go_wp2_with fail
 refine(ane 96 #[.pointer (some ⟨w.heap.size+1,0,none⟩)] (Ty.has 21 21) (B:=B) (by have:=hB1.size;omega) (pq.out.below (hB1.mono hB)) axr (fun t ht cs W hW hr=>?_)).mono ?_
 ·have hsz:=hW.size
  have hl:=bK1.lt;refine azf (HI.out t ht) (B:=W.heap.size) (v:=.slice A' n' c') (zql _) (hr.more (by have:=hB1.size;omega)) ((((K.out.below (hB1.mono hB)).more (by have:=hB1.size;omega)).below hW).more (by omega)) ?_ (by omega);exact(hW.cell (p:=⟨w.heap.size+1,0,none⟩) hl).trans (bK1.cell 0)
 rintro e w2 ⟨rfl,hb2⟩;go_wp2_with fail
 go_ret
 exact⟨au (by rw[HF.out,HK.out];rfl),hB1.trans (hb2.mono hB1.size)⟩
theorem al1:∀ t:Ty,ayd t:=Ty.ai6 fun kind name labels kids ih=>azg ih
end Go.Proofs.YtfpannkadjdnaaaGreatDoor
namespace Go.Proofs.YtfpannkadjdnaaaGreatDoor
open Go.RowKit Go.Shelf
set_option linter.unusedVariables false
set_option maxRecDepth 100000
def bs6:Go.Shelf.Ren:=⟨fun|6=>120|8=>125|9=>124|19=>139|20=>140|21=>130|22=>131|23=>132|24=>133|25=>134|26=>135|27=>136|28=>137|29=>138|36=>145|31=>146|32=>147|37=>148|38=>149|39=>150|41=>153|n=>n,fun|0=>0|3=>3|4=>4|5=>5|9=>9|26=>25|27=>25|29=>9|32=>65|35=>139|36=>140|41=>145|44=>122|46=>121|53=>153|57=>157|63=>159|64=>160|n=>n,fun n=>n⟩
set_option maxHeartbeats 2000000 in
theorem a1i:SlLaysM.n6 Tryz.prog bs6:=
 {mixed:=by kernel_rfl
  f6:=⟨Tryz.f120.name,by kernel_rfl,Tryz.func120.trans (congrArg some (by kernel_rfl))⟩
  f8:=Tryz.func125.trans (congrArg some (by kernel_rfl))
  f9:=⟨Tryz.f124.name,by kernel_rfl,Tryz.func124.trans (congrArg some (by kernel_rfl))⟩
  f19:=Tryz.func139.trans (congrArg some (by kernel_rfl))
  f20:=Tryz.func140.trans (congrArg some (by kernel_rfl))
  f21:=⟨Tryz.f130.name,by kernel_rfl,Tryz.func130.trans (congrArg some (by kernel_rfl))⟩
  f22:=⟨Tryz.f131.name,by kernel_rfl,Tryz.func131.trans (congrArg some (by kernel_rfl))⟩
  f23:=⟨Tryz.f132.name,by kernel_rfl,Tryz.func132.trans (congrArg some (by kernel_rfl))⟩
  f24:=⟨Tryz.f133.name,by kernel_rfl,Tryz.func133.trans (congrArg some (by kernel_rfl))⟩
  f25:=⟨Tryz.f134.name,by kernel_rfl,Tryz.func134.trans (congrArg some (by kernel_rfl))⟩
  f26:=⟨Tryz.f135.name,by kernel_rfl,Tryz.func135.trans (congrArg some (by kernel_rfl))⟩
  f27:=⟨Tryz.f136.name,by kernel_rfl,Tryz.func136.trans (congrArg some (by kernel_rfl))⟩
  f28:=⟨Tryz.f137.name,by kernel_rfl,Tryz.func137.trans (congrArg some (by kernel_rfl))⟩
  f29:=⟨Tryz.f138.name,by kernel_rfl,Tryz.func138.trans (congrArg some (by kernel_rfl))⟩
  f31:=Tryz.func146.trans (congrArg some (by kernel_rfl))
  f32:=Tryz.func147.trans (congrArg some (by kernel_rfl))
  f36:=⟨Tryz.f145.name,by kernel_rfl,Tryz.func145.trans (congrArg some (by kernel_rfl))⟩
  f37:=⟨Tryz.f148.name,by kernel_rfl,Tryz.func148.trans (congrArg some (by kernel_rfl))⟩
  f38:=⟨Tryz.f149.name,by kernel_rfl,Tryz.func149.trans (congrArg some (by kernel_rfl))⟩
  f39:=⟨Tryz.f150.name,by kernel_rfl,Tryz.func150.trans (congrArg some (by kernel_rfl))⟩
  f41:=⟨Tryz.f153.name,by kernel_rfl,Tryz.func153.trans (congrArg some (by kernel_rfl))⟩
  t0:=by kernel_rfl
  a0:=fun _=>by kernel_rfl
  z0:=fun _=>by kernel_rfl
  v0:=fun _=>by kernel_rfl
  t3:=by kernel_rfl
  a3:=fun _=>by kernel_rfl
  z3:=fun _=>by kernel_rfl
  v3:=fun _=>by kernel_rfl
  t4:=by kernel_rfl
  a4:=fun _=>by kernel_rfl
  z4:=fun _=>by kernel_rfl
  v4:=fun _=>by kernel_rfl
  t5:=by kernel_rfl
  a5:=fun _=>by kernel_rfl
  z5:=fun _=>by kernel_rfl
  v5:=fun _=>by kernel_rfl
  t9:=by kernel_rfl
  a9:=fun _=>by kernel_rfl
  z9:=fun _=>by kernel_rfl
  v9:=fun _=>by kernel_rfl
  t26:=by kernel_rfl
  a26:=fun _=>by kernel_rfl
  z26:=fun _=>by kernel_rfl
  v26:=fun _=>by kernel_rfl
  t27:=by kernel_rfl
  a27:=fun _=>by kernel_rfl
  z27:=fun _=>by kernel_rfl
  v27:=fun _=>by kernel_rfl
  t29:=by kernel_rfl
  a29:=fun _=>by kernel_rfl
  z29:=fun _=>by kernel_rfl
  v29:=fun _=>by kernel_rfl
  t32:=by kernel_rfl
  a32:=fun _=>by kernel_rfl
  z32:=fun _=>by kernel_rfl
  v32:=fun _=>by kernel_rfl
  t35:=by kernel_rfl
  a35:=fun _=>by kernel_rfl
  z35:=fun _=>by kernel_rfl
  v35:=fun _=>by kernel_rfl
  t36:=by kernel_rfl
  a36:=fun _=>by kernel_rfl
  z36:=fun _=>by kernel_rfl
  v36:=fun _=>by kernel_rfl
  t41:=by kernel_rfl
  a41:=fun _=>by kernel_rfl
  z41:=fun _=>by kernel_rfl
  v41:=fun _=>by kernel_rfl
  t44:=by kernel_rfl
  a44:=fun _=>by kernel_rfl
  z44:=fun _=>by kernel_rfl
  v44:=fun _=>by kernel_rfl
  t46:=by kernel_rfl
  a46:=fun _=>by kernel_rfl
  z46:=fun _=>by kernel_rfl
  v46:=fun _=>by kernel_rfl
  t53:=by kernel_rfl
  a53:=fun _=>by kernel_rfl
  z53:=fun _=>by kernel_rfl
  v53:=fun _=>by kernel_rfl
  t57:=by kernel_rfl
  a57:=fun _=>by kernel_rfl
  z57:=fun _=>by kernel_rfl
  v57:=fun _=>by kernel_rfl
  t63:=by kernel_rfl
  a63:=fun _=>by kernel_rfl
  z63:=fun _=>by kernel_rfl
  v63:=fun _=>by kernel_rfl
  t64:=by kernel_rfl
  a64:=fun _=>by kernel_rfl
  z64:=fun _=>by kernel_rfl
  v64:=fun _=>by kernel_rfl}
end Go.Proofs.YtfpannkadjdnaaaGreatDoor
