/-
  slices.IndexFunc and slices.ContainsFunc at the program's types (by program: genfn.py).
-/
import Derived.Test.YtbafphecjijdmaaGreatDoorWa04
import Derived.Test.YtbafphecjijdmaaGreatDoorWa05
import Derived.Test.YtbafphecjijdmaaGreatDoorWa09
namespace Go.Proofs.YtbafphecjijdmaaGreatDoor
open Go.RowKit
set_option linter.unusedVariables false
set_option linter.unusedSimpArgs false
set_option linter.unnecessarySimpa false
set_option maxRecDepth 100000
set_option maxHeartbeats 800000 in
theorem a1u (fid:Nat) (caps:Array Value) (p:Ty→Bool) {B:Nat} {v:Value} {ts:List Ty} {w:World} (hB:B≤w.heap.size) (h:Rep w B (.row 4 (ts.flatMap Ty.pd)) v)
  (hcf:∀ a W,Sem.run Tryz.prog (callFunc fid a) W=.ok (.enter fid a) W)
  (hp:∀ t ∈ ts,∀ (cs:List Value) (W:World),Below w.heap.size w W→jy W B (Ty.pd t) cs→Calls Tryz.prog fid (#[.agg cs.toArray] ++caps) W fun e w'=>e=.returned (.bool (p t))∧Below W.heap.size W w'):
  Calls Tryz.prog 145 #[v,.func (.func fid) #[] caps] w fun e w'=>e=.returned (.int .i64 (acg p ts))∧Below w.heap.size w w':=by
 obtain⟨A,n,c,rfl,hnl,hm,hat⟩:=ny Ty.jw (by decide) h
 unfold maxLen at hm
 have HN:=Lib.hid hnl
 have HQ:=Lib.hid hp
 clear h hnl hp
 go_enter Tryz.func145,Tryz.ntmps145
 go_wp2_with fail
 go_loopw [8] (fun i wr=>∃ k:Nat,k≤n∧i=.int .i64 k∧Hid (∀ (j:Nat) (t:Ty),j < k→ts[j]?=some t→p t=false)∧Below w.heap.size w wr) (fun i _=>n - (intOf i).toNat)
 case atStart=>exact⟨0,Nat.zero_le _,rfl,Lib.hid fun j t h=>absurd h (by omega),Below.refl _ _⟩
 case round=>
  obtain⟨k,hk,rfl,HP,hbr⟩:=hrel
  by_cases hlt:k < n
  ·obtain⟨g,off,rfl,hg,hcell⟩:=hat (by omega)
   obtain⟨t,hx,hmem⟩:=xg HN.out hlt
   obtain⟨kind,name,labels,kids⟩:=t
   have c0:wr.cell? ⟨g,off+k * 4,none⟩=some (.int .i64 kind):=gq hbr (by omega) (hcell k 0 _ _ hx (by rw[Ty.ay];rfl))
   have c1:wr.cell? ⟨g,off+k * 4+1,none⟩=some (.string name):=gq hbr (by omega) (hcell k 1 _ _ hx (by rw[Ty.ay];rfl))
   obtain⟨iq,c2,hr2⟩:∃ u,wr.cell? ⟨g,off+k * 4+2,none⟩=some u∧Rep wr B (.row 1 (labels.flatMap tu)) u:=ku hbr (by omega) hB (hcell k 2 _ _ hx (by rw[Ty.ay];rfl))
   have HR2:=Lib.hid hr2
   clear hr2
   obtain⟨qp,c3,hr3⟩:∃ u,wr.cell? ⟨g,off+k * 4+3,none⟩=some u∧Rep wr B (.row 4 (kids.flatMap Ty.pd)) u:=ku hbr (by omega) hB (hcell k 3 _ _ hx (by rw[Ty.ay];rfl))
   have HR3:=Lib.hid hr3
   clear hr3
   have hc:=HQ.out _ hmem [.int .i64 kind,.string name,iq,qp] wr hbr (Ty.close_ HR2.out HR3.out)
   obtain⟨t,ht⟩:∃ t:Ty,t=⟨kind,name,labels,kids⟩:=⟨_,rfl⟩
   rw[← ht] at hc hx
   clear ht
   have HC:=Lib.hid hc
   have HX:=Lib.hid hx
   clear hc hx hmem hcell
   go_wp2_with fail
   refine HC.out.mono ?_
   rintro e w1 ⟨rfl,hb1⟩
   have hB1:=hbr.trans (hb1.mono hbr.size)
   cases hb:p t
   ·go_wp2_with fail
    go_roundw
    case rel=>exact⟨k+1,by omega,by go_num,Lib.hid (afr HP.out HX.out hb),hB1⟩
    case measure=>simp[intOf];omega
   ·have HI:Hid (acg p ts=(k:Int)):=aiv HP.out HX.out hb
    go_wp2_with fail
    go_ret
    exact⟨aao HI.out.symm,hB1⟩
  ·have hkn:k=n:=by omega
   subst hkn
   have HI:Hid (acg p ts=-1):=aif fun j t ht=>HP.out j t (by have:=(List.getElem?_eq_some_iff.1 ht).1;have:=HN.out;omega) ht
   go_wp2_with fail
   go_ret
   exact⟨aao HI.out.symm,hbr⟩
theorem ou (fid:Nat) (caps:Array Value) (p:Ty→Bool) {B:Nat} {v:Value} {ts:List Ty} {w:World} (hB:B≤w.heap.size) (h:Rep w B (.row 4 (ts.flatMap Ty.pd)) v)
  (hcf:∀ a W,Sem.run Tryz.prog (callFunc fid a) W=.ok (.enter fid a) W)
  (hp:∀ t ∈ ts,∀ (cs:List Value) (W:World),Below w.heap.size w W→jy W B (Ty.pd t) cs→Calls Tryz.prog fid (#[.agg cs.toArray] ++caps) W fun e w'=>e=.returned (.bool (p t))∧Below W.heap.size W w'):
  Calls Tryz.prog 115 #[v,.func (.func fid) #[] caps] w fun e w'=>e=.returned (.bool (ts.any p))∧Below w.heap.size w w':=by
 have HI:=Lib.hid (a1u fid caps p hB h hcf hp)
 have HA:=Lib.hid (ajs p ts)
 obtain⟨i,hi⟩:∃ i,i=acg p ts:=⟨_,rfl⟩
 rw[← hi] at HI HA
 clear h hp hi
 go_enter Tryz.func115,Tryz.ntmps115
 go_wp2_with fail
 refine HI.out.mono ?_
 rintro e w1 ⟨rfl,hb1⟩
 go_wp2_with fail
 go_ret
 exact⟨ah HA.out,hb1⟩
set_option maxHeartbeats 800000 in
theorem ayc (fid:Nat) (caps:Array Value) (p:ByteArray→Bool) {B:Nat} {v:Value} {ts:List ByteArray} {w:World} (hB:B≤w.heap.size) (h:Rep w B (.row 1 (ts.flatMap tu)) v)
  (hcf:∀ a W,Sem.run Tryz.prog (callFunc fid a) W=.ok (.enter fid a) W)
  (hp:∀ t ∈ ts,∀ (W:World),Below w.heap.size w W→Calls Tryz.prog fid (#[.string t] ++caps) W fun e w'=>e=.returned (.bool (p t))∧Below W.heap.size W w'):
  Calls Tryz.prog 95 #[v,.func (.func fid) #[] caps] w fun e w'=>e=.returned (.int .i64 (acg p ts))∧Below w.heap.size w w':=by
 obtain⟨A,n,c,rfl,hnl,hm,hat⟩:=ny aat (by decide) h
 unfold maxLen at hm
 have HN:=Lib.hid hnl
 have HQ:=Lib.hid hp
 clear h hnl hp
 go_enter Tryz.func95,Tryz.ntmps95
 go_wp2_with fail
 go_loopw [8] (fun i wr=>∃ k:Nat,k≤n∧i=.int .i64 k∧Hid (∀ (j:Nat) (t:ByteArray),j < k→ts[j]?=some t→p t=false)∧Below w.heap.size w wr) (fun i _=>n - (intOf i).toNat)
 case atStart=>exact⟨0,Nat.zero_le _,rfl,Lib.hid fun j t h=>absurd h (by omega),Below.refl _ _⟩
 case round=>
  obtain⟨k,hk,rfl,HP,hbr⟩:=hrel
  by_cases hlt:k < n
  ·obtain⟨g,off,rfl,hg,hcell⟩:=hat (by omega)
   obtain⟨t,hx,hmem⟩:=xg HN.out hlt
   have c0:wr.cell? ⟨g,off+k,none⟩=some (.string t):=gq hbr (by omega) (by have:=hcell k 0 _ _ hx rfl;simpa using this)
   have hc:=HQ.out _ hmem wr hbr
   have HC:=Lib.hid hc
   have HX:=Lib.hid hx
   clear hc hx hmem hcell
   go_wp2_with fail
   refine HC.out.mono ?_
   rintro e w1 ⟨rfl,hb1⟩
   have hB1:=hbr.trans (hb1.mono hbr.size)
   cases hb:p t
   ·go_wp2_with fail
    go_roundw
    case rel=>exact⟨k+1,by omega,by go_num,Lib.hid (afr HP.out HX.out hb),hB1⟩
    case measure=>simp[intOf];omega
   ·have HI:Hid (acg p ts=(k:Int)):=aiv HP.out HX.out hb
    go_wp2_with fail
    go_ret
    exact⟨aao HI.out.symm,hB1⟩
  ·have hkn:k=n:=by omega
   subst hkn
   have HI:Hid (acg p ts=-1):=aif fun j t ht=>HP.out j t (by have:=(List.getElem?_eq_some_iff.1 ht).1;have:=HN.out;omega) ht
   go_wp2_with fail
   go_ret
   exact⟨aao HI.out.symm,hbr⟩
theorem anc (fid:Nat) (caps:Array Value) (p:ByteArray→Bool) {B:Nat} {v:Value} {ts:List ByteArray} {w:World} (hB:B≤w.heap.size) (h:Rep w B (.row 1 (ts.flatMap tu)) v)
  (hcf:∀ a W,Sem.run Tryz.prog (callFunc fid a) W=.ok (.enter fid a) W)
  (hp:∀ t ∈ ts,∀ (W:World),Below w.heap.size w W→Calls Tryz.prog fid (#[.string t] ++caps) W fun e w'=>e=.returned (.bool (p t))∧Below W.heap.size W w'):
  Calls Tryz.prog 63 #[v,.func (.func fid) #[] caps] w fun e w'=>e=.returned (.bool (ts.any p))∧Below w.heap.size w w':=by
 have HI:=Lib.hid (ayc fid caps p hB h hcf hp)
 have HA:=Lib.hid (ajs p ts)
 obtain⟨i,hi⟩:∃ i,i=acg p ts:=⟨_,rfl⟩
 rw[← hi] at HI HA
 clear h hp hi
 go_enter Tryz.func63,Tryz.ntmps63
 go_wp2_with fail
 refine HI.out.mono ?_
 rintro e w1 ⟨rfl,hb1⟩
 go_wp2_with fail
 go_ret
 exact⟨ah HA.out,hb1⟩
set_option maxHeartbeats 800000 in
theorem amo (x:Int) {B:Nat} {v:Value} {ts:List Int} {w:World} (hB:B≤w.heap.size) (h:Rep w B (.row 1 (ts.flatMap am8)) v):
  Calls Tryz.prog 144 #[v,.int .i64 x] w fun e w'=>e=.returned (.int .i64 (acg (fun t=>decide (x=t)) ts))∧Below w.heap.size w w':=by
 obtain⟨A,n,c,rfl,hnl,hm,hat⟩:=ny au8 (by decide) h
 unfold maxLen at hm
 have HN:=Lib.hid hnl
 clear h hnl
 go_enter Tryz.func144,Tryz.ntmps144
 go_wp2_with fail
 go_loopw [8] (fun i wr=>∃ k:Nat,k≤n∧i=.int .i64 k∧Hid (∀ (j:Nat) (t:Int),j < k→ts[j]?=some t→decide (x=t)=false)∧Below w.heap.size w wr) (fun i _=>n - (intOf i).toNat)
 case atStart=>exact⟨0,Nat.zero_le _,rfl,Lib.hid fun j t h=>absurd h (by omega),Below.refl _ _⟩
 case round=>
  obtain⟨k,hk,rfl,HP,hbr⟩:=hrel
  by_cases hlt:k < n
  ·obtain⟨g,off,rfl,hg,hcell⟩:=hat (by omega)
   obtain⟨t,hx,hmem⟩:=xg HN.out hlt
   have c0:wr.cell? ⟨g,off+k,none⟩=some (.int .i64 t):=gq hbr (by omega) (by have:=hcell k 0 _ _ hx rfl;simpa using this)
   have HX:=Lib.hid hx
   clear hx hmem hcell
   by_cases hb:x=t
   ·have HI:Hid (acg (fun t=>decide (x=t)) ts=(k:Int)):=aiv HP.out HX.out (by simp[hb])
    subst hb
    go_wp2_with fail
    go_ret
    exact⟨aao HI.out.symm,hbr⟩
   ·have hs:(x ==t)=false:=by simpa using hb
    have HB:=Lib.hid (afr HP.out HX.out (by simp[hb]))
    clear hb
    go_wp2_with fail
    go_roundw
    case rel=>exact⟨k+1,by omega,by go_num,HB,hbr⟩
    case measure=>simp[intOf];omega
  ·have hkn:k=n:=by omega
   subst hkn
   have HI:Hid (acg (fun t=>decide (x=t)) ts=-1):=aif fun j t ht=>HP.out j t (by have:=(List.getElem?_eq_some_iff.1 ht).1;have:=HN.out;omega) ht
   go_wp2_with fail
   go_ret
   exact⟨aao HI.out.symm,hbr⟩
theorem an0 (x:Int) {B:Nat} {v:Value} {ts:List Int} {w:World} (hB:B≤w.heap.size) (h:Rep w B (.row 1 (ts.flatMap am8)) v):
  Calls Tryz.prog 114 #[v,.int .i64 x] w fun e w'=>e=.returned (.bool (ts.any (fun t=>decide (x=t))))∧Below w.heap.size w w':=by
 have HI:=Lib.hid (amo x hB h)
 have HA:=Lib.hid (ajs (fun t=>decide (x=t)) ts)
 obtain⟨i,hi⟩:∃ i,i=acg (fun t=>decide (x=t)) ts:=⟨_,rfl⟩
 rw[← hi] at HI HA
 clear h hi
 go_enter Tryz.func114,Tryz.ntmps114
 go_wp2_with fail
 refine HI.out.mono ?_
 rintro e w1 ⟨rfl,hb1⟩
 go_wp2_with fail
 go_ret
 exact⟨ah HA.out,hb1⟩
set_option maxHeartbeats 800000 in
theorem aju (x:ByteArray) {B:Nat} {v:Value} {ts:List ByteArray} {w:World} (hB:B≤w.heap.size) (h:Rep w B (.row 1 (ts.flatMap tu)) v):
  Calls Tryz.prog 97 #[v,.string x] w fun e w'=>e=.returned (.int .i64 (acg (fun t=>decide (x=t)) ts))∧Below w.heap.size w w':=by
 obtain⟨A,n,c,rfl,hnl,hm,hat⟩:=ny aat (by decide) h
 unfold maxLen at hm
 have HN:=Lib.hid hnl
 clear h hnl
 go_enter Tryz.func97,Tryz.ntmps97
 go_wp2_with fail
 go_loopw [8] (fun i wr=>∃ k:Nat,k≤n∧i=.int .i64 k∧Hid (∀ (j:Nat) (t:ByteArray),j < k→ts[j]?=some t→decide (x=t)=false)∧Below w.heap.size w wr) (fun i _=>n - (intOf i).toNat)
 case atStart=>exact⟨0,Nat.zero_le _,rfl,Lib.hid fun j t h=>absurd h (by omega),Below.refl _ _⟩
 case round=>
  obtain⟨k,hk,rfl,HP,hbr⟩:=hrel
  by_cases hlt:k < n
  ·obtain⟨g,off,rfl,hg,hcell⟩:=hat (by omega)
   obtain⟨t,hx,hmem⟩:=xg HN.out hlt
   have c0:wr.cell? ⟨g,off+k,none⟩=some (.string t):=gq hbr (by omega) (by have:=hcell k 0 _ _ hx rfl;simpa using this)
   have HX:=Lib.hid hx
   clear hx hmem hcell
   by_cases hb:x=t
   ·have HI:Hid (acg (fun t=>decide (x=t)) ts=(k:Int)):=aiv HP.out HX.out (by simp[hb])
    subst hb
    go_wp2_with fail
    go_ret
    exact⟨aao HI.out.symm,hbr⟩
   ·have hs:(x.toList ==t.toList)=false:=ae0 hb
    have HB:=Lib.hid (afr HP.out HX.out (by simp[hb]))
    clear hb
    go_wp2_with fail
    go_roundw
    case rel=>exact⟨k+1,by omega,by go_num,HB,hbr⟩
    case measure=>simp[intOf];omega
  ·have hkn:k=n:=by omega
   subst hkn
   have HI:Hid (acg (fun t=>decide (x=t)) ts=-1):=aif fun j t ht=>HP.out j t (by have:=(List.getElem?_eq_some_iff.1 ht).1;have:=HN.out;omega) ht
   go_wp2_with fail
   go_ret
   exact⟨aao HI.out.symm,hbr⟩
theorem akf (x:ByteArray) {B:Nat} {v:Value} {ts:List ByteArray} {w:World} (hB:B≤w.heap.size) (h:Rep w B (.row 1 (ts.flatMap tu)) v):
  Calls Tryz.prog 67 #[v,.string x] w fun e w'=>e=.returned (.bool (ts.any (fun t=>decide (x=t))))∧Below w.heap.size w w':=by
 have HI:=Lib.hid (aju x hB h)
 have HA:=Lib.hid (ajs (fun t=>decide (x=t)) ts)
 obtain⟨i,hi⟩:∃ i,i=acg (fun t=>decide (x=t)) ts:=⟨_,rfl⟩
 rw[← hi] at HI HA
 clear h hi
 go_enter Tryz.func67,Tryz.ntmps67
 go_wp2_with fail
 refine HI.out.mono ?_
 rintro e w1 ⟨rfl,hb1⟩
 go_wp2_with fail
 go_ret
 exact⟨ah HA.out,hb1⟩
end Go.Proofs.YtbafphecjijdmaaGreatDoor
