/-
  slices.IndexFunc and slices.ContainsFunc at the program's types (by program: genfn.py).
-/
import Derived.Test.YtlpcocfadppkhaaGreatDoorRa02
import Derived.Test.YtlpcocfadppkhaaGreatDoorRa03
import Derived.Test.YtlpcocfadppkhaaGreatDoorRa05
namespace Go.Proofs.YtlpcocfadppkhaaGreatDoor
open Go.RowKit
set_option linter.unusedVariables false
set_option linter.unusedSimpArgs false
set_option linter.unnecessarySimpa false
set_option maxRecDepth 100000
set_option maxHeartbeats 800000 in
theorem ak0 (fid:Nat) (caps:Array Value) (p:ByteArray→Bool) {B:Nat} {v:Value} {ts:List ByteArray} {w:World} (hB:B≤w.heap.size) (h:Rep w B (.row 1 (ts.flatMap aa3)) v)
  (hcf:∀ a W,Sem.run Tryz.prog (callFunc fid a) W=.ok (.enter fid a) W)
  (hp:∀ t ∈ ts,∀ (W:World),Below w.heap.size w W→Calls Tryz.prog fid (#[.string t] ++caps) W fun e w'=>e=.returned (.bool (p t))∧Below W.heap.size W w'):
  Calls Tryz.prog 104 #[v,.func (.func fid) #[] caps] w fun e w'=>e=.returned (.int .i64 (oz p ts))∧Below w.heap.size w w':=by
 obtain⟨A,n,c,rfl,hnl,hm,hat⟩:=jr aaz (by decide) h
 unfold maxLen at hm
 have HN:=Lib.hid hnl
 have HQ:=Lib.hid hp
 clear h hnl hp
 go_enter Tryz.func104,Tryz.ntmps104
 go_wp2_with fail
 go_loopw [8] (fun i wr=>∃ k:Nat,k≤n∧i=.int .i64 k∧Hid (∀ (j:Nat) (t:ByteArray),j < k→ts[j]?=some t→p t=false)∧Below w.heap.size w wr) (fun i _=>n - (intOf i).toNat)
 case atStart=>exact⟨0,Nat.zero_le _,rfl,Lib.hid fun j t h=>absurd h (by omega),Below.refl _ _⟩
 case round=>
  obtain⟨k,hk,rfl,HP,hbr⟩:=hrel
  by_cases hlt:k < n
  ·obtain⟨g,off,rfl,hg,hcell⟩:=hat (by omega)
   obtain⟨t,hx,hmem⟩:=l7 HN.out hlt
   have c0:wr.cell? ⟨g,off+k,none⟩=some (.string t):=ak hbr (by omega) (by have:=hcell k 0 _ _ hx rfl;simpa using this)
   have hc:=HQ.out _ hmem wr hbr
   have HC:=Lib.hid hc
   have HX:=Lib.hid hx
   clear hc hx hmem hcell
   go_wp2_with fail
   refine HC.out.mono ?_
   rintro e w1 ⟨rfl,hb1⟩
   have hB1:=hbr.trans (hb1.mono hbr.size)
   cases hb:p t
   ·go_wp2_with fail
    go_roundw
    case rel=>exact⟨k+1,by omega,by go_num,Lib.hid (abk HP.out HX.out hb),hB1⟩
    case measure=>simp[intOf];omega
   ·have HI:Hid (oz p ts=(k:Int)):=aeh HP.out HX.out hb
    go_wp2_with fail
    go_ret
    exact⟨qg HI.out.symm,hB1⟩
  ·have hkn:k=n:=by omega
   subst hkn
   have HI:Hid (oz p ts=-1):=ads fun j t ht=>HP.out j t (by have:=(List.getElem?_eq_some_iff.1 ht).1;have:=HN.out;omega) ht
   go_wp2_with fail
   go_ret
   exact⟨qg HI.out.symm,hbr⟩
theorem ak1 (fid:Nat) (caps:Array Value) (p:ByteArray→Bool) {B:Nat} {v:Value} {ts:List ByteArray} {w:World} (hB:B≤w.heap.size) (h:Rep w B (.row 1 (ts.flatMap aa3)) v)
  (hcf:∀ a W,Sem.run Tryz.prog (callFunc fid a) W=.ok (.enter fid a) W)
  (hp:∀ t ∈ ts,∀ (W:World),Below w.heap.size w W→Calls Tryz.prog fid (#[.string t] ++caps) W fun e w'=>e=.returned (.bool (p t))∧Below W.heap.size W w'):
  Calls Tryz.prog 82 #[v,.func (.func fid) #[] caps] w fun e w'=>e=.returned (.bool (ts.any p))∧Below w.heap.size w w':=by
 have HI:=Lib.hid (ak0 fid caps p hB h hcf hp)
 have HA:=Lib.hid (afz p ts)
 obtain⟨i,hi⟩:∃ i,i=oz p ts:=⟨_,rfl⟩
 rw[← hi] at HI HA
 clear h hp hi
 go_enter Tryz.func82,Tryz.ntmps82
 go_wp2_with fail
 refine HI.out.mono ?_
 rintro e w1 ⟨rfl,hb1⟩
 go_wp2_with fail
 go_ret
 exact⟨dn HA.out,hb1⟩
set_option maxHeartbeats 800000 in
theorem aoi (fid:Nat) (caps:Array Value) (p:Ins→Bool) {B:Nat} {v:Value} {ts:List Ins} {w:World} (hB:B≤w.heap.size) (h:Rep w B (.row 2 (ts.flatMap Ins.pd)) v)
  (hcf:∀ a W,Sem.run Tryz.prog (callFunc fid a) W=.ok (.enter fid a) W)
  (hp:∀ t ∈ ts,∀ (cs:List Value) (W:World),Below w.heap.size w W→jd W B (Ins.pd t) cs→Calls Tryz.prog fid (#[.agg cs.toArray] ++caps) W fun e w'=>e=.returned (.bool (p t))∧Below W.heap.size W w'):
  Calls Tryz.prog 100 #[v,.func (.func fid) #[] caps] w fun e w'=>e=.returned (.int .i64 (oz p ts))∧Below w.heap.size w w':=by
 obtain⟨A,n,c,rfl,hnl,hm,hat⟩:=jr Ins.au (by decide) h
 unfold maxLen at hm
 have HN:=Lib.hid hnl
 have HQ:=Lib.hid hp
 clear h hnl hp
 go_enter Tryz.func100,Tryz.ntmps100
 go_wp2_with fail
 go_loopw [8] (fun i wr=>∃ k:Nat,k≤n∧i=.int .i64 k∧Hid (∀ (j:Nat) (t:Ins),j < k→ts[j]?=some t→p t=false)∧Below w.heap.size w wr) (fun i _=>n - (intOf i).toNat)
 case atStart=>exact⟨0,Nat.zero_le _,rfl,Lib.hid fun j t h=>absurd h (by omega),Below.refl _ _⟩
 case round=>
  obtain⟨k,hk,rfl,HP,hbr⟩:=hrel
  by_cases hlt:k < n
  ·obtain⟨g,off,rfl,hg,hcell⟩:=hat (by omega)
   obtain⟨t,hx,hmem⟩:=l7 HN.out hlt
   obtain⟨op,a⟩:=t
   have c0:wr.cell? ⟨g,off+k * 2,none⟩=some (.int .i64 op):=ak hbr (by omega) (hcell k 0 _ _ hx (by rw[Ins.aj];rfl))
   have c1:wr.cell? ⟨g,off+k * 2+1,none⟩=some (.int .i64 a):=ak hbr (by omega) (hcell k 1 _ _ hx (by rw[Ins.aj];rfl))
   have hc:=HQ.out _ hmem [.int .i64 op,.int .i64 a] wr hbr (Ins.close_)
   obtain⟨t,ht⟩:∃ t:Ins,t=⟨op,a⟩:=⟨_,rfl⟩
   rw[← ht] at hc hx
   clear ht
   have HC:=Lib.hid hc
   have HX:=Lib.hid hx
   clear hc hx hmem hcell
   go_wp2_with fail
   refine HC.out.mono ?_
   rintro e w1 ⟨rfl,hb1⟩
   have hB1:=hbr.trans (hb1.mono hbr.size)
   cases hb:p t
   ·go_wp2_with fail
    go_roundw
    case rel=>exact⟨k+1,by omega,by go_num,Lib.hid (abk HP.out HX.out hb),hB1⟩
    case measure=>simp[intOf];omega
   ·have HI:Hid (oz p ts=(k:Int)):=aeh HP.out HX.out hb
    go_wp2_with fail
    go_ret
    exact⟨qg HI.out.symm,hB1⟩
  ·have hkn:k=n:=by omega
   subst hkn
   have HI:Hid (oz p ts=-1):=ads fun j t ht=>HP.out j t (by have:=(List.getElem?_eq_some_iff.1 ht).1;have:=HN.out;omega) ht
   go_wp2_with fail
   go_ret
   exact⟨qg HI.out.symm,hbr⟩
theorem aoj (fid:Nat) (caps:Array Value) (p:Ins→Bool) {B:Nat} {v:Value} {ts:List Ins} {w:World} (hB:B≤w.heap.size) (h:Rep w B (.row 2 (ts.flatMap Ins.pd)) v)
  (hcf:∀ a W,Sem.run Tryz.prog (callFunc fid a) W=.ok (.enter fid a) W)
  (hp:∀ t ∈ ts,∀ (cs:List Value) (W:World),Below w.heap.size w W→jd W B (Ins.pd t) cs→Calls Tryz.prog fid (#[.agg cs.toArray] ++caps) W fun e w'=>e=.returned (.bool (p t))∧Below W.heap.size W w'):
  Calls Tryz.prog 79 #[v,.func (.func fid) #[] caps] w fun e w'=>e=.returned (.bool (ts.any p))∧Below w.heap.size w w':=by
 have HI:=Lib.hid (aoi fid caps p hB h hcf hp)
 have HA:=Lib.hid (afz p ts)
 obtain⟨i,hi⟩:∃ i,i=oz p ts:=⟨_,rfl⟩
 rw[← hi] at HI HA
 clear h hp hi
 go_enter Tryz.func79,Tryz.ntmps79
 go_wp2_with fail
 refine HI.out.mono ?_
 rintro e w1 ⟨rfl,hb1⟩
 go_wp2_with fail
 go_ret
 exact⟨dn HA.out,hb1⟩
set_option maxHeartbeats 800000 in
theorem aiy (x:ByteArray) {B:Nat} {v:Value} {ts:List ByteArray} {w:World} (hB:B≤w.heap.size) (h:Rep w B (.row 1 (ts.flatMap aa3)) v):
  Calls Tryz.prog 57 #[v,.string x] w fun e w'=>e=.returned (.int .i64 (oz (fun t=>decide (x=t)) ts))∧Below w.heap.size w w':=by
 obtain⟨A,n,c,rfl,hnl,hm,hat⟩:=jr aaz (by decide) h
 unfold maxLen at hm
 have HN:=Lib.hid hnl
 clear h hnl
 go_enter Tryz.func57,Tryz.ntmps57
 go_wp2_with fail
 go_loopw [8] (fun i wr=>∃ k:Nat,k≤n∧i=.int .i64 k∧Hid (∀ (j:Nat) (t:ByteArray),j < k→ts[j]?=some t→decide (x=t)=false)∧Below w.heap.size w wr) (fun i _=>n - (intOf i).toNat)
 case atStart=>exact⟨0,Nat.zero_le _,rfl,Lib.hid fun j t h=>absurd h (by omega),Below.refl _ _⟩
 case round=>
  obtain⟨k,hk,rfl,HP,hbr⟩:=hrel
  by_cases hlt:k < n
  ·obtain⟨g,off,rfl,hg,hcell⟩:=hat (by omega)
   obtain⟨t,hx,hmem⟩:=l7 HN.out hlt
   have c0:wr.cell? ⟨g,off+k,none⟩=some (.string t):=ak hbr (by omega) (by have:=hcell k 0 _ _ hx rfl;simpa using this)
   have HX:=Lib.hid hx
   clear hx hmem hcell
   by_cases hb:x=t
   ·have HI:Hid (oz (fun t=>decide (x=t)) ts=(k:Int)):=aeh HP.out HX.out (by simp[hb])
    subst hb
    go_wp2_with fail
    go_ret
    exact⟨qg HI.out.symm,hbr⟩
   ·have hs:(x.toList ==t.toList)=false:=aa4 hb
    have HB:=Lib.hid (abk HP.out HX.out (by simp[hb]))
    clear hb
    go_wp2_with fail
    go_roundw
    case rel=>exact⟨k+1,by omega,by go_num,HB,hbr⟩
    case measure=>simp[intOf];omega
  ·have hkn:k=n:=by omega
   subst hkn
   have HI:Hid (oz (fun t=>decide (x=t)) ts=-1):=ads fun j t ht=>HP.out j t (by have:=(List.getElem?_eq_some_iff.1 ht).1;have:=HN.out;omega) ht
   go_wp2_with fail
   go_ret
   exact⟨qg HI.out.symm,hbr⟩
end Go.Proofs.YtlpcocfadppkhaaGreatDoor
