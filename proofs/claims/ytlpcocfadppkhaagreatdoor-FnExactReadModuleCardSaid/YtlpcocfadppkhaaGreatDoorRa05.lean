/-
  The laws' own helpers 'hd..' over the program's types (by program: tygen2.py, tyfam.py).
  The place of the first element that a test takes, or -1. No program in sight.
  Contracts of the small number functions: bounds, encodings, sizes, number kinds.
  Instructions: the bounds of an operand, and whether an instruction is valid: spec.InsOk and impl.InsOk.
  strings.IndexByte: its contract at this seat's numbers.
-/
import Derived.Test.YtlpcocfadppkhaaGreatDoorRa02
import Derived.Test.YtlpcocfadppkhaaGreatDoorRa03
import Derived.Deep.Cut
import Derived.Test.YtlpcocfadppkhaaGreatDoorRa01
import Derived.Test.YtlpcocfadppkhaaGreatDoorRows
import Derived.Lib.SmallJoins
import Derived.Lib.Bytealg
import Derived.Laws.Externs
namespace Go.Proofs.YtlpcocfadppkhaaGreatDoor
open Go.RowKit
set_option linter.unusedVariables false
set_option linter.unusedSimpArgs false
set_option linter.unnecessarySimpa false
set_option maxRecDepth 100000
set_option maxHeartbeats 1600000 in
theorem al6 {ts:List Ins}:HdR 47 (.row 2 (ts.flatMap Ins.pd)):=by
 intro B v w k0 h0 h1 hB h
 rw[PD.mark] at h
 obtain⟨A,n,c,rfl,hl,hm,hat⟩:=ag1 h
 unfold maxLen at hm
 rw[aaj,iq Ins.au] at hl
 have hn:n=ts.length:=by omega
 have HN:=Lib.hid hn
 rw[PD.cnt] at h1
 have H1:=Lib.hid h1
 clear h h1 hl hn
 obtain⟨ds,hds⟩:∃ ds,ds=ts.flatMap Ins.pd:=⟨_,rfl⟩
 rw[← hds] at hat ⊢
 have HD:=Lib.hid hds
 clear hds
 go_enter Tryz.func47,Tryz.ntmps47
 go_wp2_with fail
 go_loopw [1,5] (fun l i wr=>∃ (k q:Nat),k≤n∧l=.int .i64 (k0+q)∧i=.int .i64 k∧Hid (q=PD.bf (ds.take (k * 2)))∧Below w.heap.size w wr) (fun _ i _=>n - (intOf i).toNat)
 case atStart=>exact⟨0,0,Nat.zero_le _,by simp,rfl,Lib.hid (by simp[PD.bf]),Below.refl _ _⟩
 case round=>
  obtain⟨k,q,hk,rfl,rfl,HQ,hbr⟩:=hrel
  have hqb:(k0:Int)+q≤1099511627776:=by have:=H1.out;have h2:=pz ds (k * 2);rw[← HQ.out] at h2;rw[← HD.out] at this;omega
  by_cases hlt:k < n
  ·obtain⟨g,off,rfl,hg,hcell⟩:=hat (by omega)
   obtain⟨t,hx,hmem⟩:=l7 HN.out hlt
   have HM:=Lib.hid hmem
   clear hmem
   obtain⟨op,a⟩:=t
   have x0:ds[k * 2+0]?=some (.lit (.int .i64 op)):=by rw[HD.out];have:=iw Ins.au hx (j:=0) (by decide);rw[this];rw[Ins.aj];rfl
   have X0:=Lib.hid x0
   clear x0
   have x1:ds[k * 2+1]?=some (.lit (.int .i64 a)):=by rw[HD.out];have:=iw Ins.au hx (j:=1) (by decide);rw[this];rw[Ins.aj];rfl
   have X1:=Lib.hid x1
   clear x1
   have q0:(q:Nat)=PD.bf (ds.take (k * 2+0)):=HQ.out
   have Q0:=Lib.hid q0
   have HC:=Lib.hid hcell
   clear q0 hx hcell
   have c0:wr.cell? ⟨g,off+k * 2,none⟩=some (.int .i64 (k0+(q:Int))):=ak (B:=B) hbr (by omega) (by have:=HC.out (k * 2+0) _ (zo k0 X0.out);rw[← Q0.out,PD.mark,show off+(k * 2+0)=off+k * 2 by omega,show k0+((q:Nat):Int)=k0+(q:Int) by omega] at this;exact this)
   have q1:q+1=PD.bf (ds.take (k * 2+1)):=by have:=gu X0.out;rw[← Q0.out] at this;exact this.symm
   have Q1:=Lib.hid q1
   clear q1
   have c1:wr.cell? ⟨g,off+k * 2+1,none⟩=some (.int .i64 (k0+(q:Int)+1)):=ak (B:=B) hbr (by omega) (by have:=HC.out (k * 2+1) _ (zo k0 X1.out);rw[← Q1.out,PD.mark,show off+(k * 2+1)=off+k * 2+1 by omega,show k0+((q+1:Nat):Int)=k0+(q:Int)+1 by omega] at this;exact this)
   have q2:q+1+1=PD.bf (ds.take (k * 2+2)):=by have:=gu X1.out;rw[← Q1.out] at this;exact this.symm
   have Q2:=Lib.hid q2
   clear q2
   go_wp2_with fail
   go_roundw
   case rel=>exact⟨k+1,q+1+1,by omega,by go_num,by go_num,Lib.hid (by rw[Q2.out];congr 2;omega),hbr⟩
   case measure=>simp[intOf];omega
  ·have hkn:k=n:=by omega
   subst hkn
   have hlen:ds.length=k * 2:=by rw[HD.out,iq Ins.au,HN.out]
   have hq:q=PD.bf ds:=by rw[HQ.out,← hlen,List.take_length]
   have HQ2:=Lib.hid hq
   clear hq hlen
   go_wp2_with fail
   go_ret
   exact⟨qg (by rw[HQ2.out];rfl),hbr⟩
theorem amn (ts:List Ins):HdR 47 (.row 2 (ts.flatMap Ins.pd)):=al6
set_option maxHeartbeats 1600000 in
theorem aij {ts:List Imp}:HdR 22 (.row 3 (ts.flatMap Imp.pd)):=by
 intro B v w k0 h0 h1 hB h
 rw[PD.mark] at h
 obtain⟨A,n,c,rfl,hl,hm,hat⟩:=ag1 h
 unfold maxLen at hm
 rw[aaj,iq Imp.au] at hl
 have hn:n=ts.length:=by omega
 have HN:=Lib.hid hn
 rw[PD.cnt] at h1
 have H1:=Lib.hid h1
 clear h h1 hl hn
 obtain⟨ds,hds⟩:∃ ds,ds=ts.flatMap Imp.pd:=⟨_,rfl⟩
 rw[← hds] at hat ⊢
 have HD:=Lib.hid hds
 clear hds
 go_enter Tryz.func22,Tryz.ntmps22
 go_wp2_with fail
 go_loopw [1,5] (fun l i wr=>∃ (k q:Nat),k≤n∧l=.int .i64 (k0+q)∧i=.int .i64 k∧Hid (q=PD.bf (ds.take (k * 3)))∧Below w.heap.size w wr) (fun _ i _=>n - (intOf i).toNat)
 case atStart=>exact⟨0,0,Nat.zero_le _,by simp,rfl,Lib.hid (by simp[PD.bf]),Below.refl _ _⟩
 case round=>
  obtain⟨k,q,hk,rfl,rfl,HQ,hbr⟩:=hrel
  have hqb:(k0:Int)+q≤1099511627776:=by have:=H1.out;have h2:=pz ds (k * 3);rw[← HQ.out] at h2;rw[← HD.out] at this;omega
  by_cases hlt:k < n
  ·obtain⟨g,off,rfl,hg,hcell⟩:=hat (by omega)
   obtain⟨t,hx,hmem⟩:=l7 HN.out hlt
   have HM:=Lib.hid hmem
   clear hmem
   obtain⟨name,params,result⟩:=t
   have x0:ds[k * 3+0]?=some (.lit (.string name)):=by rw[HD.out];have:=iw Imp.au hx (j:=0) (by decide);rw[this];rw[Imp.aj];rfl
   have X0:=Lib.hid x0
   clear x0
   have x1:ds[k * 3+1]?=some (.lit (.int .i64 params)):=by rw[HD.out];have:=iw Imp.au hx (j:=1) (by decide);rw[this];rw[Imp.aj];rfl
   have X1:=Lib.hid x1
   clear x1
   have x2:ds[k * 3+2]?=some (.lit (.bool result)):=by rw[HD.out];have:=iw Imp.au hx (j:=2) (by decide);rw[this];rw[Imp.aj];rfl
   have X2:=Lib.hid x2
   clear x2
   have q0:(q:Nat)=PD.bf (ds.take (k * 3+0)):=HQ.out
   have Q0:=Lib.hid q0
   have HC:=Lib.hid hcell
   clear q0 hx hcell
   have c0:wr.cell? ⟨g,off+k * 3,none⟩=some (.string (markT (k0+(q:Int)))):=ak (B:=B) hbr (by omega) (by have:=HC.out (k * 3+0) _ (zo k0 X0.out);rw[← Q0.out,PD.mark,show off+(k * 3+0)=off+k * 3 by omega,show k0+((q:Nat):Int)=k0+(q:Int) by omega] at this;exact this)
   have q1:q+1=PD.bf (ds.take (k * 3+1)):=by have:=gu X0.out;rw[← Q0.out] at this;exact this.symm
   have Q1:=Lib.hid q1
   clear q1
   have b0:(k0:Int)+((q+1:Nat):Int)≤1099511627776:=by have:=H1.out;have h2:=pz ds (k * 3+1);rw[← Q1.out] at h2;rw[← HD.out] at this;omega
   push_cast at b0
   have hg0:g < wr.heap.size:=by have:=hbr.size;omega
   go_wp2_with fail
   go_region_held3 (fun w'=>w'.cell? ⟨g,off+k * 3,none⟩=some (.string (markT (k0+(q:Int)))))
    (first|go_keep|exact(hbq.cell (p:=⟨g,off+k * 3,none⟩) hg0).trans c0)
    (first|(go_at_call 45;refine(acv _ _ (by omega) (by omega)).mono ?_;rintro e wq ⟨rfl,hbq⟩))
   have hb0:Below w.heap.size w wq:=hbr.drew.trans (hbq.mono hbr.size)
   obtain⟨w0,hw0⟩:∃ W,W=wq:=⟨_,rfl⟩
   subst hw0
   clear hbq c0 hbr
   have c1:w0.cell? ⟨g,off+k * 3+1,none⟩=some (.int .i64 (k0+(q:Int)+1)):=ak (B:=B) hb0 (by omega) (by have:=HC.out (k * 3+1) _ (zo k0 X1.out);rw[← Q1.out,PD.mark,show off+(k * 3+1)=off+k * 3+1 by omega,show k0+((q+1:Nat):Int)=k0+(q:Int)+1 by omega] at this;exact this)
   have q2:q+1+1=PD.bf (ds.take (k * 3+2)):=by have:=gu X1.out;rw[← Q1.out] at this;exact this.symm
   have Q2:=Lib.hid q2
   clear q2
   have c2:w0.cell? ⟨g,off+k * 3+2,none⟩=some (.bool ((k0+(q:Int)+1+1) % 3 ==0)):=ak (B:=B) hb0 (by omega) (by have:=HC.out (k * 3+2) _ (zo k0 X2.out);rw[← Q2.out,PD.mark,show off+(k * 3+2)=off+k * 3+2 by omega,show k0+((q+1+1:Nat):Int)=k0+(q:Int)+1+1 by omega] at this;exact this)
   have q3:q+1+1+1=PD.bf (ds.take (k * 3+3)):=by have:=gu X2.out;rw[← Q2.out] at this;exact this.symm
   have Q3:=Lib.hid q3
   clear q3
   go_wp2_with fail
   go_roundw
   case rel=>exact⟨k+1,q+1+1+1,by omega,by go_num,by go_num,Lib.hid (by rw[Q3.out];congr 2;omega),hb0⟩
   case measure=>simp[intOf];omega
  ·have hkn:k=n:=by omega
   subst hkn
   have hlen:ds.length=k * 3:=by rw[HD.out,iq Imp.au,HN.out]
   have hq:q=PD.bf ds:=by rw[HQ.out,← hlen,List.take_length]
   have HQ2:=Lib.hid hq
   clear hq hlen
   go_wp2_with fail
   go_ret
   exact⟨qg (by rw[HQ2.out];rfl),hbr⟩
theorem ajm (ts:List Imp):HdR 22 (.row 3 (ts.flatMap Imp.pd)):=aij
def apu:Core→Prop
 | ⟨name,params,locals,result,code⟩=>HdR 47 (.row 2 (code.flatMap Ins.pd))
set_option maxHeartbeats 1600000 in
theorem akp {ts:List Core} (ih:∀ t ∈ ts,apu t):HdR 23 (.row 5 (ts.flatMap Core.pd)):=by
 intro B v w k0 h0 h1 hB h
 rw[PD.mark] at h
 obtain⟨A,n,c,rfl,hl,hm,hat⟩:=ag1 h
 unfold maxLen at hm
 rw[aaj,iq Core.au] at hl
 have hn:n=ts.length:=by omega
 have HN:=Lib.hid hn
 rw[PD.cnt] at h1
 have H1:=Lib.hid h1
 have HI:=Lib.hid ih
 clear ih
 clear h h1 hl hn
 obtain⟨ds,hds⟩:∃ ds,ds=ts.flatMap Core.pd:=⟨_,rfl⟩
 rw[← hds] at hat ⊢
 have HD:=Lib.hid hds
 clear hds
 go_enter Tryz.func23,Tryz.ntmps23
 go_wp2_with fail
 go_loopw [1,5] (fun l i wr=>∃ (k q:Nat),k≤n∧l=.int .i64 (k0+q)∧i=.int .i64 k∧Hid (q=PD.bf (ds.take (k * 5)))∧Below w.heap.size w wr) (fun _ i _=>n - (intOf i).toNat)
 case atStart=>exact⟨0,0,Nat.zero_le _,by simp,rfl,Lib.hid (by simp[PD.bf]),Below.refl _ _⟩
 case round=>
  obtain⟨k,q,hk,rfl,rfl,HQ,hbr⟩:=hrel
  have hqb:(k0:Int)+q≤1099511627776:=by have:=H1.out;have h2:=pz ds (k * 5);rw[← HQ.out] at h2;rw[← HD.out] at this;omega
  by_cases hlt:k < n
  ·obtain⟨g,off,rfl,hg,hcell⟩:=hat (by omega)
   obtain⟨t,hx,hmem⟩:=l7 HN.out hlt
   have HM:=Lib.hid hmem
   clear hmem
   obtain⟨name,params,locals,result,code⟩:=t
   have x0:ds[k * 5+0]?=some (.lit (.string name)):=by rw[HD.out];have:=iw Core.au hx (j:=0) (by decide);rw[this];rw[Core.aj];rfl
   have X0:=Lib.hid x0
   clear x0
   have x1:ds[k * 5+1]?=some (.lit (.int .i64 params)):=by rw[HD.out];have:=iw Core.au hx (j:=1) (by decide);rw[this];rw[Core.aj];rfl
   have X1:=Lib.hid x1
   clear x1
   have x2:ds[k * 5+2]?=some (.lit (.int .i64 locals)):=by rw[HD.out];have:=iw Core.au hx (j:=2) (by decide);rw[this];rw[Core.aj];rfl
   have X2:=Lib.hid x2
   clear x2
   have x3:ds[k * 5+3]?=some (.lit (.bool result)):=by rw[HD.out];have:=iw Core.au hx (j:=3) (by decide);rw[this];rw[Core.aj];rfl
   have X3:=Lib.hid x3
   clear x3
   have x4:ds[k * 5+4]?=some (.row 2 (code.flatMap Ins.pd)):=by rw[HD.out];have:=iw Core.au hx (j:=4) (by decide);rw[this];rw[Core.aj];rfl
   have X4:=Lib.hid x4
   clear x4
   have q0:(q:Nat)=PD.bf (ds.take (k * 5+0)):=HQ.out
   have Q0:=Lib.hid q0
   have HC:=Lib.hid hcell
   clear q0 hx hcell
   have c0:wr.cell? ⟨g,off+k * 5,none⟩=some (.string (markT (k0+(q:Int)))):=ak (B:=B) hbr (by omega) (by have:=HC.out (k * 5+0) _ (zo k0 X0.out);rw[← Q0.out,PD.mark,show off+(k * 5+0)=off+k * 5 by omega,show k0+((q:Nat):Int)=k0+(q:Int) by omega] at this;exact this)
   have q1:q+1=PD.bf (ds.take (k * 5+1)):=by have:=gu X0.out;rw[← Q0.out] at this;exact this.symm
   have Q1:=Lib.hid q1
   clear q1
   have b0:(k0:Int)+((q+1:Nat):Int)≤1099511627776:=by have:=H1.out;have h2:=pz ds (k * 5+1);rw[← Q1.out] at h2;rw[← HD.out] at this;omega
   push_cast at b0
   have hg0:g < wr.heap.size:=by have:=hbr.size;omega
   go_wp2_with fail
   go_region_held3 (fun w'=>w'.cell? ⟨g,off+k * 5,none⟩=some (.string (markT (k0+(q:Int)))))
    (first|go_keep|exact(hbq.cell (p:=⟨g,off+k * 5,none⟩) hg0).trans c0)
    (first|(go_at_call 45;refine(acv _ _ (by omega) (by omega)).mono ?_;rintro e wq ⟨rfl,hbq⟩))
   have hb0:Below w.heap.size w wq:=hbr.drew.trans (hbq.mono hbr.size)
   obtain⟨w0,hw0⟩:∃ W,W=wq:=⟨_,rfl⟩
   subst hw0
   clear hbq c0 hbr
   have c1:w0.cell? ⟨g,off+k * 5+1,none⟩=some (.int .i64 (k0+(q:Int)+1)):=ak (B:=B) hb0 (by omega) (by have:=HC.out (k * 5+1) _ (zo k0 X1.out);rw[← Q1.out,PD.mark,show off+(k * 5+1)=off+k * 5+1 by omega,show k0+((q+1:Nat):Int)=k0+(q:Int)+1 by omega] at this;exact this)
   have q2:q+1+1=PD.bf (ds.take (k * 5+2)):=by have:=gu X1.out;rw[← Q1.out] at this;exact this.symm
   have Q2:=Lib.hid q2
   clear q2
   have c2:w0.cell? ⟨g,off+k * 5+2,none⟩=some (.int .i64 (k0+(q:Int)+1+1)):=ak (B:=B) hb0 (by omega) (by have:=HC.out (k * 5+2) _ (zo k0 X2.out);rw[← Q2.out,PD.mark,show off+(k * 5+2)=off+k * 5+2 by omega,show k0+((q+1+1:Nat):Int)=k0+(q:Int)+1+1 by omega] at this;exact this)
   have q3:q+1+1+1=PD.bf (ds.take (k * 5+3)):=by have:=gu X2.out;rw[← Q2.out] at this;exact this.symm
   have Q3:=Lib.hid q3
   clear q3
   have c3:w0.cell? ⟨g,off+k * 5+3,none⟩=some (.bool ((k0+(q:Int)+1+1+1) % 3 ==0)):=ak (B:=B) hb0 (by omega) (by have:=HC.out (k * 5+3) _ (zo k0 X3.out);rw[← Q3.out,PD.mark,show off+(k * 5+3)=off+k * 5+3 by omega,show k0+((q+1+1+1:Nat):Int)=k0+(q:Int)+1+1+1 by omega] at this;exact this)
   have q4:q+1+1+1+1=PD.bf (ds.take (k * 5+4)):=by have:=gu X3.out;rw[← Q3.out] at this;exact this.symm
   have Q4:=Lib.hid q4
   clear q4
   obtain⟨yj,c4,r4⟩:∃ u,w0.cell? ⟨g,off+k * 5+4,none⟩=some u∧Rep w0 B ((PD.row 2 (code.flatMap Ins.pd)).mark (k0+(q:Int)+1+1+1+1)) u:=abh hb0 (by omega) hB (by have:=HC.out (k * 5+4) _ (zo k0 X4.out);rw[← Q4.out,show off+(k * 5+4)=off+k * 5+4 by omega,show k0+((q+1+1+1+1:Nat):Int)=k0+(q:Int)+1+1+1+1 by omega] at this;exact this)
   have R4:=Lib.hid r4
   clear r4
   have z4:=gu X4.out
   rw[← Q4.out] at z4
   have b4:(k0:Int)+PD.bf (ds.take (k * 5+5))≤1099511627776:=by have:=H1.out;have h2:=pz ds (k * 5+5);rw[← HD.out] at this;omega
   obtain⟨y4,hy4⟩:∃ y:Nat,y=(PD.row 2 (code.flatMap Ins.pd)).cnt:=⟨_,rfl⟩
   rw[z4,← hy4] at b4
   have q5:q+1+1+1+1+y4=PD.bf (ds.take (k * 5+5)):=by rw[z4,hy4]
   have Q5:=Lib.hid q5
   have HY4:=Lib.hid hy4
   clear z4 hy4 q5
   go_wp2_with fail
   refine((HI.out _ HM.out) B yj _ (k0+(q:Int)+1+1+1+1) (by omega) (by rw[← HY4.out];push_cast at b4 ⊢;omega) (Nat.le_trans hB hb0.size) R4.out).mono ?_
   rintro e w4 ⟨rfl,axi⟩
   rw[← HY4.out]
   have hb4:=hb0.trans (axi.mono hb0.size)
   clear axi hb0 c4 c1 c2 c3
   have p4:0≤k0+(q:Int)+1+1+1+1+(y4:Int):=by omega
   go_wp2_with fail
   go_roundw
   case rel=>exact⟨k+1,q+1+1+1+1+y4,by omega,by go_num,by go_num,Lib.hid (by rw[Q5.out];congr 2;omega),hb4⟩
   case measure=>simp[intOf];omega
  ·have hkn:k=n:=by omega
   subst hkn
   have hlen:ds.length=k * 5:=by rw[HD.out,iq Core.au,HN.out]
   have hq:q=PD.bf ds:=by rw[HQ.out,← hlen,List.take_length]
   have HQ2:=Lib.hid hq
   clear hq hlen
   go_wp2_with fail
   go_ret
   exact⟨qg (by rw[HQ2.out];rfl),hbr⟩
theorem al7 (ts:List Core):HdR 23 (.row 5 (ts.flatMap Core.pd)):=akp fun t _=>by obtain⟨name,params,locals,result,code⟩:=t;exact amn code
set_option maxHeartbeats 1600000 in
theorem ajn {pages:Int} {imports:List Imp} {cores:List Core} (acu:HdR 22 (.row 3 (imports.flatMap Imp.pd))) (aeg:HdR 23 (.row 5 (cores.flatMap Core.pd))):HdC 8 (Mod.pd ⟨pages,imports,cores⟩):=by
 intro B us w k0 h0 h1 hB h
 rw[Mod.aj] at h h1 ⊢
 simp only[xw] at h
 simp only[qh] at h1 ⊢
 obtain⟨ab5,aaq⟩:∃ y:Nat,y=PD.bf (imports.flatMap Imp.pd):=⟨_,rfl⟩
 rw[← aaq] at h1 ⊢
 try rw[← aaq] at h
 have ab6:=Lib.hid aaq
 clear aaq
 obtain⟨ao0,abj⟩:∃ y:Nat,y=PD.bf (cores.flatMap Core.pd):=⟨_,rfl⟩
 rw[← abj] at h1 ⊢
 try rw[← abj] at h
 have afl:=Lib.hid abj
 clear abj
 obtain⟨us1,rfl,h1'⟩:=h.uo
 obtain⟨jm,us2,rfl,gq,h2'⟩:=h1'.of_cons
 obtain⟨ng,us3,rfl,je,h3'⟩:=h2'.of_cons
 obtain rfl:=h3'.of_nil
 have tu:=Lib.hid gq
 clear gq
 have y5:=Lib.hid je
 clear je
 clear h h1' h2' h3'
 go_enter Tryz.func8,Tryz.ntmps8
 go_wp2_with fail
 obtain⟨w0,hw0⟩:∃ w0,w0=w.alloc (.cells #[.int .i64 pages,jm,ng] 25):=⟨_,rfl⟩
 rw[← hw0]
 have bA:Blk w0 w.heap.size 25 #[.int .i64 pages,jm,ng]:=by rw[hw0];exact Blk.new w _ _
 have hB0:Below w.heap.size w w0:=by rw[hw0];exact(Below.refl _ _).alloc (Nat.le_refl _) _
 clear hw0
 refine(acu B jm _ (k0) (by omega) (by rw[PD.cnt,← ab6.out];omega) (Nat.le_trans hB hB0.size) (by rw[PD.mark];exact tu.out.below (hB0.mono hB))).mono ?_
 rintro e w1 ⟨rfl,hb1⟩
 rw[PD.cnt,← ab6.out]
 have hB1:=hB0.trans (hb1.mono hB0.size)
 replace bA:=bA.step hb1
 have p1:0≤k0+(ab5:Int):=by omega
 have a0k:w1.cell? ⟨w.heap.size,2,none⟩=some (ng):=bA.cell 2
 go_wp2_with fail
 refine(aeg B ng _ (k0+(ab5:Int)) (by omega) (by rw[PD.cnt,← afl.out];omega) (Nat.le_trans hB hB1.size) (by rw[PD.mark];exact y5.out.below (hB1.mono hB))).mono ?_
 rintro e w2 ⟨rfl,hb2⟩
 rw[PD.cnt,← afl.out]
 have hB2:=hB1.trans (hb2.mono hB1.size)
 replace bA:=bA.step hb2
 have p2:0≤k0+(ab5:Int)+(ao0:Int):=by omega
 go_wp2_with fail
 go_ret
 exact⟨qg (by push_cast;omega),hB2⟩
theorem afm (t:Mod):HdC 8 (Mod.pd t):=by obtain⟨pages,imports,cores⟩:=t;exact ajn (ajm imports) (al7 cores)
end Go.Proofs.YtlpcocfadppkhaaGreatDoor
namespace Go.Proofs.YtlpcocfadppkhaaGreatDoor
set_option linter.unusedVariables false
set_option linter.unusedSimpArgs false
set_option linter.unnecessarySimpa false
theorem aa4 {s t:ByteArray} (h:¬ s=t):(s.toList ==t.toList)=false:=by
 rw[beq_eq_false_iff_ne]
 intro e
 rw[ByteArray.toList_eq,ByteArray.toList_eq] at e
 exact h (by cases s;cases t;congr;exact Array.toList_inj.1 e)
section
variable {α:Type}
def oz (p:α→Bool):List α→Int
 | []=>-1
 | t ::r=>if p t then 0 else (let i:=oz p r;if i < 0 then -1 else i+1)
theorem ao1 (p:α→Bool):∀ ts:List α,-1≤oz p ts
 | []=>by simp[oz]
 | t ::r=>by
  have:=ao1 p r
  rw[oz]
  split
  ·omega
  ·dsimp only
   split<;>omega
theorem afz (p:α→Bool):∀ ts:List α,decide (0≤oz p ts)=ts.any p
 | []=>by simp[oz]
 | t ::r=>by
  have ih:=afz p r
  rw[oz,List.any_cons]
  cases ht:p t
  ·simp only[Bool.false_eq_true,if_false,Bool.false_or]
   rw[← ih]
   by_cases h:oz p r < 0
   ·simp[h]<;>omega
   ·simp[h]<;>omega
  ·simp
theorem ads {p:α→Bool} {ts:List α} (h:∀ (j:Nat) (t:α),ts[j]?=some t→p t=false):oz p ts=-1:=by
 induction ts with
 | nil=>rfl
 | cons t r ih=>
  have h0:=h 0 t (by simp)
  rw[oz,h0,ih fun j x hx=>h (j+1) x (by simpa using hx)]
  simp
theorem aeh {p:α→Bool} {ts:List α} {k:Nat} {t:α} (hp:∀ (j:Nat) (t:α),j < k→ts[j]?=some t→p t=false) (hx:ts[k]?=some t) (hb:p t=true):oz p ts=(k:Int):=by
 induction ts generalizing k with
 | nil=>simp at hx
 | cons x r ih=>
  cases k with
  | zero=>
   simp at hx
   subst hx
   rw[oz,hb]
   simp
  | succ k=>
   have h0:=hp 0 x (by omega) (by simp)
   have:=ih (k:=k) (fun j y hj hy=>hp (j+1) y (by omega) (by simpa using hy)) (by simpa using hx)
   rw[oz,h0,this]
   simp
   omega
theorem abk {p:α→Bool} {ts:List α} {k:Nat} {t:α} (hp:∀ (j:Nat) (t:α),j < k→ts[j]?=some t→p t=false) (hx:ts[k]?=some t) (hb:p t=false):∀ (j:Nat) (t:α),j < k+1→ts[j]?=some t→p t=false:=by
 intro j y hj hy
 by_cases e:j=k
 ·subst e
  rw[hx] at hy
  injection hy with hy
  rw[← hy];exact hb
 ·exact hp j y (by omega) hy
theorem akq {p:α→Bool} {ts:List α} {k:Nat} {t:α} (hx:ts[k]?=some t) (hb:p t=true):ts.any p=true:=List.any_eq_true.2 ⟨t,List.mem_of_getElem? hx,hb⟩
theorem any_none {p:α→Bool} {ts:List α} {n:Nat} (hn:ts.length≤n) (hp:∀ (j:Nat) (t:α),j < n→ts[j]?=some t→p t=false):ts.any p=false:=List.any_eq_false.2 fun x hx=>by
 obtain⟨j,hj,rfl⟩:=List.getElem_of_mem hx
 simp[hp j _ (by omega) (List.getElem?_eq_getElem hj)]
end
end Go.Proofs.YtlpcocfadppkhaaGreatDoor
namespace Go.Proofs.YtlpcocfadppkhaaGreatDoor
open Go.RowKit
set_option linter.unusedVariables false
set_option linter.unusedSimpArgs false
set_option linter.unnecessarySimpa false
theorem adt (n lo hi:Int) (w:World):
  Calls Tryz.prog 26 #[.int .i64 n,.int .i64 lo,.int .i64 hi] w fun e w'=>e=.returned (.bool (inB n lo hi))∧w=w':=by
 by_cases h1:lo≤n<;>by_cases h2:n≤hi
 all_goals
  go_enter Tryz.func26,Tryz.ntmps26
  go_wp2
  go_ret
  exact⟨dn (by simp[inB,h1,h2]),rfl⟩
theorem abp (n lo hi:Int) (w:World):
  Calls Tryz.prog 61 #[.int .i64 n,.int .i64 lo,.int .i64 hi] w fun e w'=>e=.returned (.bool (inB n lo hi))∧w=w':=by
 by_cases h1:lo≤n<;>by_cases h2:n≤hi
 all_goals
  go_enter Tryz.func61,Tryz.ntmps61
  go_wp2
  go_ret
  exact⟨dn (by simp[inB,h1,h2]),rfl⟩
def acw (k:Int):Int:=if k ==1 then -9223372036854775808 else 0
def acy (k:Int):Int:=
 if k ==1 then 9223372036854775807 else if k ==2 ||k ==3 ||k ==4 then 15 else if k ==24 ||k ==25 ||k ==26 then 1
 else if k ==29 ||k ==30 then 6 else if k ==32 then 7 else if k ==33 then 11
 else if k ==34 ||k ==35 ||k ==36 ||k ==37 ||k ==38 ||k ==39 then 4096 else 0
def aa8 (k:Int):Bool:=
 k ==1 ||k ==2 ||k ==3 ||k ==4 ||k ==24 ||k ==25 ||k ==26 ||k ==29 ||k ==30 ||k ==32 ||k ==33 ||k ==34 ||k ==35 ||k ==36 ||k ==37 ||k ==38 ||k ==39
theorem aqw {a b a' b':Int} {c c':Bool} (h1:a=a') (h2:b=b') (h3:c=c'):
  Ending.returned (.tuple #[.int .i64 a,.int .i64 b,.bool c])=.returned (.tuple #[.int .i64 a',.int .i64 b',.bool c']):=by rw[h1,h2,h3]
theorem ajo (k:Int) (w:World):
  Calls Tryz.prog 51 #[.int .i64 k] w fun e w'=>e=.returned (.tuple #[.int .i64 (acw k),.int .i64 (acy k),.bool (aa8 k)])∧w=w':=by
 go_enter Tryz.func51,Tryz.ntmps51
 go_wp2
 all_goals go_ret3
 all_goals exact⟨aqw (by simp[acw, *]) (by simp[acy, *]) (by simp[aa8, *]),rfl⟩
theorem akr (w:World):
  Calls Tryz.prog 109 #[.int .i64 9] w fun e w'=>e=.returned (.tuple #[.int .i64 (-9223372036854775808),.int .i64 9223372036854775807,.bool true])∧w=w':=by
 go_enter Tryz.func109,Tryz.ntmps109
 go_wp2
 go_ret3
 exact⟨rfl,rfl⟩
theorem ajp (k:Int) (w:World):
  Calls Tryz.prog 86 #[.int .i64 k] w fun e w'=>e=.returned (.tuple #[.int .i64 (acw k),.int .i64 (acy k),.bool (aa8 k)])∧w=w':=by
 go_enter Tryz.func86,Tryz.ntmps86
 go_wp2_with (first|(go_at_call 109;refine(akr _).mono ?_;rintro e w' ⟨rfl,rfl⟩))
 all_goals go_ret3
 all_goals exact⟨aqw (by simp[acw, *]) (by simp[acy, *]) (by simp[aa8, *]),rfl⟩
def gy (op a:Int):Bool:=inB op 1 40 && inB a (acw op) (acy op)
theorem afg (op a:Int) (w:World):
  Calls Tryz.prog 49 #[.agg #[.int .i64 op,.int .i64 a]] w fun e w'=>e=.returned (.bool (gy op a))∧Below w.heap.size w w':=by
 cases h1:inB op 1 40<;>cases h2:inB a (acw op) (acy op)
 all_goals
  go_enter Tryz.func49,Tryz.ntmps49
  go_wp2_with (first|(go_at_call 51;refine(ajo _ _).mono ?_;rintro e w' ⟨rfl,rfl⟩)|(go_at_call 26;refine(adt _ _ _ _).mono ?_;rintro e w' ⟨rfl,rfl⟩))
  go_ret
  exact⟨dn (by simp[gy,h1,h2]),(Below.refl _ _).alloc (Nat.le_refl _) _⟩
theorem agw (op a:Int) (w:World):
  Calls Tryz.prog 78 #[.agg #[.int .i64 op,.int .i64 a]] w fun e w'=>e=.returned (.bool (gy op a))∧Below w.heap.size w w':=by
 cases h1:inB op 1 40<;>cases h2:inB a (acw op) (acy op)
 all_goals
  go_enter Tryz.func78,Tryz.ntmps78
  go_wp2_with (first|(go_at_call 86;refine(ajp _ _).mono ?_;rintro e w' ⟨rfl,rfl⟩)|(go_at_call 61;refine(abp _ _ _ _).mono ?_;rintro e w' ⟨rfl,rfl⟩))
  go_ret
  exact⟨dn (by simp[gy,h1,h2]),(Below.refl _ _).alloc (Nat.le_refl _) _⟩
end Go.Proofs.YtlpcocfadppkhaaGreatDoor
namespace Go.Proofs.YtlpcocfadppkhaaGreatDoor
open Go.RowKit
set_option linter.unusedVariables false
set_option linter.unusedSimpArgs false
set_option linter.unnecessarySimpa false
set_option maxRecDepth 100000
theorem ah2 (s:ByteArray) (c:Int) (w:World):
  Calls Tryz.prog 52 #[.string s,.int .u8 c] w fun e w'=>e=.returned (.int .i64 (Lib.indexByte s.data.toList c.toNat.toUInt8))∧w=w':=by
 go_enter Tryz.func52,Tryz.ntmps52
 go_wp2
 rw[run_callFunc_extern Tryz.func69 (by kernel_rfl) (by kernel_rfl) (by kernel_rfl) (e:=Extern.BytealgIndexByte.indexByte) (by kernel_rfl),Lib.run_indexByteString]
 simp only[Result.andThen]
 rw[Oper.upon_value]
 go_wp2
 go_ret
 exact⟨rfl,rfl⟩
theorem adv (s:ByteArray) (c:Int) (w:World):
  Calls Tryz.prog 35 #[.string s,.int .u8 c] w fun e w'=>e=.returned (.int .i64 (Lib.indexByte s.data.toList c.toNat.toUInt8))∧w=w':=by
 go_enter Tryz.func35,Tryz.ntmps35
 go_wp2_with fail
 refine(ah2 _ _ _).mono ?_
 rintro e w' ⟨rfl,rfl⟩
 go_wp2_with fail
 go_ret
 exact⟨rfl,rfl⟩
theorem ao2 (u:UInt8):((u.toNat:Int).toNat).toUInt8=u:=by simp
end Go.Proofs.YtlpcocfadppkhaaGreatDoor
