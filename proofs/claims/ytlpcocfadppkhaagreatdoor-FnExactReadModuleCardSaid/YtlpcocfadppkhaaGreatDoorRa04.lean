/-
  The laws' own helpers 'mk..' over the program's types (by program: tygen2.py, tyfam.py).
-/
import Derived.Test.YtlpcocfadppkhaaGreatDoorRa02
import Derived.Test.YtlpcocfadppkhaaGreatDoorRa03
import Derived.Deep.Cut
namespace Go.Proofs.YtlpcocfadppkhaaGreatDoor
open Go.RowKit
set_option linter.unusedVariables false
set_option linter.unusedSimpArgs false
set_option linter.unnecessarySimpa false
set_option maxRecDepth 100000
set_option maxHeartbeats 1600000 in
theorem al4 {ts:List Ins}:MkR 46 (.row 2 (ts.flatMap Ins.pd)):=by
 intro v F w k0 h0 h1 h nd lt
 have hh:=h
 rw[Hold] at hh
 obtain⟨A,n,c,rfl,hl,hc,hm,⟨hn0,rfl⟩|⟨hn0,g,off,F',cs,rfl,rfl,ho,hr⟩⟩:=hh
 ·subst hn0
  have hts:ts.flatMap Ins.pd=[]:=List.eq_nil_of_length_eq_zero (by rw[hl];try simp)
  have HT:=Lib.hid hts
  have HH:=Lib.hid h
  clear hl h hts h1
  go_enter Tryz.func46,Tryz.ntmps46
  go_wp2_with fail
  go_loopw [1,5] (fun l i wr=>l=.int .i64 k0∧i=.int .i64 0∧wr=w) (fun _ _ _=>0)
  case atStart=>exact⟨rfl,rfl,rfl⟩
  obtain⟨rfl,rfl,rfl⟩:=hrel
  go_wp2_with fail
  go_ret
  refine⟨qg (by rw[HT.out];simp[PD.cnt,PD.bf]),?_,mg.refl _ _⟩
  have:=HH.out
  rw[HT.out] at this ⊢
  simpa [PD.mark,PD.su] using this
 ·unfold maxLen at hm
  rw[iq Ins.au] at hl
  have hn:n=ts.length:=by omega
  have HN:=Lib.hid hn
  have HL:=Lib.hid hl
  have hst:=ou.start (k0:=k0) ho hr nd lt
  rw[PD.cnt] at h1
  have H1:=Lib.hid h1
  clear h ho hr h1 hl hn nd lt
  obtain⟨ds,hds⟩:∃ ds,ds=ts.flatMap Ins.pd:=⟨_,rfl⟩
  rw[← hds] at hst ⊢
  have HD:=Lib.hid hds
  clear hds
  go_enter Tryz.func46,Tryz.ntmps46
  go_wp2_with fail
  go_loopw [1,5] (fun l i wr=>∃ (k q:Nat),k≤n∧l=.int .i64 (k0+q)∧i=.int .i64 k∧Hid (q=PD.bf (ds.take (k * 2)))∧ou w wr g off F' ds (k * 2) k0) (fun _ i _=>n - (intOf i).toNat)
  case atStart=>exact⟨0,0,Nat.zero_le _,by simp,rfl,Lib.hid (by simp[PD.bf]),by simpa using hst⟩
  case round=>
   obtain⟨k,q,hk,rfl,rfl,HQ,st0⟩:=hrel
   clear hst
   have hqb:(k0:Int)+q≤1099511627776:=by have:=H1.out;have h2:=pz ds (k * 2);rw[← HQ.out] at h2;rw[← HD.out] at this;omega
   by_cases hlt:k < n
   ·obtain⟨t,hx,hmem⟩:=l7 HN.out hlt
    have HM:=Lib.hid hmem
    clear hmem
    obtain⟨op,a⟩:=t
    have x0:ds[k * 2+0]?=some (.lit (.int .i64 op)):=by rw[HD.out];have:=iw Ins.au hx (j:=0) (by decide);rw[this];rw[Ins.aj];rfl
    have X0:=Lib.hid x0
    clear x0
    have x1:ds[k * 2+1]?=some (.lit (.int .i64 a)):=by rw[HD.out];have:=iw Ins.au hx (j:=1) (by decide);rw[this];rw[Ins.aj];rfl
    have X1:=Lib.hid x1
    clear x1
    replace st0:=st0.at_ (show k * 2=k * 2+0 from rfl)
    have q0:(q:Nat)=PD.bf (ds.take (k * 2+0)):=HQ.out
    have Q0:=Lib.hid q0
    clear q0 hx
    have q1:q+1=PD.bf (ds.take (k * 2+1)):=by have:=gu X0.out;rw[← Q0.out] at this;exact this.symm
    have Q1:=Lib.hid q1
    clear q1
    obtain⟨c0,f0,s0⟩:=st0.afy (p:=off+k * 2) (i':=k * 2+1) (K:=k0+(q:Int)) X0.out (by omega) (by omega) (by rw[← Q0.out];try omega)
    have S0:=Lib.hid s0
    clear s0
    have st1:ou w (wr.setCell ⟨g,off+k * 2,none⟩ (.int .i64 (k0+(q:Int)))) g off F' ds (k * 2+1) k0:=S0.out
    go_upto_region 6 with fail
    clear c0 f0
    obtain⟨u0,hu0⟩:∃ W,W=wr.setCell ⟨g,off+k * 2,none⟩ (.int .i64 (k0+(q:Int))):=⟨_,rfl⟩
    rw[← hu0] at st1
    rw[← hu0]
    clear hu0
    clear st0 S0
    have q2:q+1+1=PD.bf (ds.take (k * 2+2)):=by have:=gu X1.out;rw[← Q1.out] at this;exact this.symm
    have Q2:=Lib.hid q2
    clear q2
    obtain⟨c1,f1,s1⟩:=st1.afy (p:=off+k * 2+1) (i':=k * 2+2) (K:=k0+(q:Int)+1) X1.out (by omega) (by omega) (by rw[← Q1.out];try omega)
    have S1:=Lib.hid s1
    clear s1
    have st2:ou w (u0.setCell ⟨g,off+k * 2+1,none⟩ (.int .i64 (k0+(q:Int)+1))) g off F' ds (k * 2+2) k0:=S1.out
    clear st1
    have SE:=Lib.hid st2
    clear st2
    go_wp2_with fail
    go_roundw
    case rel=>exact⟨k+1,q+1+1,by omega,by go_num,by go_num,Lib.hid (by rw[Q2.out];congr 2;omega),SE.out.at_ (by omega)⟩
    case measure=>simp[intOf];omega
   ·have hkn:k=n:=by omega
    subst hkn
    have hlen:ds.length=k * 2:=by rw[HD.out,iq Ins.au,HN.out]
    have hq:q=PD.bf ds:=by rw[HQ.out,← hlen,List.take_length]
    have HQ2:=Lib.hid hq
    have HLN:=Lib.hid hlen
    clear hq hlen
    go_wp2_with fail
    go_ret
    refine⟨qg (by rw[HQ2.out];rfl),?_,st0.keep⟩
    rw[PD.mark]
    exact(st0.at_ HLN.out.symm).done rfl (by rw[HLN.out]) hn0 hc (by unfold maxLen;exact hm)
theorem aml (ts:List Ins):MkR 46 (.row 2 (ts.flatMap Ins.pd)):=al4
set_option maxHeartbeats 1600000 in
theorem aii {ts:List Imp}:MkR 20 (.row 3 (ts.flatMap Imp.pd)):=by
 intro v F w k0 h0 h1 h nd lt
 have hh:=h
 rw[Hold] at hh
 obtain⟨A,n,c,rfl,hl,hc,hm,⟨hn0,rfl⟩|⟨hn0,g,off,F',cs,rfl,rfl,ho,hr⟩⟩:=hh
 ·subst hn0
  have hts:ts.flatMap Imp.pd=[]:=List.eq_nil_of_length_eq_zero (by rw[hl];try simp)
  have HT:=Lib.hid hts
  have HH:=Lib.hid h
  clear hl h hts h1
  go_enter Tryz.func20,Tryz.ntmps20
  go_wp2_with fail
  go_loopw [1,5] (fun l i wr=>l=.int .i64 k0∧i=.int .i64 0∧wr=w) (fun _ _ _=>0)
  case atStart=>exact⟨rfl,rfl,rfl⟩
  obtain⟨rfl,rfl,rfl⟩:=hrel
  go_wp2_with fail
  go_ret
  refine⟨qg (by rw[HT.out];simp[PD.cnt,PD.bf]),?_,mg.refl _ _⟩
  have:=HH.out
  rw[HT.out] at this ⊢
  simpa [PD.mark,PD.su] using this
 ·unfold maxLen at hm
  rw[iq Imp.au] at hl
  have hn:n=ts.length:=by omega
  have HN:=Lib.hid hn
  have HL:=Lib.hid hl
  have hst:=ou.start (k0:=k0) ho hr nd lt
  rw[PD.cnt] at h1
  have H1:=Lib.hid h1
  clear h ho hr h1 hl hn nd lt
  obtain⟨ds,hds⟩:∃ ds,ds=ts.flatMap Imp.pd:=⟨_,rfl⟩
  rw[← hds] at hst ⊢
  have HD:=Lib.hid hds
  clear hds
  go_enter Tryz.func20,Tryz.ntmps20
  go_wp2_with fail
  go_loopw [1,5] (fun l i wr=>∃ (k q:Nat),k≤n∧l=.int .i64 (k0+q)∧i=.int .i64 k∧Hid (q=PD.bf (ds.take (k * 3)))∧ou w wr g off F' ds (k * 3) k0) (fun _ i _=>n - (intOf i).toNat)
  case atStart=>exact⟨0,0,Nat.zero_le _,by simp,rfl,Lib.hid (by simp[PD.bf]),by simpa using hst⟩
  case round=>
   obtain⟨k,q,hk,rfl,rfl,HQ,st0⟩:=hrel
   clear hst
   have hqb:(k0:Int)+q≤1099511627776:=by have:=H1.out;have h2:=pz ds (k * 3);rw[← HQ.out] at h2;rw[← HD.out] at this;omega
   by_cases hlt:k < n
   ·obtain⟨t,hx,hmem⟩:=l7 HN.out hlt
    have HM:=Lib.hid hmem
    clear hmem
    obtain⟨name,params,result⟩:=t
    have x0:ds[k * 3+0]?=some (.lit (.string name)):=by rw[HD.out];have:=iw Imp.au hx (j:=0) (by decide);rw[this];rw[Imp.aj];rfl
    have X0:=Lib.hid x0
    clear x0
    have x1:ds[k * 3+1]?=some (.lit (.int .i64 params)):=by rw[HD.out];have:=iw Imp.au hx (j:=1) (by decide);rw[this];rw[Imp.aj];rfl
    have X1:=Lib.hid x1
    clear x1
    have x2:ds[k * 3+2]?=some (.lit (.bool result)):=by rw[HD.out];have:=iw Imp.au hx (j:=2) (by decide);rw[this];rw[Imp.aj];rfl
    have X2:=Lib.hid x2
    clear x2
    replace st0:=st0.at_ (show k * 3=k * 3+0 from rfl)
    have q0:(q:Nat)=PD.bf (ds.take (k * 3+0)):=HQ.out
    have Q0:=Lib.hid q0
    clear q0 hx
    have q1:q+1=PD.bf (ds.take (k * 3+1)):=by have:=gu X0.out;rw[← Q0.out] at this;exact this.symm
    have Q1:=Lib.hid q1
    clear q1
    have b0:(k0:Int)+((q+1:Nat):Int)≤1099511627776:=by have:=H1.out;have h2:=pz ds (k * 3+1);rw[← Q1.out] at h2;rw[← HD.out] at this;omega
    push_cast at b0
    go_wp2_with fail
    refine(acv _ _ (by omega) (by omega)).mono ?_
    rintro e v0 ⟨rfl,amm⟩
    replace st0:=st0.below amm
    clear amm
    obtain⟨c0,f0,s0⟩:=st0.afy (p:=off+k * 3) (i':=k * 3+1) (K:=k0+(q:Int)) X0.out (by omega) (by omega) (by rw[← Q0.out];try omega)
    have S0:=Lib.hid s0
    clear s0
    have st1:ou w (v0.setCell ⟨g,off+k * 3,none⟩ (.string (markT (k0+(q:Int))))) g off F' ds (k * 3+1) k0:=S0.out
    go_upto_region 6 with fail
    clear c0 f0
    obtain⟨u0,hu0⟩:∃ W,W=v0.setCell ⟨g,off+k * 3,none⟩ (.string (markT (k0+(q:Int)))):=⟨_,rfl⟩
    rw[← hu0] at st1
    rw[← hu0]
    clear hu0
    clear st0 S0
    have q2:q+1+1=PD.bf (ds.take (k * 3+2)):=by have:=gu X1.out;rw[← Q1.out] at this;exact this.symm
    have Q2:=Lib.hid q2
    clear q2
    obtain⟨c1,f1,s1⟩:=st1.afy (p:=off+k * 3+1) (i':=k * 3+2) (K:=k0+(q:Int)+1) X1.out (by omega) (by omega) (by rw[← Q1.out];try omega)
    have S1:=Lib.hid s1
    clear s1
    have st2:ou w (u0.setCell ⟨g,off+k * 3+1,none⟩ (.int .i64 (k0+(q:Int)+1))) g off F' ds (k * 3+2) k0:=S1.out
    go_upto_region 8 with fail
    clear c1 f1
    obtain⟨u1,hu1⟩:∃ W,W=u0.setCell ⟨g,off+k * 3+1,none⟩ (.int .i64 (k0+(q:Int)+1)):=⟨_,rfl⟩
    rw[← hu1] at st2
    rw[← hu1]
    clear hu1
    clear st1 S1
    have q3:q+1+1+1=PD.bf (ds.take (k * 3+3)):=by have:=gu X2.out;rw[← Q2.out] at this;exact this.symm
    have Q3:=Lib.hid q3
    clear q3
    obtain⟨c2,f2,s2⟩:=st2.afy (p:=off+k * 3+2) (i':=k * 3+3) (K:=k0+(q:Int)+1+1) X2.out (by omega) (by omega) (by rw[← Q2.out];try omega)
    have S2:=Lib.hid s2
    clear s2
    have st3:ou w (u1.setCell ⟨g,off+k * 3+2,none⟩ (.bool ((k0+(q:Int)+1+1) % 3 ==0))) g off F' ds (k * 3+3) k0:=S2.out
    clear st2
    have SE:=Lib.hid st3
    clear st3
    go_wp2_with fail
    go_roundw
    case rel=>exact⟨k+1,q+1+1+1,by omega,by go_num,by go_num,Lib.hid (by rw[Q3.out];congr 2;omega),SE.out.at_ (by omega)⟩
    case measure=>simp[intOf];omega
   ·have hkn:k=n:=by omega
    subst hkn
    have hlen:ds.length=k * 3:=by rw[HD.out,iq Imp.au,HN.out]
    have hq:q=PD.bf ds:=by rw[HQ.out,← hlen,List.take_length]
    have HQ2:=Lib.hid hq
    have HLN:=Lib.hid hlen
    clear hq hlen
    go_wp2_with fail
    go_ret
    refine⟨qg (by rw[HQ2.out];rfl),?_,st0.keep⟩
    rw[PD.mark]
    exact(st0.at_ HLN.out.symm).done rfl (by rw[HLN.out]) hn0 hc (by unfold maxLen;exact hm)
theorem ajk (ts:List Imp):MkR 20 (.row 3 (ts.flatMap Imp.pd)):=aii
def apt:Core→Prop
 | ⟨name,params,locals,result,code⟩=>MkR 46 (.row 2 (code.flatMap Ins.pd))
set_option maxHeartbeats 1600000 in
theorem akm {ts:List Core} (ih:∀ t ∈ ts,apt t):MkR 21 (.row 5 (ts.flatMap Core.pd)):=by
 intro v F w k0 h0 h1 h nd lt
 have hh:=h
 rw[Hold] at hh
 obtain⟨A,n,c,rfl,hl,hc,hm,⟨hn0,rfl⟩|⟨hn0,g,off,F',cs,rfl,rfl,ho,hr⟩⟩:=hh
 ·subst hn0
  have hts:ts.flatMap Core.pd=[]:=List.eq_nil_of_length_eq_zero (by rw[hl];try simp)
  have HT:=Lib.hid hts
  have HH:=Lib.hid h
  clear hl h hts h1
  go_enter Tryz.func21,Tryz.ntmps21
  go_wp2_with fail
  go_loopw [1,5] (fun l i wr=>l=.int .i64 k0∧i=.int .i64 0∧wr=w) (fun _ _ _=>0)
  case atStart=>exact⟨rfl,rfl,rfl⟩
  obtain⟨rfl,rfl,rfl⟩:=hrel
  go_wp2_with fail
  go_ret
  refine⟨qg (by rw[HT.out];simp[PD.cnt,PD.bf]),?_,mg.refl _ _⟩
  have:=HH.out
  rw[HT.out] at this ⊢
  simpa [PD.mark,PD.su] using this
 ·unfold maxLen at hm
  rw[iq Core.au] at hl
  have hn:n=ts.length:=by omega
  have HN:=Lib.hid hn
  have HL:=Lib.hid hl
  have hst:=ou.start (k0:=k0) ho hr nd lt
  rw[PD.cnt] at h1
  have H1:=Lib.hid h1
  have HI:=Lib.hid ih
  clear ih
  clear h ho hr h1 hl hn nd lt
  obtain⟨ds,hds⟩:∃ ds,ds=ts.flatMap Core.pd:=⟨_,rfl⟩
  rw[← hds] at hst ⊢
  have HD:=Lib.hid hds
  clear hds
  go_enter Tryz.func21,Tryz.ntmps21
  go_wp2_with fail
  go_loopw [1,5] (fun l i wr=>∃ (k q:Nat),k≤n∧l=.int .i64 (k0+q)∧i=.int .i64 k∧Hid (q=PD.bf (ds.take (k * 5)))∧ou w wr g off F' ds (k * 5) k0) (fun _ i _=>n - (intOf i).toNat)
  case atStart=>exact⟨0,0,Nat.zero_le _,by simp,rfl,Lib.hid (by simp[PD.bf]),by simpa using hst⟩
  case round=>
   obtain⟨k,q,hk,rfl,rfl,HQ,st0⟩:=hrel
   clear hst
   have hqb:(k0:Int)+q≤1099511627776:=by have:=H1.out;have h2:=pz ds (k * 5);rw[← HQ.out] at h2;rw[← HD.out] at this;omega
   by_cases hlt:k < n
   ·obtain⟨t,hx,hmem⟩:=l7 HN.out hlt
    have HM:=Lib.hid hmem
    clear hmem
    obtain⟨name,params,locals,result,code⟩:=t
    have x0:ds[k * 5+0]?=some (.lit (.string name)):=by rw[HD.out];have:=iw Core.au hx (j:=0) (by decide);rw[this];rw[Core.aj];rfl
    have X0:=Lib.hid x0
    clear x0
    have x1:ds[k * 5+1]?=some (.lit (.int .i64 params)):=by rw[HD.out];have:=iw Core.au hx (j:=1) (by decide);rw[this];rw[Core.aj];rfl
    have X1:=Lib.hid x1
    clear x1
    have x2:ds[k * 5+2]?=some (.lit (.int .i64 locals)):=by rw[HD.out];have:=iw Core.au hx (j:=2) (by decide);rw[this];rw[Core.aj];rfl
    have X2:=Lib.hid x2
    clear x2
    have x3:ds[k * 5+3]?=some (.lit (.bool result)):=by rw[HD.out];have:=iw Core.au hx (j:=3) (by decide);rw[this];rw[Core.aj];rfl
    have X3:=Lib.hid x3
    clear x3
    have x4:ds[k * 5+4]?=some (.row 2 (code.flatMap Ins.pd)):=by rw[HD.out];have:=iw Core.au hx (j:=4) (by decide);rw[this];rw[Core.aj];rfl
    have X4:=Lib.hid x4
    clear x4
    replace st0:=st0.at_ (show k * 5=k * 5+0 from rfl)
    have q0:(q:Nat)=PD.bf (ds.take (k * 5+0)):=HQ.out
    have Q0:=Lib.hid q0
    clear q0 hx
    have q1:q+1=PD.bf (ds.take (k * 5+1)):=by have:=gu X0.out;rw[← Q0.out] at this;exact this.symm
    have Q1:=Lib.hid q1
    clear q1
    have b0:(k0:Int)+((q+1:Nat):Int)≤1099511627776:=by have:=H1.out;have h2:=pz ds (k * 5+1);rw[← Q1.out] at h2;rw[← HD.out] at this;omega
    push_cast at b0
    go_wp2_with fail
    refine(acv _ _ (by omega) (by omega)).mono ?_
    rintro e v0 ⟨rfl,amm⟩
    replace st0:=st0.below amm
    clear amm
    obtain⟨c0,f0,s0⟩:=st0.afy (p:=off+k * 5) (i':=k * 5+1) (K:=k0+(q:Int)) X0.out (by omega) (by omega) (by rw[← Q0.out];try omega)
    have S0:=Lib.hid s0
    clear s0
    have st1:ou w (v0.setCell ⟨g,off+k * 5,none⟩ (.string (markT (k0+(q:Int))))) g off F' ds (k * 5+1) k0:=S0.out
    go_upto_region 6 with fail
    clear c0 f0
    obtain⟨u0,hu0⟩:∃ W,W=v0.setCell ⟨g,off+k * 5,none⟩ (.string (markT (k0+(q:Int)))):=⟨_,rfl⟩
    rw[← hu0] at st1
    rw[← hu0]
    clear hu0
    clear st0 S0
    have q2:q+1+1=PD.bf (ds.take (k * 5+2)):=by have:=gu X1.out;rw[← Q1.out] at this;exact this.symm
    have Q2:=Lib.hid q2
    clear q2
    obtain⟨c1,f1,s1⟩:=st1.afy (p:=off+k * 5+1) (i':=k * 5+2) (K:=k0+(q:Int)+1) X1.out (by omega) (by omega) (by rw[← Q1.out];try omega)
    have S1:=Lib.hid s1
    clear s1
    have st2:ou w (u0.setCell ⟨g,off+k * 5+1,none⟩ (.int .i64 (k0+(q:Int)+1))) g off F' ds (k * 5+2) k0:=S1.out
    go_upto_region 8 with fail
    clear c1 f1
    obtain⟨u1,hu1⟩:∃ W,W=u0.setCell ⟨g,off+k * 5+1,none⟩ (.int .i64 (k0+(q:Int)+1)):=⟨_,rfl⟩
    rw[← hu1] at st2
    rw[← hu1]
    clear hu1
    clear st1 S1
    have q3:q+1+1+1=PD.bf (ds.take (k * 5+3)):=by have:=gu X2.out;rw[← Q2.out] at this;exact this.symm
    have Q3:=Lib.hid q3
    clear q3
    obtain⟨c2,f2,s2⟩:=st2.afy (p:=off+k * 5+2) (i':=k * 5+3) (K:=k0+(q:Int)+1+1) X2.out (by omega) (by omega) (by rw[← Q2.out];try omega)
    have S2:=Lib.hid s2
    clear s2
    have st3:ou w (u1.setCell ⟨g,off+k * 5+2,none⟩ (.int .i64 (k0+(q:Int)+1+1))) g off F' ds (k * 5+3) k0:=S2.out
    go_upto_region 10 with fail
    clear c2 f2
    obtain⟨u2,hu2⟩:∃ W,W=u1.setCell ⟨g,off+k * 5+2,none⟩ (.int .i64 (k0+(q:Int)+1+1)):=⟨_,rfl⟩
    rw[← hu2] at st3
    rw[← hu2]
    clear hu2
    clear st2 S2
    have q4:q+1+1+1+1=PD.bf (ds.take (k * 5+4)):=by have:=gu X3.out;rw[← Q3.out] at this;exact this.symm
    have Q4:=Lib.hid q4
    clear q4
    obtain⟨c3,f3,s3⟩:=st3.afy (p:=off+k * 5+3) (i':=k * 5+4) (K:=k0+(q:Int)+1+1+1) X3.out (by omega) (by omega) (by rw[← Q3.out];try omega)
    have S3:=Lib.hid s3
    clear s3
    have st4:ou w (u2.setCell ⟨g,off+k * 5+3,none⟩ (.bool ((k0+(q:Int)+1+1+1) % 3 ==0))) g off F' ds (k * 5+4) k0:=S3.out
    go_upto_region 12 with fail
    clear c3 f3
    obtain⟨u3,hu3⟩:∃ W,W=u2.setCell ⟨g,off+k * 5+3,none⟩ (.bool ((k0+(q:Int)+1+1+1) % 3 ==0)):=⟨_,rfl⟩
    rw[← hu3] at st4
    rw[← hu3]
    clear hu3
    clear st3 S3
    obtain⟨cv4,F4,c4,hh4,nd4,lt4,nx4⟩:=st4.row' (p:=off+k * 5+4) (i':=k * 5+5) (K:=k0+(q:Int)+1+1+1+1) X4.out (by omega) (by omega) (by rw[← Q4.out];try omega)
    obtain⟨A4,n4,e4,rfl⟩:=hh4.form
    have z4:=gu X4.out
    rw[← Q4.out] at z4
    have b4:(k0:Int)+PD.bf (ds.take (k * 5+5))≤1099511627776:=by have:=H1.out;have h2:=pz ds (k * 5+5);rw[← HD.out] at this;omega
    obtain⟨y4,hy4⟩:∃ y:Nat,y=(PD.row 2 (code.flatMap Ins.pd)).cnt:=⟨_,rfl⟩
    rw[z4,← hy4] at b4
    have q5:q+1+1+1+1+y4=PD.bf (ds.take (k * 5+5)):=by rw[z4,hy4]
    have Q5:=Lib.hid q5
    have NX4:=Lib.hid nx4
    have HH4:=Lib.hid hh4
    have ND4:=Lib.hid nd4
    have LT4:=Lib.hid lt4
    have HY4:=Lib.hid hy4
    clear nx4 hh4 nd4 lt4 hy4 z4 q5 st4
    go_wp2_with fail
    refine((HI.out _ HM.out) (.slice A4 n4 e4) F4 _ (k0+(q:Int)+1+1+1+1) (by omega) (by rw[← HY4.out];push_cast at b4 ⊢;omega) HH4.out ND4.out LT4.out).mono ?_
    rintro e v4 ⟨rfl,hq4,kq4⟩
    rw[← HY4.out]
    have st5:=NX4.out v4 kq4 hq4
    clear hq4 kq4 c4
    have SE:=Lib.hid st5
    clear st5
    go_wp2_with fail
    go_roundw
    case rel=>exact⟨k+1,q+1+1+1+1+y4,by omega,by go_num,by go_num,Lib.hid (by rw[Q5.out];congr 2;omega),SE.out.at_ (by omega)⟩
    case measure=>simp[intOf];omega
   ·have hkn:k=n:=by omega
    subst hkn
    have hlen:ds.length=k * 5:=by rw[HD.out,iq Core.au,HN.out]
    have hq:q=PD.bf ds:=by rw[HQ.out,← hlen,List.take_length]
    have HQ2:=Lib.hid hq
    have HLN:=Lib.hid hlen
    clear hq hlen
    go_wp2_with fail
    go_ret
    refine⟨qg (by rw[HQ2.out];rfl),?_,st0.keep⟩
    rw[PD.mark]
    exact(st0.at_ HLN.out.symm).done rfl (by rw[HLN.out]) hn0 hc (by unfold maxLen;exact hm)
theorem al5 (ts:List Core):MkR 21 (.row 5 (ts.flatMap Core.pd)):=akm fun t _=>by obtain⟨name,params,locals,result,code⟩:=t;exact aml code
set_option maxHeartbeats 1600000 in
theorem ajl {pages:Int} {imports:List Imp} {cores:List Core} (acu:MkR 20 (.row 3 (imports.flatMap Imp.pd))) (aeg:MkR 21 (.row 5 (cores.flatMap Core.pd))):MkC 7 (Mod.pd ⟨pages,imports,cores⟩):=by
 intro us F w k0 h0 h1 h nd lt
 rw[Mod.aj] at h h1 ⊢
 have hh:=h
 obtain⟨v0,us1,F0a,F0b,hu0,_,e0,hh1⟩:=ah.acp hh
 subst hu0
 obtain⟨rfl,_⟩:=Hold.uo e0
 obtain⟨v1,us2,F1a,F1b,hu1,_,e1,hh2⟩:=ah.acp hh1
 subst hu1
 obtain⟨ac7,ac8,ac9,rfl⟩:=e1.form
 clear e1
 obtain⟨v2,us3,F2a,F2b,hu2,_,e2,hh3⟩:=ah.acp hh2
 subst hu2
 obtain⟨aeb,aec,aed,rfl⟩:=e2.form
 clear e2
 have hz:=hh3
 rw[ah] at hz
 obtain⟨rfl,_⟩:=hz
 clear hh1 hh2 hh3
 clear hh
 have st:=acr.start (k0:=k0) h nd lt
 clear h nd
 simp only[qh] at h1 ⊢
 obtain⟨ab5,aaq⟩:∃ y:Nat,y=PD.bf (imports.flatMap Imp.pd):=⟨_,rfl⟩
 rw[← aaq] at h1 ⊢
 have ab6:=Lib.hid aaq
 clear aaq
 obtain⟨ao0,abj⟩:∃ y:Nat,y=PD.bf (cores.flatMap Core.pd):=⟨_,rfl⟩
 rw[← abj] at h1 ⊢
 have afl:=Lib.hid abj
 clear abj
 have LT:=Lib.hid lt
 clear lt
 go_enter Tryz.func7,Tryz.ntmps7
 go_wp2_with fail
 obtain⟨w0,hw0⟩:∃ w0,w0=w.alloc (.cells #[.int .i64 pages,.slice ac7 ac8 ac9,.slice aeb aec aed] 25):=⟨_,rfl⟩
 rw[← hw0]
 have bA:Blk w0 w.heap.size 25 #[.int .i64 pages,.slice ac7 ac8 ac9,.slice aeb aec aed]:=by rw[hw0];exact Blk.new w _ _
 have hB0:Below w.heap.size w w0:=by rw[hw0];exact(Below.refl _ _).alloc (Nat.le_refl _) _
 clear hw0
 replace st:=st.below hB0
 clear hB0
 replace st:=st.skip (u:=.int .i64 pages) rfl
 obtain⟨F0,hh0,nd0,lt0,lo0,nx0⟩:=st.part (es:=[.row 3 (imports.flatMap Imp.pd)]) (i':=2) (K:=k0) rfl rfl (by simp[qh])
 replace hh0:=ah.one hh0
 refine(acu (.slice ac7 ac8 ac9) F0 _ (k0) (by omega) (by rw[PD.cnt,← ab6.out];omega) hh0 nd0 lt0).mono ?_
 rintro e w1 ⟨rfl,hq0,kq0⟩
 rw[PD.cnt,← ab6.out]
 replace st:=nx0 w1 kq0 (by have:=ah.aqs hq0;rw[PD.mark] at this;exact this)
 replace bA:=bA.ame kq0 (fun hm=>by have:=lo0 _ hm;omega)
 clear hh0 hq0 kq0 nd0 lt0 lo0 nx0
 have akn:w1.cell? ⟨w.heap.size,2,none⟩=some (.slice aeb aec aed):=bA.cell 2
 have ST:=Lib.hid st
 clear st
 go_wp2_with fail
 have st:=ST.out
 clear ST
 obtain⟨F1,hh1,nd1,lt1,lo1,nx1⟩:=st.part (es:=[.row 5 (cores.flatMap Core.pd)]) (i':=3) (K:=k0+(ab5:Int)) rfl rfl (by simp[qh,ab6.out])
 replace hh1:=ah.one hh1
 refine(aeg (.slice aeb aec aed) F1 _ (k0+(ab5:Int)) (by omega) (by rw[PD.cnt,← afl.out];omega) hh1 nd1 lt1).mono ?_
 rintro e w2 ⟨rfl,hq1,kq1⟩
 rw[PD.cnt,← afl.out]
 replace st:=nx1 w2 kq1 (by have:=ah.aqs hq1;rw[PD.mark] at this;exact this)
 replace bA:=bA.ame kq1 (fun hm=>by have:=lo1 _ hm;omega)
 clear hh1 hq1 kq1 nd1 lt1 lo1 nx1
 have ST:=Lib.hid st
 clear st
 go_wp2_with fail
 go_ret
 have st:=ST.out
 exact⟨qg (by push_cast;omega),st.done,st.keep⟩
theorem ako (t:Mod):MkC 7 (Mod.pd t):=by obtain⟨pages,imports,cores⟩:=t;exact ajl (ajk imports) (al5 cores)
end Go.Proofs.YtlpcocfadppkhaaGreatDoor
