/-
  The laws' own helpers 'mk..' over the program's types (by program: tygen2.py, tyfam.py).
-/
import Derived.Test.YtfpannkadjdnaaaGreatDoorTa04
import Derived.Test.YtfpannkadjdnaaaGreatDoorTa07
import Derived.Deep.Cut
namespace Go.Proofs.YtfpannkadjdnaaaGreatDoor
open Go.RowKit
set_option linter.all false
set_option maxRecDepth 100000
set_option maxHeartbeats 1600000 in
theorem asr {ts:List ByteArray}:MkR 33 (.row 1 (ts.flatMap aam)):=by
 intro v F w k0 h0 h1 h nd lt;have hh:=h;rw[Hold] at hh;obtain⟨A,n,c,rfl,hl,hc,hm,⟨hn0,rfl⟩|⟨hn0,g,off,F',cs,rfl,rfl,ho,hr⟩⟩:=hh
 ·subst hn0
  have hts:ts.flatMap aam=[]:=List.eq_nil_of_length_eq_zero (by rw[hl];try simp);have HT:=zqd hts;have HH:=zqd h;clear hl h hts h1;go_enter Tryz.func33,Tryz.ntmps33
  go_wp2_with fail
  go_loopw [1,5] (fun l i wr=>l=.int .i64 k0∧i=.int .i64 0∧wr=w) (fun _ _ _=>0)
  case atStart=>exact⟨rfl,rfl,rfl⟩
  obtain⟨rfl,rfl,rfl⟩:=hrel;go_wp2_with fail
  go_ret
  refine⟨aa2 (by rw[HT.out];simp[PD.cnt,PD.zq]),?_,ad5.refl _ _⟩;have:=HH.out;rw[HT.out] at this ⊢;simpa [PD.mark,PD.aez] using this
 ·unfold maxLen at hm
  rw[abx jo] at hl;have hn:n=ts.length:=by omega
  have HN:=zqd hn;have HL:=zqd hl;have hst:=ae2.start (k0:=k0) ho hr nd lt;rw[PD.cnt] at h1;have H1:=zqd h1;clear h ho hr h1 hl hn nd lt;obtain⟨ds,hds⟩:∃ ds,ds=ts.flatMap aam:=⟨_,rfl⟩;rw[← hds] at hst ⊢;have HD:=zqd hds;clear hds;go_enter Tryz.func33,Tryz.ntmps33
  go_wp2_with fail
  go_loopw [1,5] (fun l i wr=>∃ (k q:Nat),k≤n∧l=.int .i64 (k0+q)∧i=.int .i64 k∧Hid (q=PD.zq (ds.take (k)))∧ae2 w wr g off F' ds (k) k0) (fun _ i _=>n - (intOf i).toNat)
  case atStart=>exact⟨0,0,Nat.zero_le _,by simp,rfl,zqd (by simp[PD.zq]),by simpa using hst⟩
  case round=>
   obtain⟨k,q,hk,rfl,rfl,HQ,st0⟩:=hrel;clear hst;have hqb:(k0:Int)+q≤1099511627776:=by have:=H1.out;have h2:=aeg ds (k);rw[← HQ.out] at h2;rw[← HD.out] at this;omega
   by_cases hlt:k < n
   ·obtain⟨t,hx,hmem⟩:=uo HN.out hlt
    have HM:=zqd hmem;clear hmem;have x0:ds[k]?=some (.lit (.string t)):=by rw[HD.out];have:=adn jo hx (j:=0) (by decide);simp only[Nat.mul_one,Nat.add_zero] at this;rw[this];rfl
    have X0:=zqd x0;clear x0;have q0:(q:Nat)=PD.zq (ds.take k):=HQ.out;have Q0:=zqd q0;clear q0 hx;have q1:q+1=PD.zq (ds.take (k+1)):=by have:=ac6 X0.out;rw[← Q0.out] at this;exact this.symm
    have Q1:=zqd q1;clear q1;have b0:(k0:Int)+((q+1:Nat):Int)≤1099511627776:=by have:=H1.out;have h2:=aeg ds (k+1);rw[← Q1.out] at h2;rw[← HD.out] at this;omega
    push_cast at b0
    go_wp2_with fail
    refine(ak3 _ _ (by omega) (by omega)).mono ?_;rintro e v0 ⟨rfl,bsp⟩;replace st0:=st0.below bsp;clear bsp;obtain⟨c0,f0,s0⟩:=st0.avb (p:=off+k) (i':=k+1) (K:=k0+(q:Int)) X0.out (by omega) (by omega) (by rw[← Q0.out];try omega);have S0:=zqd s0;clear s0;have st1:ae2 w (v0.setCell ⟨g,off+k,none⟩ (.string (markT (k0+(q:Int))))) g off F' ds (k+1) k0:=S0.out;clear st0;have SE:=zqd st1;clear st1;go_wp2_with fail
    go_roundw
    case rel=>exact⟨k+1,q+1,by omega,by go_num,by go_num,zqd (by rw[Q1.out]),SE.out.at_ (by omega)⟩
    case measure=>simp[intOf];omega
   ·have hkn:k=n:=by omega
    subst hkn;have hlen:ds.length=k:=by rw[HD.out,abx jo,HN.out];omega
    have hq:q=PD.zq ds:=by rw[HQ.out,← hlen,List.take_length]
    have HQ2:=zqd hq;have HLN:=zqd hlen;clear hq hlen;go_wp2_with fail
    go_ret
    refine⟨aa2 (by rw[HQ2.out];rfl),?_,st0.keep⟩;rw[PD.mark];exact(st0.at_ HLN.out.symm).done rfl (by rw[HLN.out];omega) hn0 hc (by unfold maxLen;exact hm)
theorem ak4 (ts:List ByteArray):MkR 33 (.row 1 (ts.flatMap aam)):=asr
def ao6:Ty→Prop
 | ⟨kind,name,labels,kids⟩=>MkR 33 (.row 1 (labels.flatMap aam))∧MkR 34 (.row 4 (kids.flatMap Ty.pd))
set_option maxHeartbeats 1600000 in
theorem aor {ts:List Ty} (ih:∀ t ∈ ts,ao6 t):MkR 34 (.row 4 (ts.flatMap Ty.pd)):=by
 intro v F w k0 h0 h1 h nd lt;have hh:=h;rw[Hold] at hh;obtain⟨A,n,c,rfl,hl,hc,hm,⟨hn0,rfl⟩|⟨hn0,g,off,F',cs,rfl,rfl,ho,hr⟩⟩:=hh
 ·subst hn0
  have hts:ts.flatMap Ty.pd=[]:=List.eq_nil_of_length_eq_zero (by rw[hl];try simp);have HT:=zqd hts;have HH:=zqd h;clear hl h hts h1;go_enter Tryz.func34,Tryz.ntmps34
  go_wp2_with fail
  go_loopw [1,5] (fun l i wr=>l=.int .i64 k0∧i=.int .i64 0∧wr=w) (fun _ _ _=>0)
  case atStart=>exact⟨rfl,rfl,rfl⟩
  obtain⟨rfl,rfl,rfl⟩:=hrel;go_wp2_with fail
  go_ret
  refine⟨aa2 (by rw[HT.out];simp[PD.cnt,PD.zq]),?_,ad5.refl _ _⟩;have:=HH.out;rw[HT.out] at this ⊢;simpa [PD.mark,PD.aez] using this
 ·unfold maxLen at hm
  rw[abx Ty.ay] at hl;have hn:n=ts.length:=by omega
  have HN:=zqd hn;have HL:=zqd hl;have hst:=ae2.start (k0:=k0) ho hr nd lt;rw[PD.cnt] at h1;have H1:=zqd h1;have HI:=zqd ih;clear ih;clear h ho hr h1 hl hn nd lt;obtain⟨ds,hds⟩:∃ ds,ds=ts.flatMap Ty.pd:=⟨_,rfl⟩;rw[← hds] at hst ⊢;have HD:=zqd hds;clear hds;go_enter Tryz.func34,Tryz.ntmps34
  go_wp2_with fail
  go_loopw [1,5] (fun l i wr=>∃ (k q:Nat),k≤n∧l=.int .i64 (k0+q)∧i=.int .i64 k∧Hid (q=PD.zq (ds.take (k * 4)))∧ae2 w wr g off F' ds (k * 4) k0) (fun _ i _=>n - (intOf i).toNat)
  case atStart=>exact⟨0,0,Nat.zero_le _,by simp,rfl,zqd (by simp[PD.zq]),by simpa using hst⟩
  case round=>
   obtain⟨k,q,hk,rfl,rfl,HQ,st0⟩:=hrel;clear hst;have hqb:(k0:Int)+q≤1099511627776:=by have:=H1.out;have h2:=aeg ds (k * 4);rw[← HQ.out] at h2;rw[← HD.out] at this;omega
   by_cases hlt:k < n
   ·obtain⟨t,hx,hmem⟩:=uo HN.out hlt
    have HM:=zqd hmem;clear hmem;obtain⟨kind,name,labels,kids⟩:=t;have x0:ds[k * 4+0]?=some (.lit (.int .i64 kind)):=by rw[HD.out];have:=adn Ty.ay hx (j:=0) (by decide);rw[this];rw[Ty.ji];rfl
    have X0:=zqd x0;clear x0;have x1:ds[k * 4+1]?=some (.lit (.string name)):=by rw[HD.out];have:=adn Ty.ay hx (j:=1) (by decide);rw[this];rw[Ty.ji];rfl
    have X1:=zqd x1;clear x1;have x2:ds[k * 4+2]?=some (.row 1 (labels.flatMap aam)):=by rw[HD.out];have:=adn Ty.ay hx (j:=2) (by decide);rw[this];rw[Ty.ji];rfl
    have X2:=zqd x2;clear x2;have x3:ds[k * 4+3]?=some (.row 4 (kids.flatMap Ty.pd)):=by rw[HD.out];have:=adn Ty.ay hx (j:=3) (by decide);rw[this];rw[Ty.ji];rfl
    have X3:=zqd x3;clear x3;replace st0:=st0.at_ (show k * 4=k * 4+0 from rfl);have q0:(q:Nat)=PD.zq (ds.take (k * 4+0)):=HQ.out;have Q0:=zqd q0;clear q0 hx;have q1:q+1=PD.zq (ds.take (k * 4+1)):=by have:=ac6 X0.out;rw[← Q0.out] at this;exact this.symm
    have Q1:=zqd q1;clear q1;obtain⟨c0,f0,s0⟩:=st0.avb (p:=off+k * 4) (i':=k * 4+1) (K:=k0+(q:Int)) X0.out (by omega) (by omega) (by rw[← Q0.out];try omega);have S0:=zqd s0;clear s0;have st1:ae2 w (wr.setCell ⟨g,off+k * 4,none⟩ (.int .i64 (k0+(q:Int)))) g off F' ds (k * 4+1) k0:=S0.out;go_upto_region 6 with fail
    clear c0 f0;obtain⟨u0,hu0⟩:∃ W,W=wr.setCell ⟨g,off+k * 4,none⟩ (.int .i64 (k0+(q:Int))):=⟨_,rfl⟩;rw[← hu0] at st1;rw[← hu0];clear hu0;clear st0 S0;have q2:q+1+1=PD.zq (ds.take (k * 4+2)):=by have:=ac6 X1.out;rw[← Q1.out] at this;exact this.symm
    have Q2:=zqd q2;clear q2;have b1:(k0:Int)+((q+1+1:Nat):Int)≤1099511627776:=by have:=H1.out;have h2:=aeg ds (k * 4+2);rw[← Q2.out] at h2;rw[← HD.out] at this;omega
    push_cast at b1
    go_wp2_with fail
    refine(ak3 _ _ (by omega) (by omega)).mono ?_;rintro e v1 ⟨rfl,bsq⟩;replace st1:=st1.below bsq;clear bsq;obtain⟨c1,f1,s1⟩:=st1.avb (p:=off+k * 4+1) (i':=k * 4+2) (K:=k0+(q:Int)+1) X1.out (by omega) (by omega) (by rw[← Q1.out];try omega);have S1:=zqd s1;clear s1;have st2:ae2 w (v1.setCell ⟨g,off+k * 4+1,none⟩ (.string (markT (k0+(q:Int)+1)))) g off F' ds (k * 4+2) k0:=S1.out;go_upto_region 8 with fail
    clear c1 f1;obtain⟨u1,hu1⟩:∃ W,W=v1.setCell ⟨g,off+k * 4+1,none⟩ (.string (markT (k0+(q:Int)+1))):=⟨_,rfl⟩;rw[← hu1] at st2;rw[← hu1];clear hu1;clear st1 S1;obtain⟨cv2,F2,c2,hh2,nd2,lt2,nx2⟩:=st2.row' (p:=off+k * 4+2) (i':=k * 4+3) (K:=k0+(q:Int)+1+1) X2.out (by omega) (by omega) (by rw[← Q2.out];try omega);obtain⟨A2,n2,e2,rfl⟩:=hh2.form;have z2:=ac6 X2.out;rw[← Q2.out] at z2;have b2:(k0:Int)+PD.zq (ds.take (k * 4+3))≤1099511627776:=by have:=H1.out;have h2:=aeg ds (k * 4+3);rw[← HD.out] at this;omega
    obtain⟨y2,hy2⟩:∃ y:Nat,y=(PD.row 1 (labels.flatMap aam)).cnt:=⟨_,rfl⟩;rw[z2,← hy2] at b2;have q3:q+1+1+y2=PD.zq (ds.take (k * 4+3)):=by rw[z2,hy2]
    have Q3:=zqd q3;have NX2:=zqd nx2;have HH2:=zqd hh2;have ND2:=zqd nd2;have LT2:=zqd lt2;have HY2:=zqd hy2;clear nx2 hh2 nd2 lt2 hy2 z2 q3 st2;go_wp2_with fail
    refine(ak4 _ (.slice A2 n2 e2) F2 _ (k0+(q:Int)+1+1) (by omega) (by rw[← HY2.out];push_cast at b2 ⊢;omega) HH2.out ND2.out LT2.out).mono ?_;rintro e v2 ⟨rfl,hq2,kq2⟩;rw[← HY2.out];have st3:=NX2.out v2 kq2 hq2;clear hq2 kq2 c2;obtain⟨cv3,F3,c3,hh3,nd3,lt3,nx3⟩:=st3.row' (p:=off+k * 4+3) (i':=k * 4+4) (K:=k0+(q:Int)+1+1+(y2:Int)) X3.out (by omega) (by omega) (by rw[← Q3.out];try omega);obtain⟨A3,n3,e3,rfl⟩:=hh3.form;have z3:=ac6 X3.out;rw[← Q3.out] at z3;have b3:(k0:Int)+PD.zq (ds.take (k * 4+4))≤1099511627776:=by have:=H1.out;have h2:=aeg ds (k * 4+4);rw[← HD.out] at this;omega
    obtain⟨y3,hy3⟩:∃ y:Nat,y=(PD.row 4 (kids.flatMap Ty.pd)).cnt:=⟨_,rfl⟩;rw[z3,← hy3] at b3;have q4:q+1+1+y2+y3=PD.zq (ds.take (k * 4+4)):=by rw[z3,hy3]
    have Q4:=zqd q4;have NX3:=zqd nx3;have HH3:=zqd hh3;have ND3:=zqd nd3;have LT3:=zqd lt3;have HY3:=zqd hy3;clear nx3 hh3 nd3 lt3 hy3 z3 q4 st3;go_wp2_with fail
    refine((HI.out _ HM.out).2 (.slice A3 n3 e3) F3 _ (k0+(q:Int)+1+1+(y2:Int)) (by omega) (by rw[← HY3.out];push_cast at b3 ⊢;omega) HH3.out ND3.out LT3.out).mono ?_;rintro e v3 ⟨rfl,hq3,kq3⟩;rw[← HY3.out];have st4:=NX3.out v3 kq3 hq3;clear hq3 kq3 c3;have SE:=zqd st4;clear st4;go_wp2_with fail
    go_roundw
    case rel=>exact⟨k+1,q+1+1+y2+y3,by omega,by go_num,by go_num,zqd (by rw[Q4.out];congr 2;omega),SE.out.at_ (by omega)⟩
    case measure=>simp[intOf];omega
   ·have hkn:k=n:=by omega
    subst hkn;have hlen:ds.length=k * 4:=by rw[HD.out,abx Ty.ay,HN.out]
    have hq:q=PD.zq ds:=by rw[HQ.out,← hlen,List.take_length]
    have HQ2:=zqd hq;have HLN:=zqd hlen;clear hq hlen;go_wp2_with fail
    go_ret
    refine⟨aa2 (by rw[HQ2.out];rfl),?_,st0.keep⟩;rw[PD.mark];exact(st0.at_ HLN.out.symm).done rfl (by rw[HLN.out]) hn0 hc (by unfold maxLen;exact hm)
mutual
theorem axk:∀ t:Ty,ao6 t
 | .mk kind name labels kids=>⟨ak4 labels,aor (am6 kids)⟩
theorem am6:∀ ts:List Ty,∀ t ∈ ts,ao6 t
 | [],x,hx=>absurd hx (by simp)
 | t ::r,x,hx=>(List.mem_cons.1 hx).elim (fun e=>e ▸ axk t) (fun h=>am6 r x h)
end
theorem axl (ts:List Ty):MkR 34 (.row 4 (ts.flatMap Ty.pd)):=aor (am6 ts)
set_option maxHeartbeats 1600000 in
theorem axm {kind:Int} {name:ByteArray} {labels:List ByteArray} {kids:List Ty} (ai5:MkR 33 (.row 1 (labels.flatMap aam))) (afq:MkR 34 (.row 4 (kids.flatMap Ty.pd))):MkC 13 (Ty.pd ⟨kind,name,labels,kids⟩):=by
 intro us F w k0 h0 h1 h nd lt;rw[Ty.ji] at h h1 ⊢;have hh:=h;obtain⟨v0,us1,F0a,F0b,hu0,_,e0,hh1⟩:=ni.ahl hh;subst hu0;obtain⟨rfl,_⟩:=Hold.ab2 e0;obtain⟨v1,us2,F1a,F1b,hu1,_,e1,hh2⟩:=ni.ahl hh1;subst hu1;obtain⟨rfl,_⟩:=Hold.ab2 e1;obtain⟨v2,us3,F2a,F2b,hu2,_,e2,hh3⟩:=ni.ahl hh2;subst hu2;obtain⟨jy,jc,jl,rfl⟩:=e2.form;clear e2;obtain⟨v3,us4,F3a,F3b,hu3,_,e3,hh4⟩:=ni.ahl hh3;subst hu3;obtain⟨l9,iq,ku,rfl⟩:=e3.form;clear e3;have hz:=hh4;rw[ni] at hz;obtain⟨rfl,_⟩:=hz;clear hh1 hh2 hh3 hh4;clear hh;have st:=aj2.start (k0:=k0) h nd lt;clear h nd;simp only[ab8] at h1 ⊢;obtain⟨qc,aqb⟩:∃ y:Nat,y=PD.zq (labels.flatMap aam):=⟨_,rfl⟩;rw[← aqb] at h1 ⊢;have asu:=zqd aqb;clear aqb;obtain⟨um,ahj⟩:∃ y:Nat,y=PD.zq (kids.flatMap Ty.pd):=⟨_,rfl⟩;rw[← ahj] at h1 ⊢;have al8:=zqd ahj;clear ahj;have LT:=zqd lt;clear lt;go_enter Tryz.func13,Tryz.ntmps13
 go_wp2_with fail
 obtain⟨w0,hw0⟩:∃ w0,w0=w.alloc (.cells #[.int .i64 kind,.string name,.slice jy jc jl,.slice l9 iq ku] 39):=⟨_,rfl⟩;rw[← hw0];have bA:=zqn hw0;have hB0:=zqb hw0;clear hw0;replace st:=st.below hB0;clear hB0;replace st:=st.skip (u:=.int .i64 kind) rfl;replace st:=st.skip (u:=.string name) rfl;obtain⟨F0,hh0,nd0,lt0,lo0,nx0⟩:=st.part (es:=[.row 1 (labels.flatMap aam)]) (i':=3) (K:=k0) rfl rfl (by simp[ab8]);replace hh0:=ni.one hh0;refine(ai5 (.slice jy jc jl) F0 _ (k0) (by omega) (by rw[PD.cnt,← asu.out];omega) hh0 nd0 lt0).mono ?_;rintro e w1 ⟨rfl,hq0,kq0⟩;rw[PD.cnt,← asu.out];replace st:=nx0 w1 kq0 (by have:=ni.ayg hq0;rw[PD.mark] at this;exact this);replace bA:=bA.ads kq0 (fun hm=>by have:=lo0 _ hm;omega);clear hh0 hq0 kq0 nd0 lt0 lo0 nx0;have abt:w1.cell? ⟨w.heap.size,3,none⟩=some (.slice l9 iq ku):=bA.cell 3;have ST:=zqd st;clear st;go_wp2_with fail
 have st:=ST.out;clear ST;obtain⟨F1,hh1,nd1,lt1,lo1,nx1⟩:=st.part (es:=[.row 4 (kids.flatMap Ty.pd)]) (i':=4) (K:=k0+(qc:Int)) rfl rfl (by simp[ab8,asu.out]);replace hh1:=ni.one hh1;refine(afq (.slice l9 iq ku) F1 _ (k0+(qc:Int)) (by omega) (by rw[PD.cnt,← al8.out];omega) hh1 nd1 lt1).mono ?_;rintro e w2 ⟨rfl,hq1,kq1⟩;rw[PD.cnt,← al8.out];replace st:=nx1 w2 kq1 (by have:=ni.ayg hq1;rw[PD.mark] at this;exact this);replace bA:=bA.ads kq1 (fun hm=>by have:=lo1 _ hm;omega);clear hh1 hq1 kq1 nd1 lt1 lo1 nx1;have ST:=zqd st;clear st;go_wp2_with fail
 go_ret
 have st:=ST.out;exact⟨aa2 (by push_cast;omega),st.done,st.keep⟩
theorem aqc (t:Ty):MkC 13 (Ty.pd t):=by obtain⟨kind,name,labels,kids⟩:=t;exact axm (ak4 labels) (axl kids)
def aog:Val→Prop
 | ⟨kind,num,text,kids⟩=>MkR 32 (.row 4 (kids.flatMap Val.pd))
set_option maxHeartbeats 1600000 in
theorem anz {ts:List Val} (ih:∀ t ∈ ts,aog t):MkR 32 (.row 4 (ts.flatMap Val.pd)):=by
 intro v F w k0 h0 h1 h nd lt;have hh:=h;rw[Hold] at hh;obtain⟨A,n,c,rfl,hl,hc,hm,⟨hn0,rfl⟩|⟨hn0,g,off,F',cs,rfl,rfl,ho,hr⟩⟩:=hh
 ·subst hn0
  have hts:ts.flatMap Val.pd=[]:=List.eq_nil_of_length_eq_zero (by rw[hl];try simp);have HT:=zqd hts;have HH:=zqd h;clear hl h hts h1;go_enter Tryz.func32,Tryz.ntmps32
  go_wp2_with fail
  go_loopw [1,5] (fun l i wr=>l=.int .i64 k0∧i=.int .i64 0∧wr=w) (fun _ _ _=>0)
  case atStart=>exact⟨rfl,rfl,rfl⟩
  obtain⟨rfl,rfl,rfl⟩:=hrel;go_wp2_with fail
  go_ret
  refine⟨aa2 (by rw[HT.out];simp[PD.cnt,PD.zq]),?_,ad5.refl _ _⟩;have:=HH.out;rw[HT.out] at this ⊢;simpa [PD.mark,PD.aez] using this
 ·unfold maxLen at hm
  rw[abx Val.ay] at hl;have hn:n=ts.length:=by omega
  have HN:=zqd hn;have HL:=zqd hl;have hst:=ae2.start (k0:=k0) ho hr nd lt;rw[PD.cnt] at h1;have H1:=zqd h1;have HI:=zqd ih;clear ih;clear h ho hr h1 hl hn nd lt;obtain⟨ds,hds⟩:∃ ds,ds=ts.flatMap Val.pd:=⟨_,rfl⟩;rw[← hds] at hst ⊢;have HD:=zqd hds;clear hds;go_enter Tryz.func32,Tryz.ntmps32
  go_wp2_with fail
  go_loopw [1,5] (fun l i wr=>∃ (k q:Nat),k≤n∧l=.int .i64 (k0+q)∧i=.int .i64 k∧Hid (q=PD.zq (ds.take (k * 4)))∧ae2 w wr g off F' ds (k * 4) k0) (fun _ i _=>n - (intOf i).toNat)
  case atStart=>exact⟨0,0,Nat.zero_le _,by simp,rfl,zqd (by simp[PD.zq]),by simpa using hst⟩
  case round=>
   obtain⟨k,q,hk,rfl,rfl,HQ,st0⟩:=hrel;clear hst;have hqb:(k0:Int)+q≤1099511627776:=by have:=H1.out;have h2:=aeg ds (k * 4);rw[← HQ.out] at h2;rw[← HD.out] at this;omega
   by_cases hlt:k < n
   ·obtain⟨t,hx,hmem⟩:=uo HN.out hlt
    have HM:=zqd hmem;clear hmem;obtain⟨kind,num,text,kids⟩:=t;have x0:ds[k * 4+0]?=some (.lit (.int .i64 kind)):=by rw[HD.out];have:=adn Val.ay hx (j:=0) (by decide);rw[this];rw[Val.ji];rfl
    have X0:=zqd x0;clear x0;have x1:ds[k * 4+1]?=some (.lit (.int .i64 num)):=by rw[HD.out];have:=adn Val.ay hx (j:=1) (by decide);rw[this];rw[Val.ji];rfl
    have X1:=zqd x1;clear x1;have x2:ds[k * 4+2]?=some (.lit (.string text)):=by rw[HD.out];have:=adn Val.ay hx (j:=2) (by decide);rw[this];rw[Val.ji];rfl
    have X2:=zqd x2;clear x2;have x3:ds[k * 4+3]?=some (.row 4 (kids.flatMap Val.pd)):=by rw[HD.out];have:=adn Val.ay hx (j:=3) (by decide);rw[this];rw[Val.ji];rfl
    have X3:=zqd x3;clear x3;replace st0:=st0.at_ (show k * 4=k * 4+0 from rfl);have q0:(q:Nat)=PD.zq (ds.take (k * 4+0)):=HQ.out;have Q0:=zqd q0;clear q0 hx;have q1:q+1=PD.zq (ds.take (k * 4+1)):=by have:=ac6 X0.out;rw[← Q0.out] at this;exact this.symm
    have Q1:=zqd q1;clear q1;obtain⟨c0,f0,s0⟩:=st0.avb (p:=off+k * 4) (i':=k * 4+1) (K:=k0+(q:Int)) X0.out (by omega) (by omega) (by rw[← Q0.out];try omega);have S0:=zqd s0;clear s0;have st1:ae2 w (wr.setCell ⟨g,off+k * 4,none⟩ (.int .i64 (k0+(q:Int)))) g off F' ds (k * 4+1) k0:=S0.out;go_upto_region 6 with fail
    clear c0 f0;obtain⟨u0,hu0⟩:∃ W,W=wr.setCell ⟨g,off+k * 4,none⟩ (.int .i64 (k0+(q:Int))):=⟨_,rfl⟩;rw[← hu0] at st1;rw[← hu0];clear hu0;clear st0 S0;have q2:q+1+1=PD.zq (ds.take (k * 4+2)):=by have:=ac6 X1.out;rw[← Q1.out] at this;exact this.symm
    have Q2:=zqd q2;clear q2;obtain⟨c1,f1,s1⟩:=st1.avb (p:=off+k * 4+1) (i':=k * 4+2) (K:=k0+(q:Int)+1) X1.out (by omega) (by omega) (by rw[← Q1.out];try omega);have S1:=zqd s1;clear s1;have st2:ae2 w (u0.setCell ⟨g,off+k * 4+1,none⟩ (.int .i64 (k0+(q:Int)+1))) g off F' ds (k * 4+2) k0:=S1.out;go_upto_region 8 with fail
    clear c1 f1;obtain⟨u1,hu1⟩:∃ W,W=u0.setCell ⟨g,off+k * 4+1,none⟩ (.int .i64 (k0+(q:Int)+1)):=⟨_,rfl⟩;rw[← hu1] at st2;rw[← hu1];clear hu1;clear st1 S1;have q3:q+1+1+1=PD.zq (ds.take (k * 4+3)):=by have:=ac6 X2.out;rw[← Q2.out] at this;exact this.symm
    have Q3:=zqd q3;clear q3;have b2:(k0:Int)+((q+1+1+1:Nat):Int)≤1099511627776:=by have:=H1.out;have h2:=aeg ds (k * 4+3);rw[← Q3.out] at h2;rw[← HD.out] at this;omega
    push_cast at b2
    go_wp2_with fail
    refine(ak3 _ _ (by omega) (by omega)).mono ?_;rintro e v2 ⟨rfl,bsr⟩;replace st2:=st2.below bsr;clear bsr;obtain⟨c2,f2,s2⟩:=st2.avb (p:=off+k * 4+2) (i':=k * 4+3) (K:=k0+(q:Int)+1+1) X2.out (by omega) (by omega) (by rw[← Q2.out];try omega);have S2:=zqd s2;clear s2;have st3:ae2 w (v2.setCell ⟨g,off+k * 4+2,none⟩ (.string (markT (k0+(q:Int)+1+1)))) g off F' ds (k * 4+3) k0:=S2.out;go_upto_region 10 with fail
    clear c2 f2;obtain⟨u2,hu2⟩:∃ W,W=v2.setCell ⟨g,off+k * 4+2,none⟩ (.string (markT (k0+(q:Int)+1+1))):=⟨_,rfl⟩;rw[← hu2] at st3;rw[← hu2];clear hu2;clear st2 S2;obtain⟨cv3,F3,c3,hh3,nd3,lt3,nx3⟩:=st3.row' (p:=off+k * 4+3) (i':=k * 4+4) (K:=k0+(q:Int)+1+1+1) X3.out (by omega) (by omega) (by rw[← Q3.out];try omega);obtain⟨A3,n3,e3,rfl⟩:=hh3.form;have z3:=ac6 X3.out;rw[← Q3.out] at z3;have b3:(k0:Int)+PD.zq (ds.take (k * 4+4))≤1099511627776:=by have:=H1.out;have h2:=aeg ds (k * 4+4);rw[← HD.out] at this;omega
    obtain⟨y3,hy3⟩:∃ y:Nat,y=(PD.row 4 (kids.flatMap Val.pd)).cnt:=⟨_,rfl⟩;rw[z3,← hy3] at b3;have q4:q+1+1+1+y3=PD.zq (ds.take (k * 4+4)):=by rw[z3,hy3]
    have Q4:=zqd q4;have NX3:=zqd nx3;have HH3:=zqd hh3;have ND3:=zqd nd3;have LT3:=zqd lt3;have HY3:=zqd hy3;clear nx3 hh3 nd3 lt3 hy3 z3 q4 st3;go_wp2_with fail
    refine((HI.out _ HM.out) (.slice A3 n3 e3) F3 _ (k0+(q:Int)+1+1+1) (by omega) (by rw[← HY3.out];push_cast at b3 ⊢;omega) HH3.out ND3.out LT3.out).mono ?_;rintro e v3 ⟨rfl,hq3,kq3⟩;rw[← HY3.out];have st4:=NX3.out v3 kq3 hq3;clear hq3 kq3 c3;have SE:=zqd st4;clear st4;go_wp2_with fail
    go_roundw
    case rel=>exact⟨k+1,q+1+1+1+y3,by omega,by go_num,by go_num,zqd (by rw[Q4.out];congr 2;omega),SE.out.at_ (by omega)⟩
    case measure=>simp[intOf];omega
   ·have hkn:k=n:=by omega
    subst hkn;have hlen:ds.length=k * 4:=by rw[HD.out,abx Val.ay,HN.out]
    have hq:q=PD.zq ds:=by rw[HQ.out,← hlen,List.take_length]
    have HQ2:=zqd hq;have HLN:=zqd hlen;clear hq hlen;go_wp2_with fail
    go_ret
    refine⟨aa2 (by rw[HQ2.out];rfl),?_,st0.keep⟩;rw[PD.mark];exact(st0.at_ HLN.out.symm).done rfl (by rw[HLN.out]) hn0 hc (by unfold maxLen;exact hm)
mutual
theorem avj:∀ t:Val,aog t
 | .mk kind num text kids=>anz (amf kids)
theorem amf:∀ ts:List Val,∀ t ∈ ts,aog t
 | [],x,hx=>absurd hx (by simp)
 | t ::r,x,hx=>(List.mem_cons.1 hx).elim (fun e=>e ▸ avj t) (fun h=>amf r x h)
end
theorem avk (ts:List Val):MkR 32 (.row 4 (ts.flatMap Val.pd)):=anz (amf ts)
set_option maxHeartbeats 1600000 in
theorem avl {kind:Int} {num:Int} {text:ByteArray} {kids:List Val} (afq:MkR 32 (.row 4 (kids.flatMap Val.pd))):MkC 12 (Val.pd ⟨kind,num,text,kids⟩):=by
 intro us F w k0 h0 h1 h nd lt;rw[Val.ji] at h h1 ⊢;have hh:=h;obtain⟨v0,us1,F0a,F0b,hu0,_,e0,hh1⟩:=ni.ahl hh;subst hu0;obtain⟨rfl,_⟩:=Hold.ab2 e0;obtain⟨v1,us2,F1a,F1b,hu1,_,e1,hh2⟩:=ni.ahl hh1;subst hu1;obtain⟨rfl,_⟩:=Hold.ab2 e1;obtain⟨v2,us3,F2a,F2b,hu2,_,e2,hh3⟩:=ni.ahl hh2;subst hu2;obtain⟨rfl,_⟩:=Hold.ab2 e2;obtain⟨v3,us4,F3a,F3b,hu3,_,e3,hh4⟩:=ni.ahl hh3;subst hu3;obtain⟨l9,iq,ku,rfl⟩:=e3.form;clear e3;have hz:=hh4;rw[ni] at hz;obtain⟨rfl,_⟩:=hz;clear hh1 hh2 hh3 hh4;clear hh;have st:=aj2.start (k0:=k0) h nd lt;clear h nd;simp only[ab8] at h1 ⊢;obtain⟨um,ahj⟩:∃ y:Nat,y=PD.zq (kids.flatMap Val.pd):=⟨_,rfl⟩;rw[← ahj] at h1 ⊢;have al8:=zqd ahj;clear ahj;have LT:=zqd lt;clear lt;go_enter Tryz.func12,Tryz.ntmps12
 go_wp2_with fail
 obtain⟨w0,hw0⟩:∃ w0,w0=w.alloc (.cells #[.int .i64 kind,.int .i64 num,.string text,.slice l9 iq ku] 33):=⟨_,rfl⟩;rw[← hw0];have bA:=zqn hw0;have hB0:=zqb hw0;clear hw0;replace st:=st.below hB0;clear hB0;replace st:=st.skip (u:=.int .i64 kind) rfl;replace st:=st.skip (u:=.int .i64 num) rfl;replace st:=st.skip (u:=.string text) rfl;obtain⟨F0,hh0,nd0,lt0,lo0,nx0⟩:=st.part (es:=[.row 4 (kids.flatMap Val.pd)]) (i':=4) (K:=k0) rfl rfl (by simp[ab8]);replace hh0:=ni.one hh0;refine(afq (.slice l9 iq ku) F0 _ (k0) (by omega) (by rw[PD.cnt,← al8.out];omega) hh0 nd0 lt0).mono ?_;rintro e w1 ⟨rfl,hq0,kq0⟩;rw[PD.cnt,← al8.out];replace st:=nx0 w1 kq0 (by have:=ni.ayg hq0;rw[PD.mark] at this;exact this);replace bA:=bA.ads kq0 (fun hm=>by have:=lo0 _ hm;omega);clear hh0 hq0 kq0 nd0 lt0 lo0 nx0;have ST:=zqd st;clear st;go_wp2_with fail
 go_ret
 have st:=ST.out;exact⟨aa2 (by push_cast;omega),st.done,st.keep⟩
theorem apz (t:Val):MkC 12 (Val.pd t):=by obtain⟨kind,num,text,kids⟩:=t;exact avl (avk kids)
end Go.Proofs.YtfpannkadjdnaaaGreatDoor
