/-
  The laws' own helpers 'sz..' over the program's types (by program: tygen2.py, tyfam.py).
-/
import Derived.Test.YtfpannkadjdnaaaGreatDoorTa04
namespace Go.Proofs.YtfpannkadjdnaaaGreatDoor
open Go.RowKit
set_option linter.all false
set_option maxRecDepth 100000
set_option maxHeartbeats 1600000 in
theorem ave {ts : List ByteArray} : SzR 16 (.row 1 (ts.flatMap aam)) := by
  intro B v w left h0 h1 hB hwf h;rw [PD.wf, ahq] at hwf;obtain ⟨A, n, c, rfl, hnl, hm, hat⟩ := bf jo (by decide) h;unfold maxLen at hm;rw [am4 jo (by decide), ← hnl];have HN := zqd hnl;have HW := zqd hwf;clear h hnl hwf;obtain ⟨S, hS⟩ : ∃ S : Nat, S = PD.szL (ts.flatMap aam) := ⟨_, rfl⟩;rw [← hS];have HS := zqd hS;clear hS;by_cases hl : (n : Int) ≤ left
  · go_enter Tryz.func16, Tryz.ntmps16
    go_wp2_with fail
    go_loopw [1, 5] (fun l i wr => ∃ (k Q : Nat), k ≤ n ∧ l = .int .i64 (left - n - Q) ∧ i = .int .i64 k ∧ (n : Int) + Q ≤ left ∧ Hid (Q = PD.szL ((ts.take k).flatMap aam)) ∧ Below w.heap.size w wr) (fun _ i _ => n - (intOf i).toNat)
    case atStart => exact ⟨0, 0, Nat.zero_le _, by simp, rfl, by omega, zqd (by simp [PD.szL]), zqf _ _⟩
    case round =>
      obtain ⟨k, Q, hk, rfl, rfl, hQ, HQ, hbr⟩ := hrel;by_cases hlt : k < n
      · obtain ⟨g, off, rfl, hg, hcell⟩ := hat (by omega)
        obtain ⟨t, hx, hmem⟩ := uo HN.out hlt;have hnx := aj0 (f := aam) hx;have hle := akz (f := aam) hx;rw [← HQ.out] at hnx hle;rw [← HS.out] at hle;have c0 : wr.cell? ⟨g, off + k, none⟩ = some (.string t) := ng hbr (by omega) (by have := hcell k 0 _ _ hx rfl; simpa using this);rw [bcu] at hnx hle;have hsz : t.size ≤ maxLen := by have := HW.out _ hmem; simpa [aam, PD.wfL, PD.wf] using this
        unfold maxLen at hsz;have HX := zqd hnx;clear hx hcell hnx;by_cases hzl : (t.size : Int) ≤ left - n - Q
        · have hp : 0 ≤ left - n - Q - (t.size : Int) := by omega
          go_wp2_with fail
          go_roundw
          case rel => exact ⟨k + 1, Q + t.size, by omega, by go_num, by go_num, by omega, zqd HX.out.symm, hbr⟩
          case measure => simp [intOf]; omega
        · have e2 := zqd (adr (n := n + S) (show left < ((n + S : Nat) : Int) by omega))
          go_wp2_with fail
          go_ret
          exact ⟨aa2 e2.out.symm, hbr⟩
      · have hkn : k = n := by omega
        subst hkn;have hqs : Q = S := by rw [HQ.out, HS.out, List.take_of_length_le (by have := HN.out; omega)]
        have e2 := zqd (ad4 (n := k + S) (left := left) (by omega));clear hqs
        have HQS : Hid (Q = S) := by have : Q = S := by rw [HQ.out, HS.out, List.take_of_length_le (by have := HN.out; omega)]
                                     exact zqd this
        go_wp2_with fail
        go_ret
        exact ⟨aa2 (by rw [e2.out, HQS.out]; omega), hbr⟩
  · have e2 := zqd (adr (n := n + S) (show left < ((n + S : Nat) : Int) by omega))
    go_enter Tryz.func16, Tryz.ntmps16
    go_wp2_with fail
    go_ret
    exact ⟨aa2 e2.out.symm, zqf _ _⟩
set_option maxHeartbeats 1600000 in
theorem ayl {ts : List Ty} (ih : ∀ t ∈ ts, SzC 5 (Ty.pd t)) : SzR 17 (.row 4 (ts.flatMap Ty.pd)) := by
  intro B v w left h0 h1 hB hwf h;rw [PD.wf, ahq] at hwf;obtain ⟨A, n, c, rfl, hnl, hm, hat⟩ := bf Ty.ay (by decide) h;unfold maxLen at hm;rw [am4 Ty.ay (by decide), ← hnl];have HN := zqd hnl;have HW := zqd hwf;have HI := zqd ih;clear ih;clear h hnl hwf;obtain ⟨S, hS⟩ : ∃ S : Nat, S = PD.szL (ts.flatMap Ty.pd) := ⟨_, rfl⟩;rw [← hS];have HS := zqd hS;clear hS;by_cases hl : (n : Int) ≤ left
  · go_enter Tryz.func17, Tryz.ntmps17
    go_wp2_with fail
    go_loopw [1, 5] (fun l i wr => ∃ (k Q : Nat), k ≤ n ∧ l = .int .i64 (left - n - Q) ∧ i = .int .i64 k ∧ (n : Int) + Q ≤ left ∧ Hid (Q = PD.szL ((ts.take k).flatMap Ty.pd)) ∧ Below w.heap.size w wr) (fun _ i _ => n - (intOf i).toNat)
    case atStart => exact ⟨0, 0, Nat.zero_le _, by simp, rfl, by omega, zqd (by simp [PD.szL]), zqf _ _⟩
    case round =>
      obtain ⟨k, Q, hk, rfl, rfl, hQ, HQ, hbr⟩ := hrel;by_cases hlt : k < n
      · obtain ⟨g, off, rfl, hg, hcell⟩ := hat (by omega)
        obtain ⟨t, hx, hmem⟩ := uo HN.out hlt;have hnx := aj0 (f := Ty.pd) hx;have hle := akz (f := Ty.pd) hx;rw [← HQ.out] at hnx hle;rw [← HS.out] at hle;obtain ⟨kind, name, labels, kids⟩ := t;have c0 : wr.cell? ⟨g, off + k * 4, none⟩ = some (.int .i64 kind) := ng hbr (by omega) (hcell k 0 _ _ hx (by rw [Ty.ji]; rfl));have c1 : wr.cell? ⟨g, off + k * 4 + 1, none⟩ = some (.string name) := ng hbr (by omega) (hcell k 1 _ _ hx (by rw [Ty.ji]; rfl));obtain ⟨iy, c2, hr2⟩ : ∃ u, wr.cell? ⟨g, off + k * 4 + 2, none⟩ = some u ∧ Rep wr B (.row 1 (labels.flatMap aam)) u := xq hbr (by omega) hB (hcell k 2 _ _ hx (by rw [Ty.ji]; rfl));have HR2 := zqd hr2;clear hr2;obtain ⟨iw, c3, hr3⟩ : ∃ u, wr.cell? ⟨g, off + k * 4 + 3, none⟩ = some u ∧ Rep wr B (.row 4 (kids.flatMap Ty.pd)) u := xq hbr (by omega) hB (hcell k 3 _ _ hx (by rw [Ty.ji]; rfl));have HR3 := zqd hr3;clear hr3;obtain ⟨z, hz⟩ : ∃ z : Nat, z = PD.szL (Ty.pd ⟨kind, name, labels, kids⟩) := ⟨_, rfl⟩;have hc := HI.out _ hmem B [.int .i64 kind, .string name, iy, iw] wr (left - n - Q) (by omega) (by omega) (Nat.le_trans hB hbr.size) (HW.out _ hmem) (Ty.close_ HR2.out HR3.out);rw [← hz] at hc hnx hle;clear hx hcell hz;have HC := zqd hc;have HX := zqd hnx;clear hc hnx;go_wp2_with fail
        refine HC.out.mono ?_;rintro e wq ⟨rfl, hbq⟩;by_cases hzl : (z : Int) ≤ left - n - Q
        · rw [ad4 hzl]
          have hp : 0 ≤ left - n - Q - (z : Int) := by omega
          go_wp2_with fail
          go_roundw
          case rel => exact ⟨k + 1, Q + z, by omega, by go_num, by go_num, by omega, zqd HX.out.symm, hbr.trans (hbq.mono hbr.size)⟩
          case measure => simp [intOf]; omega
        · rw [adr (by omega)]
          have e2 := zqd (adr (n := n + S) (show left < ((n + S : Nat) : Int) by omega));go_wp2_with fail
          go_ret
          exact ⟨aa2 e2.out.symm, hbr.trans (hbq.mono hbr.size)⟩
      · have hkn : k = n := by omega
        subst hkn;have hqs : Q = S := by rw [HQ.out, HS.out, List.take_of_length_le (by have := HN.out; omega)]
        have e2 := zqd (ad4 (n := k + S) (left := left) (by omega));clear hqs
        have HQS : Hid (Q = S) := by have : Q = S := by rw [HQ.out, HS.out, List.take_of_length_le (by have := HN.out; omega)]
                                     exact zqd this
        go_wp2_with fail
        go_ret
        exact ⟨aa2 (by rw [e2.out, HQS.out]; omega), hbr⟩
  · have e2 := zqd (adr (n := n + S) (show left < ((n + S : Nat) : Int) by omega))
    go_enter Tryz.func17, Tryz.ntmps17
    go_wp2_with fail
    go_ret
    exact ⟨aa2 e2.out.symm, zqf _ _⟩
set_option maxHeartbeats 1600000 in
theorem a0s {kind:Int} {name:ByteArray} {labels:List ByteArray} {kids:List Ty} (ai5:SzR 16 (.row 1 (labels.flatMap aam))) (afq:SzR 17 (.row 4 (kids.flatMap Ty.pd))):SzC 5 (Ty.pd ⟨kind,name,labels,kids⟩):=by
 intro B cs w left h0 h1 hB hwf h;obtain⟨iy,iw,rfl,dh,dn⟩:=Ty.open_ h;rw[Ty.ji] at hwf;simp only[PD.wfL,PD.wf,and_true,true_and] at hwf;obtain⟨avf,bov,aws,aoq⟩:=hwf;clear avf;unfold maxLen at bov;have bcy:=zqd aws;have pz:=zqd dh;clear aws dh;have aym:=zqd aoq;have pq:=zqd dn;clear aoq dn;rw[show PD.szL (Ty.pd ⟨kind,name,labels,kids⟩)=name.size+(PD.row 1 (labels.flatMap aam)).sz+(PD.row 4 (kids.flatMap Ty.pd)).sz by simp only[Ty.ji,PD.szL,PD.sz]<;>omega];obtain⟨z1,hz1⟩:∃ z:Nat,z=(PD.row 1 (labels.flatMap aam)).sz:=⟨_,rfl⟩;rw[← hz1];have Z1:=zqd hz1;clear hz1;obtain⟨z2,hz2⟩:∃ z:Nat,z=(PD.row 4 (kids.flatMap Ty.pd)).sz:=⟨_,rfl⟩;rw[← hz2];have Z2:=zqd hz2;clear hz2;by_cases p0:((name.size:Nat):Int)≤left
 case neg=>
  have eT:=zqd (adr (n:=name.size+z1+z2) (left:=left) (by omega));go_enter Tryz.func5,Tryz.ntmps5
  go_wp2_with fail
  go_ret
  exact⟨aa2 eT.out.symm,(zqf _ _).alloc (zql _) _⟩
 have q0:0≤left - ((name.size:Nat):Int):=by omega
 go_enter Tryz.func5,Tryz.ntmps5
 go_wp2_with fail
 obtain⟨w0,hw0⟩:∃ w0,w0=w.alloc (.cells #[.int .i64 kind,.string name,iy,iw] 28):=⟨_,rfl⟩;rw[← hw0];have bA:=zqn hw0;have hB0:=zqb hw0;clear hw0;refine(ai5 B iy _ (left - (name.size:Int)) (by omega) (by omega) (Nat.le_trans hB hB0.size) bcy.out (pz.out.below (hB0.mono hB))).mono ?_;rintro e w1 ⟨rfl,hb1⟩;have hB1:=hB0.trans (hb1.mono hB0.size);replace bA:=bA.step hb1;rw[← Z1.out];by_cases p1:(z1:Int)≤left - (name.size:Int)
 case neg=>
  rw[adr (by omega)];have eT:=zqd (adr (n:=name.size+z1+z2) (left:=left) (by omega));go_wp2_with fail
  go_ret
  exact⟨aa2 eT.out.symm,hB1⟩
 rw[ad4 p1];have q1:0≤left - (name.size:Int) - (z1:Int):=by omega
 have aan:w1.cell? ⟨w.heap.size,3,none⟩=some (iw):=bA.cell 3;go_wp2_with fail
 refine(afq B iw _ (left - (name.size:Int) - (z1:Int)) (by omega) (by omega) (Nat.le_trans hB hB1.size) aym.out (pq.out.below (hB1.mono hB))).mono ?_;rintro e w2 ⟨rfl,hb2⟩;have hB2:=hB1.trans (hb2.mono hB1.size);replace bA:=bA.step hb2;rw[← Z2.out];by_cases p2:(z2:Int)≤left - (name.size:Int) - (z1:Int)
 case neg=>
  rw[adr (by omega)];have eT:=zqd (adr (n:=name.size+z1+z2) (left:=left) (by omega));go_wp2_with fail
  go_ret
  exact⟨aa2 eT.out.symm,hB2⟩
 rw[ad4 p2];have q2:0≤left - (name.size:Int) - (z1:Int) - (z2:Int):=by omega
 go_wp2_with fail
 have eT:=zqd (ad4 (n:=name.size+z1+z2) (left:=left) (by omega));go_ret
 exact⟨aa2 (by rw[eT.out]<;>omega),hB2⟩
mutual
theorem ajl:∀ t:Ty,SzC 5 (Ty.pd t)
 | .mk kind name labels kids=>a0s ave (ayl (auc kids))
theorem auc:∀ ts:List Ty,∀ t ∈ ts,SzC 5 (Ty.pd t)
 | [],x,hx=>absurd hx (by simp)
 | t ::r,x,hx=>(List.mem_cons.1 hx).elim (fun e=>e ▸ ajl t) (fun h=>auc r x h)
end
set_option maxHeartbeats 1600000 in
theorem axh {ts : List Val} (ih : ∀ t ∈ ts, SzC 4 (Val.pd t)) : SzR 15 (.row 4 (ts.flatMap Val.pd)) := by
  intro B v w left h0 h1 hB hwf h;rw [PD.wf, ahq] at hwf;obtain ⟨A, n, c, rfl, hnl, hm, hat⟩ := bf Val.ay (by decide) h;unfold maxLen at hm;rw [am4 Val.ay (by decide), ← hnl];have HN := zqd hnl;have HW := zqd hwf;have HI := zqd ih;clear ih;clear h hnl hwf;obtain ⟨S, hS⟩ : ∃ S : Nat, S = PD.szL (ts.flatMap Val.pd) := ⟨_, rfl⟩;rw [← hS];have HS := zqd hS;clear hS;by_cases hl : (n : Int) ≤ left
  · go_enter Tryz.func15, Tryz.ntmps15
    go_wp2_with fail
    go_loopw [1, 5] (fun l i wr => ∃ (k Q : Nat), k ≤ n ∧ l = .int .i64 (left - n - Q) ∧ i = .int .i64 k ∧ (n : Int) + Q ≤ left ∧ Hid (Q = PD.szL ((ts.take k).flatMap Val.pd)) ∧ Below w.heap.size w wr) (fun _ i _ => n - (intOf i).toNat)
    case atStart => exact ⟨0, 0, Nat.zero_le _, by simp, rfl, by omega, zqd (by simp [PD.szL]), zqf _ _⟩
    case round =>
      obtain ⟨k, Q, hk, rfl, rfl, hQ, HQ, hbr⟩ := hrel;by_cases hlt : k < n
      · obtain ⟨g, off, rfl, hg, hcell⟩ := hat (by omega)
        obtain ⟨t, hx, hmem⟩ := uo HN.out hlt;have hnx := aj0 (f := Val.pd) hx;have hle := akz (f := Val.pd) hx;rw [← HQ.out] at hnx hle;rw [← HS.out] at hle;obtain ⟨kind, num, text, kids⟩ := t;have c0 : wr.cell? ⟨g, off + k * 4, none⟩ = some (.int .i64 kind) := ng hbr (by omega) (hcell k 0 _ _ hx (by rw [Val.ji]; rfl));have c1 : wr.cell? ⟨g, off + k * 4 + 1, none⟩ = some (.int .i64 num) := ng hbr (by omega) (hcell k 1 _ _ hx (by rw [Val.ji]; rfl));have c2 : wr.cell? ⟨g, off + k * 4 + 2, none⟩ = some (.string text) := ng hbr (by omega) (hcell k 2 _ _ hx (by rw [Val.ji]; rfl));obtain ⟨iw, c3, hr3⟩ : ∃ u, wr.cell? ⟨g, off + k * 4 + 3, none⟩ = some u ∧ Rep wr B (.row 4 (kids.flatMap Val.pd)) u := xq hbr (by omega) hB (hcell k 3 _ _ hx (by rw [Val.ji]; rfl));have HR3 := zqd hr3;clear hr3;obtain ⟨z, hz⟩ : ∃ z : Nat, z = PD.szL (Val.pd ⟨kind, num, text, kids⟩) := ⟨_, rfl⟩;have hc := HI.out _ hmem B [.int .i64 kind, .int .i64 num, .string text, iw] wr (left - n - Q) (by omega) (by omega) (Nat.le_trans hB hbr.size) (HW.out _ hmem) (Val.close_ HR3.out);rw [← hz] at hc hnx hle;clear hx hcell hz;have HC := zqd hc;have HX := zqd hnx;clear hc hnx;go_wp2_with fail
        refine HC.out.mono ?_;rintro e wq ⟨rfl, hbq⟩;by_cases hzl : (z : Int) ≤ left - n - Q
        · rw [ad4 hzl]
          have hp : 0 ≤ left - n - Q - (z : Int) := by omega
          go_wp2_with fail
          go_roundw
          case rel => exact ⟨k + 1, Q + z, by omega, by go_num, by go_num, by omega, zqd HX.out.symm, hbr.trans (hbq.mono hbr.size)⟩
          case measure => simp [intOf]; omega
        · rw [adr (by omega)]
          have e2 := zqd (adr (n := n + S) (show left < ((n + S : Nat) : Int) by omega));go_wp2_with fail
          go_ret
          exact ⟨aa2 e2.out.symm, hbr.trans (hbq.mono hbr.size)⟩
      · have hkn : k = n := by omega
        subst hkn;have hqs : Q = S := by rw [HQ.out, HS.out, List.take_of_length_le (by have := HN.out; omega)]
        have e2 := zqd (ad4 (n := k + S) (left := left) (by omega));clear hqs
        have HQS : Hid (Q = S) := by have : Q = S := by rw [HQ.out, HS.out, List.take_of_length_le (by have := HN.out; omega)]
                                     exact zqd this
        go_wp2_with fail
        go_ret
        exact ⟨aa2 (by rw [e2.out, HQS.out]; omega), hbr⟩
  · have e2 := zqd (adr (n := n + S) (show left < ((n + S : Nat) : Int) by omega))
    go_enter Tryz.func15, Tryz.ntmps15
    go_wp2_with fail
    go_ret
    exact ⟨aa2 e2.out.symm, zqf _ _⟩
set_option maxHeartbeats 1600000 in
theorem ayn {kind:Int} {num:Int} {text:ByteArray} {kids:List Val} (afq:SzR 15 (.row 4 (kids.flatMap Val.pd))):SzC 4 (Val.pd ⟨kind,num,text,kids⟩):=by
 intro B cs w left h0 h1 hB hwf h;obtain⟨iw,rfl,dn⟩:=Val.open_ h;rw[Val.ji] at hwf;simp only[PD.wfL,PD.wf,and_true,true_and] at hwf;obtain⟨avf,bsn,bow,aoq⟩:=hwf;clear avf;clear bsn;unfold maxLen at bow;have aym:=zqd aoq;have pq:=zqd dn;clear aoq dn;rw[show PD.szL (Val.pd ⟨kind,num,text,kids⟩)=text.size+(PD.row 4 (kids.flatMap Val.pd)).sz by simp only[Val.ji,PD.szL,PD.sz]<;>omega];obtain⟨z1,hz1⟩:∃ z:Nat,z=(PD.row 4 (kids.flatMap Val.pd)).sz:=⟨_,rfl⟩;rw[← hz1];have Z1:=zqd hz1;clear hz1;by_cases p0:((text.size:Nat):Int)≤left
 case neg=>
  have eT:=zqd (adr (n:=text.size+z1) (left:=left) (by omega));go_enter Tryz.func4,Tryz.ntmps4
  go_wp2_with fail
  go_ret
  exact⟨aa2 eT.out.symm,(zqf _ _).alloc (zql _) _⟩
 have q0:0≤left - ((text.size:Nat):Int):=by omega
 go_enter Tryz.func4,Tryz.ntmps4
 go_wp2_with fail
 obtain⟨w0,hw0⟩:∃ w0,w0=w.alloc (.cells #[.int .i64 kind,.int .i64 num,.string text,iw] 24):=⟨_,rfl⟩;rw[← hw0];have bA:=zqn hw0;have hB0:=zqb hw0;clear hw0;refine(afq B iw _ (left - (text.size:Int)) (by omega) (by omega) (Nat.le_trans hB hB0.size) aym.out (pq.out.below (hB0.mono hB))).mono ?_;rintro e w1 ⟨rfl,hb1⟩;have hB1:=hB0.trans (hb1.mono hB0.size);replace bA:=bA.step hb1;rw[← Z1.out];by_cases p1:(z1:Int)≤left - (text.size:Int)
 case neg=>
  rw[adr (by omega)];have eT:=zqd (adr (n:=text.size+z1) (left:=left) (by omega));go_wp2_with fail
  go_ret
  exact⟨aa2 eT.out.symm,hB1⟩
 rw[ad4 p1];have q1:0≤left - (text.size:Int) - (z1:Int):=by omega
 go_wp2_with fail
 have eT:=zqd (ad4 (n:=text.size+z1) (left:=left) (by omega));go_ret
 exact⟨aa2 (by rw[eT.out]<;>omega),hB1⟩
mutual
theorem aju:∀ t:Val,SzC 4 (Val.pd t)
 | .mk kind num text kids=>ayn (axh (ar5 kids))
theorem ar5:∀ ts:List Val,∀ t ∈ ts,SzC 4 (Val.pd t)
 | [],x,hx=>absurd hx (by simp)
 | t ::r,x,hx=>(List.mem_cons.1 hx).elim (fun e=>e ▸ aju t) (fun h=>ar5 r x h)
end
end Go.Proofs.YtfpannkadjdnaaaGreatDoor
