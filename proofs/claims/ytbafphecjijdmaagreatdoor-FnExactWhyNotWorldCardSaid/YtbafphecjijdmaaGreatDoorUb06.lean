/-
  The laws' own helpers 'sz..' over the program's types (by program: tygen2.py, tyfam.py).
-/
import Derived.Test.YtbafphecjijdmaaGreatDoorUb04
import Derived.Test.YtbafphecjijdmaaGreatDoorUb05
namespace Go.Proofs.YtbafphecjijdmaaGreatDoor
open Go.RowKit
set_option linter.all false
set_option maxRecDepth 100000
set_option maxHeartbeats 1600000 in
theorem aru {ts : List ByteArray} : SzR 25 (.row 1 (ts.flatMap qj)) := by
  intro B v w left h0 h1 hB hwf h
  rw [PD.wf, afx] at hwf
  obtain ⟨A, n, c, rfl, hnl, hm, hat⟩ := ni aaz (by decide) h
  unfold maxLen at hm
  rw [ahw aaz (by decide), ← hnl]
  have HN := zqd hnl
  have HW := zqd hwf
  clear h hnl hwf
  obtain ⟨S, hS⟩ : ∃ S : Nat, S = PD.szL (ts.flatMap qj) := ⟨_, rfl⟩
  rw [← hS]
  have HS := zqd hS
  clear hS
  by_cases hl : (n : Int) ≤ left
  · go_enter Tryz.func25, Tryz.ntmps25
    go_wp2_with fail
    go_loopw [1, 5] (fun l i wr => ∃ (k Q : Nat), k ≤ n ∧ l = .int .i64 (left - n - Q) ∧ i = .int .i64 k ∧ (n : Int) + Q ≤ left ∧ Hid (Q = PD.szL ((ts.take k).flatMap qj)) ∧ Below w.heap.size w wr) (fun _ i _ => n - (intOf i).toNat)
    case atStart => exact ⟨0, 0, Nat.zero_le _, by simp, rfl, by omega, zqd (by simp [PD.szL]), zqf _ _⟩
    case round =>
      obtain ⟨k, Q, hk, rfl, rfl, hQ, HQ, hbr⟩ := hrel
      by_cases hlt : k < n
      · obtain ⟨g, off, rfl, hg, hcell⟩ := hat (by omega)
        obtain ⟨t, hx, hmem⟩ := um HN.out hlt
        have hnx := ajb (f := qj) hx
        have hle := ahf (f := qj) hx
        rw [← HQ.out] at hnx hle
        rw [← HS.out] at hle
        have c0 : wr.cell? ⟨g, off + k, none⟩ = some (.string t) := bg hbr (by omega) (by have := hcell k 0 _ _ hx rfl; simpa using this)
        rw [bim] at hnx hle
        have hsz : t.size ≤ maxLen := by have := HW.out _ hmem; simpa [qj, PD.wfL, PD.wf] using this
        unfold maxLen at hsz
        have HX := zqd hnx
        clear hx hcell hnx
        by_cases hzl : (t.size : Int) ≤ left - n - Q
        · have hp : 0 ≤ left - n - Q - (t.size : Int) := by omega
          go_wp2_with fail
          go_roundw
          case rel => exact ⟨k + 1, Q + t.size, by omega, by go_num, by go_num, by omega, zqd HX.out.symm, hbr⟩
          case measure => simp [intOf]; omega
        · have e2 := zqd (aap (n := n + S) (show left < ((n + S : Nat) : Int) by omega))
          go_wp2_with fail
          go_ret
          exact ⟨y7 e2.out.symm, hbr⟩
      · have hkn : k = n := by omega
        subst hkn
        have hqs : Q = S := by rw [HQ.out, HS.out, List.take_of_length_le (by have := HN.out; omega)]
        have e2 := zqd (acg (n := k + S) (left := left) (by omega))
        clear hqs
        have HQS : Hid (Q = S) := by have : Q = S := by rw [HQ.out, HS.out, List.take_of_length_le (by have := HN.out; omega)]
                                     exact zqd this
        go_wp2_with fail
        go_ret
        exact ⟨y7 (by rw [e2.out, HQS.out]; omega), hbr⟩
  · have e2 := zqd (aap (n := n + S) (show left < ((n + S : Nat) : Int) by omega))
    go_enter Tryz.func25, Tryz.ntmps25
    go_wp2_with fail
    go_ret
    exact ⟨y7 e2.out.symm, zqf _ _⟩
set_option maxHeartbeats 1600000 in
theorem a5r {ts : List Ty} (ih : ∀ t ∈ ts, SzC 44 (Ty.pd t)) : SzR 78 (.row 4 (ts.flatMap Ty.pd)) := by
  intro B v w left h0 h1 hB hwf h
  rw [PD.wf, afx] at hwf
  obtain ⟨A, n, c, rfl, hnl, hm, hat⟩ := ni Ty.jd (by decide) h
  unfold maxLen at hm
  rw [ahw Ty.jd (by decide), ← hnl]
  have HN := zqd hnl
  have HW := zqd hwf
  have HI := zqd ih
  clear ih
  clear h hnl hwf
  obtain ⟨S, hS⟩ : ∃ S : Nat, S = PD.szL (ts.flatMap Ty.pd) := ⟨_, rfl⟩
  rw [← hS]
  have HS := zqd hS
  clear hS
  by_cases hl : (n : Int) ≤ left
  · go_enter Tryz.func78, Tryz.ntmps78
    go_wp2_with fail
    go_loopw [1, 5] (fun l i wr => ∃ (k Q : Nat), k ≤ n ∧ l = .int .i64 (left - n - Q) ∧ i = .int .i64 k ∧ (n : Int) + Q ≤ left ∧ Hid (Q = PD.szL ((ts.take k).flatMap Ty.pd)) ∧ Below w.heap.size w wr) (fun _ i _ => n - (intOf i).toNat)
    case atStart => exact ⟨0, 0, Nat.zero_le _, by simp, rfl, by omega, zqd (by simp [PD.szL]), zqf _ _⟩
    case round =>
      obtain ⟨k, Q, hk, rfl, rfl, hQ, HQ, hbr⟩ := hrel
      by_cases hlt : k < n
      · obtain ⟨g, off, rfl, hg, hcell⟩ := hat (by omega)
        obtain ⟨t, hx, hmem⟩ := um HN.out hlt
        have hnx := ajb (f := Ty.pd) hx
        have hle := ahf (f := Ty.pd) hx
        rw [← HQ.out] at hnx hle
        rw [← HS.out] at hle
        obtain ⟨kind, name, labels, kids⟩ := t
        have c0 : wr.cell? ⟨g, off + k * 4, none⟩ = some (.int .i64 kind) := bg hbr (by omega) (hcell k 0 _ _ hx (by rw [Ty.aj]; rfl))
        have c1 : wr.cell? ⟨g, off + k * 4 + 1, none⟩ = some (.string name) := bg hbr (by omega) (hcell k 1 _ _ hx (by rw [Ty.aj]; rfl))
        obtain ⟨iw, c2, hr2⟩ : ∃ u, wr.cell? ⟨g, off + k * 4 + 2, none⟩ = some u ∧ Rep wr B (.row 1 (labels.flatMap qj)) u := jc hbr (by omega) hB (hcell k 2 _ _ hx (by rw [Ty.aj]; rfl))
        have HR2 := zqd hr2
        clear hr2
        obtain ⟨qw, c3, hr3⟩ : ∃ u, wr.cell? ⟨g, off + k * 4 + 3, none⟩ = some u ∧ Rep wr B (.row 4 (kids.flatMap Ty.pd)) u := jc hbr (by omega) hB (hcell k 3 _ _ hx (by rw [Ty.aj]; rfl))
        have HR3 := zqd hr3
        clear hr3
        obtain ⟨z, hz⟩ : ∃ z : Nat, z = PD.szL (Ty.pd ⟨kind, name, labels, kids⟩) := ⟨_, rfl⟩
        have hc := HI.out _ hmem B [.int .i64 kind, .string name, iw, qw] wr (left - n - Q) (by omega) (by omega) (Nat.le_trans hB hbr.size) (HW.out _ hmem) (Ty.close_ HR2.out HR3.out)
        rw [← hz] at hc hnx hle
        clear hx hcell hz
        have HC := zqd hc
        have HX := zqd hnx
        clear hc hnx
        go_wp2_with fail
        refine HC.out.mono ?_
        rintro e wq ⟨rfl, hbq⟩
        by_cases hzl : (z : Int) ≤ left - n - Q
        · rw [acg hzl]
          have hp : 0 ≤ left - n - Q - (z : Int) := by omega
          go_wp2_with fail
          go_roundw
          case rel => exact ⟨k + 1, Q + z, by omega, by go_num, by go_num, by omega, zqd HX.out.symm, hbr.trans (hbq.mono hbr.size)⟩
          case measure => simp [intOf]; omega
        · rw [aap (by omega)]
          have e2 := zqd (aap (n := n + S) (show left < ((n + S : Nat) : Int) by omega))
          go_wp2_with fail
          go_ret
          exact ⟨y7 e2.out.symm, hbr.trans (hbq.mono hbr.size)⟩
      · have hkn : k = n := by omega
        subst hkn
        have hqs : Q = S := by rw [HQ.out, HS.out, List.take_of_length_le (by have := HN.out; omega)]
        have e2 := zqd (acg (n := k + S) (left := left) (by omega))
        clear hqs
        have HQS : Hid (Q = S) := by have : Q = S := by rw [HQ.out, HS.out, List.take_of_length_le (by have := HN.out; omega)]
                                     exact zqd this
        go_wp2_with fail
        go_ret
        exact ⟨y7 (by rw [e2.out, HQS.out]; omega), hbr⟩
  · have e2 := zqd (aap (n := n + S) (show left < ((n + S : Nat) : Int) by omega))
    go_enter Tryz.func78, Tryz.ntmps78
    go_wp2_with fail
    go_ret
    exact ⟨y7 e2.out.symm, zqf _ _⟩
set_option maxHeartbeats 1600000 in
theorem a95 {kind:Int} {name:ByteArray} {labels:List ByteArray} {kids:List Ty} (ao0:SzR 25 (.row 1 (labels.flatMap qj))) (arv:SzR 78 (.row 4 (kids.flatMap Ty.pd))):SzC 44 (Ty.pd ⟨kind,name,labels,kids⟩):=by
 intro B cs w left h0 h1 hB hwf h
 obtain⟨iw,qw,rfl,bf,gu⟩:=Ty.open_ h
 rw[Ty.aj] at hwf
 simp only[PD.wfL,PD.wf,and_true,true_and] at hwf
 obtain⟨bmv,al6,a3d,bbu⟩:=hwf
 clear bmv
 unfold maxLen at al6
 have bio:=zqd a3d
 have pz:=zqd bf
 clear a3d bf
 have bqv:=zqd bbu
 have qo:=zqd gu
 clear bbu gu
 rw[show PD.szL (Ty.pd ⟨kind,name,labels,kids⟩)=name.size+(PD.row 1 (labels.flatMap qj)).sz+(PD.row 4 (kids.flatMap Ty.pd)).sz by simp only[Ty.aj,PD.szL,PD.sz]<;>omega]
 obtain⟨z1,hz1⟩:∃ z:Nat,z=(PD.row 1 (labels.flatMap qj)).sz:=⟨_,rfl⟩
 rw[← hz1]
 have Z1:=zqd hz1
 clear hz1
 obtain⟨z2,hz2⟩:∃ z:Nat,z=(PD.row 4 (kids.flatMap Ty.pd)).sz:=⟨_,rfl⟩
 rw[← hz2]
 have Z2:=zqd hz2
 clear hz2
 by_cases p0:((name.size:Nat):Int)≤left
 case neg=>
  have eT:=zqd (aap (n:=name.size+z1+z2) (left:=left) (by omega))
  go_enter Tryz.func44,Tryz.ntmps44
  go_wp2_with fail
  go_ret
  exact⟨y7 eT.out.symm,(zqf _ _).alloc (zql _) _⟩
 have q0:0≤left - ((name.size:Nat):Int):=by omega
 go_enter Tryz.func44,Tryz.ntmps44
 go_wp2_with fail
 obtain⟨w0,hw0⟩:∃ w0,w0=w.alloc (.cells #[.int .i64 kind,.string name,iw,qw] 52):=⟨_,rfl⟩
 rw[← hw0]
 have bA:=zqn hw0
 have hB0:=zqb hw0
 clear hw0
 refine(ao0 B iw _ (left - (name.size:Int)) (by omega) (by omega) (Nat.le_trans hB hB0.size) bio.out (pz.out.below (hB0.mono hB))).mono ?_
 rintro e w1 ⟨rfl,hb1⟩
 have hB1:=hB0.trans (hb1.mono hB0.size)
 replace bA:=bA.step hb1
 rw[← Z1.out]
 by_cases p1:(z1:Int)≤left - (name.size:Int)
 case neg=>
  rw[aap (by omega)]
  have eT:=zqd (aap (n:=name.size+z1+z2) (left:=left) (by omega))
  go_wp2_with fail
  go_ret
  exact⟨y7 eT.out.symm,hB1⟩
 rw[acg p1]
 have q1:0≤left - (name.size:Int) - (z1:Int):=by omega
 have abg:w1.cell? ⟨w.heap.size,3,none⟩=some (qw):=bA.cell 3
 go_wp2_with fail
 refine(arv B qw _ (left - (name.size:Int) - (z1:Int)) (by omega) (by omega) (Nat.le_trans hB hB1.size) bqv.out (qo.out.below (hB1.mono hB))).mono ?_
 rintro e w2 ⟨rfl,hb2⟩
 have hB2:=hB1.trans (hb2.mono hB1.size)
 replace bA:=bA.step hb2
 rw[← Z2.out]
 by_cases p2:(z2:Int)≤left - (name.size:Int) - (z1:Int)
 case neg=>
  rw[aap (by omega)]
  have eT:=zqd (aap (n:=name.size+z1+z2) (left:=left) (by omega))
  go_wp2_with fail
  go_ret
  exact⟨y7 eT.out.symm,hB2⟩
 rw[acg p2]
 have q2:0≤left - (name.size:Int) - (z1:Int) - (z2:Int):=by omega
 go_wp2_with fail
 have eT:=zqd (acg (n:=name.size+z1+z2) (left:=left) (by omega))
 go_ret
 exact⟨y7 (by rw[eT.out]<;>omega),hB2⟩
mutual
theorem asr:∀ t:Ty,SzC 44 (Ty.pd t)
 | .mk kind name labels kids=>a95 aru (a5r (azu kids))
theorem azu:∀ ts:List Ty,∀ t ∈ ts,SzC 44 (Ty.pd t)
 | [],x,hx=>absurd hx (by simp)
 | t ::r,x,hx=>(List.mem_cons.1 hx).elim (fun e=>e ▸ asr t) (fun h=>azu r x h)
end
set_option maxHeartbeats 1600000 in
theorem a5s {name:ByteArray} {je:Int} {jm:ByteArray} {ou:List ByteArray} {uj:List Ty} (alf:SzC 44 (Ty.pd ⟨je,jm,ou,uj⟩)):SzC 77 (Param.pd ⟨name,⟨je,jm,ou,uj⟩⟩):=by
 intro B cs w left h0 h1 hB hwf h
 obtain⟨aa0,ab7,rfl,abo,acw⟩:=Param.open_ h
 rw[Param.aj] at hwf
 simp only[PD.wfL,PD.wf,and_true,true_and] at hwf
 obtain⟨al6,axq,axr,aul,axt⟩:=hwf
 unfold maxLen at al6
 have bda:=zqd axq
 clear axq
 unfold maxLen at axr
 have a5t:=zqd aul
 have ac7:=zqd abo
 clear aul abo
 have bdb:=zqd axt
 have aef:=zqd acw
 clear axt acw
 rw[show PD.szL (Param.pd ⟨name,⟨je,jm,ou,uj⟩⟩)=name.size+PD.szL (Ty.pd ⟨je,jm,ou,uj⟩) by simp only[Param.aj,PD.szL,PD.sz,Ty.aj]<;>omega]
 obtain⟨z1,hz1⟩:∃ z:Nat,z=PD.szL (Ty.pd ⟨je,jm,ou,uj⟩):=⟨_,rfl⟩
 rw[← hz1]
 have Z1:=zqd hz1
 clear hz1
 have arw:PD.wfL (Ty.pd ⟨je,jm,ou,uj⟩):=by rw[Ty.aj];simp only[PD.wfL,PD.wf,and_true,true_and];exact⟨bda.out,by unfold maxLen;exact axr,a5t.out,bdb.out⟩
 have a5u:=zqd arw
 clear arw
 by_cases p0:((name.size:Nat):Int)≤left
 case neg=>
  have eT:=zqd (aap (n:=name.size+z1) (left:=left) (by omega))
  go_enter Tryz.func77,Tryz.ntmps77
  go_wp2_with fail
  go_ret
  exact⟨y7 eT.out.symm,(zqf _ _).alloc (zql _) _⟩
 have q0:0≤left - ((name.size:Nat):Int):=by omega
 go_enter Tryz.func77,Tryz.ntmps77
 go_wp2_with fail
 obtain⟨w0,hw0⟩:∃ w0,w0=w.alloc (.cells #[.string name,.int .i64 je,.string jm,aa0,ab7] 112):=⟨_,rfl⟩
 rw[← hw0]
 have bA:=zqn hw0
 have hB0:=zqb hw0
 clear hw0
 refine(alf B [.int .i64 je,.string jm,aa0,ab7] _ (left - (name.size:Int)) (by omega) (by omega) (Nat.le_trans hB hB0.size) a5u.out (Ty.close_ (ac7.out.below (hB0.mono hB)) (aef.out.below (hB0.mono hB)))).mono ?_
 rintro e w1 ⟨rfl,hb1⟩
 have hB1:=hB0.trans (hb1.mono hB0.size)
 replace bA:=bA.step hb1
 rw[← Z1.out]
 by_cases p1:(z1:Int)≤left - (name.size:Int)
 case neg=>
  rw[aap (by omega)]
  have eT:=zqd (aap (n:=name.size+z1) (left:=left) (by omega))
  go_wp2_with fail
  go_ret
  exact⟨y7 eT.out.symm,hB1⟩
 rw[acg p1]
 have q1:0≤left - (name.size:Int) - (z1:Int):=by omega
 go_wp2_with fail
 have eT:=zqd (acg (n:=name.size+z1) (left:=left) (by omega))
 go_ret
 exact⟨y7 (by rw[eT.out]<;>omega),hB1⟩
theorem a96 (t:Param):SzC 77 (Param.pd t):=by obtain⟨name,⟨je,jm,ou,uj⟩⟩:=t;exact a5s (asr _)
set_option maxHeartbeats 1600000 in
theorem a4e {ts : List Param} (ih : ∀ t ∈ ts, SzC 77 (Param.pd t)) : SzR 43 (.row 5 (ts.flatMap Param.pd)) := by
  intro B v w left h0 h1 hB hwf h
  rw [PD.wf, afx] at hwf
  obtain ⟨A, n, c, rfl, hnl, hm, hat⟩ := ni Param.jd (by decide) h
  unfold maxLen at hm
  rw [ahw Param.jd (by decide), ← hnl]
  have HN := zqd hnl
  have HW := zqd hwf
  have HI := zqd ih
  clear ih
  clear h hnl hwf
  obtain ⟨S, hS⟩ : ∃ S : Nat, S = PD.szL (ts.flatMap Param.pd) := ⟨_, rfl⟩
  rw [← hS]
  have HS := zqd hS
  clear hS
  by_cases hl : (n : Int) ≤ left
  · go_enter Tryz.func43, Tryz.ntmps43
    go_wp2_with fail
    go_loopw [1, 5] (fun l i wr => ∃ (k Q : Nat), k ≤ n ∧ l = .int .i64 (left - n - Q) ∧ i = .int .i64 k ∧ (n : Int) + Q ≤ left ∧ Hid (Q = PD.szL ((ts.take k).flatMap Param.pd)) ∧ Below w.heap.size w wr) (fun _ i _ => n - (intOf i).toNat)
    case atStart => exact ⟨0, 0, Nat.zero_le _, by simp, rfl, by omega, zqd (by simp [PD.szL]), zqf _ _⟩
    case round =>
      obtain ⟨k, Q, hk, rfl, rfl, hQ, HQ, hbr⟩ := hrel
      by_cases hlt : k < n
      · obtain ⟨g, off, rfl, hg, hcell⟩ := hat (by omega)
        obtain ⟨t, hx, hmem⟩ := um HN.out hlt
        have hnx := ajb (f := Param.pd) hx
        have hle := ahf (f := Param.pd) hx
        rw [← HQ.out] at hnx hle
        rw [← HS.out] at hle
        obtain ⟨name, ⟨je, jm, ou, uj⟩⟩ := t
        have c0 : wr.cell? ⟨g, off + k * 5, none⟩ = some (.string name) := bg hbr (by omega) (hcell k 0 _ _ hx (by rw [Param.aj]; rfl))
        have c1 : wr.cell? ⟨g, off + k * 5 + 1, none⟩ = some (.int .i64 je) := bg hbr (by omega) (hcell k 1 _ _ hx (by rw [Param.aj]; rfl))
        have c2 : wr.cell? ⟨g, off + k * 5 + 2, none⟩ = some (.string jm) := bg hbr (by omega) (hcell k 2 _ _ hx (by rw [Param.aj]; rfl))
        obtain ⟨aa0, c3, hr3⟩ : ∃ u, wr.cell? ⟨g, off + k * 5 + 3, none⟩ = some u ∧ Rep wr B (.row 1 (ou.flatMap qj)) u := jc hbr (by omega) hB (hcell k 3 _ _ hx (by rw [Param.aj]; rfl))
        have HR3 := zqd hr3
        clear hr3
        obtain ⟨ab7, c4, hr4⟩ : ∃ u, wr.cell? ⟨g, off + k * 5 + 4, none⟩ = some u ∧ Rep wr B (.row 4 (uj.flatMap Ty.pd)) u := jc hbr (by omega) hB (hcell k 4 _ _ hx (by rw [Param.aj]; rfl))
        have HR4 := zqd hr4
        clear hr4
        obtain ⟨z, hz⟩ : ∃ z : Nat, z = PD.szL (Param.pd ⟨name, ⟨je, jm, ou, uj⟩⟩) := ⟨_, rfl⟩
        have hc := HI.out _ hmem B [.string name, .int .i64 je, .string jm, aa0, ab7] wr (left - n - Q) (by omega) (by omega) (Nat.le_trans hB hbr.size) (HW.out _ hmem) (Param.close_ HR3.out HR4.out)
        rw [← hz] at hc hnx hle
        clear hx hcell hz
        have HC := zqd hc
        have HX := zqd hnx
        clear hc hnx
        go_wp2_with fail
        refine HC.out.mono ?_
        rintro e wq ⟨rfl, hbq⟩
        by_cases hzl : (z : Int) ≤ left - n - Q
        · rw [acg hzl]
          have hp : 0 ≤ left - n - Q - (z : Int) := by omega
          go_wp2_with fail
          go_roundw
          case rel => exact ⟨k + 1, Q + z, by omega, by go_num, by go_num, by omega, zqd HX.out.symm, hbr.trans (hbq.mono hbr.size)⟩
          case measure => simp [intOf]; omega
        · rw [aap (by omega)]
          have e2 := zqd (aap (n := n + S) (show left < ((n + S : Nat) : Int) by omega))
          go_wp2_with fail
          go_ret
          exact ⟨y7 e2.out.symm, hbr.trans (hbq.mono hbr.size)⟩
      · have hkn : k = n := by omega
        subst hkn
        have hqs : Q = S := by rw [HQ.out, HS.out, List.take_of_length_le (by have := HN.out; omega)]
        have e2 := zqd (acg (n := k + S) (left := left) (by omega))
        clear hqs
        have HQS : Hid (Q = S) := by have : Q = S := by rw [HQ.out, HS.out, List.take_of_length_le (by have := HN.out; omega)]
                                     exact zqd this
        go_wp2_with fail
        go_ret
        exact ⟨y7 (by rw [e2.out, HQS.out]; omega), hbr⟩
  · have e2 := zqd (aap (n := n + S) (show left < ((n + S : Nat) : Int) by omega))
    go_enter Tryz.func43, Tryz.ntmps43
    go_wp2_with fail
    go_ret
    exact ⟨y7 e2.out.symm, zqf _ _⟩
theorem a5v (ts:List Param):SzR 43 (.row 5 (ts.flatMap Param.pd)):=a4e fun t _=>a96 t
set_option maxHeartbeats 1600000 in
theorem azv {params:List Param} {dh:Int} {dn:ByteArray} {ku:List ByteArray} {ny:List Ty} {async:Bool} (ao1:SzR 43 (.row 5 (params.flatMap Param.pd))) (ao2:SzC 44 (Ty.pd ⟨dh,dn,ku,ny⟩)):SzC 20 (jh.pd ⟨params,⟨dh,dn,ku,ny⟩,async⟩):=by
 intro B cs w left h0 h1 hB hwf h
 obtain⟨aeh,pq,uf,rfl,aea,aao,aa2⟩:=jh.open_ h
 rw[jh.aj] at hwf
 simp only[PD.wfL,PD.wf,and_true,true_and] at hwf
 obtain⟨a3e,arx,arz,aqc,ar0⟩:=hwf
 have bip:=zqd a3e
 have ags:=zqd aea
 clear a3e aea
 have a4f:=zqd arx
 clear arx
 unfold maxLen at arz
 have azw:=zqd aqc
 have acs:=zqd aao
 clear aqc aao
 have a4g:=zqd ar0
 have ado:=zqd aa2
 clear ar0 aa2
 rw[show PD.szL (jh.pd ⟨params,⟨dh,dn,ku,ny⟩,async⟩)=(PD.row 5 (params.flatMap Param.pd)).sz+PD.szL (Ty.pd ⟨dh,dn,ku,ny⟩) by simp only[jh.aj,PD.szL,PD.sz,Ty.aj]<;>omega]
 obtain⟨z0,hz0⟩:∃ z:Nat,z=(PD.row 5 (params.flatMap Param.pd)).sz:=⟨_,rfl⟩
 rw[← hz0]
 have Z0:=zqd hz0
 clear hz0
 obtain⟨z1,hz1⟩:∃ z:Nat,z=PD.szL (Ty.pd ⟨dh,dn,ku,ny⟩):=⟨_,rfl⟩
 rw[← hz1]
 have Z1:=zqd hz1
 clear hz1
 have azx:PD.wfL (Ty.pd ⟨dh,dn,ku,ny⟩):=by rw[Ty.aj];simp only[PD.wfL,PD.wf,and_true,true_and];exact⟨a4f.out,by unfold maxLen;exact arz,azw.out,a4g.out⟩
 have bfy:=zqd azx
 clear azx
 go_enter Tryz.func20,Tryz.ntmps20
 go_wp2_with fail
 obtain⟨w0,hw0⟩:∃ w0,w0=w.alloc (.cells #[aeh,.int .i64 dh,.string dn,pq,uf,.bool async] 54):=⟨_,rfl⟩
 rw[← hw0]
 have bA:=zqn hw0
 have hB0:=zqb hw0
 clear hw0
 refine(ao1 B aeh _ (left) (by omega) (by omega) (Nat.le_trans hB hB0.size) bip.out (ags.out.below (hB0.mono hB))).mono ?_
 rintro e w1 ⟨rfl,hb1⟩
 have hB1:=hB0.trans (hb1.mono hB0.size)
 replace bA:=bA.step hb1
 rw[← Z0.out]
 by_cases p0:(z0:Int)≤left
 case neg=>
  rw[aap (by omega)]
  have eT:=zqd (aap (n:=z0+z1) (left:=left) (by omega))
  go_wp2_with fail
  go_ret
  exact⟨y7 eT.out.symm,hB1⟩
 rw[acg p0]
 have q0:0≤left - (z0:Int):=by omega
 have abm:w1.cell? ⟨w.heap.size,1,none⟩=some (.int .i64 dh):=bA.cell 1
 have abn:w1.cell? ⟨w.heap.size,2,none⟩=some (.string dn):=bA.cell 2
 have abg:w1.cell? ⟨w.heap.size,3,none⟩=some (pq):=bA.cell 3
 have a5w:w1.cell? ⟨w.heap.size,4,none⟩=some (uf):=bA.cell 4
 go_wp2_with fail
 refine(ao2 B [.int .i64 dh,.string dn,pq,uf] _ (left - (z0:Int)) (by omega) (by omega) (Nat.le_trans hB hB1.size) bfy.out (Ty.close_ (acs.out.below (hB1.mono hB)) (ado.out.below (hB1.mono hB)))).mono ?_
 rintro e w2 ⟨rfl,hb2⟩
 have hB2:=hB1.trans (hb2.mono hB1.size)
 replace bA:=bA.step hb2
 rw[← Z1.out]
 by_cases p1:(z1:Int)≤left - (z0:Int)
 case neg=>
  rw[aap (by omega)]
  have eT:=zqd (aap (n:=z0+z1) (left:=left) (by omega))
  go_wp2_with fail
  go_ret
  exact⟨y7 eT.out.symm,hB2⟩
 rw[acg p1]
 have q1:0≤left - (z0:Int) - (z1:Int):=by omega
 go_wp2_with fail
 have eT:=zqd (acg (n:=z0+z1) (left:=left) (by omega))
 go_ret
 exact⟨y7 (by rw[eT.out]<;>omega),hB2⟩
theorem a1p (t:jh):SzC 20 (jh.pd t):=by obtain⟨params,⟨dh,dn,ku,ny⟩,async⟩:=t;exact azv (a5v params) (asr _)
set_option maxHeartbeats 1600000 in
theorem a97 {name:ByteArray} {qm:List Param} {au:Int} {ay:ByteArray} {iy:List ByteArray} {jq:List Ty} {jl:Bool} (alf:SzC 20 (jh.pd ⟨qm,⟨au,ay,iy,jq⟩,jl⟩)):SzC 53 (Fun.pd ⟨name,⟨qm,⟨au,ay,iy,jq⟩,jl⟩⟩):=by
 intro B cs w left h0 h1 hB hwf h
 obtain⟨aa1,su,xu,rfl,acr,zy,aar⟩:=Fun.open_ h
 rw[Fun.aj] at hwf
 simp only[PD.wfL,PD.wf,and_true,true_and] at hwf
 obtain⟨al6,aum,ao3,ao4,anq,ao5⟩:=hwf
 unfold maxLen at al6
 have a5x:=zqd aum
 have afo:=zqd acr
 clear aum acr
 have axg:=zqd ao3
 clear ao3
 unfold maxLen at ao4
 have auu:=zqd anq
 have adp:=zqd zy
 clear anq zy
 have axh:=zqd ao5
 have aed:=zqd aar
 clear ao5 aar
 rw[show PD.szL (Fun.pd ⟨name,⟨qm,⟨au,ay,iy,jq⟩,jl⟩⟩)=name.size+PD.szL (jh.pd ⟨qm,⟨au,ay,iy,jq⟩,jl⟩) by simp only[Fun.aj,PD.szL,PD.sz,jh.aj]<;>omega]
 obtain⟨z1,hz1⟩:∃ z:Nat,z=PD.szL (jh.pd ⟨qm,⟨au,ay,iy,jq⟩,jl⟩):=⟨_,rfl⟩
 rw[← hz1]
 have Z1:=zqd hz1
 clear hz1
 have arw:PD.wfL (jh.pd ⟨qm,⟨au,ay,iy,jq⟩,jl⟩):=by rw[jh.aj];simp only[PD.wfL,PD.wf,and_true,true_and];exact⟨a5x.out,axg.out,by unfold maxLen;exact ao4,auu.out,axh.out⟩
 have a5u:=zqd arw
 clear arw
 by_cases p0:((name.size:Nat):Int)≤left
 case neg=>
  have eT:=zqd (aap (n:=name.size+z1) (left:=left) (by omega))
  go_enter Tryz.func53,Tryz.ntmps53
  go_wp2_with fail
  go_ret
  exact⟨y7 eT.out.symm,(zqf _ _).alloc (zql _) _⟩
 have q0:0≤left - ((name.size:Nat):Int):=by omega
 go_enter Tryz.func53,Tryz.ntmps53
 go_wp2_with fail
 obtain⟨w0,hw0⟩:∃ w0,w0=w.alloc (.cells #[.string name,aa1,.int .i64 au,.string ay,su,xu,.bool jl] 92):=⟨_,rfl⟩
 rw[← hw0]
 have bA:=zqn hw0
 have hB0:=zqb hw0
 clear hw0
 refine(alf B [aa1,.int .i64 au,.string ay,su,xu,.bool jl] _ (left - (name.size:Int)) (by omega) (by omega) (Nat.le_trans hB hB0.size) a5u.out (jh.close_ (afo.out.below (hB0.mono hB)) (adp.out.below (hB0.mono hB)) (aed.out.below (hB0.mono hB)))).mono ?_
 rintro e w1 ⟨rfl,hb1⟩
 have hB1:=hB0.trans (hb1.mono hB0.size)
 replace bA:=bA.step hb1
 rw[← Z1.out]
 by_cases p1:(z1:Int)≤left - (name.size:Int)
 case neg=>
  rw[aap (by omega)]
  have eT:=zqd (aap (n:=name.size+z1) (left:=left) (by omega))
  go_wp2_with fail
  go_ret
  exact⟨y7 eT.out.symm,hB1⟩
 rw[acg p1]
 have q1:0≤left - (name.size:Int) - (z1:Int):=by omega
 go_wp2_with fail
 have eT:=zqd (acg (n:=name.size+z1) (left:=left) (by omega))
 go_ret
 exact⟨y7 (by rw[eT.out]<;>omega),hB1⟩
theorem bdc (t:Fun):SzC 53 (Fun.pd t):=by obtain⟨name,⟨qm,⟨au,ay,iy,jq⟩,jl⟩⟩:=t;exact a97 (a1p _)
set_option maxHeartbeats 1600000 in
theorem a5y {ts : List Fun} (ih : ∀ t ∈ ts, SzC 53 (Fun.pd t)) : SzR 26 (.row 7 (ts.flatMap Fun.pd)) := by
  intro B v w left h0 h1 hB hwf h
  rw [PD.wf, afx] at hwf
  obtain ⟨A, n, c, rfl, hnl, hm, hat⟩ := ni Fun.jd (by decide) h
  unfold maxLen at hm
  rw [ahw Fun.jd (by decide), ← hnl]
  have HN := zqd hnl
  have HW := zqd hwf
  have HI := zqd ih
  clear ih
  clear h hnl hwf
  obtain ⟨S, hS⟩ : ∃ S : Nat, S = PD.szL (ts.flatMap Fun.pd) := ⟨_, rfl⟩
  rw [← hS]
  have HS := zqd hS
  clear hS
  by_cases hl : (n : Int) ≤ left
  · go_enter Tryz.func26, Tryz.ntmps26
    go_wp2_with fail
    go_loopw [1, 5] (fun l i wr => ∃ (k Q : Nat), k ≤ n ∧ l = .int .i64 (left - n - Q) ∧ i = .int .i64 k ∧ (n : Int) + Q ≤ left ∧ Hid (Q = PD.szL ((ts.take k).flatMap Fun.pd)) ∧ Below w.heap.size w wr) (fun _ i _ => n - (intOf i).toNat)
    case atStart => exact ⟨0, 0, Nat.zero_le _, by simp, rfl, by omega, zqd (by simp [PD.szL]), zqf _ _⟩
    case round =>
      obtain ⟨k, Q, hk, rfl, rfl, hQ, HQ, hbr⟩ := hrel
      by_cases hlt : k < n
      · obtain ⟨g, off, rfl, hg, hcell⟩ := hat (by omega)
        obtain ⟨t, hx, hmem⟩ := um HN.out hlt
        have hnx := ajb (f := Fun.pd) hx
        have hle := ahf (f := Fun.pd) hx
        rw [← HQ.out] at hnx hle
        rw [← HS.out] at hle
        obtain ⟨name, ⟨qm, ⟨au, ay, iy, jq⟩, jl⟩⟩ := t
        have c0 : wr.cell? ⟨g, off + k * 7, none⟩ = some (.string name) := bg hbr (by omega) (hcell k 0 _ _ hx (by rw [Fun.aj]; rfl))
        obtain ⟨aa1, c1, hr1⟩ : ∃ u, wr.cell? ⟨g, off + k * 7 + 1, none⟩ = some u ∧ Rep wr B (.row 5 (qm.flatMap Param.pd)) u := jc hbr (by omega) hB (hcell k 1 _ _ hx (by rw [Fun.aj]; rfl))
        have HR1 := zqd hr1
        clear hr1
        have c2 : wr.cell? ⟨g, off + k * 7 + 2, none⟩ = some (.int .i64 au) := bg hbr (by omega) (hcell k 2 _ _ hx (by rw [Fun.aj]; rfl))
        have c3 : wr.cell? ⟨g, off + k * 7 + 3, none⟩ = some (.string ay) := bg hbr (by omega) (hcell k 3 _ _ hx (by rw [Fun.aj]; rfl))
        obtain ⟨su, c4, hr4⟩ : ∃ u, wr.cell? ⟨g, off + k * 7 + 4, none⟩ = some u ∧ Rep wr B (.row 1 (iy.flatMap qj)) u := jc hbr (by omega) hB (hcell k 4 _ _ hx (by rw [Fun.aj]; rfl))
        have HR4 := zqd hr4
        clear hr4
        obtain ⟨xu, c5, hr5⟩ : ∃ u, wr.cell? ⟨g, off + k * 7 + 5, none⟩ = some u ∧ Rep wr B (.row 4 (jq.flatMap Ty.pd)) u := jc hbr (by omega) hB (hcell k 5 _ _ hx (by rw [Fun.aj]; rfl))
        have HR5 := zqd hr5
        clear hr5
        have c6 : wr.cell? ⟨g, off + k * 7 + 6, none⟩ = some (.bool jl) := bg hbr (by omega) (hcell k 6 _ _ hx (by rw [Fun.aj]; rfl))
        obtain ⟨z, hz⟩ : ∃ z : Nat, z = PD.szL (Fun.pd ⟨name, ⟨qm, ⟨au, ay, iy, jq⟩, jl⟩⟩) := ⟨_, rfl⟩
        have hc := HI.out _ hmem B [.string name, aa1, .int .i64 au, .string ay, su, xu, .bool jl] wr (left - n - Q) (by omega) (by omega) (Nat.le_trans hB hbr.size) (HW.out _ hmem) (Fun.close_ HR1.out HR4.out HR5.out)
        rw [← hz] at hc hnx hle
        clear hx hcell hz
        have HC := zqd hc
        have HX := zqd hnx
        clear hc hnx
        go_wp2_with fail
        refine HC.out.mono ?_
        rintro e wq ⟨rfl, hbq⟩
        by_cases hzl : (z : Int) ≤ left - n - Q
        · rw [acg hzl]
          have hp : 0 ≤ left - n - Q - (z : Int) := by omega
          go_wp2_with fail
          go_roundw
          case rel => exact ⟨k + 1, Q + z, by omega, by go_num, by go_num, by omega, zqd HX.out.symm, hbr.trans (hbq.mono hbr.size)⟩
          case measure => simp [intOf]; omega
        · rw [aap (by omega)]
          have e2 := zqd (aap (n := n + S) (show left < ((n + S : Nat) : Int) by omega))
          go_wp2_with fail
          go_ret
          exact ⟨y7 e2.out.symm, hbr.trans (hbq.mono hbr.size)⟩
      · have hkn : k = n := by omega
        subst hkn
        have hqs : Q = S := by rw [HQ.out, HS.out, List.take_of_length_le (by have := HN.out; omega)]
        have e2 := zqd (acg (n := k + S) (left := left) (by omega))
        clear hqs
        have HQS : Hid (Q = S) := by have : Q = S := by rw [HQ.out, HS.out, List.take_of_length_le (by have := HN.out; omega)]
                                     exact zqd this
        go_wp2_with fail
        go_ret
        exact ⟨y7 (by rw [e2.out, HQS.out]; omega), hbr⟩
  · have e2 := zqd (aap (n := n + S) (show left < ((n + S : Nat) : Int) by omega))
    go_enter Tryz.func26, Tryz.ntmps26
    go_wp2_with fail
    go_ret
    exact ⟨y7 e2.out.symm, zqf _ _⟩
theorem a98 (ts:List Fun):SzR 26 (.row 7 (ts.flatMap Fun.pd)):=a5y fun t _=>bdc t
set_option maxHeartbeats 1600000 in
theorem a99 {package:ByteArray} {name:ByteArray} {version:ByteArray} {resources:List ByteArray} {funcs:List Fun} (alg:SzR 25 (.row 1 (resources.flatMap qj))) (aqd:SzR 26 (.row 7 (funcs.flatMap Fun.pd))):SzC 7 (cu.pd ⟨package,name,version,resources,funcs⟩):=by
 intro B cs w left h0 h1 hB hwf h
 obtain⟨aai,adq,rfl,abl,aei⟩:=cu.open_ h
 rw[cu.aj] at hwf
 simp only[PD.wfL,PD.wf,and_true,true_and] at hwf
 obtain⟨asu,al6,asv,au4,a5z⟩:=hwf
 unfold maxLen at asu
 unfold maxLen at al6
 unfold maxLen at asv
 have bab:=zqd au4
 have ad4:=zqd abl
 clear au4 abl
 have bmy:=zqd a5z
 have agn:=zqd aei
 clear a5z aei
 rw[show PD.szL (cu.pd ⟨package,name,version,resources,funcs⟩)=package.size+name.size+version.size+(PD.row 1 (resources.flatMap qj)).sz+(PD.row 7 (funcs.flatMap Fun.pd)).sz by simp only[cu.aj,PD.szL,PD.sz]<;>omega]
 obtain⟨z3,hz3⟩:∃ z:Nat,z=(PD.row 1 (resources.flatMap qj)).sz:=⟨_,rfl⟩
 rw[← hz3]
 have Z3:=zqd hz3
 clear hz3
 obtain⟨z4,hz4⟩:∃ z:Nat,z=(PD.row 7 (funcs.flatMap Fun.pd)).sz:=⟨_,rfl⟩
 rw[← hz4]
 have Z4:=zqd hz4
 clear hz4
 by_cases p0:((package.size:Nat):Int)≤left
 case neg=>
  have eT:=zqd (aap (n:=package.size+name.size+version.size+z3+z4) (left:=left) (by omega))
  go_enter Tryz.func7,Tryz.ntmps7
  go_wp2_with fail
  go_ret
  exact⟨y7 eT.out.symm,(zqf _ _).alloc (zql _) _⟩
 have q0:0≤left - ((package.size:Nat):Int):=by omega
 by_cases p1:((name.size:Nat):Int)≤left - (package.size:Int)
 case neg=>
  have eT:=zqd (aap (n:=package.size+name.size+version.size+z3+z4) (left:=left) (by omega))
  go_enter Tryz.func7,Tryz.ntmps7
  go_wp2_with fail
  go_ret
  exact⟨y7 eT.out.symm,(zqf _ _).alloc (zql _) _⟩
 have q1:0≤left - (package.size:Int) - ((name.size:Nat):Int):=by omega
 by_cases p2:((version.size:Nat):Int)≤left - (package.size:Int) - (name.size:Int)
 case neg=>
  have eT:=zqd (aap (n:=package.size+name.size+version.size+z3+z4) (left:=left) (by omega))
  go_enter Tryz.func7,Tryz.ntmps7
  go_wp2_with fail
  go_ret
  exact⟨y7 eT.out.symm,(zqf _ _).alloc (zql _) _⟩
 have q2:0≤left - (package.size:Int) - (name.size:Int) - ((version.size:Nat):Int):=by omega
 go_enter Tryz.func7,Tryz.ntmps7
 go_wp2_with fail
 obtain⟨w0,hw0⟩:∃ w0,w0=w.alloc (.cells #[.string package,.string name,.string version,aai,adq] 25):=⟨_,rfl⟩
 rw[← hw0]
 have bA:=zqn hw0
 have hB0:=zqb hw0
 clear hw0
 refine(alg B aai _ (left - (package.size:Int) - (name.size:Int) - (version.size:Int)) (by omega) (by omega) (Nat.le_trans hB hB0.size) bab.out (ad4.out.below (hB0.mono hB))).mono ?_
 rintro e w1 ⟨rfl,hb1⟩
 have hB1:=hB0.trans (hb1.mono hB0.size)
 replace bA:=bA.step hb1
 rw[← Z3.out]
 by_cases p3:(z3:Int)≤left - (package.size:Int) - (name.size:Int) - (version.size:Int)
 case neg=>
  rw[aap (by omega)]
  have eT:=zqd (aap (n:=package.size+name.size+version.size+z3+z4) (left:=left) (by omega))
  go_wp2_with fail
  go_ret
  exact⟨y7 eT.out.symm,hB1⟩
 rw[acg p3]
 have q3:0≤left - (package.size:Int) - (name.size:Int) - (version.size:Int) - (z3:Int):=by omega
 have a5w:w1.cell? ⟨w.heap.size,4,none⟩=some (adq):=bA.cell 4
 go_wp2_with fail
 refine(aqd B adq _ (left - (package.size:Int) - (name.size:Int) - (version.size:Int) - (z3:Int)) (by omega) (by omega) (Nat.le_trans hB hB1.size) bmy.out (agn.out.below (hB1.mono hB))).mono ?_
 rintro e w2 ⟨rfl,hb2⟩
 have hB2:=hB1.trans (hb2.mono hB1.size)
 replace bA:=bA.step hb2
 rw[← Z4.out]
 by_cases p4:(z4:Int)≤left - (package.size:Int) - (name.size:Int) - (version.size:Int) - (z3:Int)
 case neg=>
  rw[aap (by omega)]
  have eT:=zqd (aap (n:=package.size+name.size+version.size+z3+z4) (left:=left) (by omega))
  go_wp2_with fail
  go_ret
  exact⟨y7 eT.out.symm,hB2⟩
 rw[acg p4]
 have q4:0≤left - (package.size:Int) - (name.size:Int) - (version.size:Int) - (z3:Int) - (z4:Int):=by omega
 go_wp2_with fail
 have eT:=zqd (acg (n:=package.size+name.size+version.size+z3+z4) (left:=left) (by omega))
 go_ret
 exact⟨y7 (by rw[eT.out]<;>omega),hB2⟩
theorem bdd (t:cu):SzC 7 (cu.pd t):=by obtain⟨package,name,version,resources,funcs⟩:=t;exact a99 aru (a98 funcs)
set_option maxHeartbeats 1600000 in
theorem a6a {ts : List cu} (ih : ∀ t ∈ ts, SzC 7 (cu.pd t)) : SzR 36 (.row 5 (ts.flatMap cu.pd)) := by
  intro B v w left h0 h1 hB hwf h
  rw [PD.wf, afx] at hwf
  obtain ⟨A, n, c, rfl, hnl, hm, hat⟩ := ni cu.jd (by decide) h
  unfold maxLen at hm
  rw [ahw cu.jd (by decide), ← hnl]
  have HN := zqd hnl
  have HW := zqd hwf
  have HI := zqd ih
  clear ih
  clear h hnl hwf
  obtain ⟨S, hS⟩ : ∃ S : Nat, S = PD.szL (ts.flatMap cu.pd) := ⟨_, rfl⟩
  rw [← hS]
  have HS := zqd hS
  clear hS
  by_cases hl : (n : Int) ≤ left
  · go_enter Tryz.func36, Tryz.ntmps36
    go_wp2_with fail
    go_loopw [1, 5] (fun l i wr => ∃ (k Q : Nat), k ≤ n ∧ l = .int .i64 (left - n - Q) ∧ i = .int .i64 k ∧ (n : Int) + Q ≤ left ∧ Hid (Q = PD.szL ((ts.take k).flatMap cu.pd)) ∧ Below w.heap.size w wr) (fun _ i _ => n - (intOf i).toNat)
    case atStart => exact ⟨0, 0, Nat.zero_le _, by simp, rfl, by omega, zqd (by simp [PD.szL]), zqf _ _⟩
    case round =>
      obtain ⟨k, Q, hk, rfl, rfl, hQ, HQ, hbr⟩ := hrel
      by_cases hlt : k < n
      · obtain ⟨g, off, rfl, hg, hcell⟩ := hat (by omega)
        obtain ⟨t, hx, hmem⟩ := um HN.out hlt
        have hnx := ajb (f := cu.pd) hx
        have hle := ahf (f := cu.pd) hx
        rw [← HQ.out] at hnx hle
        rw [← HS.out] at hle
        obtain ⟨package, name, version, resources, funcs⟩ := t
        have c0 : wr.cell? ⟨g, off + k * 5, none⟩ = some (.string package) := bg hbr (by omega) (hcell k 0 _ _ hx (by rw [cu.aj]; rfl))
        have c1 : wr.cell? ⟨g, off + k * 5 + 1, none⟩ = some (.string name) := bg hbr (by omega) (hcell k 1 _ _ hx (by rw [cu.aj]; rfl))
        have c2 : wr.cell? ⟨g, off + k * 5 + 2, none⟩ = some (.string version) := bg hbr (by omega) (hcell k 2 _ _ hx (by rw [cu.aj]; rfl))
        obtain ⟨aai, c3, hr3⟩ : ∃ u, wr.cell? ⟨g, off + k * 5 + 3, none⟩ = some u ∧ Rep wr B (.row 1 (resources.flatMap qj)) u := jc hbr (by omega) hB (hcell k 3 _ _ hx (by rw [cu.aj]; rfl))
        have HR3 := zqd hr3
        clear hr3
        obtain ⟨adq, c4, hr4⟩ : ∃ u, wr.cell? ⟨g, off + k * 5 + 4, none⟩ = some u ∧ Rep wr B (.row 7 (funcs.flatMap Fun.pd)) u := jc hbr (by omega) hB (hcell k 4 _ _ hx (by rw [cu.aj]; rfl))
        have HR4 := zqd hr4
        clear hr4
        obtain ⟨z, hz⟩ : ∃ z : Nat, z = PD.szL (cu.pd ⟨package, name, version, resources, funcs⟩) := ⟨_, rfl⟩
        have hc := HI.out _ hmem B [.string package, .string name, .string version, aai, adq] wr (left - n - Q) (by omega) (by omega) (Nat.le_trans hB hbr.size) (HW.out _ hmem) (cu.close_ HR3.out HR4.out)
        rw [← hz] at hc hnx hle
        clear hx hcell hz
        have HC := zqd hc
        have HX := zqd hnx
        clear hc hnx
        go_wp2_with fail
        refine HC.out.mono ?_
        rintro e wq ⟨rfl, hbq⟩
        by_cases hzl : (z : Int) ≤ left - n - Q
        · rw [acg hzl]
          have hp : 0 ≤ left - n - Q - (z : Int) := by omega
          go_wp2_with fail
          go_roundw
          case rel => exact ⟨k + 1, Q + z, by omega, by go_num, by go_num, by omega, zqd HX.out.symm, hbr.trans (hbq.mono hbr.size)⟩
          case measure => simp [intOf]; omega
        · rw [aap (by omega)]
          have e2 := zqd (aap (n := n + S) (show left < ((n + S : Nat) : Int) by omega))
          go_wp2_with fail
          go_ret
          exact ⟨y7 e2.out.symm, hbr.trans (hbq.mono hbr.size)⟩
      · have hkn : k = n := by omega
        subst hkn
        have hqs : Q = S := by rw [HQ.out, HS.out, List.take_of_length_le (by have := HN.out; omega)]
        have e2 := zqd (acg (n := k + S) (left := left) (by omega))
        clear hqs
        have HQS : Hid (Q = S) := by have : Q = S := by rw [HQ.out, HS.out, List.take_of_length_le (by have := HN.out; omega)]
                                     exact zqd this
        go_wp2_with fail
        go_ret
        exact ⟨y7 (by rw [e2.out, HQS.out]; omega), hbr⟩
  · have e2 := zqd (aap (n := n + S) (show left < ((n + S : Nat) : Int) by omega))
    go_enter Tryz.func36, Tryz.ntmps36
    go_wp2_with fail
    go_ret
    exact ⟨y7 e2.out.symm, zqf _ _⟩
theorem axu (ts:List cu):SzR 36 (.row 5 (ts.flatMap cu.pd)):=a6a fun t _=>bdd t
set_option maxHeartbeats 1600000 in
theorem a6b {package:ByteArray} {name:ByteArray} {version:ByteArray} {imports:List cu} {exports:List cu} (anr:SzR 36 (.row 5 (imports.flatMap cu.pd))) (ant:SzR 36 (.row 5 (exports.flatMap cu.pd))):SzC 15 (Wld.pd ⟨package,name,version,imports,exports⟩):=by
 intro B cs w left h0 h1 hB hwf h
 obtain⟨aag,zl,rfl,aho,ahp⟩:=Wld.open_ h
 rw[Wld.aj] at hwf
 simp only[PD.wfL,PD.wf,and_true,true_and] at hwf
 obtain⟨asu,al6,asv,azy,azz⟩:=hwf
 unfold maxLen at asu
 unfold maxLen at al6
 unfold maxLen at asv
 have bfz:=zqd azy
 have ao6:=zqd aho
 clear azy aho
 have bf0:=zqd azz
 have ao7:=zqd ahp
 clear azz ahp
 rw[show PD.szL (Wld.pd ⟨package,name,version,imports,exports⟩)=package.size+name.size+version.size+(PD.row 5 (imports.flatMap cu.pd)).sz+(PD.row 5 (exports.flatMap cu.pd)).sz by simp only[Wld.aj,PD.szL,PD.sz]<;>omega]
 obtain⟨z3,hz3⟩:∃ z:Nat,z=(PD.row 5 (imports.flatMap cu.pd)).sz:=⟨_,rfl⟩
 rw[← hz3]
 have Z3:=zqd hz3
 clear hz3
 obtain⟨z4,hz4⟩:∃ z:Nat,z=(PD.row 5 (exports.flatMap cu.pd)).sz:=⟨_,rfl⟩
 rw[← hz4]
 have Z4:=zqd hz4
 clear hz4
 by_cases p0:((package.size:Nat):Int)≤left
 case neg=>
  have eT:=zqd (aap (n:=package.size+name.size+version.size+z3+z4) (left:=left) (by omega))
  go_enter Tryz.func15,Tryz.ntmps15
  go_wp2_with fail
  go_ret
  exact⟨y7 eT.out.symm,(zqf _ _).alloc (zql _) _⟩
 have q0:0≤left - ((package.size:Nat):Int):=by omega
 by_cases p1:((name.size:Nat):Int)≤left - (package.size:Int)
 case neg=>
  have eT:=zqd (aap (n:=package.size+name.size+version.size+z3+z4) (left:=left) (by omega))
  go_enter Tryz.func15,Tryz.ntmps15
  go_wp2_with fail
  go_ret
  exact⟨y7 eT.out.symm,(zqf _ _).alloc (zql _) _⟩
 have q1:0≤left - (package.size:Int) - ((name.size:Nat):Int):=by omega
 by_cases p2:((version.size:Nat):Int)≤left - (package.size:Int) - (name.size:Int)
 case neg=>
  have eT:=zqd (aap (n:=package.size+name.size+version.size+z3+z4) (left:=left) (by omega))
  go_enter Tryz.func15,Tryz.ntmps15
  go_wp2_with fail
  go_ret
  exact⟨y7 eT.out.symm,(zqf _ _).alloc (zql _) _⟩
 have q2:0≤left - (package.size:Int) - (name.size:Int) - ((version.size:Nat):Int):=by omega
 go_enter Tryz.func15,Tryz.ntmps15
 go_wp2_with fail
 obtain⟨w0,hw0⟩:∃ w0,w0=w.alloc (.cells #[.string package,.string name,.string version,aag,zl] 40):=⟨_,rfl⟩
 rw[← hw0]
 have bA:=zqn hw0
 have hB0:=zqb hw0
 clear hw0
 refine(anr B aag _ (left - (package.size:Int) - (name.size:Int) - (version.size:Int)) (by omega) (by omega) (Nat.le_trans hB hB0.size) bfz.out (ao6.out.below (hB0.mono hB))).mono ?_
 rintro e w1 ⟨rfl,hb1⟩
 have hB1:=hB0.trans (hb1.mono hB0.size)
 replace bA:=bA.step hb1
 rw[← Z3.out]
 by_cases p3:(z3:Int)≤left - (package.size:Int) - (name.size:Int) - (version.size:Int)
 case neg=>
  rw[aap (by omega)]
  have eT:=zqd (aap (n:=package.size+name.size+version.size+z3+z4) (left:=left) (by omega))
  go_wp2_with fail
  go_ret
  exact⟨y7 eT.out.symm,hB1⟩
 rw[acg p3]
 have q3:0≤left - (package.size:Int) - (name.size:Int) - (version.size:Int) - (z3:Int):=by omega
 have a5w:w1.cell? ⟨w.heap.size,4,none⟩=some (zl):=bA.cell 4
 go_wp2_with fail
 refine(ant B zl _ (left - (package.size:Int) - (name.size:Int) - (version.size:Int) - (z3:Int)) (by omega) (by omega) (Nat.le_trans hB hB1.size) bf0.out (ao7.out.below (hB1.mono hB))).mono ?_
 rintro e w2 ⟨rfl,hb2⟩
 have hB2:=hB1.trans (hb2.mono hB1.size)
 replace bA:=bA.step hb2
 rw[← Z4.out]
 by_cases p4:(z4:Int)≤left - (package.size:Int) - (name.size:Int) - (version.size:Int) - (z3:Int)
 case neg=>
  rw[aap (by omega)]
  have eT:=zqd (aap (n:=package.size+name.size+version.size+z3+z4) (left:=left) (by omega))
  go_wp2_with fail
  go_ret
  exact⟨y7 eT.out.symm,hB2⟩
 rw[acg p4]
 have q4:0≤left - (package.size:Int) - (name.size:Int) - (version.size:Int) - (z3:Int) - (z4:Int):=by omega
 go_wp2_with fail
 have eT:=zqd (acg (n:=package.size+name.size+version.size+z3+z4) (left:=left) (by omega))
 go_ret
 exact⟨y7 (by rw[eT.out]<;>omega),hB2⟩
theorem amj (t:Wld):SzC 15 (Wld.pd t):=by obtain⟨package,name,version,imports,exports⟩:=t;exact a6b (axu imports) (axu exports)
end Go.Proofs.YtbafphecjijdmaaGreatDoor
