/-
  The laws' own helpers 'sz..' over the program's types (by program: tygen2.py, tyfam.py).
-/
import Derived.Test.YtbafphecjijdmaaGreatDoorWa04
import Derived.Test.YtbafphecjijdmaaGreatDoorWa05
namespace Go.Proofs.YtbafphecjijdmaaGreatDoor
open Go.RowKit
set_option linter.unusedVariables false
set_option linter.unusedSimpArgs false
set_option linter.unnecessarySimpa false
set_option maxRecDepth 100000
set_option maxHeartbeats 1600000 in
theorem ap1 {ts : List ByteArray} : SzR 25 (.row 1 (ts.flatMap tu)) := by
  intro B v w left h0 h1 hB hwf h
  rw [PD.wf, agr] at hwf
  obtain ⟨A, n, c, rfl, hnl, hm, hat⟩ := ny aat (by decide) h
  unfold maxLen at hm
  rw [aic aat (by decide), ← hnl]
  have HN := Lib.hid hnl
  have HW := Lib.hid hwf
  clear h hnl hwf
  obtain ⟨S, hS⟩ : ∃ S : Nat, S = PD.szL (ts.flatMap tu) := ⟨_, rfl⟩
  rw [← hS]
  have HS := Lib.hid hS
  clear hS
  by_cases hl : (n : Int) ≤ left
  · go_enter Tryz.func25, Tryz.ntmps25
    go_wp2_with fail
    go_loopw [1, 5] (fun l i wr => ∃ (k Q : Nat), k ≤ n ∧ l = .int .i64 (left - n - Q) ∧ i = .int .i64 k ∧ (n : Int) + Q ≤ left ∧ Hid (Q = PD.szL ((ts.take k).flatMap tu)) ∧ Below w.heap.size w wr) (fun _ i _ => n - (intOf i).toNat)
    case atStart => exact ⟨0, 0, Nat.zero_le _, by simp, rfl, by omega, Lib.hid (by simp [PD.szL]), Below.refl _ _⟩
    case round =>
      obtain ⟨k, Q, hk, rfl, rfl, hQ, HQ, hbr⟩ := hrel
      by_cases hlt : k < n
      · obtain ⟨g, off, rfl, hg, hcell⟩ := hat (by omega)
        obtain ⟨t, hx, hmem⟩ := xg HN.out hlt
        have hnx := aj7 (f := tu) hx
        have hle := ahr (f := tu) hx
        rw [← HQ.out] at hnx hle
        rw [← HS.out] at hle
        have c0 : wr.cell? ⟨g, off + k, none⟩ = some (.string t) := gq hbr (by omega) (by have := hcell k 0 _ _ hx rfl; simpa using this)
        rw [bcl] at hnx hle
        have hsz : t.size ≤ maxLen := by have := HW.out _ hmem; simpa [tu, PD.wfL, PD.wf] using this
        unfold maxLen at hsz
        have HX := Lib.hid hnx
        clear hx hcell hnx
        by_cases hzl : (t.size : Int) ≤ left - n - Q
        · have hp : 0 ≤ left - n - Q - (t.size : Int) := by omega
          go_wp2_with fail
          go_roundw
          case rel => exact ⟨k + 1, Q + t.size, by omega, by go_num, by go_num, by omega, Lib.hid HX.out.symm, hbr⟩
          case measure => simp [intOf]; omega
        · have e2 := Lib.hid (abm (n := n + S) (show left < ((n + S : Nat) : Int) by omega))
          go_wp2_with fail
          go_ret
          exact ⟨aao e2.out.symm, hbr⟩
      · have hkn : k = n := by omega
        subst hkn
        have hqs : Q = S := by rw [HQ.out, HS.out, List.take_of_length_le (by have := HN.out; omega)]
        have e2 := Lib.hid (ac8 (n := k + S) (left := left) (by omega))
        clear hqs
        have HQS : Hid (Q = S) := by have : Q = S := by rw [HQ.out, HS.out, List.take_of_length_le (by have := HN.out; omega)]
                                     exact Lib.hid this
        go_wp2_with fail
        go_ret
        exact ⟨aao (by rw [e2.out, HQS.out]; omega), hbr⟩
  · have e2 := Lib.hid (abm (n := n + S) (show left < ((n + S : Nat) : Int) by omega))
    go_enter Tryz.func25, Tryz.ntmps25
    go_wp2_with fail
    go_ret
    exact ⟨aao e2.out.symm, Below.refl _ _⟩
set_option maxHeartbeats 1600000 in
theorem a0x {ts : List Ty} (ih : ∀ t ∈ ts, SzC 44 (Ty.pd t)) : SzR 78 (.row 4 (ts.flatMap Ty.pd)) := by
  intro B v w left h0 h1 hB hwf h
  rw [PD.wf, agr] at hwf
  obtain ⟨A, n, c, rfl, hnl, hm, hat⟩ := ny Ty.jw (by decide) h
  unfold maxLen at hm
  rw [aic Ty.jw (by decide), ← hnl]
  have HN := Lib.hid hnl
  have HW := Lib.hid hwf
  have HI := Lib.hid ih
  clear ih
  clear h hnl hwf
  obtain ⟨S, hS⟩ : ∃ S : Nat, S = PD.szL (ts.flatMap Ty.pd) := ⟨_, rfl⟩
  rw [← hS]
  have HS := Lib.hid hS
  clear hS
  by_cases hl : (n : Int) ≤ left
  · go_enter Tryz.func78, Tryz.ntmps78
    go_wp2_with fail
    go_loopw [1, 5] (fun l i wr => ∃ (k Q : Nat), k ≤ n ∧ l = .int .i64 (left - n - Q) ∧ i = .int .i64 k ∧ (n : Int) + Q ≤ left ∧ Hid (Q = PD.szL ((ts.take k).flatMap Ty.pd)) ∧ Below w.heap.size w wr) (fun _ i _ => n - (intOf i).toNat)
    case atStart => exact ⟨0, 0, Nat.zero_le _, by simp, rfl, by omega, Lib.hid (by simp [PD.szL]), Below.refl _ _⟩
    case round =>
      obtain ⟨k, Q, hk, rfl, rfl, hQ, HQ, hbr⟩ := hrel
      by_cases hlt : k < n
      · obtain ⟨g, off, rfl, hg, hcell⟩ := hat (by omega)
        obtain ⟨t, hx, hmem⟩ := xg HN.out hlt
        have hnx := aj7 (f := Ty.pd) hx
        have hle := ahr (f := Ty.pd) hx
        rw [← HQ.out] at hnx hle
        rw [← HS.out] at hle
        obtain ⟨kind, name, labels, kids⟩ := t
        have c0 : wr.cell? ⟨g, off + k * 4, none⟩ = some (.int .i64 kind) := gq hbr (by omega) (hcell k 0 _ _ hx (by rw [Ty.ay]; rfl))
        have c1 : wr.cell? ⟨g, off + k * 4 + 1, none⟩ = some (.string name) := gq hbr (by omega) (hcell k 1 _ _ hx (by rw [Ty.ay]; rfl))
        obtain ⟨iq, c2, hr2⟩ : ∃ u, wr.cell? ⟨g, off + k * 4 + 2, none⟩ = some u ∧ Rep wr B (.row 1 (labels.flatMap tu)) u := ku hbr (by omega) hB (hcell k 2 _ _ hx (by rw [Ty.ay]; rfl))
        have HR2 := Lib.hid hr2
        clear hr2
        obtain ⟨qp, c3, hr3⟩ : ∃ u, wr.cell? ⟨g, off + k * 4 + 3, none⟩ = some u ∧ Rep wr B (.row 4 (kids.flatMap Ty.pd)) u := ku hbr (by omega) hB (hcell k 3 _ _ hx (by rw [Ty.ay]; rfl))
        have HR3 := Lib.hid hr3
        clear hr3
        obtain ⟨z, hz⟩ : ∃ z : Nat, z = PD.szL (Ty.pd ⟨kind, name, labels, kids⟩) := ⟨_, rfl⟩
        have hc := HI.out _ hmem B [.int .i64 kind, .string name, iq, qp] wr (left - n - Q) (by omega) (by omega) (Nat.le_trans hB hbr.size) (HW.out _ hmem) (Ty.close_ HR2.out HR3.out)
        rw [← hz] at hc hnx hle
        clear hx hcell hz
        have HC := Lib.hid hc
        have HX := Lib.hid hnx
        clear hc hnx
        go_wp2_with fail
        refine HC.out.mono ?_
        rintro e wq ⟨rfl, hbq⟩
        by_cases hzl : (z : Int) ≤ left - n - Q
        · rw [ac8 hzl]
          have hp : 0 ≤ left - n - Q - (z : Int) := by omega
          go_wp2_with fail
          go_roundw
          case rel => exact ⟨k + 1, Q + z, by omega, by go_num, by go_num, by omega, Lib.hid HX.out.symm, hbr.trans (hbq.mono hbr.size)⟩
          case measure => simp [intOf]; omega
        · rw [abm (by omega)]
          have e2 := Lib.hid (abm (n := n + S) (show left < ((n + S : Nat) : Int) by omega))
          go_wp2_with fail
          go_ret
          exact ⟨aao e2.out.symm, hbr.trans (hbq.mono hbr.size)⟩
      · have hkn : k = n := by omega
        subst hkn
        have hqs : Q = S := by rw [HQ.out, HS.out, List.take_of_length_le (by have := HN.out; omega)]
        have e2 := Lib.hid (ac8 (n := k + S) (left := left) (by omega))
        clear hqs
        have HQS : Hid (Q = S) := by have : Q = S := by rw [HQ.out, HS.out, List.take_of_length_le (by have := HN.out; omega)]
                                     exact Lib.hid this
        go_wp2_with fail
        go_ret
        exact ⟨aao (by rw [e2.out, HQS.out]; omega), hbr⟩
  · have e2 := Lib.hid (abm (n := n + S) (show left < ((n + S : Nat) : Int) by omega))
    go_enter Tryz.func78, Tryz.ntmps78
    go_wp2_with fail
    go_ret
    exact ⟨aao e2.out.symm, Below.refl _ _⟩
set_option maxHeartbeats 1600000 in
theorem a3z {kind:Int} {name:ByteArray} {labels:List ByteArray} {kids:List Ty} (anq:SzR 25 (.row 1 (labels.flatMap tu))) (ap2:SzR 78 (.row 4 (kids.flatMap Ty.pd))):SzC 44 (Ty.pd ⟨kind,name,labels,kids⟩):=by
 intro B cs w left h0 h1 hB hwf h
 obtain⟨iq,qp,rfl,bf,eu⟩:=Ty.open_ h
 rw[Ty.ay] at hwf
 simp only[PD.wfL,PD.wf,and_true,true_and] at hwf
 obtain⟨bgp,am9,ay8,a5n⟩:=hwf
 clear bgp
 unfold maxLen at am9
 have bcn:=Lib.hid ay8
 have pq:=Lib.hid bf
 clear ay8 bf
 have bkm:=Lib.hid a5n
 have qm:=Lib.hid eu
 clear a5n eu
 rw[show PD.szL (Ty.pd ⟨kind,name,labels,kids⟩)=name.size+(PD.row 1 (labels.flatMap tu)).sz+(PD.row 4 (kids.flatMap Ty.pd)).sz by simp only[Ty.ay,PD.szL,PD.sz]<;>omega]
 obtain⟨z1,hz1⟩:∃ z:Nat,z=(PD.row 1 (labels.flatMap tu)).sz:=⟨_,rfl⟩
 rw[← hz1]
 have Z1:=Lib.hid hz1
 clear hz1
 obtain⟨z2,hz2⟩:∃ z:Nat,z=(PD.row 4 (kids.flatMap Ty.pd)).sz:=⟨_,rfl⟩
 rw[← hz2]
 have Z2:=Lib.hid hz2
 clear hz2
 by_cases p0:((name.size:Nat):Int)≤left
 case neg=>
  have eT:=Lib.hid (abm (n:=name.size+z1+z2) (left:=left) (by omega))
  go_enter Tryz.func44,Tryz.ntmps44
  go_wp2_with fail
  go_ret
  exact⟨aao eT.out.symm,(Below.refl _ _).alloc (Nat.le_refl _) _⟩
 have q0:0≤left - ((name.size:Nat):Int):=by omega
 go_enter Tryz.func44,Tryz.ntmps44
 go_wp2_with fail
 obtain⟨w0,hw0⟩:∃ w0,w0=w.alloc (.cells #[.int .i64 kind,.string name,iq,qp] 52):=⟨_,rfl⟩
 rw[← hw0]
 have bA:Blk w0 w.heap.size 52 #[.int .i64 kind,.string name,iq,qp]:=by rw[hw0];exact Blk.new w _ _
 have hB0:Below w.heap.size w w0:=by rw[hw0];exact(Below.refl _ _).alloc (Nat.le_refl _) _
 clear hw0
 refine(anq B iq _ (left - (name.size:Int)) (by omega) (by omega) (Nat.le_trans hB hB0.size) bcn.out (pq.out.below (hB0.mono hB))).mono ?_
 rintro e w1 ⟨rfl,hb1⟩
 have hB1:=hB0.trans (hb1.mono hB0.size)
 replace bA:=bA.step hb1
 rw[← Z1.out]
 by_cases p1:(z1:Int)≤left - (name.size:Int)
 case neg=>
  rw[abm (by omega)]
  have eT:=Lib.hid (abm (n:=name.size+z1+z2) (left:=left) (by omega))
  go_wp2_with fail
  go_ret
  exact⟨aao eT.out.symm,hB1⟩
 rw[ac8 p1]
 have q1:0≤left - (name.size:Int) - (z1:Int):=by omega
 have aa1:w1.cell? ⟨w.heap.size,3,none⟩=some (qp):=bA.cell 3
 go_wp2_with fail
 refine(ap2 B qp _ (left - (name.size:Int) - (z1:Int)) (by omega) (by omega) (Nat.le_trans hB hB1.size) bkm.out (qm.out.below (hB1.mono hB))).mono ?_
 rintro e w2 ⟨rfl,hb2⟩
 have hB2:=hB1.trans (hb2.mono hB1.size)
 replace bA:=bA.step hb2
 rw[← Z2.out]
 by_cases p2:(z2:Int)≤left - (name.size:Int) - (z1:Int)
 case neg=>
  rw[abm (by omega)]
  have eT:=Lib.hid (abm (n:=name.size+z1+z2) (left:=left) (by omega))
  go_wp2_with fail
  go_ret
  exact⟨aao eT.out.symm,hB2⟩
 rw[ac8 p2]
 have q2:0≤left - (name.size:Int) - (z1:Int) - (z2:Int):=by omega
 go_wp2_with fail
 have eT:=Lib.hid (ac8 (n:=name.size+z1+z2) (left:=left) (by omega))
 go_ret
 exact⟨aao (by rw[eT.out]<;>omega),hB2⟩
mutual
theorem aqs:∀ t:Ty,SzC 44 (Ty.pd t)
 | .mk kind name labels kids=>a3z ap1 (a0x (awp kids))
theorem awp:∀ ts:List Ty,∀ t ∈ ts,SzC 44 (Ty.pd t)
 | [],x,hx=>absurd hx (by simp)
 | t ::r,x,hx=>(List.mem_cons.1 hx).elim (fun e=>e ▸ aqs t) (fun h=>awp r x h)
end
set_option maxHeartbeats 1600000 in
theorem a0y {name:ByteArray} {iy:Int} {ji:ByteArray} {og:List ByteArray} {um:List Ty} (akk:SzC 44 (Ty.pd ⟨iy,ji,og,um⟩)):SzC 77 (Param.pd ⟨name,⟨iy,ji,og,um⟩⟩):=by
 intro B cs w left h0 h1 hB hwf h
 obtain⟨aau,abx,rfl,abd,ace⟩:=Param.open_ h
 rw[Param.ay] at hwf
 simp only[PD.wfL,PD.wf,and_true,true_and] at hwf
 obtain⟨am9,au9,ava,ar9,avb⟩:=hwf
 unfold maxLen at am9
 have a7a:=Lib.hid au9
 clear au9
 unfold maxLen at ava
 have a0z:=Lib.hid ar9
 have acs:=Lib.hid abd
 clear ar9 abd
 have a7b:=Lib.hid avb
 have adz:=Lib.hid ace
 clear avb ace
 rw[show PD.szL (Param.pd ⟨name,⟨iy,ji,og,um⟩⟩)=name.size+PD.szL (Ty.pd ⟨iy,ji,og,um⟩) by simp only[Param.ay,PD.szL,PD.sz,Ty.ay]<;>omega]
 obtain⟨z1,hz1⟩:∃ z:Nat,z=PD.szL (Ty.pd ⟨iy,ji,og,um⟩):=⟨_,rfl⟩
 rw[← hz1]
 have Z1:=Lib.hid hz1
 clear hz1
 have ap3:PD.wfL (Ty.pd ⟨iy,ji,og,um⟩):=by rw[Ty.ay];simp only[PD.wfL,PD.wf,and_true,true_and];exact⟨a7a.out,by unfold maxLen;exact ava,a0z.out,a7b.out⟩
 have a00:=Lib.hid ap3
 clear ap3
 by_cases p0:((name.size:Nat):Int)≤left
 case neg=>
  have eT:=Lib.hid (abm (n:=name.size+z1) (left:=left) (by omega))
  go_enter Tryz.func77,Tryz.ntmps77
  go_wp2_with fail
  go_ret
  exact⟨aao eT.out.symm,(Below.refl _ _).alloc (Nat.le_refl _) _⟩
 have q0:0≤left - ((name.size:Nat):Int):=by omega
 go_enter Tryz.func77,Tryz.ntmps77
 go_wp2_with fail
 obtain⟨w0,hw0⟩:∃ w0,w0=w.alloc (.cells #[.string name,.int .i64 iy,.string ji,aau,abx] 112):=⟨_,rfl⟩
 rw[← hw0]
 have bA:Blk w0 w.heap.size 112 #[.string name,.int .i64 iy,.string ji,aau,abx]:=by rw[hw0];exact Blk.new w _ _
 have hB0:Below w.heap.size w w0:=by rw[hw0];exact(Below.refl _ _).alloc (Nat.le_refl _) _
 clear hw0
 refine(akk B [.int .i64 iy,.string ji,aau,abx] _ (left - (name.size:Int)) (by omega) (by omega) (Nat.le_trans hB hB0.size) a00.out (Ty.close_ (acs.out.below (hB0.mono hB)) (adz.out.below (hB0.mono hB)))).mono ?_
 rintro e w1 ⟨rfl,hb1⟩
 have hB1:=hB0.trans (hb1.mono hB0.size)
 replace bA:=bA.step hb1
 rw[← Z1.out]
 by_cases p1:(z1:Int)≤left - (name.size:Int)
 case neg=>
  rw[abm (by omega)]
  have eT:=Lib.hid (abm (n:=name.size+z1) (left:=left) (by omega))
  go_wp2_with fail
  go_ret
  exact⟨aao eT.out.symm,hB1⟩
 rw[ac8 p1]
 have q1:0≤left - (name.size:Int) - (z1:Int):=by omega
 go_wp2_with fail
 have eT:=Lib.hid (ac8 (n:=name.size+z1) (left:=left) (by omega))
 go_ret
 exact⟨aao (by rw[eT.out]<;>omega),hB1⟩
theorem a4a (t:Param):SzC 77 (Param.pd t):=by obtain⟨name,⟨iy,ji,og,um⟩⟩:=t;exact a0y (aqs _)
set_option maxHeartbeats 1600000 in
theorem azv {ts : List Param} (ih : ∀ t ∈ ts, SzC 77 (Param.pd t)) : SzR 43 (.row 5 (ts.flatMap Param.pd)) := by
  intro B v w left h0 h1 hB hwf h
  rw [PD.wf, agr] at hwf
  obtain ⟨A, n, c, rfl, hnl, hm, hat⟩ := ny Param.jw (by decide) h
  unfold maxLen at hm
  rw [aic Param.jw (by decide), ← hnl]
  have HN := Lib.hid hnl
  have HW := Lib.hid hwf
  have HI := Lib.hid ih
  clear ih
  clear h hnl hwf
  obtain ⟨S, hS⟩ : ∃ S : Nat, S = PD.szL (ts.flatMap Param.pd) := ⟨_, rfl⟩
  rw [← hS]
  have HS := Lib.hid hS
  clear hS
  by_cases hl : (n : Int) ≤ left
  · go_enter Tryz.func43, Tryz.ntmps43
    go_wp2_with fail
    go_loopw [1, 5] (fun l i wr => ∃ (k Q : Nat), k ≤ n ∧ l = .int .i64 (left - n - Q) ∧ i = .int .i64 k ∧ (n : Int) + Q ≤ left ∧ Hid (Q = PD.szL ((ts.take k).flatMap Param.pd)) ∧ Below w.heap.size w wr) (fun _ i _ => n - (intOf i).toNat)
    case atStart => exact ⟨0, 0, Nat.zero_le _, by simp, rfl, by omega, Lib.hid (by simp [PD.szL]), Below.refl _ _⟩
    case round =>
      obtain ⟨k, Q, hk, rfl, rfl, hQ, HQ, hbr⟩ := hrel
      by_cases hlt : k < n
      · obtain ⟨g, off, rfl, hg, hcell⟩ := hat (by omega)
        obtain ⟨t, hx, hmem⟩ := xg HN.out hlt
        have hnx := aj7 (f := Param.pd) hx
        have hle := ahr (f := Param.pd) hx
        rw [← HQ.out] at hnx hle
        rw [← HS.out] at hle
        obtain ⟨name, ⟨iy, ji, og, um⟩⟩ := t
        have c0 : wr.cell? ⟨g, off + k * 5, none⟩ = some (.string name) := gq hbr (by omega) (hcell k 0 _ _ hx (by rw [Param.ay]; rfl))
        have c1 : wr.cell? ⟨g, off + k * 5 + 1, none⟩ = some (.int .i64 iy) := gq hbr (by omega) (hcell k 1 _ _ hx (by rw [Param.ay]; rfl))
        have c2 : wr.cell? ⟨g, off + k * 5 + 2, none⟩ = some (.string ji) := gq hbr (by omega) (hcell k 2 _ _ hx (by rw [Param.ay]; rfl))
        obtain ⟨aau, c3, hr3⟩ : ∃ u, wr.cell? ⟨g, off + k * 5 + 3, none⟩ = some u ∧ Rep wr B (.row 1 (og.flatMap tu)) u := ku hbr (by omega) hB (hcell k 3 _ _ hx (by rw [Param.ay]; rfl))
        have HR3 := Lib.hid hr3
        clear hr3
        obtain ⟨abx, c4, hr4⟩ : ∃ u, wr.cell? ⟨g, off + k * 5 + 4, none⟩ = some u ∧ Rep wr B (.row 4 (um.flatMap Ty.pd)) u := ku hbr (by omega) hB (hcell k 4 _ _ hx (by rw [Param.ay]; rfl))
        have HR4 := Lib.hid hr4
        clear hr4
        obtain ⟨z, hz⟩ : ∃ z : Nat, z = PD.szL (Param.pd ⟨name, ⟨iy, ji, og, um⟩⟩) := ⟨_, rfl⟩
        have hc := HI.out _ hmem B [.string name, .int .i64 iy, .string ji, aau, abx] wr (left - n - Q) (by omega) (by omega) (Nat.le_trans hB hbr.size) (HW.out _ hmem) (Param.close_ HR3.out HR4.out)
        rw [← hz] at hc hnx hle
        clear hx hcell hz
        have HC := Lib.hid hc
        have HX := Lib.hid hnx
        clear hc hnx
        go_wp2_with fail
        refine HC.out.mono ?_
        rintro e wq ⟨rfl, hbq⟩
        by_cases hzl : (z : Int) ≤ left - n - Q
        · rw [ac8 hzl]
          have hp : 0 ≤ left - n - Q - (z : Int) := by omega
          go_wp2_with fail
          go_roundw
          case rel => exact ⟨k + 1, Q + z, by omega, by go_num, by go_num, by omega, Lib.hid HX.out.symm, hbr.trans (hbq.mono hbr.size)⟩
          case measure => simp [intOf]; omega
        · rw [abm (by omega)]
          have e2 := Lib.hid (abm (n := n + S) (show left < ((n + S : Nat) : Int) by omega))
          go_wp2_with fail
          go_ret
          exact ⟨aao e2.out.symm, hbr.trans (hbq.mono hbr.size)⟩
      · have hkn : k = n := by omega
        subst hkn
        have hqs : Q = S := by rw [HQ.out, HS.out, List.take_of_length_le (by have := HN.out; omega)]
        have e2 := Lib.hid (ac8 (n := k + S) (left := left) (by omega))
        clear hqs
        have HQS : Hid (Q = S) := by have : Q = S := by rw [HQ.out, HS.out, List.take_of_length_le (by have := HN.out; omega)]
                                     exact Lib.hid this
        go_wp2_with fail
        go_ret
        exact ⟨aao (by rw [e2.out, HQS.out]; omega), hbr⟩
  · have e2 := Lib.hid (abm (n := n + S) (show left < ((n + S : Nat) : Int) by omega))
    go_enter Tryz.func43, Tryz.ntmps43
    go_wp2_with fail
    go_ret
    exact ⟨aao e2.out.symm, Below.refl _ _⟩
theorem a01 (ts:List Param):SzR 43 (.row 5 (ts.flatMap Param.pd)):=azv fun t _=>a4a t
set_option maxHeartbeats 1600000 in
theorem awq {params:List Param} {bg:Int} {cu:ByteArray} {jv:List ByteArray} {mg:List Ty} {async:Bool} (anr:SzR 43 (.row 5 (params.flatMap Param.pd))) (ant:SzC 44 (Ty.pd ⟨bg,cu,jv,mg⟩)):SzC 20 (jh.pd ⟨params,⟨bg,cu,jv,mg⟩,async⟩):=by
 intro B cs w left h0 h1 hB hwf h
 obtain⟨ad3,oq,ug,rfl,adu,aaf,aaw⟩:=jh.open_ h
 rw[jh.ay] at hwf
 simp only[PD.wfL,PD.wf,and_true,true_and] at hwf
 obtain⟨ay9,ap4,ap5,aos,ap6⟩:=hwf
 have bco:=Lib.hid ay9
 have af5:=Lib.hid adu
 clear ay9 adu
 have azw:=Lib.hid ap4
 clear ap4
 unfold maxLen at ap5
 have awr:=Lib.hid aos
 have ab9:=Lib.hid aaf
 clear aos aaf
 have azx:=Lib.hid ap6
 have ac6:=Lib.hid aaw
 clear ap6 aaw
 rw[show PD.szL (jh.pd ⟨params,⟨bg,cu,jv,mg⟩,async⟩)=(PD.row 5 (params.flatMap Param.pd)).sz+PD.szL (Ty.pd ⟨bg,cu,jv,mg⟩) by simp only[jh.ay,PD.szL,PD.sz,Ty.ay]<;>omega]
 obtain⟨z0,hz0⟩:∃ z:Nat,z=(PD.row 5 (params.flatMap Param.pd)).sz:=⟨_,rfl⟩
 rw[← hz0]
 have Z0:=Lib.hid hz0
 clear hz0
 obtain⟨z1,hz1⟩:∃ z:Nat,z=PD.szL (Ty.pd ⟨bg,cu,jv,mg⟩):=⟨_,rfl⟩
 rw[← hz1]
 have Z1:=Lib.hid hz1
 clear hz1
 have aws:PD.wfL (Ty.pd ⟨bg,cu,jv,mg⟩):=by rw[Ty.ay];simp only[PD.wfL,PD.wf,and_true,true_and];exact⟨azw.out,by unfold maxLen;exact ap5,awr.out,azx.out⟩
 have a9w:=Lib.hid aws
 clear aws
 go_enter Tryz.func20,Tryz.ntmps20
 go_wp2_with fail
 obtain⟨w0,hw0⟩:∃ w0,w0=w.alloc (.cells #[ad3,.int .i64 bg,.string cu,oq,ug,.bool async] 54):=⟨_,rfl⟩
 rw[← hw0]
 have bA:Blk w0 w.heap.size 54 #[ad3,.int .i64 bg,.string cu,oq,ug,.bool async]:=by rw[hw0];exact Blk.new w _ _
 have hB0:Below w.heap.size w w0:=by rw[hw0];exact(Below.refl _ _).alloc (Nat.le_refl _) _
 clear hw0
 refine(anr B ad3 _ (left) (by omega) (by omega) (Nat.le_trans hB hB0.size) bco.out (af5.out.below (hB0.mono hB))).mono ?_
 rintro e w1 ⟨rfl,hb1⟩
 have hB1:=hB0.trans (hb1.mono hB0.size)
 replace bA:=bA.step hb1
 rw[← Z0.out]
 by_cases p0:(z0:Int)≤left
 case neg=>
  rw[abm (by omega)]
  have eT:=Lib.hid (abm (n:=z0+z1) (left:=left) (by omega))
  go_wp2_with fail
  go_ret
  exact⟨aao eT.out.symm,hB1⟩
 rw[ac8 p0]
 have q0:0≤left - (z0:Int):=by omega
 have aa9:w1.cell? ⟨w.heap.size,1,none⟩=some (.int .i64 bg):=bA.cell 1
 have abb:w1.cell? ⟨w.heap.size,2,none⟩=some (.string cu):=bA.cell 2
 have aa1:w1.cell? ⟨w.heap.size,3,none⟩=some (oq):=bA.cell 3
 have bcp:w1.cell? ⟨w.heap.size,4,none⟩=some (ug):=bA.cell 4
 go_wp2_with fail
 refine(ant B [.int .i64 bg,.string cu,oq,ug] _ (left - (z0:Int)) (by omega) (by omega) (Nat.le_trans hB hB1.size) a9w.out (Ty.close_ (ab9.out.below (hB1.mono hB)) (ac6.out.below (hB1.mono hB)))).mono ?_
 rintro e w2 ⟨rfl,hb2⟩
 have hB2:=hB1.trans (hb2.mono hB1.size)
 replace bA:=bA.step hb2
 rw[← Z1.out]
 by_cases p1:(z1:Int)≤left - (z0:Int)
 case neg=>
  rw[abm (by omega)]
  have eT:=Lib.hid (abm (n:=z0+z1) (left:=left) (by omega))
  go_wp2_with fail
  go_ret
  exact⟨aao eT.out.symm,hB2⟩
 rw[ac8 p1]
 have q1:0≤left - (z0:Int) - (z1:Int):=by omega
 go_wp2_with fail
 have eT:=Lib.hid (ac8 (n:=z0+z1) (left:=left) (by omega))
 go_ret
 exact⟨aao (by rw[eT.out]<;>omega),hB2⟩
theorem ax3 (t:jh):SzC 20 (jh.pd t):=by obtain⟨params,⟨bg,cu,jv,mg⟩,async⟩:=t;exact awq (a01 params) (aqs _)
set_option maxHeartbeats 1600000 in
theorem a4b {name:ByteArray} {ql:List Param} {aj:Int} {au:ByteArray} {iw:List ByteArray} {jl:List Ty} {jg:Bool} (akk:SzC 20 (jh.pd ⟨ql,⟨aj,au,iw,jl⟩,jg⟩)):SzC 53 (Fun.pd ⟨name,⟨ql,⟨aj,au,iw,jl⟩,jg⟩⟩):=by
 intro B cs w left h0 h1 hB hwf h
 obtain⟨aav,tq,vk,rfl,ab8,zk,aai⟩:=Fun.open_ h
 rw[Fun.ay] at hwf
 simp only[PD.wfL,PD.wf,and_true,true_and] at hwf
 obtain⟨am9,asa,anu,anv,amk,anw⟩:=hwf
 unfold maxLen at am9
 have a02:=Lib.hid asa
 have ae8:=Lib.hid ab8
 clear asa ab8
 have auw:=Lib.hid anu
 clear anu
 unfold maxLen at anv
 have asj:=Lib.hid amk
 have ac7:=Lib.hid zk
 clear amk zk
 have auy:=Lib.hid anw
 have adx:=Lib.hid aai
 clear anw aai
 rw[show PD.szL (Fun.pd ⟨name,⟨ql,⟨aj,au,iw,jl⟩,jg⟩⟩)=name.size+PD.szL (jh.pd ⟨ql,⟨aj,au,iw,jl⟩,jg⟩) by simp only[Fun.ay,PD.szL,PD.sz,jh.ay]<;>omega]
 obtain⟨z1,hz1⟩:∃ z:Nat,z=PD.szL (jh.pd ⟨ql,⟨aj,au,iw,jl⟩,jg⟩):=⟨_,rfl⟩
 rw[← hz1]
 have Z1:=Lib.hid hz1
 clear hz1
 have ap3:PD.wfL (jh.pd ⟨ql,⟨aj,au,iw,jl⟩,jg⟩):=by rw[jh.ay];simp only[PD.wfL,PD.wf,and_true,true_and];exact⟨a02.out,auw.out,by unfold maxLen;exact anv,asj.out,auy.out⟩
 have a00:=Lib.hid ap3
 clear ap3
 by_cases p0:((name.size:Nat):Int)≤left
 case neg=>
  have eT:=Lib.hid (abm (n:=name.size+z1) (left:=left) (by omega))
  go_enter Tryz.func53,Tryz.ntmps53
  go_wp2_with fail
  go_ret
  exact⟨aao eT.out.symm,(Below.refl _ _).alloc (Nat.le_refl _) _⟩
 have q0:0≤left - ((name.size:Nat):Int):=by omega
 go_enter Tryz.func53,Tryz.ntmps53
 go_wp2_with fail
 obtain⟨w0,hw0⟩:∃ w0,w0=w.alloc (.cells #[.string name,aav,.int .i64 aj,.string au,tq,vk,.bool jg] 92):=⟨_,rfl⟩
 rw[← hw0]
 have bA:Blk w0 w.heap.size 92 #[.string name,aav,.int .i64 aj,.string au,tq,vk,.bool jg]:=by rw[hw0];exact Blk.new w _ _
 have hB0:Below w.heap.size w w0:=by rw[hw0];exact(Below.refl _ _).alloc (Nat.le_refl _) _
 clear hw0
 refine(akk B [aav,.int .i64 aj,.string au,tq,vk,.bool jg] _ (left - (name.size:Int)) (by omega) (by omega) (Nat.le_trans hB hB0.size) a00.out (jh.close_ (ae8.out.below (hB0.mono hB)) (ac7.out.below (hB0.mono hB)) (adx.out.below (hB0.mono hB)))).mono ?_
 rintro e w1 ⟨rfl,hb1⟩
 have hB1:=hB0.trans (hb1.mono hB0.size)
 replace bA:=bA.step hb1
 rw[← Z1.out]
 by_cases p1:(z1:Int)≤left - (name.size:Int)
 case neg=>
  rw[abm (by omega)]
  have eT:=Lib.hid (abm (n:=name.size+z1) (left:=left) (by omega))
  go_wp2_with fail
  go_ret
  exact⟨aao eT.out.symm,hB1⟩
 rw[ac8 p1]
 have q1:0≤left - (name.size:Int) - (z1:Int):=by omega
 go_wp2_with fail
 have eT:=Lib.hid (ac8 (n:=name.size+z1) (left:=left) (by omega))
 go_ret
 exact⟨aao (by rw[eT.out]<;>omega),hB1⟩
theorem a7c (t:Fun):SzC 53 (Fun.pd t):=by obtain⟨name,⟨ql,⟨aj,au,iw,jl⟩,jg⟩⟩:=t;exact a4b (ax3 _)
set_option maxHeartbeats 1600000 in
theorem a03 {ts : List Fun} (ih : ∀ t ∈ ts, SzC 53 (Fun.pd t)) : SzR 26 (.row 7 (ts.flatMap Fun.pd)) := by
  intro B v w left h0 h1 hB hwf h
  rw [PD.wf, agr] at hwf
  obtain ⟨A, n, c, rfl, hnl, hm, hat⟩ := ny Fun.jw (by decide) h
  unfold maxLen at hm
  rw [aic Fun.jw (by decide), ← hnl]
  have HN := Lib.hid hnl
  have HW := Lib.hid hwf
  have HI := Lib.hid ih
  clear ih
  clear h hnl hwf
  obtain ⟨S, hS⟩ : ∃ S : Nat, S = PD.szL (ts.flatMap Fun.pd) := ⟨_, rfl⟩
  rw [← hS]
  have HS := Lib.hid hS
  clear hS
  by_cases hl : (n : Int) ≤ left
  · go_enter Tryz.func26, Tryz.ntmps26
    go_wp2_with fail
    go_loopw [1, 5] (fun l i wr => ∃ (k Q : Nat), k ≤ n ∧ l = .int .i64 (left - n - Q) ∧ i = .int .i64 k ∧ (n : Int) + Q ≤ left ∧ Hid (Q = PD.szL ((ts.take k).flatMap Fun.pd)) ∧ Below w.heap.size w wr) (fun _ i _ => n - (intOf i).toNat)
    case atStart => exact ⟨0, 0, Nat.zero_le _, by simp, rfl, by omega, Lib.hid (by simp [PD.szL]), Below.refl _ _⟩
    case round =>
      obtain ⟨k, Q, hk, rfl, rfl, hQ, HQ, hbr⟩ := hrel
      by_cases hlt : k < n
      · obtain ⟨g, off, rfl, hg, hcell⟩ := hat (by omega)
        obtain ⟨t, hx, hmem⟩ := xg HN.out hlt
        have hnx := aj7 (f := Fun.pd) hx
        have hle := ahr (f := Fun.pd) hx
        rw [← HQ.out] at hnx hle
        rw [← HS.out] at hle
        obtain ⟨name, ⟨ql, ⟨aj, au, iw, jl⟩, jg⟩⟩ := t
        have c0 : wr.cell? ⟨g, off + k * 7, none⟩ = some (.string name) := gq hbr (by omega) (hcell k 0 _ _ hx (by rw [Fun.ay]; rfl))
        obtain ⟨aav, c1, hr1⟩ : ∃ u, wr.cell? ⟨g, off + k * 7 + 1, none⟩ = some u ∧ Rep wr B (.row 5 (ql.flatMap Param.pd)) u := ku hbr (by omega) hB (hcell k 1 _ _ hx (by rw [Fun.ay]; rfl))
        have HR1 := Lib.hid hr1
        clear hr1
        have c2 : wr.cell? ⟨g, off + k * 7 + 2, none⟩ = some (.int .i64 aj) := gq hbr (by omega) (hcell k 2 _ _ hx (by rw [Fun.ay]; rfl))
        have c3 : wr.cell? ⟨g, off + k * 7 + 3, none⟩ = some (.string au) := gq hbr (by omega) (hcell k 3 _ _ hx (by rw [Fun.ay]; rfl))
        obtain ⟨tq, c4, hr4⟩ : ∃ u, wr.cell? ⟨g, off + k * 7 + 4, none⟩ = some u ∧ Rep wr B (.row 1 (iw.flatMap tu)) u := ku hbr (by omega) hB (hcell k 4 _ _ hx (by rw [Fun.ay]; rfl))
        have HR4 := Lib.hid hr4
        clear hr4
        obtain ⟨vk, c5, hr5⟩ : ∃ u, wr.cell? ⟨g, off + k * 7 + 5, none⟩ = some u ∧ Rep wr B (.row 4 (jl.flatMap Ty.pd)) u := ku hbr (by omega) hB (hcell k 5 _ _ hx (by rw [Fun.ay]; rfl))
        have HR5 := Lib.hid hr5
        clear hr5
        have c6 : wr.cell? ⟨g, off + k * 7 + 6, none⟩ = some (.bool jg) := gq hbr (by omega) (hcell k 6 _ _ hx (by rw [Fun.ay]; rfl))
        obtain ⟨z, hz⟩ : ∃ z : Nat, z = PD.szL (Fun.pd ⟨name, ⟨ql, ⟨aj, au, iw, jl⟩, jg⟩⟩) := ⟨_, rfl⟩
        have hc := HI.out _ hmem B [.string name, aav, .int .i64 aj, .string au, tq, vk, .bool jg] wr (left - n - Q) (by omega) (by omega) (Nat.le_trans hB hbr.size) (HW.out _ hmem) (Fun.close_ HR1.out HR4.out HR5.out)
        rw [← hz] at hc hnx hle
        clear hx hcell hz
        have HC := Lib.hid hc
        have HX := Lib.hid hnx
        clear hc hnx
        go_wp2_with fail
        refine HC.out.mono ?_
        rintro e wq ⟨rfl, hbq⟩
        by_cases hzl : (z : Int) ≤ left - n - Q
        · rw [ac8 hzl]
          have hp : 0 ≤ left - n - Q - (z : Int) := by omega
          go_wp2_with fail
          go_roundw
          case rel => exact ⟨k + 1, Q + z, by omega, by go_num, by go_num, by omega, Lib.hid HX.out.symm, hbr.trans (hbq.mono hbr.size)⟩
          case measure => simp [intOf]; omega
        · rw [abm (by omega)]
          have e2 := Lib.hid (abm (n := n + S) (show left < ((n + S : Nat) : Int) by omega))
          go_wp2_with fail
          go_ret
          exact ⟨aao e2.out.symm, hbr.trans (hbq.mono hbr.size)⟩
      · have hkn : k = n := by omega
        subst hkn
        have hqs : Q = S := by rw [HQ.out, HS.out, List.take_of_length_le (by have := HN.out; omega)]
        have e2 := Lib.hid (ac8 (n := k + S) (left := left) (by omega))
        clear hqs
        have HQS : Hid (Q = S) := by have : Q = S := by rw [HQ.out, HS.out, List.take_of_length_le (by have := HN.out; omega)]
                                     exact Lib.hid this
        go_wp2_with fail
        go_ret
        exact ⟨aao (by rw [e2.out, HQS.out]; omega), hbr⟩
  · have e2 := Lib.hid (abm (n := n + S) (show left < ((n + S : Nat) : Int) by omega))
    go_enter Tryz.func26, Tryz.ntmps26
    go_wp2_with fail
    go_ret
    exact ⟨aao e2.out.symm, Below.refl _ _⟩
theorem a4c (ts:List Fun):SzR 26 (.row 7 (ts.flatMap Fun.pd)):=a03 fun t _=>a7c t
set_option maxHeartbeats 1600000 in
theorem a4d {package:ByteArray} {name:ByteArray} {version:ByteArray} {resources:List ByteArray} {funcs:List Fun} (akl:SzR 25 (.row 1 (resources.flatMap tu))) (aot:SzR 26 (.row 7 (funcs.flatMap Fun.pd))):SzC 7 (qg.pd ⟨package,name,version,resources,funcs⟩):=by
 intro B cs w left h0 h1 hB hwf h
 obtain⟨oz,aaq,rfl,aa8,ad4⟩:=qg.open_ h
 rw[qg.ay] at hwf
 simp only[PD.wfL,PD.wf,and_true,true_and] at hwf
 obtain⟨a7d,am9,a7e,asv,a04⟩:=hwf
 unfold maxLen at a7d
 unfold maxLen at am9
 unfold maxLen at a7e
 have a4e:=Lib.hid asv
 have adq:=Lib.hid aa8
 clear asv aa8
 have bgs:=Lib.hid a04
 have af0:=Lib.hid ad4
 clear a04 ad4
 rw[show PD.szL (qg.pd ⟨package,name,version,resources,funcs⟩)=package.size+name.size+version.size+(PD.row 1 (resources.flatMap tu)).sz+(PD.row 7 (funcs.flatMap Fun.pd)).sz by simp only[qg.ay,PD.szL,PD.sz]<;>omega]
 obtain⟨z3,hz3⟩:∃ z:Nat,z=(PD.row 1 (resources.flatMap tu)).sz:=⟨_,rfl⟩
 rw[← hz3]
 have Z3:=Lib.hid hz3
 clear hz3
 obtain⟨z4,hz4⟩:∃ z:Nat,z=(PD.row 7 (funcs.flatMap Fun.pd)).sz:=⟨_,rfl⟩
 rw[← hz4]
 have Z4:=Lib.hid hz4
 clear hz4
 by_cases p0:((package.size:Nat):Int)≤left
 case neg=>
  have eT:=Lib.hid (abm (n:=package.size+name.size+version.size+z3+z4) (left:=left) (by omega))
  go_enter Tryz.func7,Tryz.ntmps7
  go_wp2_with fail
  go_ret
  exact⟨aao eT.out.symm,(Below.refl _ _).alloc (Nat.le_refl _) _⟩
 have q0:0≤left - ((package.size:Nat):Int):=by omega
 by_cases p1:((name.size:Nat):Int)≤left - (package.size:Int)
 case neg=>
  have eT:=Lib.hid (abm (n:=package.size+name.size+version.size+z3+z4) (left:=left) (by omega))
  go_enter Tryz.func7,Tryz.ntmps7
  go_wp2_with fail
  go_ret
  exact⟨aao eT.out.symm,(Below.refl _ _).alloc (Nat.le_refl _) _⟩
 have q1:0≤left - (package.size:Int) - ((name.size:Nat):Int):=by omega
 by_cases p2:((version.size:Nat):Int)≤left - (package.size:Int) - (name.size:Int)
 case neg=>
  have eT:=Lib.hid (abm (n:=package.size+name.size+version.size+z3+z4) (left:=left) (by omega))
  go_enter Tryz.func7,Tryz.ntmps7
  go_wp2_with fail
  go_ret
  exact⟨aao eT.out.symm,(Below.refl _ _).alloc (Nat.le_refl _) _⟩
 have q2:0≤left - (package.size:Int) - (name.size:Int) - ((version.size:Nat):Int):=by omega
 go_enter Tryz.func7,Tryz.ntmps7
 go_wp2_with fail
 obtain⟨w0,hw0⟩:∃ w0,w0=w.alloc (.cells #[.string package,.string name,.string version,oz,aaq] 25):=⟨_,rfl⟩
 rw[← hw0]
 have bA:Blk w0 w.heap.size 25 #[.string package,.string name,.string version,oz,aaq]:=by rw[hw0];exact Blk.new w _ _
 have hB0:Below w.heap.size w w0:=by rw[hw0];exact(Below.refl _ _).alloc (Nat.le_refl _) _
 clear hw0
 refine(akl B oz _ (left - (package.size:Int) - (name.size:Int) - (version.size:Int)) (by omega) (by omega) (Nat.le_trans hB hB0.size) a4e.out (adq.out.below (hB0.mono hB))).mono ?_
 rintro e w1 ⟨rfl,hb1⟩
 have hB1:=hB0.trans (hb1.mono hB0.size)
 replace bA:=bA.step hb1
 rw[← Z3.out]
 by_cases p3:(z3:Int)≤left - (package.size:Int) - (name.size:Int) - (version.size:Int)
 case neg=>
  rw[abm (by omega)]
  have eT:=Lib.hid (abm (n:=package.size+name.size+version.size+z3+z4) (left:=left) (by omega))
  go_wp2_with fail
  go_ret
  exact⟨aao eT.out.symm,hB1⟩
 rw[ac8 p3]
 have q3:0≤left - (package.size:Int) - (name.size:Int) - (version.size:Int) - (z3:Int):=by omega
 have bcp:w1.cell? ⟨w.heap.size,4,none⟩=some (aaq):=bA.cell 4
 go_wp2_with fail
 refine(aot B aaq _ (left - (package.size:Int) - (name.size:Int) - (version.size:Int) - (z3:Int)) (by omega) (by omega) (Nat.le_trans hB hB1.size) bgs.out (af0.out.below (hB1.mono hB))).mono ?_
 rintro e w2 ⟨rfl,hb2⟩
 have hB2:=hB1.trans (hb2.mono hB1.size)
 replace bA:=bA.step hb2
 rw[← Z4.out]
 by_cases p4:(z4:Int)≤left - (package.size:Int) - (name.size:Int) - (version.size:Int) - (z3:Int)
 case neg=>
  rw[abm (by omega)]
  have eT:=Lib.hid (abm (n:=package.size+name.size+version.size+z3+z4) (left:=left) (by omega))
  go_wp2_with fail
  go_ret
  exact⟨aao eT.out.symm,hB2⟩
 rw[ac8 p4]
 have q4:0≤left - (package.size:Int) - (name.size:Int) - (version.size:Int) - (z3:Int) - (z4:Int):=by omega
 go_wp2_with fail
 have eT:=Lib.hid (ac8 (n:=package.size+name.size+version.size+z3+z4) (left:=left) (by omega))
 go_ret
 exact⟨aao (by rw[eT.out]<;>omega),hB2⟩
theorem aml (t:qg):SzC 7 (qg.pd t):=by obtain⟨package,name,version,resources,funcs⟩:=t;exact a4d ap1 (a4c funcs)
end Go.Proofs.YtbafphecjijdmaaGreatDoor
