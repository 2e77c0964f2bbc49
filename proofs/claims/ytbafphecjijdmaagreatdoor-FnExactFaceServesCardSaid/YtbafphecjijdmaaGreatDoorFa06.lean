/-
  The laws' own helpers 'sz..' over the program's types (by program: tygen2.py, tyfam.py).
-/
import Derived.Test.YtbafphecjijdmaaGreatDoorFa04
import Derived.Test.YtbafphecjijdmaaGreatDoorFa05
namespace Go.Proofs.YtbafphecjijdmaaGreatDoor
open Go.RowKit
set_option linter.unusedVariables false
set_option linter.unusedSimpArgs false
set_option linter.unnecessarySimpa false
set_option maxRecDepth 100000
set_option maxHeartbeats 1600000 in
theorem apr {ts : List ByteArray} : SzR 25 (.row 1 (ts.flatMap tq)) := by
  intro B v w left h0 h1 hB hwf h
  rw [PD.wf, agl] at hwf
  obtain ⟨A, n, c, rfl, hnl, hm, hat⟩ := ny aap (by decide) h
  unfold maxLen at hm
  rw [aia aap (by decide), ← hnl]
  have HN := Lib.hid hnl
  have HW := Lib.hid hwf
  clear h hnl hwf
  obtain ⟨S, hS⟩ : ∃ S : Nat, S = PD.szL (ts.flatMap tq) := ⟨_, rfl⟩
  rw [← hS]
  have HS := Lib.hid hS
  clear hS
  by_cases hl : (n : Int) ≤ left
  · go_enter Tryz.func25, Tryz.ntmps25
    go_wp2_with fail
    go_loopw [1, 5] (fun l i wr => ∃ (k Q : Nat), k ≤ n ∧ l = .int .i64 (left - n - Q) ∧ i = .int .i64 k ∧ (n : Int) + Q ≤ left ∧ Hid (Q = PD.szL ((ts.take k).flatMap tq)) ∧ Below w.heap.size w wr) (fun _ i _ => n - (intOf i).toNat)
    case atStart => exact ⟨0, 0, Nat.zero_le _, by simp, rfl, by omega, Lib.hid (by simp [PD.szL]), Below.refl _ _⟩
    case round =>
      obtain ⟨k, Q, hk, rfl, rfl, hQ, HQ, hbr⟩ := hrel
      by_cases hlt : k < n
      · obtain ⟨g, off, rfl, hg, hcell⟩ := hat (by omega)
        obtain ⟨t, hx, hmem⟩ := vw HN.out hlt
        have hnx := aj6 (f := tq) hx
        have hle := ahp (f := tq) hx
        rw [← HQ.out] at hnx hle
        rw [← HS.out] at hle
        have c0 : wr.cell? ⟨g, off + k, none⟩ = some (.string t) := gq hbr (by omega) (by have := hcell k 0 _ _ hx rfl; simpa using this)
        rw [a8i] at hnx hle
        have hsz : t.size ≤ maxLen := by have := HW.out _ hmem; simpa [tq, PD.wfL, PD.wf] using this
        unfold maxLen at hsz
        have HX := Lib.hid hnx
        clear hx hcell hnx
        by_cases hzl : (t.size : Int) ≤ left - n - Q
        · have hp : 0 ≤ left - n - Q - (t.size : Int) := by omega
          go_wp2_with fail
          go_roundw
          case rel => exact ⟨k + 1, Q + t.size, by omega, by go_num, by go_num, by omega, Lib.hid HX.out.symm, hbr⟩
          case measure => simp [intOf]; omega
        · have e2 := Lib.hid (abe (n := n + S) (show left < ((n + S : Nat) : Int) by omega))
          go_wp2_with fail
          go_ret
          exact ⟨aam e2.out.symm, hbr⟩
      · have hkn : k = n := by omega
        subst hkn
        have hqs : Q = S := by rw [HQ.out, HS.out, List.take_of_length_le (by have := HN.out; omega)]
        have e2 := Lib.hid (ac4 (n := k + S) (left := left) (by omega))
        clear hqs
        have HQS : Hid (Q = S) := by have : Q = S := by rw [HQ.out, HS.out, List.take_of_length_le (by have := HN.out; omega)]
                                     exact Lib.hid this
        go_wp2_with fail
        go_ret
        exact ⟨aam (by rw [e2.out, HQS.out]; omega), hbr⟩
  · have e2 := Lib.hid (abe (n := n + S) (show left < ((n + S : Nat) : Int) by omega))
    go_enter Tryz.func25, Tryz.ntmps25
    go_wp2_with fail
    go_ret
    exact ⟨aam e2.out.symm, Below.refl _ _⟩
set_option maxHeartbeats 1600000 in
theorem az4 {ts : List Ty} (ih : ∀ t ∈ ts, SzC 44 (Ty.pd t)) : SzR 78 (.row 4 (ts.flatMap Ty.pd)) := by
  intro B v w left h0 h1 hB hwf h
  rw [PD.wf, agl] at hwf
  obtain ⟨A, n, c, rfl, hnl, hm, hat⟩ := ny Ty.jw (by decide) h
  unfold maxLen at hm
  rw [aia Ty.jw (by decide), ← hnl]
  have HN := Lib.hid hnl
  have HW := Lib.hid hwf
  have HI := Lib.hid ih
  clear ih
  clear h hnl hwf
  obtain ⟨S, hS⟩ : ∃ S : Nat, S = PD.szL (ts.flatMap Ty.pd) := ⟨_, rfl⟩
  rw [← hS]
  have HS := Lib.hid hS
  clear hS
  by_cases hl : (n : Int) ≤ left
  · go_enter Tryz.func78, Tryz.ntmps78
    go_wp2_with fail
    go_loopw [1, 5] (fun l i wr => ∃ (k Q : Nat), k ≤ n ∧ l = .int .i64 (left - n - Q) ∧ i = .int .i64 k ∧ (n : Int) + Q ≤ left ∧ Hid (Q = PD.szL ((ts.take k).flatMap Ty.pd)) ∧ Below w.heap.size w wr) (fun _ i _ => n - (intOf i).toNat)
    case atStart => exact ⟨0, 0, Nat.zero_le _, by simp, rfl, by omega, Lib.hid (by simp [PD.szL]), Below.refl _ _⟩
    case round =>
      obtain ⟨k, Q, hk, rfl, rfl, hQ, HQ, hbr⟩ := hrel
      by_cases hlt : k < n
      · obtain ⟨g, off, rfl, hg, hcell⟩ := hat (by omega)
        obtain ⟨t, hx, hmem⟩ := vw HN.out hlt
        have hnx := aj6 (f := Ty.pd) hx
        have hle := ahp (f := Ty.pd) hx
        rw [← HQ.out] at hnx hle
        rw [← HS.out] at hle
        obtain ⟨kind, name, labels, kids⟩ := t
        have c0 : wr.cell? ⟨g, off + k * 4, none⟩ = some (.int .i64 kind) := gq hbr (by omega) (hcell k 0 _ _ hx (by rw [Ty.ay]; rfl))
        have c1 : wr.cell? ⟨g, off + k * 4 + 1, none⟩ = some (.string name) := gq hbr (by omega) (hcell k 1 _ _ hx (by rw [Ty.ay]; rfl))
        obtain ⟨iq, c2, hr2⟩ : ∃ u, wr.cell? ⟨g, off + k * 4 + 2, none⟩ = some u ∧ Rep wr B (.row 1 (labels.flatMap tq)) u := jy hbr (by omega) hB (hcell k 2 _ _ hx (by rw [Ty.ay]; rfl))
        have HR2 := Lib.hid hr2
        clear hr2
        obtain ⟨qp, c3, hr3⟩ : ∃ u, wr.cell? ⟨g, off + k * 4 + 3, none⟩ = some u ∧ Rep wr B (.row 4 (kids.flatMap Ty.pd)) u := jy hbr (by omega) hB (hcell k 3 _ _ hx (by rw [Ty.ay]; rfl))
        have HR3 := Lib.hid hr3
        clear hr3
        obtain ⟨z, hz⟩ : ∃ z : Nat, z = PD.szL (Ty.pd ⟨kind, name, labels, kids⟩) := ⟨_, rfl⟩
        have hc := HI.out _ hmem B [.int .i64 kind, .string name, iq, qp] wr (left - n - Q) (by omega) (by omega) (Nat.le_trans hB hbr.size) (HW.out _ hmem) (Ty.close_ HR2.out HR3.out)
        rw [← hz] at hc hnx hle
        clear hx hcell hz
        have HC := Lib.hid hc
        have HX := Lib.hid hnx
        clear hc hnx
        go_wp2_with fail
        refine HC.out.mono ?_
        rintro e wq ⟨rfl, hbq⟩
        by_cases hzl : (z : Int) ≤ left - n - Q
        · rw [ac4 hzl]
          have hp : 0 ≤ left - n - Q - (z : Int) := by omega
          go_wp2_with fail
          go_roundw
          case rel => exact ⟨k + 1, Q + z, by omega, by go_num, by go_num, by omega, Lib.hid HX.out.symm, hbr.trans (hbq.mono hbr.size)⟩
          case measure => simp [intOf]; omega
        · rw [abe (by omega)]
          have e2 := Lib.hid (abe (n := n + S) (show left < ((n + S : Nat) : Int) by omega))
          go_wp2_with fail
          go_ret
          exact ⟨aam e2.out.symm, hbr.trans (hbq.mono hbr.size)⟩
      · have hkn : k = n := by omega
        subst hkn
        have hqs : Q = S := by rw [HQ.out, HS.out, List.take_of_length_le (by have := HN.out; omega)]
        have e2 := Lib.hid (ac4 (n := k + S) (left := left) (by omega))
        clear hqs
        have HQS : Hid (Q = S) := by have : Q = S := by rw [HQ.out, HS.out, List.take_of_length_le (by have := HN.out; omega)]
                                     exact Lib.hid this
        go_wp2_with fail
        go_ret
        exact ⟨aam (by rw [e2.out, HQS.out]; omega), hbr⟩
  · have e2 := Lib.hid (abe (n := n + S) (show left < ((n + S : Nat) : Int) by omega))
    go_enter Tryz.func78, Tryz.ntmps78
    go_wp2_with fail
    go_ret
    exact ⟨aam e2.out.symm, Below.refl _ _⟩
set_option maxHeartbeats 1600000 in
theorem a2j {kind:Int} {name:ByteArray} {labels:List ByteArray} {kids:List Ty} (ani:SzR 25 (.row 1 (labels.flatMap tq))) (aps:SzR 78 (.row 4 (kids.flatMap Ty.pd))):SzC 44 (Ty.pd ⟨kind,name,labels,kids⟩):=by
 intro B cs w left h0 h1 hB hwf h
 obtain⟨iq,qp,rfl,bf,eu⟩:=Ty.open_ h
 rw[Ty.ay] at hwf
 simp only[PD.wfL,PD.wf,and_true,true_and] at hwf
 obtain⟨wf_kind,am3,aym,a3x⟩:=hwf
 clear wf_kind
 unfold maxLen at am3
 have a8j:=Lib.hid aym
 have oz:=Lib.hid bf
 clear aym bf
 have W_kids:=Lib.hid a3x
 have qm:=Lib.hid eu
 clear a3x eu
 rw[show PD.szL (Ty.pd ⟨kind,name,labels,kids⟩)=name.size+(PD.row 1 (labels.flatMap tq)).sz+(PD.row 4 (kids.flatMap Ty.pd)).sz by simp only[Ty.ay,PD.szL,PD.sz]<;>omega]
 obtain⟨z1,hz1⟩:∃ z:Nat,z=(PD.row 1 (labels.flatMap tq)).sz:=⟨_,rfl⟩
 rw[← hz1]
 have Z1:=Lib.hid hz1
 clear hz1
 obtain⟨z2,hz2⟩:∃ z:Nat,z=(PD.row 4 (kids.flatMap Ty.pd)).sz:=⟨_,rfl⟩
 rw[← hz2]
 have Z2:=Lib.hid hz2
 clear hz2
 by_cases p0:((name.size:Nat):Int)≤left
 case neg=>
  have eT:=Lib.hid (abe (n:=name.size+z1+z2) (left:=left) (by omega))
  go_enter Tryz.func44,Tryz.ntmps44
  go_wp2_with fail
  go_ret
  exact⟨aam eT.out.symm,(Below.refl _ _).alloc (Nat.le_refl _) _⟩
 have q0:0≤left - ((name.size:Nat):Int):=by omega
 go_enter Tryz.func44,Tryz.ntmps44
 go_wp2_with fail
 obtain⟨w0,hw0⟩:∃ w0,w0=w.alloc (.cells #[.int .i64 kind,.string name,iq,qp] 52):=⟨_,rfl⟩
 rw[← hw0]
 have bA:Blk w0 w.heap.size 52 #[.int .i64 kind,.string name,iq,qp]:=by rw[hw0];exact Blk.new w _ _
 have hB0:Below w.heap.size w w0:=by rw[hw0];exact(Below.refl _ _).alloc (Nat.le_refl _) _
 clear hw0
 refine(ani B iq _ (left - (name.size:Int)) (by omega) (by omega) (Nat.le_trans hB hB0.size) a8j.out (oz.out.below (hB0.mono hB))).mono ?_
 rintro e w1 ⟨rfl,hb1⟩
 have hB1:=hB0.trans (hb1.mono hB0.size)
 replace bA:=bA.step hb1
 rw[← Z1.out]
 by_cases p1:(z1:Int)≤left - (name.size:Int)
 case neg=>
  rw[abe (by omega)]
  have eT:=Lib.hid (abe (n:=name.size+z1+z2) (left:=left) (by omega))
  go_wp2_with fail
  go_ret
  exact⟨aam eT.out.symm,hB1⟩
 rw[ac4 p1]
 have q1:0≤left - (name.size:Int) - (z1:Int):=by omega
 have aay:w1.cell? ⟨w.heap.size,3,none⟩=some (qp):=bA.cell 3
 go_wp2_with fail
 refine(aps B qp _ (left - (name.size:Int) - (z1:Int)) (by omega) (by omega) (Nat.le_trans hB hB1.size) W_kids.out (qm.out.below (hB1.mono hB))).mono ?_
 rintro e w2 ⟨rfl,hb2⟩
 have hB2:=hB1.trans (hb2.mono hB1.size)
 replace bA:=bA.step hb2
 rw[← Z2.out]
 by_cases p2:(z2:Int)≤left - (name.size:Int) - (z1:Int)
 case neg=>
  rw[abe (by omega)]
  have eT:=Lib.hid (abe (n:=name.size+z1+z2) (left:=left) (by omega))
  go_wp2_with fail
  go_ret
  exact⟨aam eT.out.symm,hB2⟩
 rw[ac4 p2]
 have q2:0≤left - (name.size:Int) - (z1:Int) - (z2:Int):=by omega
 go_wp2_with fail
 have eT:=Lib.hid (ac4 (n:=name.size+z1+z2) (left:=left) (by omega))
 go_ret
 exact⟨aam (by rw[eT.out]<;>omega),hB2⟩
mutual
theorem aqh:∀ t:Ty,SzC 44 (Ty.pd t)
 | .mk kind name labels kids=>a2j apr (az4 (awc kids))
theorem awc:∀ ts:List Ty,∀ t ∈ ts,SzC 44 (Ty.pd t)
 | [],x,hx=>absurd hx (by simp)
 | t ::r,x,hx=>(List.mem_cons.1 hx).elim (fun e=>e ▸ aqh t) (fun h=>awc r x h)
end
set_option maxHeartbeats 1600000 in
theorem az5 {name:ByteArray} {iy:Int} {ji:ByteArray} {og:List ByteArray} {uj:List Ty} (aki:SzC 44 (Ty.pd ⟨iy,ji,og,uj⟩)):SzC 77 (Param.pd ⟨name,⟨iy,ji,og,uj⟩⟩):=by
 intro B cs w left h0 h1 hB hwf h
 obtain⟨aaq,abu,rfl,aa5,ab4⟩:=Param.open_ h
 rw[Param.ay] at hwf
 simp only[PD.wfL,PD.wf,and_true,true_and] at hwf
 obtain⟨am3,au0,au1,arx,au2⟩:=hwf
 unfold maxLen at am3
 have a4x:=Lib.hid au0
 clear au0
 unfold maxLen at au1
 have az6:=Lib.hid arx
 have acn:=Lib.hid aa5
 clear arx aa5
 have a4y:=Lib.hid au2
 have ads:=Lib.hid ab4
 clear au2 ab4
 rw[show PD.szL (Param.pd ⟨name,⟨iy,ji,og,uj⟩⟩)=name.size+PD.szL (Ty.pd ⟨iy,ji,og,uj⟩) by simp only[Param.ay,PD.szL,PD.sz,Ty.ay]<;>omega]
 obtain⟨z1,hz1⟩:∃ z:Nat,z=PD.szL (Ty.pd ⟨iy,ji,og,uj⟩):=⟨_,rfl⟩
 rw[← hz1]
 have Z1:=Lib.hid hz1
 clear hz1
 have apt:PD.wfL (Ty.pd ⟨iy,ji,og,uj⟩):=by rw[Ty.ay];simp only[PD.wfL,PD.wf,and_true,true_and];exact⟨a4x.out,by unfold maxLen;exact au1,az6.out,a4y.out⟩
 have az7:=Lib.hid apt
 clear apt
 by_cases p0:((name.size:Nat):Int)≤left
 case neg=>
  have eT:=Lib.hid (abe (n:=name.size+z1) (left:=left) (by omega))
  go_enter Tryz.func77,Tryz.ntmps77
  go_wp2_with fail
  go_ret
  exact⟨aam eT.out.symm,(Below.refl _ _).alloc (Nat.le_refl _) _⟩
 have q0:0≤left - ((name.size:Nat):Int):=by omega
 go_enter Tryz.func77,Tryz.ntmps77
 go_wp2_with fail
 obtain⟨w0,hw0⟩:∃ w0,w0=w.alloc (.cells #[.string name,.int .i64 iy,.string ji,aaq,abu] 112):=⟨_,rfl⟩
 rw[← hw0]
 have bA:Blk w0 w.heap.size 112 #[.string name,.int .i64 iy,.string ji,aaq,abu]:=by rw[hw0];exact Blk.new w _ _
 have hB0:Below w.heap.size w w0:=by rw[hw0];exact(Below.refl _ _).alloc (Nat.le_refl _) _
 clear hw0
 refine(aki B [.int .i64 iy,.string ji,aaq,abu] _ (left - (name.size:Int)) (by omega) (by omega) (Nat.le_trans hB hB0.size) az7.out (Ty.close_ (acn.out.below (hB0.mono hB)) (ads.out.below (hB0.mono hB)))).mono ?_
 rintro e w1 ⟨rfl,hb1⟩
 have hB1:=hB0.trans (hb1.mono hB0.size)
 replace bA:=bA.step hb1
 rw[← Z1.out]
 by_cases p1:(z1:Int)≤left - (name.size:Int)
 case neg=>
  rw[abe (by omega)]
  have eT:=Lib.hid (abe (n:=name.size+z1) (left:=left) (by omega))
  go_wp2_with fail
  go_ret
  exact⟨aam eT.out.symm,hB1⟩
 rw[ac4 p1]
 have q1:0≤left - (name.size:Int) - (z1:Int):=by omega
 go_wp2_with fail
 have eT:=Lib.hid (ac4 (n:=name.size+z1) (left:=left) (by omega))
 go_ret
 exact⟨aam (by rw[eT.out]<;>omega),hB1⟩
theorem a2k (t:Param):SzC 77 (Param.pd t):=by obtain⟨name,⟨iy,ji,og,uj⟩⟩:=t;exact az5 (aqh _)
set_option maxHeartbeats 1600000 in
theorem ay6 {ts : List Param} (ih : ∀ t ∈ ts, SzC 77 (Param.pd t)) : SzR 43 (.row 5 (ts.flatMap Param.pd)) := by
  intro B v w left h0 h1 hB hwf h
  rw [PD.wf, agl] at hwf
  obtain ⟨A, n, c, rfl, hnl, hm, hat⟩ := ny Param.jw (by decide) h
  unfold maxLen at hm
  rw [aia Param.jw (by decide), ← hnl]
  have HN := Lib.hid hnl
  have HW := Lib.hid hwf
  have HI := Lib.hid ih
  clear ih
  clear h hnl hwf
  obtain ⟨S, hS⟩ : ∃ S : Nat, S = PD.szL (ts.flatMap Param.pd) := ⟨_, rfl⟩
  rw [← hS]
  have HS := Lib.hid hS
  clear hS
  by_cases hl : (n : Int) ≤ left
  · go_enter Tryz.func43, Tryz.ntmps43
    go_wp2_with fail
    go_loopw [1, 5] (fun l i wr => ∃ (k Q : Nat), k ≤ n ∧ l = .int .i64 (left - n - Q) ∧ i = .int .i64 k ∧ (n : Int) + Q ≤ left ∧ Hid (Q = PD.szL ((ts.take k).flatMap Param.pd)) ∧ Below w.heap.size w wr) (fun _ i _ => n - (intOf i).toNat)
    case atStart => exact ⟨0, 0, Nat.zero_le _, by simp, rfl, by omega, Lib.hid (by simp [PD.szL]), Below.refl _ _⟩
    case round =>
      obtain ⟨k, Q, hk, rfl, rfl, hQ, HQ, hbr⟩ := hrel
      by_cases hlt : k < n
      · obtain ⟨g, off, rfl, hg, hcell⟩ := hat (by omega)
        obtain ⟨t, hx, hmem⟩ := vw HN.out hlt
        have hnx := aj6 (f := Param.pd) hx
        have hle := ahp (f := Param.pd) hx
        rw [← HQ.out] at hnx hle
        rw [← HS.out] at hle
        obtain ⟨name, ⟨iy, ji, og, uj⟩⟩ := t
        have c0 : wr.cell? ⟨g, off + k * 5, none⟩ = some (.string name) := gq hbr (by omega) (hcell k 0 _ _ hx (by rw [Param.ay]; rfl))
        have c1 : wr.cell? ⟨g, off + k * 5 + 1, none⟩ = some (.int .i64 iy) := gq hbr (by omega) (hcell k 1 _ _ hx (by rw [Param.ay]; rfl))
        have c2 : wr.cell? ⟨g, off + k * 5 + 2, none⟩ = some (.string ji) := gq hbr (by omega) (hcell k 2 _ _ hx (by rw [Param.ay]; rfl))
        obtain ⟨aaq, c3, hr3⟩ : ∃ u, wr.cell? ⟨g, off + k * 5 + 3, none⟩ = some u ∧ Rep wr B (.row 1 (og.flatMap tq)) u := jy hbr (by omega) hB (hcell k 3 _ _ hx (by rw [Param.ay]; rfl))
        have HR3 := Lib.hid hr3
        clear hr3
        obtain ⟨abu, c4, hr4⟩ : ∃ u, wr.cell? ⟨g, off + k * 5 + 4, none⟩ = some u ∧ Rep wr B (.row 4 (uj.flatMap Ty.pd)) u := jy hbr (by omega) hB (hcell k 4 _ _ hx (by rw [Param.ay]; rfl))
        have HR4 := Lib.hid hr4
        clear hr4
        obtain ⟨z, hz⟩ : ∃ z : Nat, z = PD.szL (Param.pd ⟨name, ⟨iy, ji, og, uj⟩⟩) := ⟨_, rfl⟩
        have hc := HI.out _ hmem B [.string name, .int .i64 iy, .string ji, aaq, abu] wr (left - n - Q) (by omega) (by omega) (Nat.le_trans hB hbr.size) (HW.out _ hmem) (Param.close_ HR3.out HR4.out)
        rw [← hz] at hc hnx hle
        clear hx hcell hz
        have HC := Lib.hid hc
        have HX := Lib.hid hnx
        clear hc hnx
        go_wp2_with fail
        refine HC.out.mono ?_
        rintro e wq ⟨rfl, hbq⟩
        by_cases hzl : (z : Int) ≤ left - n - Q
        · rw [ac4 hzl]
          have hp : 0 ≤ left - n - Q - (z : Int) := by omega
          go_wp2_with fail
          go_roundw
          case rel => exact ⟨k + 1, Q + z, by omega, by go_num, by go_num, by omega, Lib.hid HX.out.symm, hbr.trans (hbq.mono hbr.size)⟩
          case measure => simp [intOf]; omega
        · rw [abe (by omega)]
          have e2 := Lib.hid (abe (n := n + S) (show left < ((n + S : Nat) : Int) by omega))
          go_wp2_with fail
          go_ret
          exact ⟨aam e2.out.symm, hbr.trans (hbq.mono hbr.size)⟩
      · have hkn : k = n := by omega
        subst hkn
        have hqs : Q = S := by rw [HQ.out, HS.out, List.take_of_length_le (by have := HN.out; omega)]
        have e2 := Lib.hid (ac4 (n := k + S) (left := left) (by omega))
        clear hqs
        have HQS : Hid (Q = S) := by have : Q = S := by rw [HQ.out, HS.out, List.take_of_length_le (by have := HN.out; omega)]
                                     exact Lib.hid this
        go_wp2_with fail
        go_ret
        exact ⟨aam (by rw [e2.out, HQS.out]; omega), hbr⟩
  · have e2 := Lib.hid (abe (n := n + S) (show left < ((n + S : Nat) : Int) by omega))
    go_enter Tryz.func43, Tryz.ntmps43
    go_wp2_with fail
    go_ret
    exact ⟨aam e2.out.symm, Below.refl _ _⟩
theorem az8 (ts:List Param):SzR 43 (.row 5 (ts.flatMap Param.pd)):=ay6 fun t _=>a2k t
set_option maxHeartbeats 1600000 in
theorem awd {params:List Param} {bg:Int} {cu:ByteArray} {jv:List ByteArray} {mg:List Ty} {async:Bool} (anj:SzR 43 (.row 5 (params.flatMap Param.pd))) (ank:SzC 44 (Ty.pd ⟨bg,cu,jv,mg⟩)):SzC 20 (jh.pd ⟨params,⟨bg,cu,jv,mg⟩,async⟩):=by
 intro B cs w left h0 h1 hB hwf h
 obtain⟨adv,oq,uf,rfl,adn,zx,aau⟩:=jh.open_ h
 rw[jh.ay] at hwf
 simp only[PD.wfL,PD.wf,and_true,true_and] at hwf
 obtain⟨ayn,apu,apv,aoj,apw⟩:=hwf
 have a8k:=Lib.hid ayn
 have afy:=Lib.hid adn
 clear ayn adn
 have ay7:=Lib.hid apu
 clear apu
 unfold maxLen at apv
 have awe:=Lib.hid aoj
 have ab2:=Lib.hid zx
 clear aoj zx
 have ay8:=Lib.hid apw
 have ac2:=Lib.hid aau
 clear apw aau
 rw[show PD.szL (jh.pd ⟨params,⟨bg,cu,jv,mg⟩,async⟩)=(PD.row 5 (params.flatMap Param.pd)).sz+PD.szL (Ty.pd ⟨bg,cu,jv,mg⟩) by simp only[jh.ay,PD.szL,PD.sz,Ty.ay]<;>omega]
 obtain⟨z0,hz0⟩:∃ z:Nat,z=(PD.row 5 (params.flatMap Param.pd)).sz:=⟨_,rfl⟩
 rw[← hz0]
 have Z0:=Lib.hid hz0
 clear hz0
 obtain⟨z1,hz1⟩:∃ z:Nat,z=PD.szL (Ty.pd ⟨bg,cu,jv,mg⟩):=⟨_,rfl⟩
 rw[← hz1]
 have Z1:=Lib.hid hz1
 clear hz1
 have awf:PD.wfL (Ty.pd ⟨bg,cu,jv,mg⟩):=by rw[Ty.ay];simp only[PD.wfL,PD.wf,and_true,true_and];exact⟨ay7.out,by unfold maxLen;exact apv,awe.out,ay8.out⟩
 have a6n:=Lib.hid awf
 clear awf
 go_enter Tryz.func20,Tryz.ntmps20
 go_wp2_with fail
 obtain⟨w0,hw0⟩:∃ w0,w0=w.alloc (.cells #[adv,.int .i64 bg,.string cu,oq,uf,.bool async] 54):=⟨_,rfl⟩
 rw[← hw0]
 have bA:Blk w0 w.heap.size 54 #[adv,.int .i64 bg,.string cu,oq,uf,.bool async]:=by rw[hw0];exact Blk.new w _ _
 have hB0:Below w.heap.size w w0:=by rw[hw0];exact(Below.refl _ _).alloc (Nat.le_refl _) _
 clear hw0
 refine(anj B adv _ (left) (by omega) (by omega) (Nat.le_trans hB hB0.size) a8k.out (afy.out.below (hB0.mono hB))).mono ?_
 rintro e w1 ⟨rfl,hb1⟩
 have hB1:=hB0.trans (hb1.mono hB0.size)
 replace bA:=bA.step hb1
 rw[← Z0.out]
 by_cases p0:(z0:Int)≤left
 case neg=>
  rw[abe (by omega)]
  have eT:=Lib.hid (abe (n:=z0+z1) (left:=left) (by omega))
  go_wp2_with fail
  go_ret
  exact⟨aam eT.out.symm,hB1⟩
 rw[ac4 p0]
 have q0:0≤left - (z0:Int):=by omega
 have aa3:w1.cell? ⟨w.heap.size,1,none⟩=some (.int .i64 bg):=bA.cell 1
 have aa4:w1.cell? ⟨w.heap.size,2,none⟩=some (.string cu):=bA.cell 2
 have aay:w1.cell? ⟨w.heap.size,3,none⟩=some (oq):=bA.cell 3
 have a1_4:w1.cell? ⟨w.heap.size,4,none⟩=some (uf):=bA.cell 4
 go_wp2_with fail
 refine(ank B [.int .i64 bg,.string cu,oq,uf] _ (left - (z0:Int)) (by omega) (by omega) (Nat.le_trans hB hB1.size) a6n.out (Ty.close_ (ab2.out.below (hB1.mono hB)) (ac2.out.below (hB1.mono hB)))).mono ?_
 rintro e w2 ⟨rfl,hb2⟩
 have hB2:=hB1.trans (hb2.mono hB1.size)
 replace bA:=bA.step hb2
 rw[← Z1.out]
 by_cases p1:(z1:Int)≤left - (z0:Int)
 case neg=>
  rw[abe (by omega)]
  have eT:=Lib.hid (abe (n:=z0+z1) (left:=left) (by omega))
  go_wp2_with fail
  go_ret
  exact⟨aam eT.out.symm,hB2⟩
 rw[ac4 p1]
 have q1:0≤left - (z0:Int) - (z1:Int):=by omega
 go_wp2_with fail
 have eT:=Lib.hid (ac4 (n:=z0+z1) (left:=left) (by omega))
 go_ret
 exact⟨aam (by rw[eT.out]<;>omega),hB2⟩
theorem axp (t:jh):SzC 20 (jh.pd t):=by obtain⟨params,⟨bg,cu,jv,mg⟩,async⟩:=t;exact awd (az8 params) (aqh _)
set_option maxHeartbeats 1600000 in
theorem a2l {name:ByteArray} {ql:List Param} {aj:Int} {au:ByteArray} {iw:List ByteArray} {jl:List Ty} {jg:Bool} (aki:SzC 20 (jh.pd ⟨ql,⟨aj,au,iw,jl⟩,jg⟩)):SzC 53 (Fun.pd ⟨name,⟨ql,⟨aj,au,iw,jl⟩,jg⟩⟩):=by
 intro B cs w left h0 h1 hB hwf h
 obtain⟨aar,su,vg,rfl,ab1,zh,aad⟩:=Fun.open_ h
 rw[Fun.ay] at hwf
 simp only[PD.wfL,PD.wf,and_true,true_and] at hwf
 obtain⟨am3,arz,anl,anm,amf,ano⟩:=hwf
 unfold maxLen at am3
 have az9:=Lib.hid arz
 have ae4:=Lib.hid ab1
 clear arz ab1
 have aun:=Lib.hid anl
 clear anl
 unfold maxLen at anm
 have ar8:=Lib.hid amf
 have ac3:=Lib.hid zh
 clear amf zh
 have auo:=Lib.hid ano
 have adq:=Lib.hid aad
 clear ano aad
 rw[show PD.szL (Fun.pd ⟨name,⟨ql,⟨aj,au,iw,jl⟩,jg⟩⟩)=name.size+PD.szL (jh.pd ⟨ql,⟨aj,au,iw,jl⟩,jg⟩) by simp only[Fun.ay,PD.szL,PD.sz,jh.ay]<;>omega]
 obtain⟨z1,hz1⟩:∃ z:Nat,z=PD.szL (jh.pd ⟨ql,⟨aj,au,iw,jl⟩,jg⟩):=⟨_,rfl⟩
 rw[← hz1]
 have Z1:=Lib.hid hz1
 clear hz1
 have apt:PD.wfL (jh.pd ⟨ql,⟨aj,au,iw,jl⟩,jg⟩):=by rw[jh.ay];simp only[PD.wfL,PD.wf,and_true,true_and];exact⟨az9.out,aun.out,by unfold maxLen;exact anm,ar8.out,auo.out⟩
 have az7:=Lib.hid apt
 clear apt
 by_cases p0:((name.size:Nat):Int)≤left
 case neg=>
  have eT:=Lib.hid (abe (n:=name.size+z1) (left:=left) (by omega))
  go_enter Tryz.func53,Tryz.ntmps53
  go_wp2_with fail
  go_ret
  exact⟨aam eT.out.symm,(Below.refl _ _).alloc (Nat.le_refl _) _⟩
 have q0:0≤left - ((name.size:Nat):Int):=by omega
 go_enter Tryz.func53,Tryz.ntmps53
 go_wp2_with fail
 obtain⟨w0,hw0⟩:∃ w0,w0=w.alloc (.cells #[.string name,aar,.int .i64 aj,.string au,su,vg,.bool jg] 92):=⟨_,rfl⟩
 rw[← hw0]
 have bA:Blk w0 w.heap.size 92 #[.string name,aar,.int .i64 aj,.string au,su,vg,.bool jg]:=by rw[hw0];exact Blk.new w _ _
 have hB0:Below w.heap.size w w0:=by rw[hw0];exact(Below.refl _ _).alloc (Nat.le_refl _) _
 clear hw0
 refine(aki B [aar,.int .i64 aj,.string au,su,vg,.bool jg] _ (left - (name.size:Int)) (by omega) (by omega) (Nat.le_trans hB hB0.size) az7.out (jh.close_ (ae4.out.below (hB0.mono hB)) (ac3.out.below (hB0.mono hB)) (adq.out.below (hB0.mono hB)))).mono ?_
 rintro e w1 ⟨rfl,hb1⟩
 have hB1:=hB0.trans (hb1.mono hB0.size)
 replace bA:=bA.step hb1
 rw[← Z1.out]
 by_cases p1:(z1:Int)≤left - (name.size:Int)
 case neg=>
  rw[abe (by omega)]
  have eT:=Lib.hid (abe (n:=name.size+z1) (left:=left) (by omega))
  go_wp2_with fail
  go_ret
  exact⟨aam eT.out.symm,hB1⟩
 rw[ac4 p1]
 have q1:0≤left - (name.size:Int) - (z1:Int):=by omega
 go_wp2_with fail
 have eT:=Lib.hid (ac4 (n:=name.size+z1) (left:=left) (by omega))
 go_ret
 exact⟨aam (by rw[eT.out]<;>omega),hB1⟩
theorem a4z (t:Fun):SzC 53 (Fun.pd t):=by obtain⟨name,⟨ql,⟨aj,au,iw,jl⟩,jg⟩⟩:=t;exact a2l (axp _)
set_option maxHeartbeats 1600000 in
theorem a0a {ts : List Fun} (ih : ∀ t ∈ ts, SzC 53 (Fun.pd t)) : SzR 26 (.row 7 (ts.flatMap Fun.pd)) := by
  intro B v w left h0 h1 hB hwf h
  rw [PD.wf, agl] at hwf
  obtain ⟨A, n, c, rfl, hnl, hm, hat⟩ := ny Fun.jw (by decide) h
  unfold maxLen at hm
  rw [aia Fun.jw (by decide), ← hnl]
  have HN := Lib.hid hnl
  have HW := Lib.hid hwf
  have HI := Lib.hid ih
  clear ih
  clear h hnl hwf
  obtain ⟨S, hS⟩ : ∃ S : Nat, S = PD.szL (ts.flatMap Fun.pd) := ⟨_, rfl⟩
  rw [← hS]
  have HS := Lib.hid hS
  clear hS
  by_cases hl : (n : Int) ≤ left
  · go_enter Tryz.func26, Tryz.ntmps26
    go_wp2_with fail
    go_loopw [1, 5] (fun l i wr => ∃ (k Q : Nat), k ≤ n ∧ l = .int .i64 (left - n - Q) ∧ i = .int .i64 k ∧ (n : Int) + Q ≤ left ∧ Hid (Q = PD.szL ((ts.take k).flatMap Fun.pd)) ∧ Below w.heap.size w wr) (fun _ i _ => n - (intOf i).toNat)
    case atStart => exact ⟨0, 0, Nat.zero_le _, by simp, rfl, by omega, Lib.hid (by simp [PD.szL]), Below.refl _ _⟩
    case round =>
      obtain ⟨k, Q, hk, rfl, rfl, hQ, HQ, hbr⟩ := hrel
      by_cases hlt : k < n
      · obtain ⟨g, off, rfl, hg, hcell⟩ := hat (by omega)
        obtain ⟨t, hx, hmem⟩ := vw HN.out hlt
        have hnx := aj6 (f := Fun.pd) hx
        have hle := ahp (f := Fun.pd) hx
        rw [← HQ.out] at hnx hle
        rw [← HS.out] at hle
        obtain ⟨name, ⟨ql, ⟨aj, au, iw, jl⟩, jg⟩⟩ := t
        have c0 : wr.cell? ⟨g, off + k * 7, none⟩ = some (.string name) := gq hbr (by omega) (hcell k 0 _ _ hx (by rw [Fun.ay]; rfl))
        obtain ⟨aar, c1, hr1⟩ : ∃ u, wr.cell? ⟨g, off + k * 7 + 1, none⟩ = some u ∧ Rep wr B (.row 5 (ql.flatMap Param.pd)) u := jy hbr (by omega) hB (hcell k 1 _ _ hx (by rw [Fun.ay]; rfl))
        have HR1 := Lib.hid hr1
        clear hr1
        have c2 : wr.cell? ⟨g, off + k * 7 + 2, none⟩ = some (.int .i64 aj) := gq hbr (by omega) (hcell k 2 _ _ hx (by rw [Fun.ay]; rfl))
        have c3 : wr.cell? ⟨g, off + k * 7 + 3, none⟩ = some (.string au) := gq hbr (by omega) (hcell k 3 _ _ hx (by rw [Fun.ay]; rfl))
        obtain ⟨su, c4, hr4⟩ : ∃ u, wr.cell? ⟨g, off + k * 7 + 4, none⟩ = some u ∧ Rep wr B (.row 1 (iw.flatMap tq)) u := jy hbr (by omega) hB (hcell k 4 _ _ hx (by rw [Fun.ay]; rfl))
        have HR4 := Lib.hid hr4
        clear hr4
        obtain ⟨vg, c5, hr5⟩ : ∃ u, wr.cell? ⟨g, off + k * 7 + 5, none⟩ = some u ∧ Rep wr B (.row 4 (jl.flatMap Ty.pd)) u := jy hbr (by omega) hB (hcell k 5 _ _ hx (by rw [Fun.ay]; rfl))
        have HR5 := Lib.hid hr5
        clear hr5
        have c6 : wr.cell? ⟨g, off + k * 7 + 6, none⟩ = some (.bool jg) := gq hbr (by omega) (hcell k 6 _ _ hx (by rw [Fun.ay]; rfl))
        obtain ⟨z, hz⟩ : ∃ z : Nat, z = PD.szL (Fun.pd ⟨name, ⟨ql, ⟨aj, au, iw, jl⟩, jg⟩⟩) := ⟨_, rfl⟩
        have hc := HI.out _ hmem B [.string name, aar, .int .i64 aj, .string au, su, vg, .bool jg] wr (left - n - Q) (by omega) (by omega) (Nat.le_trans hB hbr.size) (HW.out _ hmem) (Fun.close_ HR1.out HR4.out HR5.out)
        rw [← hz] at hc hnx hle
        clear hx hcell hz
        have HC := Lib.hid hc
        have HX := Lib.hid hnx
        clear hc hnx
        go_wp2_with fail
        refine HC.out.mono ?_
        rintro e wq ⟨rfl, hbq⟩
        by_cases hzl : (z : Int) ≤ left - n - Q
        · rw [ac4 hzl]
          have hp : 0 ≤ left - n - Q - (z : Int) := by omega
          go_wp2_with fail
          go_roundw
          case rel => exact ⟨k + 1, Q + z, by omega, by go_num, by go_num, by omega, Lib.hid HX.out.symm, hbr.trans (hbq.mono hbr.size)⟩
          case measure => simp [intOf]; omega
        · rw [abe (by omega)]
          have e2 := Lib.hid (abe (n := n + S) (show left < ((n + S : Nat) : Int) by omega))
          go_wp2_with fail
          go_ret
          exact ⟨aam e2.out.symm, hbr.trans (hbq.mono hbr.size)⟩
      · have hkn : k = n := by omega
        subst hkn
        have hqs : Q = S := by rw [HQ.out, HS.out, List.take_of_length_le (by have := HN.out; omega)]
        have e2 := Lib.hid (ac4 (n := k + S) (left := left) (by omega))
        clear hqs
        have HQS : Hid (Q = S) := by have : Q = S := by rw [HQ.out, HS.out, List.take_of_length_le (by have := HN.out; omega)]
                                     exact Lib.hid this
        go_wp2_with fail
        go_ret
        exact ⟨aam (by rw [e2.out, HQS.out]; omega), hbr⟩
  · have e2 := Lib.hid (abe (n := n + S) (show left < ((n + S : Nat) : Int) by omega))
    go_enter Tryz.func26, Tryz.ntmps26
    go_wp2_with fail
    go_ret
    exact ⟨aam e2.out.symm, Below.refl _ _⟩
theorem a2m (ts:List Fun):SzR 26 (.row 7 (ts.flatMap Fun.pd)):=a0a fun t _=>a4z t
set_option maxHeartbeats 1600000 in
theorem a2n {package:ByteArray} {name:ByteArray} {version:ByteArray} {resources:List ByteArray} {funcs:List Fun} (akj:SzR 25 (.row 1 (resources.flatMap tq))) (aok:SzR 26 (.row 7 (funcs.flatMap Fun.pd))):SzC 7 (qg.pd ⟨package,name,version,resources,funcs⟩):=by
 intro B cs w left h0 h1 hB hwf h
 obtain⟨qh,aat,rfl,aa2,adw⟩:=qg.open_ h
 rw[qg.ay] at hwf
 simp only[PD.wfL,PD.wf,and_true,true_and] at hwf
 obtain⟨a5a,am3,a5b,asg,a0b⟩:=hwf
 unfold maxLen at a5a
 unfold maxLen at am3
 unfold maxLen at a5b
 have a2o:=Lib.hid asg
 have adh:=Lib.hid aa2
 clear asg aa2
 have W_funcs:=Lib.hid a0b
 have afu:=Lib.hid adw
 clear a0b adw
 rw[show PD.szL (qg.pd ⟨package,name,version,resources,funcs⟩)=package.size+name.size+version.size+(PD.row 1 (resources.flatMap tq)).sz+(PD.row 7 (funcs.flatMap Fun.pd)).sz by simp only[qg.ay,PD.szL,PD.sz]<;>omega]
 obtain⟨z3,hz3⟩:∃ z:Nat,z=(PD.row 1 (resources.flatMap tq)).sz:=⟨_,rfl⟩
 rw[← hz3]
 have Z3:=Lib.hid hz3
 clear hz3
 obtain⟨z4,hz4⟩:∃ z:Nat,z=(PD.row 7 (funcs.flatMap Fun.pd)).sz:=⟨_,rfl⟩
 rw[← hz4]
 have Z4:=Lib.hid hz4
 clear hz4
 by_cases p0:((package.size:Nat):Int)≤left
 case neg=>
  have eT:=Lib.hid (abe (n:=package.size+name.size+version.size+z3+z4) (left:=left) (by omega))
  go_enter Tryz.func7,Tryz.ntmps7
  go_wp2_with fail
  go_ret
  exact⟨aam eT.out.symm,(Below.refl _ _).alloc (Nat.le_refl _) _⟩
 have q0:0≤left - ((package.size:Nat):Int):=by omega
 by_cases p1:((name.size:Nat):Int)≤left - (package.size:Int)
 case neg=>
  have eT:=Lib.hid (abe (n:=package.size+name.size+version.size+z3+z4) (left:=left) (by omega))
  go_enter Tryz.func7,Tryz.ntmps7
  go_wp2_with fail
  go_ret
  exact⟨aam eT.out.symm,(Below.refl _ _).alloc (Nat.le_refl _) _⟩
 have q1:0≤left - (package.size:Int) - ((name.size:Nat):Int):=by omega
 by_cases p2:((version.size:Nat):Int)≤left - (package.size:Int) - (name.size:Int)
 case neg=>
  have eT:=Lib.hid (abe (n:=package.size+name.size+version.size+z3+z4) (left:=left) (by omega))
  go_enter Tryz.func7,Tryz.ntmps7
  go_wp2_with fail
  go_ret
  exact⟨aam eT.out.symm,(Below.refl _ _).alloc (Nat.le_refl _) _⟩
 have q2:0≤left - (package.size:Int) - (name.size:Int) - ((version.size:Nat):Int):=by omega
 go_enter Tryz.func7,Tryz.ntmps7
 go_wp2_with fail
 obtain⟨w0,hw0⟩:∃ w0,w0=w.alloc (.cells #[.string package,.string name,.string version,qh,aat] 25):=⟨_,rfl⟩
 rw[← hw0]
 have bA:Blk w0 w.heap.size 25 #[.string package,.string name,.string version,qh,aat]:=by rw[hw0];exact Blk.new w _ _
 have hB0:Below w.heap.size w w0:=by rw[hw0];exact(Below.refl _ _).alloc (Nat.le_refl _) _
 clear hw0
 refine(akj B qh _ (left - (package.size:Int) - (name.size:Int) - (version.size:Int)) (by omega) (by omega) (Nat.le_trans hB hB0.size) a2o.out (adh.out.below (hB0.mono hB))).mono ?_
 rintro e w1 ⟨rfl,hb1⟩
 have hB1:=hB0.trans (hb1.mono hB0.size)
 replace bA:=bA.step hb1
 rw[← Z3.out]
 by_cases p3:(z3:Int)≤left - (package.size:Int) - (name.size:Int) - (version.size:Int)
 case neg=>
  rw[abe (by omega)]
  have eT:=Lib.hid (abe (n:=package.size+name.size+version.size+z3+z4) (left:=left) (by omega))
  go_wp2_with fail
  go_ret
  exact⟨aam eT.out.symm,hB1⟩
 rw[ac4 p3]
 have q3:0≤left - (package.size:Int) - (name.size:Int) - (version.size:Int) - (z3:Int):=by omega
 have a1_4:w1.cell? ⟨w.heap.size,4,none⟩=some (aat):=bA.cell 4
 go_wp2_with fail
 refine(aok B aat _ (left - (package.size:Int) - (name.size:Int) - (version.size:Int) - (z3:Int)) (by omega) (by omega) (Nat.le_trans hB hB1.size) W_funcs.out (afu.out.below (hB1.mono hB))).mono ?_
 rintro e w2 ⟨rfl,hb2⟩
 have hB2:=hB1.trans (hb2.mono hB1.size)
 replace bA:=bA.step hb2
 rw[← Z4.out]
 by_cases p4:(z4:Int)≤left - (package.size:Int) - (name.size:Int) - (version.size:Int) - (z3:Int)
 case neg=>
  rw[abe (by omega)]
  have eT:=Lib.hid (abe (n:=package.size+name.size+version.size+z3+z4) (left:=left) (by omega))
  go_wp2_with fail
  go_ret
  exact⟨aam eT.out.symm,hB2⟩
 rw[ac4 p4]
 have q4:0≤left - (package.size:Int) - (name.size:Int) - (version.size:Int) - (z3:Int) - (z4:Int):=by omega
 go_wp2_with fail
 have eT:=Lib.hid (ac4 (n:=package.size+name.size+version.size+z3+z4) (left:=left) (by omega))
 go_ret
 exact⟨aam (by rw[eT.out]<;>omega),hB2⟩
theorem amg (t:qg):SzC 7 (qg.pd t):=by obtain⟨package,name,version,resources,funcs⟩:=t;exact a2n apr (a2m funcs)
end Go.Proofs.YtbafphecjijdmaaGreatDoor
