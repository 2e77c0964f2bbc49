/-
  spec.l03Name and impl.NameOk return the same bool. (and 1 more texts)
-/
import Derived.Test.YtbafphecjijdmaaGreatDoorUb09
import Derived.Test.YtbafphecjijdmaaGreatDoorUb10
import Derived.Test.YtbafphecjijdmaaGreatDoorUb04
import Derived.Test.YtbafphecjijdmaaGreatDoorUb05
namespace Go.Proofs.YtbafphecjijdmaaGreatDoor
open Go.RowKit
set_option linter.all false
set_option maxHeartbeats 800000 in
theorem afr (s:ByteArray) (hs:s.size≤maxLen) (w:World):
  Calls Tryz.prog 89 #[.string s] w fun e w'=>e=.returned (.bool (zn s))∧w=w':=by
 unfold maxLen at hs
 by_cases h1:1≤s.size
 case neg=>
  have HN:Hid (zn s=false):=by show _=_;simp only[zn,a5j (show((s.size:Nat):Int) < 1 by omega),Bool.and_false,Bool.false_and]
  go_enter Tryz.func89,Tryz.ntmps89
  go_wp2_with fail
  go_ret
  exact⟨ah HN.out.symm,rfl⟩
 by_cases h2:s.size≤12
 case neg=>
  have HN:Hid (zn s=false):=by show _=_;simp only[zn,a5k (show(12:Int) < ((s.size:Nat):Int) by omega),Bool.and_false,Bool.false_and]
  go_enter Tryz.func89,Tryz.ntmps89
  go_wp2_with fail
  go_ret
  exact⟨ah HN.out.symm,rfl⟩
 have h0:0 < s.size:=by omega
 have hl:s.size - 1 < s.size:=by omega
 by_cases h3:97≤(s[0].toNat:Int)∧(s[0].toNat:Int)≤122
 case neg=>
  have HN:Hid (zn s=false):=aoh h0 (by
   rw[ahh,ae8 h0]
   simp only[Nat.lt_irrefl,decide_false,Bool.false_and,Bool.or_false]
   rw[agq]
   omega)
  by_cases h4:(s[0].toNat:Int) < 97
  ·go_enter Tryz.func89,Tryz.ntmps89
   go_wp2_with fail
   go_ret
   exact⟨ah HN.out.symm,rfl⟩
  ·have h5:122 < (s[0].toNat:Int):=by omega
   go_enter Tryz.func89,Tryz.ntmps89
   go_wp2_with fail
   go_ret
   exact⟨ah HN.out.symm,rfl⟩
 obtain⟨h3a,h3b⟩:=h3
 cases h4:((s[s.size - 1].toNat:Int) ==45)
 case true=>
  have HN:Hid (zn s=false):=by
   show _=_
   have e:s[s.size - 1]=45:=(akn _).2 (by have:=beq_iff_eq.1 h4;omega)
   rw[zn,ae8 hl,e]
   simp
  go_enter Tryz.func89,Tryz.ntmps89
  go_wp2_with fail
  go_ret
  exact⟨ah HN.out.symm,rfl⟩
 have HL:Hid ((s.data.toList[s.size - 1]? ==some 45)=false):=by
  show _=_
  rw[ae8 hl]
  have e:s[s.size - 1]≠45:=fun e=>by rw[(akn _).1 e] at h4;simp at h4
  simp[e]
 have H0:=zqd (And.intro h3a h3b)
 go_enter Tryz.func89,Tryz.ntmps89
 go_wp2_with fail
 clear h4 hl h3a h3b
 go_loop [3] (fun i=>∃ k:Nat,k≤s.size∧i=.int .i64 k∧Hid (∀ j,j < k→ahh s j=true)) (fun i=>s.size - (intOf i).toNat)
 case atStart=>exact⟨0,Nat.zero_le _,rfl,zqd fun j h=>absurd h (by omega)⟩
 case round=>
  obtain⟨k,hk,rfl,HP⟩:=hrel
  by_cases hlt:k < s.size
  ·by_cases ha:97≤(s[k].toNat:Int)∧(s[k].toNat:Int)≤122
   ·obtain⟨ha1,ha2⟩:=ha
    have HB:=zqd (ap6 HP.out (show ahh s k=true by rw[ahh,ae8 hlt];simp[ag6 ha1 ha2]))
    have e45:((s[k].toNat:Int) ==45)=false:=by simp;omega
    go_wp2_with fail
    go_round
    case rel=>exact⟨k+1,by omega,by go_num,HB⟩
    case measure=>simp[intOf];omega
   have hk0:0 < k:=by
    rcases Nat.eq_zero_or_pos k with e|e
    ·subst e
     exact absurd H0.out ha
    ·exact e
   by_cases hd:48≤(s[k].toNat:Int)∧(s[k].toNat:Int)≤57
   ·obtain⟨hd1,hd2⟩:=hd
    have HB:=zqd (ap6 HP.out (show ahh s k=true by rw[ahh,ae8 hlt];simp[ag6 hd1 hd2,hk0]))
    have e45:((s[k].toNat:Int) ==45)=false:=by simp;omega
    have ha':(s[k].toNat:Int) < 97:=by omega
    clear ha
    go_wp2_with fail
    go_round
    case rel=>exact⟨k+1,by omega,by go_num,HB⟩
    case measure=>simp[intOf];omega
   cases he:((s[k].toNat:Int) ==45)
   ·have hne:((s[k].toNat:Int) != 45)=true:=by rw[bne,he];rfl
    have HB:Hid (zn s=false):=aoh hlt (by
     rw[ahh,ae8 hlt]
     have h1:inB (s[k].toNat:Int) 97 122=false:=agq.2 (by omega)
     have h2:inB (s[k].toNat:Int) 48 57=false:=agq.2 (by omega)
     have h3:(s[k].toNat ==45)=false:=by simp only[beq_eq_false_iff_ne,ne_eq] at he ⊢;omega
     simp[h1,h2,h3])
    by_cases hx:(s[k].toNat:Int) < 48
    ·have hx':(s[k].toNat:Int) < 97:=by omega
     clear ha hd
     go_wp2_with fail
     go_ret
     exact⟨ah HB.out.symm,rfl⟩
    by_cases hy:(s[k].toNat:Int) < 97
    ·have hx':(57:Int) < (s[k].toNat:Int):=by omega
     clear ha hd
     go_wp2_with fail
     go_ret
     exact⟨ah HB.out.symm,rfl⟩
    ·have hx':(122:Int) < (s[k].toNat:Int):=by omega
     clear ha hd
     go_wp2_with fail
     go_ret
     exact⟨ah HB.out.symm,rfl⟩
   ·have hne:((s[k].toNat:Int) != 45)=false:=by rw[bne,he];rfl
    have hx':(s[k].toNat:Int) < 48:=by have:=beq_iff_eq.1 he;omega
    have hl:k - 1 < s.size:=by omega
    have h45:(s[k].toNat ==45)=true:=by have:=beq_iff_eq.1 he;simp;omega
    cases hp:((s[k - 1].toNat:Int) ==45)
    ·have HB:=zqd (ap6 HP.out (show ahh s k=true by
      rw[ahh,ae8 hlt,ae8 hl]
      have e:s[k - 1]≠45:=fun e=>by rw[(akn _).1 e] at hp;simp at hp
      simp[hk0,h45,e]))
     clear ha hd h45
     go_wp2_with fail
     go_round
     case rel=>exact⟨k+1,by omega,by go_num,HB⟩
     case measure=>simp[intOf];omega
    ·have HB:Hid (zn s=false):=aoh hlt (by
      rw[ahh,ae8 hlt,ae8 hl]
      have e:s[k - 1]=45:=(akn _).2 (by have:=beq_iff_eq.1 hp;omega)
      have h1:inB (s[k].toNat:Int) 97 122=false:=agq.2 (by omega)
      have h2:inB (s[k].toNat:Int) 48 57=false:=agq.2 (by omega)
      simp[e,h1,h2])
     clear ha hd h45
     go_wp2_with fail
     go_ret
     exact⟨ah HB.out.symm,rfl⟩
  ·have hkn:k=s.size:=by omega
   subst hkn
   have HB:Hid (zn s=true):=by
    show _=_
    rw[bf7 HP.out,HL.out,ag6 (by omega) (by omega)]
    rfl
   go_wp2_with fail
   go_ret
   exact⟨ah HB.out.symm,rfl⟩
set_option maxHeartbeats 1600000 in
theorem aem (s:ByteArray) (hs:s.size≤maxLen) (w:World):
  Calls Tryz.prog 60 #[.string s] w fun e w'=>e=.returned (.bool (zn s))∧Below w.heap.size w w':=by
 unfold maxLen at hs
 go_enter Tryz.func60,Tryz.ntmps60
 go_wp2_with fail
 go_loopw [8] (fun i wr=>∃ k:Nat,k≤s.size∧i=.int .i64 k∧Hid (∀ j,j < k→ahh s j=true)∧∃ q,wr=w.drewN q) (fun i _=>s.size - (intOf i).toNat)
 case atStart=>exact⟨0,Nat.zero_le _,rfl,zqd fun j h=>absurd h (by omega),0,rfl⟩
 case round=>
  obtain⟨k,hk,rfl,HP,q,rfl⟩:=hrel
  by_cases hlt:k < s.size
  ·by_cases ha:97≤(s[k].toNat:Int)∧(s[k].toNat:Int)≤122
   ·obtain⟨ha1,ha2⟩:=ha
    have HB:=zqd (ap6 HP.out (show ahh s k=true by rw[ahh,ae8 hlt];simp[ag6 ha1 ha2]))
    have d0:decide ((97:Int)≤(s[k].toNat:Int))=true:=by simp;omega
    have d1:decide ((s[k].toNat:Int)≤122)=true:=by simp;omega
    have d2:decide ((48:Int)≤(s[k].toNat:Int))=true:=by simp;omega
    have d3:decide ((s[k].toNat:Int)≤57)=false:=by simp;omega
    go_wp2_with fail
    go_quiet (fail)
    clear d0 d2
    go_wp2_with fail
    go_roundw
    case rel=>exact⟨k+1,by omega,by go_num,HB,_,rfl⟩
    case measure=>simp[intOf];omega
   by_cases hd:48≤(s[k].toNat:Int)∧(s[k].toNat:Int)≤57
   ·obtain⟨hd1,hd2⟩:=hd
    clear ha
    rcases Nat.eq_zero_or_pos k with e0|e0
    ·subst e0
     have HB:Hid (zn s=false):=aoh hlt (by
      rw[ahh,ae8 hlt]
      have h1:inB (s[0].toNat:Int) 97 122=false:=agq.2 (by omega)
      simp[h1])
     have d0:decide ((97:Int)≤(s[0].toNat:Int))=false:=by simp;omega
     have d1:decide ((s[0].toNat:Int)≤122)=true:=by simp;omega
     have d2:decide ((48:Int)≤(s[0].toNat:Int))=true:=by simp;omega
     have d3:decide ((s[0].toNat:Int)≤57)=true:=by simp;omega
     go_wp2_with fail
     go_quiet (fail)
     clear d0 d2
     go_wp2_with fail
     all_goals go_ret
     all_goals exact⟨ah HB.out.symm,below_drewN (zqf _ _) _⟩
    ·have HB:=zqd (ap6 HP.out (show ahh s k=true by rw[ahh,ae8 hlt];simp[ag6 hd1 hd2,e0]))
     have k0:((k:Int) ==0)=false:=by simp;omega
     have d0:decide ((97:Int)≤(s[k].toNat:Int))=false:=by simp;omega
     have d1:decide ((s[k].toNat:Int)≤122)=true:=by simp;omega
     have d2:decide ((48:Int)≤(s[k].toNat:Int))=true:=by simp;omega
     have d3:decide ((s[k].toNat:Int)≤57)=true:=by simp;omega
     go_wp2_with fail
     go_quiet (fail)
     clear d0 d2
     go_wp2_with fail
     go_roundw
     case rel=>exact⟨k+1,by omega,by go_num,HB,_,rfl⟩
     case measure=>simp[intOf];omega
   cases he:((s[k].toNat:Int) ==45)
   ·have hne:((s[k].toNat:Int) != 45)=true:=by rw[bne,he];rfl
    have HB:Hid (zn s=false):=aoh hlt (by
     rw[ahh,ae8 hlt]
     have h1:inB (s[k].toNat:Int) 97 122=false:=agq.2 (by omega)
     have h2:inB (s[k].toNat:Int) 48 57=false:=agq.2 (by omega)
     have h3:(s[k].toNat ==45)=false:=by simp only[beq_eq_false_iff_ne,ne_eq] at he ⊢;omega
     simp[h1,h2,h3])
    by_cases hx:(s[k].toNat:Int) < 48
    ·clear ha hd
     have d0:decide ((97:Int)≤(s[k].toNat:Int))=false:=by simp;omega
     have d1:decide ((s[k].toNat:Int)≤122)=true:=by simp;omega
     have d2:decide ((48:Int)≤(s[k].toNat:Int))=false:=by simp;omega
     have d3:decide ((s[k].toNat:Int)≤57)=true:=by simp;omega
     go_wp2_with fail
     go_quiet (fail)
     clear d0 d2
     go_wp2_with fail
     all_goals go_ret
     all_goals exact⟨ah HB.out.symm,below_drewN (zqf _ _) _⟩
    by_cases hy:(s[k].toNat:Int) < 97
    ·have hy2:57 < (s[k].toNat:Int):=by omega
     clear ha hd
     have d0:decide ((97:Int)≤(s[k].toNat:Int))=false:=by simp;omega
     have d1:decide ((s[k].toNat:Int)≤122)=true:=by simp;omega
     have d2:decide ((48:Int)≤(s[k].toNat:Int))=true:=by simp;omega
     have d3:decide ((s[k].toNat:Int)≤57)=false:=by simp;omega
     go_wp2_with fail
     go_quiet (fail)
     clear d0 d2
     go_wp2_with fail
     all_goals go_ret
     all_goals exact⟨ah HB.out.symm,below_drewN (zqf _ _) _⟩
    ·have hy2:122 < (s[k].toNat:Int):=by omega
     clear ha hd
     have d0:decide ((97:Int)≤(s[k].toNat:Int))=true:=by simp;omega
     have d1:decide ((s[k].toNat:Int)≤122)=false:=by simp;omega
     have d2:decide ((48:Int)≤(s[k].toNat:Int))=true:=by simp;omega
     have d3:decide ((s[k].toNat:Int)≤57)=false:=by simp;omega
     go_wp2_with fail
     go_quiet (fail)
     clear d0 d2
     go_wp2_with fail
     all_goals go_ret
     all_goals exact⟨ah HB.out.symm,below_drewN (zqf _ _) _⟩
   ·have hne:((s[k].toNat:Int) != 45)=false:=by rw[bne,he];rfl
    have hx':(s[k].toNat:Int) < 48:=by have:=beq_iff_eq.1 he;omega
    have h45:(s[k].toNat ==45)=true:=by have:=beq_iff_eq.1 he;simp;omega
    rcases Nat.eq_zero_or_pos k with e0|e0
    ·subst e0
     have HB:Hid (zn s=false):=aoh hlt (by
      rw[ahh,ae8 hlt]
      have h1:inB (s[0].toNat:Int) 97 122=false:=agq.2 (by omega)
      simp[h1])
     clear ha hd h45
     have d0:decide ((97:Int)≤(s[0].toNat:Int))=false:=by simp;omega
     have d1:decide ((s[0].toNat:Int)≤122)=true:=by simp;omega
     have d2:decide ((48:Int)≤(s[0].toNat:Int))=false:=by simp;omega
     have d3:decide ((s[0].toNat:Int)≤57)=true:=by simp;omega
     go_wp2_with fail
     go_quiet (fail)
     clear d0 d2
     go_wp2_with fail
     all_goals go_ret
     all_goals exact⟨ah HB.out.symm,below_drewN (zqf _ _) _⟩
    have k0:((k:Int) ==0)=false:=by simp;omega
    have hl:k - 1 < s.size:=by omega
    cases hp:((s[k - 1].toNat:Int) ==45)
    ·have HB:=zqd (ap6 HP.out (show ahh s k=true by
      rw[ahh,ae8 hlt,ae8 hl]
      have e:s[k - 1]≠45:=fun e=>by rw[(akn _).1 e] at hp;simp at hp
      simp[e0,h45,e]))
     clear ha hd h45
     have d0:decide ((97:Int)≤(s[k].toNat:Int))=false:=by simp;omega
     have d1:decide ((s[k].toNat:Int)≤122)=true:=by simp;omega
     have d2:decide ((48:Int)≤(s[k].toNat:Int))=false:=by simp;omega
     have d3:decide ((s[k].toNat:Int)≤57)=true:=by simp;omega
     go_wp2_with fail
     go_quiet (fail)
     clear d0 d2
     go_wp2_with fail
     go_roundw
     case rel=>exact⟨k+1,by omega,by go_num,HB,_,rfl⟩
     case measure=>simp[intOf];omega
    ·have HB:Hid (zn s=false):=aoh hlt (by
      rw[ahh,ae8 hlt,ae8 hl]
      have e:s[k - 1]=45:=(akn _).2 (by have:=beq_iff_eq.1 hp;omega)
      have h1:inB (s[k].toNat:Int) 97 122=false:=agq.2 (by omega)
      have h2:inB (s[k].toNat:Int) 48 57=false:=agq.2 (by omega)
      simp[e,h1,h2])
     clear ha hd h45
     have d0:decide ((97:Int)≤(s[k].toNat:Int))=false:=by simp;omega
     have d1:decide ((s[k].toNat:Int)≤122)=true:=by simp;omega
     have d2:decide ((48:Int)≤(s[k].toNat:Int))=false:=by simp;omega
     have d3:decide ((s[k].toNat:Int)≤57)=true:=by simp;omega
     go_wp2_with fail
     go_quiet (fail)
     clear d0 d2
     go_wp2_with fail
     all_goals go_ret
     all_goals exact⟨ah HB.out.symm,below_drewN (zqf _ _) _⟩
  ·have hkn:k=s.size:=by omega
   subst hkn
   have HW:=zqd (bf7 HP.out)
   by_cases h1:1≤s.size
   ·by_cases h2:s.size≤12
    ·have hl:s.size - 1 < s.size:=by omega
     cases hp:((s[s.size - 1].toNat:Int) ==45)
     ·have hne:((s[s.size - 1].toNat:Int) != 45)=true:=by rw[bne,hp];rfl
      have HB:Hid (zn s=true):=by
       show _=_
       have e:s[s.size - 1]≠45:=fun e=>by rw[(akn _).1 e] at hp;simp at hp
       rw[HW.out,ae8 hl,ag6 (by omega) (by omega)]
       simp[e]
      go_wp2_with fail
      all_goals go_ret
      all_goals exact⟨ah HB.out.symm,below_drewN (zqf _ _) _⟩
     ·have hne:((s[s.size - 1].toNat:Int) != 45)=false:=by rw[bne,hp];rfl
      have HB:Hid (zn s=false):=by
       show _=_
       have e:s[s.size - 1]=45:=(akn _).2 (by have:=beq_iff_eq.1 hp;omega)
       rw[HW.out,ae8 hl,e]
       simp
      go_wp2_with fail
      all_goals go_ret
      all_goals exact⟨ah HB.out.symm,below_drewN (zqf _ _) _⟩
    ·have HB:Hid (zn s=false):=by
      show _=_
      rw[HW.out,a5k (by omega)]
      rfl
     go_wp2_with fail
     all_goals go_ret
     all_goals exact⟨ah HB.out.symm,below_drewN (zqf _ _) _⟩
   ·have HB:Hid (zn s=false):=by
     show _=_
     rw[HW.out,a5j (by omega)]
     rfl
    go_wp2_with fail
    all_goals go_ret
    all_goals exact⟨ah HB.out.symm,below_drewN (zqf _ _) _⟩
end Go.Proofs.YtbafphecjijdmaaGreatDoor
namespace Go.Proofs.YtbafphecjijdmaaGreatDoor
open Go.RowKit
set_option linter.all false
set_option maxRecDepth 100000
set_option maxHeartbeats 800000 in
theorem a7e (fid:Nat) (caps:Array Value) (p:Ty→Bool) {B:Nat} {v:Value} {ts:List Ty} {w:World} (hB:B≤w.heap.size) (h:Rep w B (.row 4 (ts.flatMap Ty.pd)) v)
  (hcf:∀ a W,Sem.run Tryz.prog (callFunc fid a) W=.ok (.enter fid a) W)
  (hp:∀ t ∈ ts,∀ (cs:List Value) (W:World),Below w.heap.size w W→lq W B (Ty.pd t) cs→Calls Tryz.prog fid (#[.agg cs.toArray] ++caps) W fun e w'=>e=.returned (.bool (p t))∧Below W.heap.size W w'):
  Calls Tryz.prog 145 #[v,.func (.func fid) #[] caps] w fun e w'=>e=.returned (.int .i64 (acu p ts))∧Below w.heap.size w w':=by
 obtain⟨A,n,c,rfl,hnl,hm,hat⟩:=ni Ty.jd (by decide) h
 unfold maxLen at hm
 have HN:=zqd hnl
 have HQ:=zqd hp
 clear h hnl hp
 go_enter Tryz.func145,Tryz.ntmps145
 go_wp2_with fail
 go_loopw [8] (fun i wr=>∃ k:Nat,k≤n∧i=.int .i64 k∧Hid (∀ (j:Nat) (t:Ty),j < k→ts[j]?=some t→p t=false)∧Below w.heap.size w wr) (fun i _=>n - (intOf i).toNat)
 case atStart=>exact⟨0,Nat.zero_le _,rfl,zqd fun j t h=>absurd h (by omega),zqf _ _⟩
 case round=>
  obtain⟨k,hk,rfl,HP,hbr⟩:=hrel
  by_cases hlt:k < n
  ·obtain⟨g,off,rfl,hg,hcell⟩:=hat (by omega)
   obtain⟨t,hx,hmem⟩:=um HN.out hlt
   obtain⟨kind,name,labels,kids⟩:=t
   have c0:wr.cell? ⟨g,off+k * 4,none⟩=some (.int .i64 kind):=bg hbr (by omega) (hcell k 0 _ _ hx (by rw[Ty.aj];rfl))
   have c1:wr.cell? ⟨g,off+k * 4+1,none⟩=some (.string name):=bg hbr (by omega) (hcell k 1 _ _ hx (by rw[Ty.aj];rfl))
   obtain⟨iw,c2,hr2⟩:∃ u,wr.cell? ⟨g,off+k * 4+2,none⟩=some u∧Rep wr B (.row 1 (labels.flatMap qj)) u:=jc hbr (by omega) hB (hcell k 2 _ _ hx (by rw[Ty.aj];rfl))
   have HR2:=zqd hr2
   clear hr2
   obtain⟨qw,c3,hr3⟩:∃ u,wr.cell? ⟨g,off+k * 4+3,none⟩=some u∧Rep wr B (.row 4 (kids.flatMap Ty.pd)) u:=jc hbr (by omega) hB (hcell k 3 _ _ hx (by rw[Ty.aj];rfl))
   have HR3:=zqd hr3
   clear hr3
   have hc:=HQ.out _ hmem [.int .i64 kind,.string name,iw,qw] wr hbr (Ty.close_ HR2.out HR3.out)
   obtain⟨t,ht⟩:∃ t:Ty,t=⟨kind,name,labels,kids⟩:=⟨_,rfl⟩
   rw[← ht] at hc hx
   clear ht
   have HC:=zqd hc
   have HX:=zqd hx
   clear hc hx hmem hcell
   go_wp2_with fail
   refine HC.out.mono ?_
   rintro e w1 ⟨rfl,hb1⟩
   have hB1:=hbr.trans (hb1.mono hbr.size)
   cases hb:p t
   ·go_wp2_with fail
    go_roundw
    case rel=>exact⟨k+1,by omega,by go_num,zqd (agd HP.out HX.out hb),hB1⟩
    case measure=>simp[intOf];omega
   ·have HI:Hid (acu p ts=(k:Int)):=ajs HP.out HX.out hb
    go_wp2_with fail
    go_ret
    exact⟨y7 HI.out.symm,hB1⟩
  ·have hkn:k=n:=by omega
   subst hkn
   have HI:Hid (acu p ts=-1):=aji fun j t ht=>HP.out j t (by have:=(List.getElem?_eq_some_iff.1 ht).1;have:=HN.out;omega) ht
   go_wp2_with fail
   go_ret
   exact⟨y7 HI.out.symm,hbr⟩
theorem aqh (fid:Nat) (caps:Array Value) (p:Ty→Bool) {B:Nat} {v:Value} {ts:List Ty} {w:World} (hB:B≤w.heap.size) (h:Rep w B (.row 4 (ts.flatMap Ty.pd)) v)
  (hcf:∀ a W,Sem.run Tryz.prog (callFunc fid a) W=.ok (.enter fid a) W)
  (hp:∀ t ∈ ts,∀ (cs:List Value) (W:World),Below w.heap.size w W→lq W B (Ty.pd t) cs→Calls Tryz.prog fid (#[.agg cs.toArray] ++caps) W fun e w'=>e=.returned (.bool (p t))∧Below W.heap.size W w'):
  Calls Tryz.prog 115 #[v,.func (.func fid) #[] caps] w fun e w'=>e=.returned (.bool (ts.any p))∧Below w.heap.size w w':=by
 have HI:=zqd (a7e fid caps p hB h hcf hp)
 have HA:=zqd (akv p ts)
 obtain⟨i,hi⟩:∃ i,i=acu p ts:=⟨_,rfl⟩
 rw[← hi] at HI HA
 clear h hp hi
 go_enter Tryz.func115,Tryz.ntmps115
 go_wp2_with fail
 refine HI.out.mono ?_
 rintro e w1 ⟨rfl,hb1⟩
 go_wp2_with fail
 go_ret
 exact⟨ah HA.out,hb1⟩
set_option maxHeartbeats 800000 in
theorem a1x (fid:Nat) (caps:Array Value) (p:ByteArray→Bool) {B:Nat} {v:Value} {ts:List ByteArray} {w:World} (hB:B≤w.heap.size) (h:Rep w B (.row 1 (ts.flatMap qj)) v)
  (hcf:∀ a W,Sem.run Tryz.prog (callFunc fid a) W=.ok (.enter fid a) W)
  (hp:∀ t ∈ ts,∀ (W:World),Below w.heap.size w W→Calls Tryz.prog fid (#[.string t] ++caps) W fun e w'=>e=.returned (.bool (p t))∧Below W.heap.size W w'):
  Calls Tryz.prog 95 #[v,.func (.func fid) #[] caps] w fun e w'=>e=.returned (.int .i64 (acu p ts))∧Below w.heap.size w w':=by
 obtain⟨A,n,c,rfl,hnl,hm,hat⟩:=ni aaz (by decide) h
 unfold maxLen at hm
 have HN:=zqd hnl
 have HQ:=zqd hp
 clear h hnl hp
 go_enter Tryz.func95,Tryz.ntmps95
 go_wp2_with fail
 go_loopw [8] (fun i wr=>∃ k:Nat,k≤n∧i=.int .i64 k∧Hid (∀ (j:Nat) (t:ByteArray),j < k→ts[j]?=some t→p t=false)∧Below w.heap.size w wr) (fun i _=>n - (intOf i).toNat)
 case atStart=>exact⟨0,Nat.zero_le _,rfl,zqd fun j t h=>absurd h (by omega),zqf _ _⟩
 case round=>
  obtain⟨k,hk,rfl,HP,hbr⟩:=hrel
  by_cases hlt:k < n
  ·obtain⟨g,off,rfl,hg,hcell⟩:=hat (by omega)
   obtain⟨t,hx,hmem⟩:=um HN.out hlt
   have c0:wr.cell? ⟨g,off+k,none⟩=some (.string t):=bg hbr (by omega) (by have:=hcell k 0 _ _ hx rfl;simpa using this)
   have hc:=HQ.out _ hmem wr hbr
   have HC:=zqd hc
   have HX:=zqd hx
   clear hc hx hmem hcell
   go_wp2_with fail
   refine HC.out.mono ?_
   rintro e w1 ⟨rfl,hb1⟩
   have hB1:=hbr.trans (hb1.mono hbr.size)
   cases hb:p t
   ·go_wp2_with fail
    go_roundw
    case rel=>exact⟨k+1,by omega,by go_num,zqd (agd HP.out HX.out hb),hB1⟩
    case measure=>simp[intOf];omega
   ·have HI:Hid (acu p ts=(k:Int)):=ajs HP.out HX.out hb
    go_wp2_with fail
    go_ret
    exact⟨y7 HI.out.symm,hB1⟩
  ·have hkn:k=n:=by omega
   subst hkn
   have HI:Hid (acu p ts=-1):=aji fun j t ht=>HP.out j t (by have:=(List.getElem?_eq_some_iff.1 ht).1;have:=HN.out;omega) ht
   go_wp2_with fail
   go_ret
   exact⟨y7 HI.out.symm,hbr⟩
theorem aoi (fid:Nat) (caps:Array Value) (p:ByteArray→Bool) {B:Nat} {v:Value} {ts:List ByteArray} {w:World} (hB:B≤w.heap.size) (h:Rep w B (.row 1 (ts.flatMap qj)) v)
  (hcf:∀ a W,Sem.run Tryz.prog (callFunc fid a) W=.ok (.enter fid a) W)
  (hp:∀ t ∈ ts,∀ (W:World),Below w.heap.size w W→Calls Tryz.prog fid (#[.string t] ++caps) W fun e w'=>e=.returned (.bool (p t))∧Below W.heap.size W w'):
  Calls Tryz.prog 63 #[v,.func (.func fid) #[] caps] w fun e w'=>e=.returned (.bool (ts.any p))∧Below w.heap.size w w':=by
 have HI:=zqd (a1x fid caps p hB h hcf hp)
 have HA:=zqd (akv p ts)
 obtain⟨i,hi⟩:∃ i,i=acu p ts:=⟨_,rfl⟩
 rw[← hi] at HI HA
 clear h hp hi
 go_enter Tryz.func63,Tryz.ntmps63
 go_wp2_with fail
 refine HI.out.mono ?_
 rintro e w1 ⟨rfl,hb1⟩
 go_wp2_with fail
 go_ret
 exact⟨ah HA.out,hb1⟩
set_option maxHeartbeats 800000 in
theorem anv (x:Int) {B:Nat} {v:Value} {ts:List Int} {w:World} (hB:B≤w.heap.size) (h:Rep w B (.row 1 (ts.flatMap aoc)) v):
  Calls Tryz.prog 144 #[v,.int .i64 x] w fun e w'=>e=.returned (.int .i64 (acu (fun t=>decide (x=t)) ts))∧Below w.heap.size w w':=by
 obtain⟨A,n,c,rfl,hnl,hm,hat⟩:=ni axp (by decide) h
 unfold maxLen at hm
 have HN:=zqd hnl
 clear h hnl
 go_enter Tryz.func144,Tryz.ntmps144
 go_wp2_with fail
 go_loopw [8] (fun i wr=>∃ k:Nat,k≤n∧i=.int .i64 k∧Hid (∀ (j:Nat) (t:Int),j < k→ts[j]?=some t→decide (x=t)=false)∧Below w.heap.size w wr) (fun i _=>n - (intOf i).toNat)
 case atStart=>exact⟨0,Nat.zero_le _,rfl,zqd fun j t h=>absurd h (by omega),zqf _ _⟩
 case round=>
  obtain⟨k,hk,rfl,HP,hbr⟩:=hrel
  by_cases hlt:k < n
  ·obtain⟨g,off,rfl,hg,hcell⟩:=hat (by omega)
   obtain⟨t,hx,hmem⟩:=um HN.out hlt
   have c0:wr.cell? ⟨g,off+k,none⟩=some (.int .i64 t):=bg hbr (by omega) (by have:=hcell k 0 _ _ hx rfl;simpa using this)
   have HX:=zqd hx
   clear hx hmem hcell
   by_cases hb:x=t
   ·have HI:Hid (acu (fun t=>decide (x=t)) ts=(k:Int)):=ajs HP.out HX.out (by simp[hb])
    subst hb
    go_wp2_with fail
    go_ret
    exact⟨y7 HI.out.symm,hbr⟩
   ·have hs:(x ==t)=false:=by simpa using hb
    have HB:=zqd (agd HP.out HX.out (by simp[hb]))
    clear hb
    go_wp2_with fail
    go_roundw
    case rel=>exact⟨k+1,by omega,by go_num,HB,hbr⟩
    case measure=>simp[intOf];omega
  ·have hkn:k=n:=by omega
   subst hkn
   have HI:Hid (acu (fun t=>decide (x=t)) ts=-1):=aji fun j t ht=>HP.out j t (by have:=(List.getElem?_eq_some_iff.1 ht).1;have:=HN.out;omega) ht
   go_wp2_with fail
   go_ret
   exact⟨y7 HI.out.symm,hbr⟩
theorem apb (x:Int) {B:Nat} {v:Value} {ts:List Int} {w:World} (hB:B≤w.heap.size) (h:Rep w B (.row 1 (ts.flatMap aoc)) v):
  Calls Tryz.prog 114 #[v,.int .i64 x] w fun e w'=>e=.returned (.bool (ts.any (fun t=>decide (x=t))))∧Below w.heap.size w w':=by
 have HI:=zqd (anv x hB h)
 have HA:=zqd (akv (fun t=>decide (x=t)) ts)
 obtain⟨i,hi⟩:∃ i,i=acu (fun t=>decide (x=t)) ts:=⟨_,rfl⟩
 rw[← hi] at HI HA
 clear h hi
 go_enter Tryz.func114,Tryz.ntmps114
 go_wp2_with fail
 refine HI.out.mono ?_
 rintro e w1 ⟨rfl,hb1⟩
 go_wp2_with fail
 go_ret
 exact⟨ah HA.out,hb1⟩
set_option maxHeartbeats 800000 in
theorem akw (x:ByteArray) {B:Nat} {v:Value} {ts:List ByteArray} {w:World} (hB:B≤w.heap.size) (h:Rep w B (.row 1 (ts.flatMap qj)) v):
  Calls Tryz.prog 97 #[v,.string x] w fun e w'=>e=.returned (.int .i64 (acu (fun t=>decide (x=t)) ts))∧Below w.heap.size w w':=by
 obtain⟨A,n,c,rfl,hnl,hm,hat⟩:=ni aaz (by decide) h
 unfold maxLen at hm
 have HN:=zqd hnl
 clear h hnl
 go_enter Tryz.func97,Tryz.ntmps97
 go_wp2_with fail
 go_loopw [8] (fun i wr=>∃ k:Nat,k≤n∧i=.int .i64 k∧Hid (∀ (j:Nat) (t:ByteArray),j < k→ts[j]?=some t→decide (x=t)=false)∧Below w.heap.size w wr) (fun i _=>n - (intOf i).toNat)
 case atStart=>exact⟨0,Nat.zero_le _,rfl,zqd fun j t h=>absurd h (by omega),zqf _ _⟩
 case round=>
  obtain⟨k,hk,rfl,HP,hbr⟩:=hrel
  by_cases hlt:k < n
  ·obtain⟨g,off,rfl,hg,hcell⟩:=hat (by omega)
   obtain⟨t,hx,hmem⟩:=um HN.out hlt
   have c0:wr.cell? ⟨g,off+k,none⟩=some (.string t):=bg hbr (by omega) (by have:=hcell k 0 _ _ hx rfl;simpa using this)
   have HX:=zqd hx
   clear hx hmem hcell
   by_cases hb:x=t
   ·have HI:Hid (acu (fun t=>decide (x=t)) ts=(k:Int)):=ajs HP.out HX.out (by simp[hb])
    subst hb
    go_wp2_with fail
    go_ret
    exact⟨y7 HI.out.symm,hbr⟩
   ·have hs:(x.toList ==t.toList)=false:=aeu hb
    have HB:=zqd (agd HP.out HX.out (by simp[hb]))
    clear hb
    go_wp2_with fail
    go_roundw
    case rel=>exact⟨k+1,by omega,by go_num,HB,hbr⟩
    case measure=>simp[intOf];omega
  ·have hkn:k=n:=by omega
   subst hkn
   have HI:Hid (acu (fun t=>decide (x=t)) ts=-1):=aji fun j t ht=>HP.out j t (by have:=(List.getElem?_eq_some_iff.1 ht).1;have:=HN.out;omega) ht
   go_wp2_with fail
   go_ret
   exact⟨y7 HI.out.symm,hbr⟩
theorem alc (x:ByteArray) {B:Nat} {v:Value} {ts:List ByteArray} {w:World} (hB:B≤w.heap.size) (h:Rep w B (.row 1 (ts.flatMap qj)) v):
  Calls Tryz.prog 67 #[v,.string x] w fun e w'=>e=.returned (.bool (ts.any (fun t=>decide (x=t))))∧Below w.heap.size w w':=by
 have HI:=zqd (akw x hB h)
 have HA:=zqd (akv (fun t=>decide (x=t)) ts)
 obtain⟨i,hi⟩:∃ i,i=acu (fun t=>decide (x=t)) ts:=⟨_,rfl⟩
 rw[← hi] at HI HA
 clear h hi
 go_enter Tryz.func67,Tryz.ntmps67
 go_wp2_with fail
 refine HI.out.mono ?_
 rintro e w1 ⟨rfl,hb1⟩
 go_wp2_with fail
 go_ret
 exact⟨ah HA.out,hb1⟩
end Go.Proofs.YtbafphecjijdmaaGreatDoor
