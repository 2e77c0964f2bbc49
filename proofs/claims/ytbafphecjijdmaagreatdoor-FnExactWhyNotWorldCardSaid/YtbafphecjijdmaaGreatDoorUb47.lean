/-
  Worlds that are right: spec.l07WorldOk and impl.WorldOk (by program: gen_wdg.py). (and 1 more texts)
-/
import Derived.Test.YtbafphecjijdmaaGreatDoorUb46
import Derived.Test.YtbafphecjijdmaaGreatDoorUb29
namespace Go.Proofs.YtbafphecjijdmaaGreatDoor
open Go.RowKit
set_option linter.all false
set_option maxRecDepth 16000
theorem asl (s:ByteArray) (hs:s.size≤maxLen) (w:World):Calls Tryz.prog 72 #[.string s] w fun e w'=>e=.returned (.bool (zn s))∧Below w.heap.size w w':=by
 obtain⟨b,hb⟩:∃ b,zn s=b:=⟨_,rfl⟩
 rw[hb]
 have HC:=zqd (afr s hs w)
 rw[hb] at HC
 clear hb hs
 go_enter Tryz.func72,Tryz.ntmps72
 go_wp2_with fail
 refine HC.out.mono ?_
 rintro e w1 ⟨rfl,rfl⟩
 go_wp2_with fail
 go_ret
 exact⟨rfl,zqf _ _⟩
structure bw2 (t:Wld):Prop where
 pk:t.package.size≤1048576
 nm:t.name.size≤1048576
 ver:t.version.size≤1048576
 imp:∀ f ∈ t.imports,PD.szL (cu.pd f)≤1048576
 exp:∀ f ∈ t.exports,PD.szL (cu.pd f)≤1048576
theorem a2y {t:Wld} (h:PD.szL (Wld.pd t)≤1048576):bw2 t:=by
 obtain⟨package,name,version,imports,exports⟩:=t
 rw[Wld.aj] at h
 simp only[PD.szL] at h
 rw[ahw cu.jd (by decide),ahw cu.jd (by decide)] at h
 have h1:(PD.lit (.string package)).sz=package.size:=by simp[PD.sz]
 have h2:(PD.lit (.string name)).sz=name.size:=by simp[PD.sz]
 have h3:(PD.lit (.string version)).sz=version.size:=by simp[PD.sz]
 refine⟨by simp only;omega,by simp only;omega,by simp only;omega,fun f hf=>?_,fun f hf=>?_⟩
 ·have:=atf (f:=cu.pd) hf
  simp only at this ⊢
  omega
 ·have:=atf (f:=cu.pd) hf
  simp only at this ⊢
  omega
theorem aw7 {p n v:ByteArray} {is es:List cu} (h:PD.wfL (Wld.pd ⟨p,n,v,is,es⟩)):(∀ f ∈ is,PD.wfL (cu.pd f))∧∀ f ∈ es,PD.wfL (cu.pd f):=by
 rw[Wld.aj] at h
 simp only[PD.wfL,PD.wf] at h
 exact⟨afx.1 h.2.2.2.1,afx.1 h.2.2.2.2.1⟩
set_option maxHeartbeats 1600000 in
theorem a1e (t:Wld) (hwf:PD.wfL (Wld.pd t)) (hsz:PD.szL (Wld.pd t)≤1048576) {B:Nat} {cs:List Value} {w:World} (hB:B≤w.heap.size) (hT:akm w) (h:lq w B (Wld.pd t) cs):
  Calls Tryz.prog 37 #[.agg cs.toArray] w fun e w'=>e=.returned (.bool (agr t))∧Below w.heap.size w w':=by
 obtain⟨R,hR⟩:∃ R:Bool,R=agr t:=⟨_,rfl⟩
 rw[← hR]
 have HZ:=a2y hsz
 obtain⟨package,name,version,imports,exports⟩:=t
 have HWF:=zqd (aw7 hwf)
 have HT:=zqd hT
 obtain⟨b1,e1⟩:∃ b,zn package=b:=⟨_,rfl⟩
 obtain⟨b2,e2⟩:∃ b,zn name=b:=⟨_,rfl⟩
 obtain⟨b3,e3⟩:∃ b,decide (0≤afh version)=b:=⟨_,rfl⟩
 obtain⟨b4,e4⟩:∃ b,afa imports=b:=⟨_,rfl⟩
 obtain⟨b5,e5⟩:∃ b,afa exports=b:=⟨_,rfl⟩
 have HR:Hid (R=(b1 && (b2 && (b3 && (b4 && b5))))):=by show _=_;rw[hR,agr];simp only;rw[e1,e2,e3,e4,e5]
 have hv1:package.size≤1048576:=HZ.pk
 have hv2:name.size≤1048576:=HZ.nm
 have hv3:version.size≤1048576:=HZ.ver
 have HZI:=zqd HZ.imp
 have HZE:=zqd HZ.exp
 simp only at HZI HZE
 clear hR hwf hsz HZ hT
 obtain⟨aag,zl,rfl,r_i,r_e⟩:=Wld.open_ h
 obtain⟨iA,iN,iC,rfl⟩:=r_i.form
 obtain⟨eA,eN,eC,rfl⟩:=r_e.form
 have RI:=zqd r_i
 have RE:=zqd r_e
 clear h r_i r_e
 obtain⟨w0,hw0⟩:=zqe w 45 #[.string package,.string name,.string version,.slice iA iN iC,.slice eA eN eC]
 have bA:=zqn hw0
 have hB0:=zqb hw0
 have HW0:=zqd hw0
 clear hw0
 have HC:=zqd (asl package (by unfold maxLen;omega) w0)
 rw[e1] at HC
 obtain⟨a0,a1,a2,a3,a4⟩:=zc5 bA
 go_enter Tryz.func37,Tryz.ntmps37
 go_wp2_with fail
 rw[← HW0.out]
 clear HW0
 refine HC.out.mono ?_
 rintro e w1 ⟨rfl,hb1⟩
 have hB1:=hB0.trans (hb1.mono hB0.size)
 have bA1:=bA.step hb1
 clear a0 a1 a2 a3 a4
 obtain⟨a0,a1,a2,a3,a4⟩:=zc5 bA1
 cases b1
 case false=>
  have HF:Hid (R=false):=by show _=_;rw[HR.out];simp
  go_wp2_with fail
  go_ret
  exact⟨ah HF.out.symm,hB1⟩
 have HC1:=zqd (asl name (by unfold maxLen;omega) w1)
 rw[e2] at HC1
 go_wp2_with fail
 refine HC1.out.mono ?_
 rintro e w2 ⟨rfl,hb2⟩
 have hB2:=hB1.trans (hb2.mono hB1.size)
 have bA2:=bA1.step hb2
 clear a0 a1 a2 a3 a4
 obtain⟨a0,a1,a2,a3,a4⟩:=zc5 bA2
 cases b2
 case false=>
  have HF:Hid (R=false):=by show _=_;rw[HR.out];simp
  go_wp2_with fail
  go_ret
  exact⟨ah HF.out.symm,hB2⟩
 have HC2:=zqd (ax3 version (by unfold maxLen;omega) w2)
 rw[e3] at HC2
 go_wp2_with fail
 refine HC2.out.mono ?_
 rintro e w3 ⟨rfl,hb3⟩
 have hB3:=hB2.trans (hb3.mono hB2.size)
 have bA3:=bA2.step hb3
 clear a0 a1 a2 a3 a4
 obtain⟨a0,a1,a2,a3,a4⟩:=zc5 bA3
 cases b3
 case false=>
  have HF:Hid (R=false):=by show _=_;rw[HR.out];simp
  go_wp2_with fail
  go_ret
  exact⟨ah HF.out.symm,hB3⟩
 have HC3:=zqd (a0t imports HWF.out.1 (Nat.le_trans hB hB3.size) (RI.out.below (hB3.mono hB)))
 rw[e4] at HC3
 go_wp2_with fail
 refine HC3.out.mono ?_
 rintro e w4 ⟨rfl,hb4⟩
 have hB4:=hB3.trans (hb4.mono hB3.size)
 have bA4:=bA3.step hb4
 clear a0 a1 a2 a3 a4
 obtain⟨a0,a1,a2,a3,a4⟩:=zc5 bA4
 cases b4
 case false=>
  have HF:Hid (R=false):=by show _=_;rw[HR.out];simp
  go_wp2_with fail
  go_ret
  exact⟨ah HF.out.symm,hB4⟩
 have HC4:=zqd (a0t exports HWF.out.2 (Nat.le_trans hB hB4.size) (RE.out.below (hB4.mono hB)))
 rw[e5] at HC4
 go_wp2_with fail
 refine HC4.out.mono ?_
 rintro e w5 ⟨rfl,hb5⟩
 have hB5:=hB4.trans (hb5.mono hB4.size)
 have bA5:=bA4.step hb5
 clear a0 a1 a2 a3 a4
 obtain⟨a0,a1,a2,a3,a4⟩:=zc5 bA5
 cases b5
 case false=>
  have HF:Hid (R=false):=by show _=_;rw[HR.out];simp
  go_wp2_with fail
  go_ret
  exact⟨ah HF.out.symm,hB5⟩
 have HF:Hid (R=true):=HR.out
 go_wp2_with fail
 go_ret
 exact⟨ah HF.out.symm,hB5⟩
set_option maxHeartbeats 1600000 in
theorem a1f (t:Wld) (hwf:PD.wfL (Wld.pd t)) (hsz:PD.szL (Wld.pd t)≤1048576) {B:Nat} {cs:List Value} {w:World} (hB:B≤w.heap.size) (hT:akm w) (h:lq w B (Wld.pd t) cs):
  Calls Tryz.prog 40 #[.agg cs.toArray] w fun e w'=>e=.returned (.bool (agr t))∧Below w.heap.size w w':=by
 obtain⟨R,hR⟩:∃ R:Bool,R=agr t:=⟨_,rfl⟩
 rw[← hR]
 have HZ:=a2y hsz
 obtain⟨package,name,version,imports,exports⟩:=t
 have HWF:=zqd (aw7 hwf)
 have HT:=zqd hT
 obtain⟨b1,e1⟩:∃ b,zn package=b:=⟨_,rfl⟩
 obtain⟨b2,e2⟩:∃ b,zn name=b:=⟨_,rfl⟩
 obtain⟨b3,e3⟩:∃ b,decide (0≤afh version)=b:=⟨_,rfl⟩
 obtain⟨b4,e4⟩:∃ b,afa imports=b:=⟨_,rfl⟩
 obtain⟨b5,e5⟩:∃ b,afa exports=b:=⟨_,rfl⟩
 have HR:Hid (R=(b1 && (b2 && (b3 && (b4 && b5))))):=by show _=_;rw[hR,agr];simp only;rw[e1,e2,e3,e4,e5]
 have hv1:package.size≤1048576:=HZ.pk
 have hv2:name.size≤1048576:=HZ.nm
 have hv3:version.size≤1048576:=HZ.ver
 have HZI:=zqd HZ.imp
 have HZE:=zqd HZ.exp
 simp only at HZI HZE
 clear hR hwf hsz HZ hT
 obtain⟨aag,zl,rfl,r_i,r_e⟩:=Wld.open_ h
 obtain⟨iA,iN,iC,rfl⟩:=r_i.form
 obtain⟨eA,eN,eC,rfl⟩:=r_e.form
 have RI:=zqd r_i
 have RE:=zqd r_e
 clear h r_i r_e
 obtain⟨w0,hw0⟩:=zqe w 45 #[.string package,.string name,.string version,.slice iA iN iC,.slice eA eN eC]
 have bA:=zqn hw0
 have hB0:=zqb hw0
 have HW0:=zqd hw0
 clear hw0
 have HC:=zqd (aem package (by unfold maxLen;omega) w0)
 rw[e1] at HC
 obtain⟨a0,a1,a2,a3,a4⟩:=zc5 bA
 go_enter Tryz.func40,Tryz.ntmps40
 go_wp2_with fail
 rw[← HW0.out]
 clear HW0
 refine HC.out.mono ?_
 rintro e w1 ⟨rfl,hb1⟩
 have hB1:=hB0.trans (hb1.mono hB0.size)
 have bA1:=bA.step hb1
 clear a0 a1 a2 a3 a4
 obtain⟨a0,a1,a2,a3,a4⟩:=zc5 bA1
 cases b1
 case false=>
  have HF:Hid (R=false):=by show _=_;rw[HR.out];simp
  go_wp2_with fail
  go_ret
  exact⟨ah HF.out.symm,hB1⟩
 have HC1:=zqd (aem name (by unfold maxLen;omega) w1)
 rw[e2] at HC1
 go_wp2_with fail
 refine HC1.out.mono ?_
 rintro e w2 ⟨rfl,hb2⟩
 have hB2:=hB1.trans (hb2.mono hB1.size)
 have bA2:=bA1.step hb2
 clear a0 a1 a2 a3 a4
 obtain⟨a0,a1,a2,a3,a4⟩:=zc5 bA2
 cases b2
 case false=>
  have HF:Hid (R=false):=by show _=_;rw[HR.out];simp
  go_wp2_with fail
  go_ret
  exact⟨ah HF.out.symm,hB2⟩
 have HC2:=zqd (a07 version hv3 w2 (HT.out.below hB2))
 rw[e3] at HC2
 go_wp2_with fail
 refine HC2.out.mono ?_
 rintro e w3 ⟨rfl,hb3⟩
 have hB3:=hB2.trans (hb3.mono hB2.size)
 have bA3:=bA2.step hb3
 clear a0 a1 a2 a3 a4
 obtain⟨a0,a1,a2,a3,a4⟩:=zc5 bA3
 cases b3
 case false=>
  have HF:Hid (R=false):=by show _=_;rw[HR.out];simp
  go_wp2_with fail
  go_ret
  exact⟨ah HF.out.symm,hB3⟩
 have HC3:=zqd (a1d imports HWF.out.1 HZI.out (Nat.le_trans hB hB3.size) (HT.out.below hB3) (RI.out.below (hB3.mono hB)))
 rw[e4] at HC3
 go_wp2_with fail
 refine HC3.out.mono ?_
 rintro e w4 ⟨rfl,hb4⟩
 have hB4:=hB3.trans (hb4.mono hB3.size)
 have bA4:=bA3.step hb4
 clear a0 a1 a2 a3 a4
 obtain⟨a0,a1,a2,a3,a4⟩:=zc5 bA4
 cases b4
 case false=>
  have HF:Hid (R=false):=by show _=_;rw[HR.out];simp
  go_wp2_with fail
  go_ret
  exact⟨ah HF.out.symm,hB4⟩
 have HC4:=zqd (a1d exports HWF.out.2 HZE.out (Nat.le_trans hB hB4.size) (HT.out.below hB4) (RE.out.below (hB4.mono hB)))
 rw[e5] at HC4
 go_wp2_with fail
 refine HC4.out.mono ?_
 rintro e w5 ⟨rfl,hb5⟩
 have hB5:=hB4.trans (hb5.mono hB4.size)
 have bA5:=bA4.step hb5
 clear a0 a1 a2 a3 a4
 obtain⟨a0,a1,a2,a3,a4⟩:=zc5 bA5
 cases b5
 case false=>
  have HF:Hid (R=false):=by show _=_;rw[HR.out];simp
  go_wp2_with fail
  go_ret
  exact⟨ah HF.out.symm,hB5⟩
 have HF:Hid (R=true):=HR.out
 go_wp2_with fail
 go_ret
 exact⟨ah HF.out.symm,hB5⟩
end Go.Proofs.YtbafphecjijdmaaGreatDoor
namespace Go.Proofs.YtbafphecjijdmaaGreatDoor
open Go.RowKit
set_option linter.all false
def SzW (k:Nat) (r:Why):Prop:=∀ x,r=some x→x.2.size≤k
theorem SzW.none_ {k:Nat}:SzW k none:=fun _ h=>by cases h
theorem SzW.some_ {k:Nat} {c:Int} {s:ByteArray} (h:s.size≤k):SzW k (some (c,s)):=fun x hx=>by cases hx;exact h
theorem SzW.more {k m:Nat} {r:Why} (h:SzW k r) (hm:k≤m):SzW m r:=fun x hx=>Nat.le_trans (h x hx) hm
theorem SzW.out {k:Nat} {r:Why} (h:SzW k r):(ayi r).size≤k:=by
 cases r with
 | none=>exact Nat.zero_le _
 | some x=>exact h x rfl
theorem anm {k:Nat} {f:Nat→Why} (h:∀ j,SzW k (f j)):∀ n,SzW k (zq f n)
 | 0=>SzW.none_
 | n+1=>by
  have ih:=anm h n
  rw[zq]
  cases hf:zq f n with
  | some r=>rw[hf] at ih;exact ih
  | none=>exact h n
theorem aw8 (a l:ByteArray):(ah6 a l).size=a.size+1+l.size:=by
 rw[ah6,ByteArray.size_append,ByteArray.size_append];rfl
def ay5 (n K:Nat) (rec:Ty→Ty→ByteArray→Why):Prop:=∀ (x y:Ty) (a:ByteArray),OkT n x→OkT n y→SzW (a.size+K) (rec x y a)
theorem get_mem {α:Type} {l:List α} {k:Nat} {x:α} (h:l[k]?=some x):x ∈ l:=List.mem_of_getElem? h
theorem bcr {n K:Nat} {rec:Ty→Ty→ByteArray→Why} (h:ay5 n K rec) {kind:Int} {a:ByteArray} {xl yl:List ByteArray} {xk yk:List Ty} (hl:∀ l ∈ xl,l.size≤12) (hx:∀ t ∈ xk,OkT n t) (hy:∀ t ∈ yk,OkT n t):
  SzW (a.size+(K+32)) (ai9 rec kind a xl xk yl yk):=by
 refine anm (fun k=>?_) _
 simp only[aio]
 cases e:xl[k]? with
 | none=>exact SzW.none_
 | some l=>
  have h12:=hl l (get_mem e)
  have hd:=aw8 a l
  dsimp only
  split
  ·exact SzW.some_ (by omega)
  ·split
   ·exact SzW.none_
   ·cases e1:xk[k]? with
    | none=>exact SzW.none_
    | some x=>
     cases e2:yk[(acu (strEq l) yl).toNat]? with
     | none=>exact SzW.none_
     | some y=>exact(h x y _ (hx x (get_mem e1)) (hy y (get_mem e2))).more (by omega)
theorem aw9 {n K:Nat} {rec:Ty→Ty→ByteArray→Why} (h:ay5 n K rec) {a:ByteArray} {xk yk:List Ty} (hx:∀ t ∈ xk,OkT n t) (hy:∀ t ∈ yk,OkT n t) (k:Nat):SzW (a.size+K) (ajv rec a xk yk k):=by
 simp only[ajv]
 cases e1:xk[k]? with
 | none=>exact SzW.none_
 | some x=>
  cases e2:yk[k]? with
  | none=>exact SzW.none_
  | some y=>exact h x y _ (hx x (get_mem e1)) (hy y (get_mem e2))
theorem bom {n K:Nat} {rec:Ty→Ty→ByteArray→Why} (h:ay5 n K rec) {a:ByteArray} {xk yk:List Ty} (hl:xk.length≤6) (hx:∀ t ∈ xk,OkT n t) (hy:∀ t ∈ yk,OkT n t) (k:Nat):SzW (a.size+(K+32)) (ali rec a xk yk k):=by
 simp only[ali]
 cases e1:xk[k]? with
 | none=>exact SzW.none_
 | some x=>
  cases e2:yk[k]? with
  | none=>exact SzW.none_
  | some y=>
   have hk:=(List.getElem?_eq_some_iff.1 e1).1
   have hd:=aw8 a (abz k)
   have hi:=ais (n:=(k:Int)) (by omega) (by omega)
   exact(h x y _ (hx x (get_mem e1)) (hy y (get_mem e2))).more (by omega)
theorem av7 (a b:ByteArray) {k:Nat} (h:b.size=k):(a ++b).size=a.size+k:=by rw[ByteArray.size_append,h]
theorem bon {n K:Nat} {rec:Ty→Ty→ByteArray→Why} (h:ay5 n K rec) {kind:Int} {an bn:ByteArray} {al bl:List ByteArray} {ak bk:List Ty} (ha:OkT (n+1) ⟨kind,an,al,ak⟩) (hb:OkT (n+1) ⟨kind,bn,bl,bk⟩) (a:ByteArray):
  SzW (a.size+(K+32)) (adv rec kind an al ak bn bl bk a):=by
 have hx:=aan ha
 have hy:=aan hb
 have sa:=shF ha.2
 have sb:=shF hb.2
 have hs:ay5 n K (fun x y=>rec y x):=fun x y a p q=>h y x a q p
 have e2:=av7 a ⟨#[91,93]⟩ (k:=2) rfl
 have e1:=av7 a ⟨#[63]⟩ (k:=1) rfl
 have e3:=av7 a ⟨#[46,111,107]⟩ (k:=3) rfl
 have e4:=av7 a ⟨#[46,101,114,114]⟩ (k:=4) rfl
 rw[adv]
 split
 ·exact(aw9 h hx hy 0).more (by omega)
 split
 ·exact(aw9 h hx hy 0).more (by omega)
 split
 ·have k0:=(aw9 h (a:=a ++⟨#[46,111,107]⟩) hx hy 0).more (m:=a.size+(K+32)) (by omega)
  cases e:ajv rec (a ++⟨#[46,111,107]⟩) ak bk 0 with
  | some r=>rw[e] at k0;exact k0
  | none=>exact(aw9 h hx hy 1).more (by omega)
 split
 ·next h15=>
  subst h15
  split
  ·exact anm (fun k=>bom h (ayk sa.right) hx hy k) _
  ·exact SzW.some_ (by omega)
 split
 ·next h16=>exact bcr hs (sb.avd (by rw[h16];rfl)).2 hy hx
 split
 ·next h17=>exact bcr h (sa.avd (by rcases h17 with e|e|e<;>rw[e]<;>rfl)).2 hx hy
 split
 ·split
  ·exact SzW.none_
  ·exact SzW.some_ (by omega)
 split
 ·cases ak[0]? with
  | none=>exact SzW.none_
  | some x=>
   cases bk[0]? with
   | none=>exact SzW.none_
   | some y=>
    dsimp only
    split
    ·exact SzW.none_
    ·exact SzW.some_ (by omega)
 ·exact SzW.none_
theorem bcs:∀ n,ay5 n (32 * n) (agf n)
 | 0=>fun _ _ _ _ _=>SzW.none_
 | n+1=>fun x y a hx hy=>by
  obtain⟨ak,an,al,aks⟩:=x
  obtain⟨bk,bn,bl,bks⟩:=y
  rw[agf]
  split
  ·split
   ·exact SzW.none_
   ·exact SzW.some_ (by omega)
  ·split
   ·next e=>subst e;exact(bon (bcs n) hx hy a).more (by omega)
   ·exact SzW.some_ (by omega)
theorem bko {K:Nat} {rec:Ty→Ty→ByteArray→Why} (h:ay5 4 K rec) {f g:jh} (hf:OkF f) (hg:OkF g) (a:ByteArray):SzW (a.size+(K+32)) (ah3 rec f g a):=by
 have hp:∀ k,SzW (a.size+(K+32)) (funcF rec a f.params g.params k):=fun k=>by
  simp only[funcF]
  cases e1:f.params[k]? with
  | none=>exact SzW.none_
  | some x=>
   cases e2:g.params[k]? with
   | none=>exact SzW.none_
   | some y=>
    have hx:=hf.par x (get_mem e1)
    have hy:=hg.par y (get_mem e2)
    have hz:(aqn a y.name).size=a.size+1+y.name.size+1:=by
     rw[aqn,ByteArray.size_append,ByteArray.size_append,ByteArray.size_append];rfl
    have hl:=hy.2
    dsimp only
    split
    ·exact(h y.typ x.typ _ hy.1 hx.1).more (by omega)
    ·exact SzW.some_ (by omega)
 have e2:=av7 a ⟨#[45,62]⟩ (k:=2) rfl
 rw[ah3]
 split
 ·have k0:=anm hp f.params.length
  cases e:zq (funcF rec a f.params g.params) f.params.length with
  | some r=>rw[e] at k0;exact k0
  | none=>
   have k1:=(h f.result g.result (a ++⟨#[45,62]⟩) hf.res hg.res).more (m:=a.size+(K+32)) (by omega)
   dsimp only
   cases e3:rec f.result g.result (a ++⟨#[45,62]⟩)with
   | some r=>rw[e3] at k1;exact k1
   | none=>
    dsimp only
    split
    ·exact SzW.some_ (by omega)
    ·exact SzW.none_
 ·exact SzW.some_ (by omega)
theorem bkp {h w:cu} (hh:ag9 h=true) (hw:ag9 w=true) (a:ByteArray) (vs:Bool):SzW (a.size+200) (aha h w a vs):=by
 have fh:=anf hh
 have fw:=anf hw
 rw[aha]
 split
 ·exact SzW.some_ (by omega)
 split
 ·exact SzW.some_ (by omega)
 have k0:SzW (a.size+200) (zq (ald a h.resources w.resources) w.resources.length):=anm (fun k=>by
  simp only[ald]
  cases e:w.resources[k]? with
  | none=>exact SzW.none_
  | some r=>
   have h1:=fw.res r (get_mem e)
   have hd:=aw8 a r
   dsimp only
   split
   ·exact SzW.some_ (by omega)
   ·exact SzW.none_) _
 cases e:zq (ald a h.resources w.resources) w.resources.length with
 | some r=>rw[e] at k0;exact k0
 | none=>
  refine anm (fun k=>?_) _
  simp only[aja]
  cases e:w.funcs[k]? with
  | none=>exact SzW.none_
  | some x=>
   have h1:=fw.fs x (get_mem e)
   have hd:=aw8 a x.name
   have hn:=h1.1
   dsimp only
   cases e2:h.funcs[(ait h.funcs x.name).toNat]? with
   | none=>exact SzW.some_ (by omega)
   | some y=>
    have h2:=fh.fs y (get_mem e2)
    dsimp only
    split
    ·exact SzW.some_ (by omega)
    ·exact(bko (bcs 4) (aqo h2.2) (aqo h1.2) _).more (by omega)
theorem al4 {fs:List cu} (h:afa fs=true):∀ f ∈ fs,ag9 f=true:=by
 rw[afa,Bool.and_eq_true,Bool.and_eq_true] at h
 exact List.all_eq_true.1 h.2.1
theorem av8 {fs:List cu} (h:afa fs=true):fs.length≤6:=by
 rw[afa,Bool.and_eq_true] at h
 exact of_decide_eq_true h.1
end Go.Proofs.YtbafphecjijdmaaGreatDoor
