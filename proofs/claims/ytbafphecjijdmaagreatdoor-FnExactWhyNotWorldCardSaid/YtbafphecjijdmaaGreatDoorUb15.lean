/-
  spec.l03Labels and impl.labelsOk return the same bool. (and 2 more texts)
-/
import Derived.Test.YtbafphecjijdmaaGreatDoorUb12
import Derived.Test.YtbafphecjijdmaaGreatDoorUb13
import Derived.Test.YtbafphecjijdmaaGreatDoorUb14
import Derived.Deep.RegionHeld3
namespace Go.Proofs.YtbafphecjijdmaaGreatDoor
open Go.RowKit
set_option linter.all false
theorem a0h {α:Type} {ls:List α} {i:Nat} {x:α} (hx:ls[i]?=some x) (h:(ls.take i).Nodup) (hne:∀ (j:Nat) (y:α),j < i→ls[j]?=some y→y≠x):(ls.take (i+1)).Nodup:=by
 rw[List.take_add_one,hx]
 refine List.nodup_append.2 ⟨h,by simp,?_⟩
 intro a ha b hb e
 simp at hb
 obtain⟨j,hj,rfl⟩:=List.getElem_of_mem ha
 rw[List.length_take] at hj
 rw[List.getElem_take] at e
 exact hne j _ (by omega) (List.getElem?_eq_getElem (by omega)) (e.trans hb)
theorem bgd {α:Type} {ls:List α} {i j:Nat} {x:α} (hij:j < i) (hx:ls[i]?=some x) (hy:ls[j]?=some x):¬ ls.Nodup:=by
 intro hn
 obtain⟨hi,rfl⟩:=List.getElem?_eq_some_iff.1 hx
 obtain⟨hj,e⟩:=List.getElem?_eq_some_iff.1 hy
 exact List.pairwise_iff_getElem.1 (List.nodup_iff_pairwise_ne.1 hn) j i hj hi hij e
set_option maxHeartbeats 1600000 in
theorem aex {B:Nat} {v:Value} {ls:List ByteArray} {w:World} (hB:B≤w.heap.size) (hs:∀ s ∈ ls,s.size≤maxLen) (h:Rep w B (.row 1 (ls.flatMap qj)) v):
  Calls Tryz.prog 169 #[v] w fun e w'=>e=.returned (.bool (abw ls))∧Below w.heap.size w w':=by
 obtain⟨A,n,c,rfl,hnl,hm,hat⟩:=ni aaz (by decide) h
 unfold maxLen at hm
 have HN:=zqd hnl
 have HS:=zqd hs
 have HAT:=zqd hat
 clear h hnl hs hat
 by_cases h1:1≤n
 case neg=>
  have HF:Hid (abw ls=false):=by show _=_;rw[abw,a5j (by have:=HN.out;omega)];rfl
  go_enter Tryz.func169,Tryz.ntmps169
  go_wp2_with fail
  go_ret
  exact⟨ah HF.out.symm,zqf _ _⟩
 by_cases h2:n≤16
 case neg=>
  have HF:Hid (abw ls=false):=by show _=_;rw[abw,a5k (by have:=HN.out;omega)];rfl
  go_enter Tryz.func169,Tryz.ntmps169
  go_wp2_with fail
  go_ret
  exact⟨ah HF.out.symm,zqf _ _⟩
 obtain⟨g,off,rfl,hg,hcell⟩:=HAT.out (by omega)
 have HC:=zqd hcell
 clear HAT hcell
 go_enter Tryz.func169,Tryz.ntmps169
 go_wp2_with fail
 go_loopw [3,4] (fun i k2 wr=>∃ k:Nat,k≤n∧i=.int .i64 k∧Hid (∀ (j:Nat) (t:ByteArray),j < k→ls[j]?=some t→(fun t=>!zn t) t=false)∧Hid ((ls.take k).Nodup)∧∃ q,wr=w.drewN q) (fun i _ _=>n - (intOf i).toNat)
 case atStart=>exact⟨0,Nat.zero_le _,rfl,zqd fun j t h=>absurd h (by omega),zqd (by simp),0,rfl⟩
 case round=>
  obtain⟨k,hk,rfl,HP,HD,q,rfl⟩:=hrel
  by_cases hlt:k < n
  ·obtain⟨x,hx,hmem⟩:=um HN.out hlt
   have ck:w.cell? ⟨g,off+k,none⟩=some (.string x):=by
    obtain⟨u,hu,hr⟩:=HC.out k 0 x _ hx rfl
    rw[hr.ad8] at hu
    simpa using hu
   have HX:=zqd hx
   have hxs:=HS.out x hmem
   clear hx hmem
   go_wp2_with fail
   refine(afr x hxs _).mono ?_
   rintro e w1 ⟨rfl,rfl⟩
   cases hb:zn x
   ·have HF:Hid (abw ls=false):=by show _=_;rw[abw,bm0 HX.out hb];simp
    go_wp2_with fail
    go_ret
    exact⟨ah HF.out.symm,below_drewN (zqf _ _) _⟩
   have HB:=zqd hb
   clear hb
   go_wp2_with fail
   go_loopw [4] (fun i2 wr=>∃ m:Nat,m≤k∧i2=.int .i64 m∧Hid (∀ (j:Nat) (y:ByteArray),j < m→ls[j]?=some y→y≠x)∧∃ q,wr=w.drewN q) (fun i2 _=>k - (intOf i2).toNat)
   case atStart=>exact⟨0,Nat.zero_le _,rfl,zqd fun j t h=>absurd h (by omega),q,rfl⟩
   case round=>
    obtain⟨m,hmk,rfl,HM,q2,rfl⟩:=hrel
    clear ck
    by_cases hlt2:m < k
    ·obtain⟨y,hy,_⟩:=um HN.out (show m < n by omega)
     have ck:w.cell? ⟨g,off+k,none⟩=some (.string x):=by
      obtain⟨u,hu,hr⟩:=HC.out k 0 x _ HX.out rfl
      rw[hr.ad8] at hu
      simpa using hu
     have cm:w.cell? ⟨g,off+m,none⟩=some (.string y):=by
      obtain⟨u,hu,hr⟩:=HC.out m 0 y _ hy rfl
      rw[hr.ad8] at hu
      simpa using hu
     have hlt3:(m:Int) < (n:Int):=by omega
     have hlt4:(k:Int) < (n:Int):=by omega
     have HY:=zqd hy
     clear hy
     by_cases e:y=x
     ·have HF:Hid (abw ls=false):=by
       show _=_
       rw[abw,decide_eq_false (bgd hlt2 HX.out (by rw[HY.out,e]))]
       simp
      subst e
      go_wp2_with fail
      go_quiet (fail)
      go_wp2_with fail
      go_ret
      exact⟨ah HF.out.symm,below_drewN (below_drewN (zqf _ _) _) _⟩
     ·have hne:=aeu e
      have HE:Hid (∀ (j:Nat) (z:ByteArray),j < m+1→ls[j]?=some z→z≠x):=by
       intro j z hj hz
       by_cases e2:j=m
       ·subst e2
        rw[HY.out] at hz
        injection hz with hz
        rw[← hz]
        exact e
       ·exact HM.out j z (by omega) hz
      clear e
      go_wp2_with fail
      go_quiet (fail)
      go_wp2_with fail
      go_roundw
      case rel=>exact⟨m+1,by omega,by go_num,HE,_,rfl⟩
      case measure=>simp[intOf];omega
    ·have bvg:m=k:=by omega
     subst bvg
     go_wp2_with fail
     go_roundw
     case rel=>exact⟨m+1,by omega,by go_num,zqd (agd HP.out HX.out (by rw[HB.out];rfl)),zqd (a0h HX.out HD.out HM.out),_,rfl⟩
     case measure=>simp[intOf];omega
  ·have hkn:k=n:=by omega
   subst hkn
   have HF:Hid (abw ls=true):=by
    show _=_
    have h3:ls.take k=ls:=List.take_of_length_le (by have:=HN.out;omega)
    have h4:=HD.out
    rw[h3] at h4
    rw[abw,ag6 (by have:=HN.out;omega) (by have:=HN.out;omega),bq2 (n:=k) (by have:=HN.out;omega) HP.out,decide_eq_true h4]
    rfl
   go_wp2_with fail
   go_ret
   exact⟨ah HF.out.symm,below_drewN (zqf _ _) _⟩
theorem ba0 (s:ByteArray) (hs:s.size≤maxLen) (w:World):
  Calls Tryz.prog 159 #[.string s] w fun e w'=>e=.returned (.bool (!zn s))∧Below w.heap.size w w':=by
 have HI:=zqd (aem s hs w)
 clear hs
 go_enter Tryz.func159,Tryz.ntmps159
 go_wp2_with fail
 refine HI.out.mono ?_
 rintro e w1 ⟨rfl,hb⟩
 go_wp2_with fail
 go_ret
 exact⟨rfl,hb⟩
theorem a4p (a:Array Value) (W:World):Sem.run Tryz.prog (callFunc 159 a) W=.ok (.enter 159 a) W:=by kernel_rfl
set_option maxHeartbeats 1600000 in
theorem adk {B:Nat} {v:Value} {ls:List ByteArray} {w:World} (hB:B≤w.heap.size) (hs:∀ s ∈ ls,s.size≤maxLen) (h:Rep w B (.row 1 (ls.flatMap qj)) v):
  Calls Tryz.prog 140 #[v] w fun e w'=>e=.returned (.bool (abw ls))∧Below w.heap.size w w':=by
 obtain⟨A,n,c,rfl⟩:=h.form
 have HR:=zqd h
 have HS:=zqd hs
 clear h hs
 obtain⟨L,hL⟩:∃ L:Nat,L=ls.length:=⟨_,rfl⟩
 have HL:=zqd hL
 clear hL
 cases hi:inB (L:Int) 1 16
 case false=>
  have HF:Hid (abw ls=false):=by show _=_;rw[abw,← HL.out,hi];rfl
  go_enter Tryz.func140,Tryz.ntmps140
  go_wp2_with fail
  refine(ana HR.out).mono ?_
  rintro e w1 ⟨rfl,rfl⟩
  rw[← HL.out]
  go_wp2_with fail
  refine(og _ _ _ _).mono ?_
  rintro e w1 ⟨rfl,rfl⟩
  rw[hi]
  go_wp2_with fail
  go_ret
  exact⟨ah HF.out.symm,zqf _ _⟩
 have HI:=zqd hi
 have hl:=(agx.1 hi).2
 clear hi
 by_cases hd:ls.Nodup
 case neg=>
  have HF:Hid (abw ls=false):=by show _=_;rw[abw,decide_eq_false hd];simp
  have HD:=zqd (decide_eq_false hd)
  clear hd
  go_enter Tryz.func140,Tryz.ntmps140
  go_wp2_with fail
  refine(ana HR.out).mono ?_
  rintro e w1 ⟨rfl,rfl⟩
  rw[← HL.out]
  go_wp2_with fail
  refine(og _ _ _ _).mono ?_
  rintro e w1 ⟨rfl,rfl⟩
  rw[HI.out]
  go_wp2_with fail
  refine(distinct_any hB (by have:=HL.out;omega) HR.out).mono ?_
  rintro e w1 ⟨rfl,hb1⟩
  rw[HD.out]
  go_wp2_with fail
  go_ret
  exact⟨ah HF.out.symm,hb1⟩
 have HD:=zqd (decide_eq_true hd)
 clear hd
 have HF:Hid (abw ls=!(ls.any fun s=>!zn s)):=by
  show _=_
  rw[abw,← HL.out,HI.out,HD.out,List.not_any_eq_all_not]
  simp
 go_enter Tryz.func140,Tryz.ntmps140
 go_wp2_with fail
 refine(ana HR.out).mono ?_
 rintro e w1 ⟨rfl,rfl⟩
 rw[← HL.out]
 go_wp2_with fail
 refine(og _ _ _ _).mono ?_
 rintro e w1 ⟨rfl,rfl⟩
 rw[HI.out]
 go_wp2_with fail
 refine(distinct_any hB (by have:=HL.out;omega) HR.out).mono ?_
 rintro e w1 ⟨rfl,hb1⟩
 rw[HD.out]
 go_wp2_with fail
 refine(aoi 159 #[] (fun s=>!zn s) (B:=B) (by have:=hb1.size;omega) (HR.out.below (hb1.mono hB)) a4p (fun s hm W _=>ba0 s (HS.out s hm) W)).mono ?_
 rintro e w2 ⟨rfl,hb2⟩
 obtain⟨r,hr⟩:∃ r,r=ls.any fun s=>!zn s:=⟨_,rfl⟩
 have HG:=zqd hr
 rw[← hr]
 clear hr
 go_wp2_with fail
 go_ret
 exact⟨ah (by rw[HF.out,← HG.out]),hb1.trans (hb2.mono hb1.size)⟩
theorem afc {s:ByteArray} (h:s.size=0):s={data:=#[]}:=by
 cases s with
 | mk d=>congr;exact Array.eq_empty_of_size_eq_zero h
theorem ae9 {s:ByteArray} (h:¬ s.size=0):s.toList.isEmpty=false:=by
 rw[ByteArray.toList_eq]
 cases s with
 | mk d=>
  rw[List.isEmpty_eq_false_iff]
  intro e
  apply h
  have:d=#[]:=by simpa using e
  rw[this]
  rfl
theorem ae3 {s:ByteArray} (h:¬ s.size=0):s.toList≠[]:=by
 have:=ae9 h
 rwa[List.isEmpty_eq_false_iff] at this
structure Plain (kind:Int):Prop where
 n20:(kind ==20)=false
 n21:(kind ==21)=false
 lab:inB kind 16 19=false
theorem a0i (kind:Int):(kind=20∨kind=21)∨(kind=16∨kind=17∨kind=18∨kind=19)∨Plain kind:=by
 by_cases h1:kind=20∨kind=21
 ·exact .inl h1
 by_cases h2:kind=16∨kind=17∨kind=18∨kind=19
 ·exact .inr (.inl h2)
 ·exact .inr (.inr ⟨by simp;omega,by simp;omega,agq.2 (by omega)⟩)
theorem ax0 (kind:Int):kind=12∨kind=13∨kind=22∨kind=23∨kind=14∨kind=15∨((kind ==12)=false∧(kind ==13)=false∧(kind ==22)=false∧(kind ==23)=false∧(kind ==14)=false∧(kind ==15)=false):=by
 by_cases h:kind=12∨kind=13∨kind=22∨kind=23∨kind=14∨kind=15
 ·rcases h with h|h|h|h|h|h<;>simp[h]
 ·refine .inr (.inr (.inr (.inr (.inr (.inr ?_)))))
  simp
  omega
theorem l7 (kind:Int) (name:ByteArray) (labels:List ByteArray) (kids:List Ty):abb ⟨kind,name,labels,kids⟩=
  ((if named kind then zn name else decide (name.size=0)) && (if inB kind 16 19 then abw labels else decide (labels.length=0)) && jv kind labels.length kids):=rfl
theorem ap0 {s:ByteArray} (h:s.size=0):zn s=false:=by
 cases e:zn s
 ·rfl
 ·exact absurd (aiv e).1 (by omega)
structure alk (B n n' c c':Nat) (A A':Option Addr) (name:ByteArray) (labels:List ByteArray) (kids:List Ty) (w:World):Prop where
 hB:B≤w.heap.size
 hn:n≤9223372036854775807
 hn':n'≤9223372036854775807
 HN:n=kids.length
 HN':n'=labels.length
 HS1:name.size≤maxLen
 HS2:∀ s ∈ labels,s.size≤maxLen
 RL:Rep w B (.row 1 (labels.flatMap qj)) (.slice A' n' c')
 RK:Rep w B (.row 4 (kids.flatMap Ty.pd)) (.slice A n c)
theorem alk.c {B n n' c c':Nat} {A A':Option Addr} {name:ByteArray} {labels:List ByteArray} {kids:List Ty} {w w':World} {kind:Int} (h:alk B n n' c c' A A' name labels kids w) (hb:Below w.heap.size w w'):
  B≤w'.heap.size∧lq w' B (Ty.pd ⟨kind,name,labels,kids⟩) [.int .i64 kind,.string name,.slice A' n' c',.slice A n c]:=
 ⟨Nat.le_trans h.hB hb.size,Ty.close_ (h.RL.below (hb.mono h.hB)) (h.RK.below (hb.mono h.hB))⟩
theorem ajj {α:Type} {f:α→List PD} {sz:Nat} {w:World} {B n c:Nat} {A:Option Addr} {ts:List α} (hf:∀ t,(f t).length=sz) (hsz:0 < sz) (h:Rep w B (.row sz (ts.flatMap f)) (.slice A n c)):
  0 < n→∃ g off,A=some ⟨g,off,none⟩∧g < B∧∀ (k j:Nat) (t:α) (x:PD),ts[k]?=some t→(f t)[j]?=some x→∃ u,w.cell? ⟨g,off+(k * sz+j),none⟩=some u∧Rep w B x u:=by
 obtain⟨A',n',c',he,h1,h2,h3⟩:=ni hf hsz h
 injection he with e1 e2 e3
 intro h0
 rw[e1]
 exact h3 (by omega)
theorem alk.l {B n n' c c':Nat} {A A':Option Addr} {name:ByteArray} {labels:List ByteArray} {kids:List Ty} {w w':World} (h:alk B n n' c c' A A' name labels kids w) (hb:Below w.heap.size w w'):Rep w' B (.row 1 (labels.flatMap qj)) (.slice A' n' c'):=h.RL.below (hb.mono h.hB)
theorem alk.k {B n n' c c':Nat} {A A':Option Addr} {name:ByteArray} {labels:List ByteArray} {kids:List Ty} {w w':World} (h:alk B n n' c c' A A' name labels kids w) (hb:Below w.heap.size w w'):Rep w' B (.row 4 (kids.flatMap Ty.pd)) (.slice A n c):=h.RK.below (hb.mono h.hB)
theorem bnp {ts:List Ty} {v:Value} {B n:Nat} {w:World} (hn:n=ts.length) (h:Rep w B (.row 4 (ts.flatMap Ty.pd)) v):
  Calls Tryz.prog 142 #[v] w fun e w'=>e=.returned (.int .i64 n)∧w'=w:=by
 rw[hn]
 exact(apc h).mono fun e w' q=>⟨q.1,q.2.symm⟩
theorem bi8 {a b c:Int} {v:Bool} {w:World} (h:inB a b c=v):
  Calls Tryz.prog 128 #[.int .i64 a,.int .i64 b,.int .i64 c] w fun e w'=>e=.returned (.bool v)∧w'=w:=by
 rw[← h]
 exact(og _ _ _ _).mono fun e w' q=>⟨q.1,q.2.symm⟩
def anb (t:Ty):Prop:=∀ (B:Nat) (cs:List Value) (w:World),B≤w.heap.size→PD.wfL (Ty.pd t)→lq w B (Ty.pd t) cs→
 Calls Tryz.prog 113 #[.agg cs.toArray] w fun e w'=>e=.returned (.bool t.shapes)∧Below w.heap.size w w'
theorem a7o (a:Array Value) (W:World):Sem.run Tryz.prog (callFunc 139 a) W=.ok (.enter 139 a) W:=by kernel_rfl
theorem zk {kids:List Ty} (h:(kids.any fun t=>!t.shapes)=false):Ty.ar4 kids=true:=by
 rw[al7,List.all_eq_true]
 intro x hx
 have:=List.any_eq_false.1 h x hx
 simpa using this
theorem apd {w:World} {b:Nat} (hc:w.cell? ⟨b,0,none⟩=some (.int .i64 21)) (hb:b < w.heap.size):Rep w w.heap.size (.row 1 ([21].flatMap aoc)) (.slice (some ⟨b,0,none⟩) 1 1):=by
 rw[Rep]
 refine⟨_,1,1,rfl,rfl,by decide,fun _=>⟨b,0,rfl,hb,?_⟩⟩
 show ahb w w.heap.size b 0 [.lit (.int .i64 21)]
 rw[ahb,ahb]
 exact⟨⟨_,hc,by rw[Rep]⟩,trivial⟩
theorem ba1 {t:Ty} (ih:anb t) {B:Nat} {cs:List Value} {w:World} (hB:B≤w.heap.size) (hwf:PD.wfL (Ty.pd t)) (h:lq w B (Ty.pd t) cs):
  Calls Tryz.prog 139 (#[.agg cs.toArray] ++#[]) w fun e w'=>e=.returned (.bool (!t.shapes))∧Below w.heap.size w w':=by
 obtain⟨kind,name,labels,kids⟩:=t
 obtain⟨iw,qw,rfl,bf,gu⟩:=Ty.open_ h
 have pz:=zqd bf
 clear bf
 have qo:=zqd gu
 clear gu
 have IH:=zqd ih
 have HW:=zqd hwf
 clear ih h hwf
 go_enter Tryz.func139,Tryz.ntmps139
 go_wp2_with fail
 obtain⟨w0,hw0⟩:=zqe w 60 #[.int .i64 kind,.string name,iw,qw]
 rw[← hw0]
 have bA:=zqn hw0
 have hB0:=zqb hw0
 clear hw0
 refine(IH.out B [.int .i64 kind,.string name,iw,qw] w0 (by have:=hB0.size;omega) HW.out (Ty.close_ (pz.out.below (hB0.mono hB)) (qo.out.below (hB0.mono hB)))).mono ?_
 rintro e w1 ⟨rfl,hb1⟩
 obtain⟨r,hr⟩:∃ r,r=(Ty.mk kind name labels kids).shapes:=⟨_,rfl⟩
 have HR:=zqd hr
 rw[← hr]
 clear hr
 go_wp2_with fail
 go_ret
 exact⟨ah (by rw[HR.out]),hB0.trans (hb1.mono hB0.size)⟩
theorem uz (kind:Int) {name:ByteArray} {labels:List ByteArray} {kids:List Ty} {B n n' c c':Nat} {A A':Option Addr} {w V:World} (HT:Hid (alk B n n' c c' A A' name labels kids w)) (HI:Hid (∀ t ∈ kids,anb t)) (HW:Hid (∀ t ∈ kids,PD.wfL (Ty.pd t))) (hB0:Below w.heap.size w V):
  Calls Tryz.prog 115 #[.slice A n c,.func (.func 139) #[] #[]] V fun e w'=>e=.returned (.bool (kids.any fun t=>!t.shapes))∧Below V.heap.size V w':=
 aqh 139 #[] (fun t=>!t.shapes) (HT.out.c (kind:=kind) hB0).1 (HT.out.k hB0) a7o (fun t ht cs W hW hr=>ba1 (HI.out t ht) (B:=W.heap.size) (zql _) (HW.out t ht) (hr.more (by have h1:=(HT.out.c (kind:=kind) hB0).1;have:=hW.size;omega)))
set_option maxHeartbeats 4000000 in
theorem a0j {kind:Int} {name:ByteArray} {labels:List ByteArray} {kids:List Ty} {B n n' c c':Nat} {A A':Option Addr} {w:World} (HT:Hid (alk B n n' c c' A A' name labels kids w)) (hk:kind=20∨kind=21) (hz:¬ name.size=0∨True):Calls Tryz.prog 154 #[.agg #[.int .i64 kind,.string name,.slice A' n' c',.slice A n c]] w fun e w'=>e=.returned (.bool (abb ⟨kind,name,labels,kids⟩))∧Below w.heap.size w w':=by
 have hn:=HT.out.hn
 have hn':=HT.out.hn'
 have H16:Hid (inB kind 16 19=false):=agq.2 (by omega)
 have H23:Hid (inB kind 1 23=true):=ag6 (by omega) (by omega)
 clear hz
 rcases hk with rfl|rfl
 ·by_cases hz:name.size=0
  ·obtain rfl:=afc hz
   have e0:=ap0 hz
   have HF:Hid (abb ⟨20,{data:=#[]},labels,kids⟩=false):=by
    show _=_
    have g1:=HT.out.HN
    have g2:=HT.out.HN'
    rw[l7]
    have e1:=e0
    simp_all [named,inB,jv]
   clear e0 hz
   go_enter Tryz.func154,Tryz.ntmps154
   go_wp2_with fail
   obtain⟨w0,hw0⟩:=zqe w 60 #[.int .i64 20,.string {data:=#[]},.slice A' n' c',.slice A n c]
   rw[← hw0]
   have bA:=zqn hw0
   have hB0:=zqb hw0
   clear hw0
   obtain⟨adw,adx,ady,adz⟩:=zc4 bA
   refine(oz _ _ _ _).mono ?_
   rintro e w' ⟨rfl,rfl⟩
   rw[H16.out]
   go_wp2_with fail
   go_ret
   exact⟨ah HF.out.symm,hB0⟩
  ·have hE:=ae9 hz
   have hE2:=ae3 hz
   cases hok:zn name
   ·have hx0:=True.intro
    have HF:Hid (abb ⟨20,name,labels,kids⟩=false):=by
     show _=_
     have g1:=HT.out.HN
     have g2:=HT.out.HN'
     rw[l7]
     simp_all [named,inB,jv]
    have HO:=zqd hok
    clear hok hz hx0
    go_enter Tryz.func154,Tryz.ntmps154
    go_wp2_with fail
    obtain⟨w0,hw0⟩:=zqe w 60 #[.int .i64 20,.string name,.slice A' n' c',.slice A n c]
    rw[← hw0]
    have bA:=zqn hw0
    have hB0:=zqb hw0
    clear hw0
    obtain⟨adw,adx,ady,adz⟩:=zc4 bA
    refine(oz _ _ _ _).mono ?_
    rintro e w' ⟨rfl,rfl⟩
    rw[H16.out]
    go_wp2_with fail
    refine(afr _ HT.out.HS1 _).mono ?_
    rintro e w' ⟨rfl,rfl⟩
    rw[HO.out]
    go_wp2_with fail
    go_ret
    exact⟨ah HF.out.symm,hB0⟩
   ·by_cases hl:n'=0
    ·by_cases hk0:n=0
     ·have hkk:((n:Int) ==0)=true:=by simp;omega
      have HF:Hid (abb ⟨20,name,labels,kids⟩=true):=by
       show _=_
       have g1:=HT.out.HN
       have g2:=HT.out.HN'
       rw[l7]
       simp_all [named,inB,jv]
      have HO:=zqd hok
      clear hok hz hk0
      subst hl
      go_enter Tryz.func154,Tryz.ntmps154
      go_wp2_with fail
      obtain⟨w0,hw0⟩:=zqe w 60 #[.int .i64 20,.string name,.slice A' 0 c',.slice A n c]
      rw[← hw0]
      have bA:=zqn hw0
      have hB0:=zqb hw0
      clear hw0
      obtain⟨adw,adx,ady,adz⟩:=zc4 bA
      refine(oz _ _ _ _).mono ?_
      rintro e w' ⟨rfl,rfl⟩
      rw[H16.out]
      go_wp2_with fail
      refine(afr _ HT.out.HS1 _).mono ?_
      rintro e w' ⟨rfl,rfl⟩
      rw[HO.out]
      go_wp2_with fail
      refine(oz _ _ _ _).mono ?_
      rintro e w' ⟨rfl,rfl⟩
      rw[H23.out]
      go_wp2_with fail
      go_ret
      exact⟨ah HF.out.symm,hB0⟩
     ·have hkk:((n:Int) ==0)=false:=by simp;omega
      have HF:Hid (abb ⟨20,name,labels,kids⟩=false):=by
       show _=_
       have g1:=HT.out.HN
       have g2:=HT.out.HN'
       rw[l7]
       simp_all [named,inB,jv]
      have HO:=zqd hok
      clear hok hz hk0
      subst hl
      go_enter Tryz.func154,Tryz.ntmps154
      go_wp2_with fail
      obtain⟨w0,hw0⟩:=zqe w 60 #[.int .i64 20,.string name,.slice A' 0 c',.slice A n c]
      rw[← hw0]
      have bA:=zqn hw0
      have hB0:=zqb hw0
      clear hw0
      obtain⟨adw,adx,ady,adz⟩:=zc4 bA
      refine(oz _ _ _ _).mono ?_
      rintro e w' ⟨rfl,rfl⟩
      rw[H16.out]
      go_wp2_with fail
      refine(afr _ HT.out.HS1 _).mono ?_
      rintro e w' ⟨rfl,rfl⟩
      rw[HO.out]
      go_wp2_with fail
      refine(oz _ _ _ _).mono ?_
      rintro e w' ⟨rfl,rfl⟩
      rw[H23.out]
      go_wp2_with fail
      go_ret
      exact⟨ah HF.out.symm,hB0⟩
    ·have hl1:0 < n':=by omega
     have HF:Hid (abb ⟨20,name,labels,kids⟩=false):=by
      show _=_
      have g1:=HT.out.HN
      have g2:=HT.out.HN'
      rw[l7]
      have g3:¬ labels=[]:=fun e=>by rw[e] at g2;exact hl g2
      simp_all [named,inB,jv]
     have HO:=zqd hok
     clear hok hz hl
     go_enter Tryz.func154,Tryz.ntmps154
     go_wp2_with fail
     obtain⟨w0,hw0⟩:=zqe w 60 #[.int .i64 20,.string name,.slice A' n' c',.slice A n c]
     rw[← hw0]
     have bA:=zqn hw0
     have hB0:=zqb hw0
     clear hw0
     obtain⟨adw,adx,ady,adz⟩:=zc4 bA
     refine(oz _ _ _ _).mono ?_
     rintro e w' ⟨rfl,rfl⟩
     rw[H16.out]
     go_wp2_with fail
     refine(afr _ HT.out.HS1 _).mono ?_
     rintro e w' ⟨rfl,rfl⟩
     rw[HO.out]
     go_wp2_with fail
     go_ret
     exact⟨ah HF.out.symm,hB0⟩
 ·by_cases hz:name.size=0
  ·obtain rfl:=afc hz
   have e0:=ap0 hz
   have HF:Hid (abb ⟨21,{data:=#[]},labels,kids⟩=false):=by
    show _=_
    have g1:=HT.out.HN
    have g2:=HT.out.HN'
    rw[l7]
    have e1:=e0
    simp_all [named,inB,jv]
   clear e0 hz
   go_enter Tryz.func154,Tryz.ntmps154
   go_wp2_with fail
   obtain⟨w0,hw0⟩:=zqe w 60 #[.int .i64 21,.string {data:=#[]},.slice A' n' c',.slice A n c]
   rw[← hw0]
   have bA:=zqn hw0
   have hB0:=zqb hw0
   clear hw0
   obtain⟨adw,adx,ady,adz⟩:=zc4 bA
   refine(oz _ _ _ _).mono ?_
   rintro e w' ⟨rfl,rfl⟩
   rw[H16.out]
   go_wp2_with fail
   go_ret
   exact⟨ah HF.out.symm,hB0⟩
  ·have hE:=ae9 hz
   have hE2:=ae3 hz
   cases hok:zn name
   ·have hx0:=True.intro
    have HF:Hid (abb ⟨21,name,labels,kids⟩=false):=by
     show _=_
     have g1:=HT.out.HN
     have g2:=HT.out.HN'
     rw[l7]
     simp_all [named,inB,jv]
    have HO:=zqd hok
    clear hok hz hx0
    go_enter Tryz.func154,Tryz.ntmps154
    go_wp2_with fail
    obtain⟨w0,hw0⟩:=zqe w 60 #[.int .i64 21,.string name,.slice A' n' c',.slice A n c]
    rw[← hw0]
    have bA:=zqn hw0
    have hB0:=zqb hw0
    clear hw0
    obtain⟨adw,adx,ady,adz⟩:=zc4 bA
    refine(oz _ _ _ _).mono ?_
    rintro e w' ⟨rfl,rfl⟩
    rw[H16.out]
    go_wp2_with fail
    refine(afr _ HT.out.HS1 _).mono ?_
    rintro e w' ⟨rfl,rfl⟩
    rw[HO.out]
    go_wp2_with fail
    go_ret
    exact⟨ah HF.out.symm,hB0⟩
   ·by_cases hl:n'=0
    ·by_cases hk0:n=0
     ·have hkk:((n:Int) ==0)=true:=by simp;omega
      have HF:Hid (abb ⟨21,name,labels,kids⟩=true):=by
       show _=_
       have g1:=HT.out.HN
       have g2:=HT.out.HN'
       rw[l7]
       simp_all [named,inB,jv]
      have HO:=zqd hok
      clear hok hz hk0
      subst hl
      go_enter Tryz.func154,Tryz.ntmps154
      go_wp2_with fail
      obtain⟨w0,hw0⟩:=zqe w 60 #[.int .i64 21,.string name,.slice A' 0 c',.slice A n c]
      rw[← hw0]
      have bA:=zqn hw0
      have hB0:=zqb hw0
      clear hw0
      obtain⟨adw,adx,ady,adz⟩:=zc4 bA
      refine(oz _ _ _ _).mono ?_
      rintro e w' ⟨rfl,rfl⟩
      rw[H16.out]
      go_wp2_with fail
      refine(afr _ HT.out.HS1 _).mono ?_
      rintro e w' ⟨rfl,rfl⟩
      rw[HO.out]
      go_wp2_with fail
      refine(oz _ _ _ _).mono ?_
      rintro e w' ⟨rfl,rfl⟩
      rw[H23.out]
      go_wp2_with fail
      go_ret
      exact⟨ah HF.out.symm,hB0⟩
     ·have hkk:((n:Int) ==0)=false:=by simp;omega
      have HF:Hid (abb ⟨21,name,labels,kids⟩=false):=by
       show _=_
       have g1:=HT.out.HN
       have g2:=HT.out.HN'
       rw[l7]
       simp_all [named,inB,jv]
      have HO:=zqd hok
      clear hok hz hk0
      subst hl
      go_enter Tryz.func154,Tryz.ntmps154
      go_wp2_with fail
      obtain⟨w0,hw0⟩:=zqe w 60 #[.int .i64 21,.string name,.slice A' 0 c',.slice A n c]
      rw[← hw0]
      have bA:=zqn hw0
      have hB0:=zqb hw0
      clear hw0
      obtain⟨adw,adx,ady,adz⟩:=zc4 bA
      refine(oz _ _ _ _).mono ?_
      rintro e w' ⟨rfl,rfl⟩
      rw[H16.out]
      go_wp2_with fail
      refine(afr _ HT.out.HS1 _).mono ?_
      rintro e w' ⟨rfl,rfl⟩
      rw[HO.out]
      go_wp2_with fail
      refine(oz _ _ _ _).mono ?_
      rintro e w' ⟨rfl,rfl⟩
      rw[H23.out]
      go_wp2_with fail
      go_ret
      exact⟨ah HF.out.symm,hB0⟩
    ·have hl1:0 < n':=by omega
     have HF:Hid (abb ⟨21,name,labels,kids⟩=false):=by
      show _=_
      have g1:=HT.out.HN
      have g2:=HT.out.HN'
      rw[l7]
      have g3:¬ labels=[]:=fun e=>by rw[e] at g2;exact hl g2
      simp_all [named,inB,jv]
     have HO:=zqd hok
     clear hok hz hl
     go_enter Tryz.func154,Tryz.ntmps154
     go_wp2_with fail
     obtain⟨w0,hw0⟩:=zqe w 60 #[.int .i64 21,.string name,.slice A' n' c',.slice A n c]
     rw[← hw0]
     have bA:=zqn hw0
     have hB0:=zqb hw0
     clear hw0
     obtain⟨adw,adx,ady,adz⟩:=zc4 bA
     refine(oz _ _ _ _).mono ?_
     rintro e w' ⟨rfl,rfl⟩
     rw[H16.out]
     go_wp2_with fail
     refine(afr _ HT.out.HS1 _).mono ?_
     rintro e w' ⟨rfl,rfl⟩
     rw[HO.out]
     go_wp2_with fail
     go_ret
     exact⟨ah HF.out.symm,hB0⟩
end Go.Proofs.YtbafphecjijdmaaGreatDoor
