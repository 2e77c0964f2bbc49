/-
  spec.l03Labels and impl.labelsOk return the same bool. (and 2 more texts)
-/
import Derived.Test.YtfpannkadjdnaaaGreatDoorTa13
import Derived.Test.YtfpannkadjdnaaaGreatDoorTa14
import Derived.Test.YtfpannkadjdnaaaGreatDoorTa15
import Derived.Deep.RegionHeld3
namespace Go.Proofs.YtfpannkadjdnaaaGreatDoor
open Go.RowKit
set_option linter.all false
theorem aur {α:Type} {ls:List α} {i:Nat} {x:α} (hx:ls[i]?=some x) (h:(ls.take i).Nodup) (hne:∀ (j:Nat) (y:α),j < i→ls[j]?=some y→y≠x):(ls.take (i+1)).Nodup:=by
 rw[List.take_add_one,hx];refine List.nodup_append.2 ⟨h,by simp,?_⟩;intro a ha b hb e;simp at hb;obtain⟨j,hj,rfl⟩:=List.getElem_of_mem ha;rw[List.length_take] at hj;rw[List.getElem_take] at e;exact hne j _ (by omega) (List.getElem?_eq_getElem (by omega)) (e.trans hb)
theorem a5k {α:Type} {ls:List α} {i j:Nat} {x:α} (hij:j < i) (hx:ls[i]?=some x) (hy:ls[j]?=some x):¬ ls.Nodup:=by
 intro hn;obtain⟨hi,rfl⟩:=List.getElem?_eq_some_iff.1 hx;obtain⟨hj,e⟩:=List.getElem?_eq_some_iff.1 hy;exact List.pairwise_iff_getElem.1 (List.nodup_iff_pairwise_ne.1 hn) j i hj hi hij e
set_option maxHeartbeats 1600000 in
theorem ac8 {B:Nat} {v:Value} {ls:List ByteArray} {w:World} (hB:B≤w.heap.size) (hs:∀ s ∈ ls,s.size≤maxLen) (h:Rep w B (.row 1 (ls.flatMap aam)) v):
  Calls Tryz.prog 102 #[v] w fun e w'=>e=.returned (.bool (aaj ls))∧Below w.heap.size w w':=by
 obtain⟨A,n,c,rfl,hnl,hm,hat⟩:=bf jo (by decide) h;unfold maxLen at hm;have HN:=zqd hnl;have HS:=zqd hs;have HAT:=zqd hat;clear h hnl hs hat;by_cases h1:1≤n
 case neg=>
  have HF:Hid (aaj ls=false):=by show _=_;rw[aaj,aye (by have:=HN.out;omega)];rfl
  go_enter Tryz.func102,Tryz.ntmps102
  go_wp2_with fail
  go_ret
  exact⟨au HF.out.symm,zqf _ _⟩
 by_cases h2:n≤16
 case neg=>
  have HF:Hid (aaj ls=false):=by show _=_;rw[aaj,ap3 (by have:=HN.out;omega)];rfl
  go_enter Tryz.func102,Tryz.ntmps102
  go_wp2_with fail
  go_ret
  exact⟨au HF.out.symm,zqf _ _⟩
 obtain⟨g,off,rfl,hg,hcell⟩:=HAT.out (by omega);have HC:=zqd hcell;clear HAT hcell;go_enter Tryz.func102,Tryz.ntmps102
 go_wp2_with fail
 go_loopw [3,4] (fun i k2 wr=>∃ k:Nat,k≤n∧i=.int .i64 k∧Hid (∀ (j:Nat) (t:ByteArray),j < k→ls[j]?=some t→(fun t=>!abh t) t=false)∧Hid ((ls.take k).Nodup)∧∃ q,wr=w.drewN q) (fun i _ _=>n - (intOf i).toNat)
 case atStart=>exact⟨0,Nat.zero_le _,rfl,zqd fun j t h=>absurd h (by omega),zqd (by simp),0,rfl⟩
 case round=>
  obtain⟨k,hk,rfl,HP,HD,q,rfl⟩:=hrel;by_cases hlt:k < n
  ·obtain⟨x,hx,hmem⟩:=uo HN.out hlt
   have ck:w.cell? ⟨g,off+k,none⟩=some (.string x):=by
    obtain⟨u,hu,hr⟩:=HC.out k 0 x _ hx rfl;rw[hr.ab2] at hu;simpa using hu
   have HX:=zqd hx;have hxs:=HS.out x hmem;clear hx hmem;go_wp2_with fail
   refine(af2 x hxs _).mono ?_;rintro e w1 ⟨rfl,rfl⟩;cases hb:abh x
   ·have HF:Hid (aaj ls=false):=by show _=_;rw[aaj,boz HX.out hb];simp
    go_wp2_with fail
    go_ret
    exact⟨au HF.out.symm,below_drewN (zqf _ _) _⟩
   have HB:=zqd hb;clear hb;go_wp2_with fail
   go_loopw [4] (fun i2 wr=>∃ m:Nat,m≤k∧i2=.int .i64 m∧Hid (∀ (j:Nat) (y:ByteArray),j < m→ls[j]?=some y→y≠x)∧∃ q,wr=w.drewN q) (fun i2 _=>k - (intOf i2).toNat)
   case atStart=>exact⟨0,Nat.zero_le _,rfl,zqd fun j t h=>absurd h (by omega),q,rfl⟩
   case round=>
    obtain⟨m,hmk,rfl,HM,q2,rfl⟩:=hrel;clear ck;by_cases hlt2:m < k
    ·obtain⟨y,hy,_⟩:=uo HN.out (show m < n by omega)
     have ck:w.cell? ⟨g,off+k,none⟩=some (.string x):=by
      obtain⟨u,hu,hr⟩:=HC.out k 0 x _ HX.out rfl;rw[hr.ab2] at hu;simpa using hu
     have cm:w.cell? ⟨g,off+m,none⟩=some (.string y):=by
      obtain⟨u,hu,hr⟩:=HC.out m 0 y _ hy rfl;rw[hr.ab2] at hu;simpa using hu
     have hlt3:(m:Int) < (n:Int):=by omega
     have hlt4:(k:Int) < (n:Int):=by omega
     have HY:=zqd hy;clear hy;by_cases e:y=x
     ·have HF:Hid (aaj ls=false):=by
       show _=_;rw[aaj,decide_eq_false (a5k hlt2 HX.out (by rw[HY.out,e]))];simp
      subst e;go_wp2_with fail
      go_quiet (fail)
      go_wp2_with fail
      go_ret
      exact⟨au HF.out.symm,below_drewN (below_drewN (zqf _ _) _) _⟩
     ·have hne:=ag8 e
      have HE:Hid (∀ (j:Nat) (z:ByteArray),j < m+1→ls[j]?=some z→z≠x):=by
       intro j z hj hz;by_cases e2:j=m
       ·subst e2
        rw[HY.out] at hz;injection hz with hz
        rw[← hz];exact e
       ·exact HM.out j z (by omega) hz
      clear e;go_wp2_with fail
      go_quiet (fail)
      go_wp2_with fail
      go_roundw
      case rel=>exact⟨m+1,by omega,by go_num,HE,_,rfl⟩
      case measure=>simp[intOf];omega
    ·have bdp:m=k:=by omega
     subst bdp;go_wp2_with fail
     go_roundw
     case rel=>exact⟨m+1,by omega,by go_num,zqd (aij HP.out HX.out (by rw[HB.out];rfl)),zqd (aur HX.out HD.out HM.out),_,rfl⟩
     case measure=>simp[intOf];omega
  ·have hkn:k=n:=by omega
   subst hkn
   have HF:Hid (aaj ls=true):=by
    show _=_;have h3:ls.take k=ls:=List.take_of_length_le (by have:=HN.out;omega);have h4:=HD.out;rw[h3] at h4;rw[aaj,afp (by have:=HN.out;omega) (by have:=HN.out;omega),bsv (n:=k) (by have:=HN.out;omega) HP.out,decide_eq_true h4];rfl
   go_wp2_with fail
   go_ret
   exact⟨au HF.out.symm,below_drewN (zqf _ _) _⟩
theorem a03 (s:ByteArray) (hs:s.size≤maxLen) (w:World):
  Calls Tryz.prog 94 #[.string s] w fun e w'=>e=.returned (.bool (!abh s))∧Below w.heap.size w w':=by
 have HI:=zqd (af4 s hs w);clear hs;go_enter Tryz.func94,Tryz.ntmps94
 go_wp2_with fail
 refine HI.out.mono ?_;rintro e w1 ⟨rfl,hb⟩;go_wp2_with fail
 go_ret
 exact⟨rfl,hb⟩
theorem axt (a:Array Value) (W:World):Sem.run Tryz.prog (callFunc 94 a) W=.ok (.enter 94 a) W:=by kernel_rfl
set_option maxHeartbeats 1600000 in
theorem abn {B:Nat} {v:Value} {ls:List ByteArray} {w:World} (hB:B≤w.heap.size) (hs:∀ s ∈ ls,s.size≤maxLen) (h:Rep w B (.row 1 (ls.flatMap aam)) v):
  Calls Tryz.prog 68 #[v] w fun e w'=>e=.returned (.bool (aaj ls))∧Below w.heap.size w w':=by
 obtain⟨A,n,c,rfl⟩:=h.form;have HR:=zqd h;have HS:=zqd hs;clear h hs;obtain⟨L,hL⟩:∃ L:Nat,L=ls.length:=⟨_,rfl⟩;have HL:=zqd hL;clear hL;cases hi:inB (L:Int) 1 16
 case false=>
  have HF:Hid (aaj ls=false):=by show _=_;rw[aaj,← HL.out,hi];rfl
  go_enter Tryz.func68,Tryz.ntmps68
  go_wp2_with fail
  refine(ai9 HR.out).mono ?_;rintro e w1 ⟨rfl,rfl⟩;rw[← HL.out];go_wp2_with fail
  refine(ny _ _ _ _).mono ?_;rintro e w1 ⟨rfl,rfl⟩;rw[hi];go_wp2_with fail
  go_ret
  exact⟨au HF.out.symm,zqf _ _⟩
 have HI:=zqd hi;have hl:=(abm.1 hi).2;clear hi;by_cases hd:ls.Nodup
 case neg=>
  have HF:Hid (aaj ls=false):=by show _=_;rw[aaj,decide_eq_false hd];simp
  have HD:=zqd (decide_eq_false hd);clear hd;go_enter Tryz.func68,Tryz.ntmps68
  go_wp2_with fail
  refine(ai9 HR.out).mono ?_;rintro e w1 ⟨rfl,rfl⟩;rw[← HL.out];go_wp2_with fail
  refine(ny _ _ _ _).mono ?_;rintro e w1 ⟨rfl,rfl⟩;rw[HI.out];go_wp2_with fail
  refine(distinct_any hB (by have:=HL.out;omega) HR.out).mono ?_;rintro e w1 ⟨rfl,hb1⟩;rw[HD.out];go_wp2_with fail
  go_ret
  exact⟨au HF.out.symm,hb1⟩
 have HD:=zqd (decide_eq_true hd);clear hd
 have HF:Hid (aaj ls=!(ls.any fun s=>!abh s)):=by
  show _=_;rw[aaj,← HL.out,HI.out,HD.out,List.not_any_eq_all_not];simp
 go_enter Tryz.func68,Tryz.ntmps68
 go_wp2_with fail
 refine(ai9 HR.out).mono ?_;rintro e w1 ⟨rfl,rfl⟩;rw[← HL.out];go_wp2_with fail
 refine(ny _ _ _ _).mono ?_;rintro e w1 ⟨rfl,rfl⟩;rw[HI.out];go_wp2_with fail
 refine(distinct_any hB (by have:=HL.out;omega) HR.out).mono ?_;rintro e w1 ⟨rfl,hb1⟩;rw[HD.out];go_wp2_with fail
 refine(av3 94 #[] (fun s=>!abh s) (B:=B) (by have:=hb1.size;omega) (HR.out.below (hb1.mono hB)) axt (fun s hm W _=>a03 s (HS.out s hm) W)).mono ?_;rintro e w2 ⟨rfl,hb2⟩;obtain⟨r,hr⟩:∃ r,r=ls.any fun s=>!abh s:=⟨_,rfl⟩;have HG:=zqd hr;rw[← hr];clear hr;go_wp2_with fail
 go_ret
 exact⟨au (by rw[HF.out,← HG.out]),hb1.trans (hb2.mono hb1.size)⟩
theorem ad3 {s:ByteArray} (h:s.size=0):s={data:=#[]}:=by
 cases s with
 | mk d=>congr;exact Array.eq_empty_of_size_eq_zero h
theorem adw {s:ByteArray} (h:¬ s.size=0):s.toList.isEmpty=false:=by
 rw[ByteArray.toList_eq];cases s with
 | mk d=>
  rw[List.isEmpty_eq_false_iff];intro e;apply h;have:d=#[]:=by simpa using e
  rw[this];rfl
theorem adl {s:ByteArray} (h:¬ s.size=0):s.toList≠[]:=by
 have:=adw h
 rwa[List.isEmpty_eq_false_iff] at this
structure Plain (kind:Int):Prop where
 n20:(kind ==20)=false
 n21:(kind ==21)=false
 lab:inB kind 16 19=false
theorem aus (kind:Int):(kind=20∨kind=21)∨(kind=16∨kind=17∨kind=18∨kind=19)∨Plain kind:=by
 by_cases h1:kind=20∨kind=21
 ·exact .inl h1
 by_cases h2:kind=16∨kind=17∨kind=18∨kind=19
 ·exact .inr (.inl h2)
 ·exact .inr (.inr ⟨by simp;omega,by simp;omega,aec.2 (by omega)⟩)
theorem ase (kind:Int):kind=12∨kind=13∨kind=22∨kind=23∨kind=14∨kind=15∨((kind ==12)=false∧(kind ==13)=false∧(kind ==22)=false∧(kind ==23)=false∧(kind ==14)=false∧(kind ==15)=false):=by
 by_cases h:kind=12∨kind=13∨kind=22∨kind=23∨kind=14∨kind=15
 ·rcases h with h|h|h|h|h|h<;>simp[h]
 ·refine .inr (.inr (.inr (.inr (.inr (.inr ?_)))))
  simp;omega
theorem lu (kind:Int) (name:ByteArray) (labels:List ByteArray) (kids:List Ty):aag ⟨kind,name,labels,kids⟩=
  ((if named kind then abh name else decide (name.size=0)) && (if inB kind 16 19 then aaj labels else decide (labels.length=0)) && jk kind labels.length kids):=rfl
theorem am2 {s:ByteArray} (h:s.size=0):abh s=false:=by
 cases e:abh s
 ·rfl
 ·exact absurd (asa e).1 (by omega)
structure aja (B n n' c c':Nat) (A A':Option Addr) (name:ByteArray) (labels:List ByteArray) (kids:List Ty) (w:World):Prop where
 hB:B≤w.heap.size
 hn:n≤9223372036854775807
 hn':n'≤9223372036854775807
 HN:n=kids.length
 HN':n'=labels.length
 HS1:name.size≤maxLen
 HS2:∀ s ∈ labels,s.size≤maxLen
 RL:Rep w B (.row 1 (labels.flatMap aam)) (.slice A' n' c')
 RK:Rep w B (.row 4 (kids.flatMap Ty.pd)) (.slice A n c)
theorem aja.c {B n n' c c':Nat} {A A':Option Addr} {name:ByteArray} {labels:List ByteArray} {kids:List Ty} {w w':World} {kind:Int} (h:aja B n n' c c' A A' name labels kids w) (hb:Below w.heap.size w w'):
  B≤w'.heap.size∧jq w' B (Ty.pd ⟨kind,name,labels,kids⟩) [.int .i64 kind,.string name,.slice A' n' c',.slice A n c]:=
 ⟨Nat.le_trans h.hB hb.size,Ty.close_ (h.RL.below (hb.mono h.hB)) (h.RK.below (hb.mono h.hB))⟩
theorem ahn {α:Type} {f:α→List PD} {sz:Nat} {w:World} {B n c:Nat} {A:Option Addr} {ts:List α} (hf:∀ t,(f t).length=sz) (hsz:0 < sz) (h:Rep w B (.row sz (ts.flatMap f)) (.slice A n c)):
  0 < n→∃ g off,A=some ⟨g,off,none⟩∧g < B∧∀ (k j:Nat) (t:α) (x:PD),ts[k]?=some t→(f t)[j]?=some x→∃ u,w.cell? ⟨g,off+(k * sz+j),none⟩=some u∧Rep w B x u:=by
 obtain⟨A',n',c',he,h1,h2,h3⟩:=bf hf hsz h;injection he with e1 e2 e3
 intro h0;rw[e1];exact h3 (by omega)
theorem aja.l {B n n' c c':Nat} {A A':Option Addr} {name:ByteArray} {labels:List ByteArray} {kids:List Ty} {w w':World} (h:aja B n n' c c' A A' name labels kids w) (hb:Below w.heap.size w w'):Rep w' B (.row 1 (labels.flatMap aam)) (.slice A' n' c'):=h.RL.below (hb.mono h.hB)
theorem aja.k {B n n' c c':Nat} {A A':Option Addr} {name:ByteArray} {labels:List ByteArray} {kids:List Ty} {w w':World} (h:aja B n n' c c' A A' name labels kids w) (hb:Below w.heap.size w w'):Rep w' B (.row 4 (kids.flatMap Ty.pd)) (.slice A n c):=h.RK.below (hb.mono h.hB)
theorem a1n {ts:List Ty} {v:Value} {B n:Nat} {w:World} (hn:n=ts.length) (h:Rep w B (.row 4 (ts.flatMap Ty.pd)) v):
  Calls Tryz.prog 71 #[v] w fun e w'=>e=.returned (.int .i64 n)∧w'=w:=by
 rw[hn];exact(amc h).mono fun e w' q=>⟨q.1,q.2.symm⟩
theorem acn {a b c:Int} {v:Bool} {w:World} (h:inB a b c=v):
  Calls Tryz.prog 67 #[.int .i64 a,.int .i64 b,.int .i64 c] w fun e w'=>e=.returned (.bool v)∧w'=w:=by
 rw[← h];exact(ny _ _ _ _).mono fun e w' q=>⟨q.1,q.2.symm⟩
def aku (t:Ty):Prop:=∀ (B:Nat) (cs:List Value) (w:World),B≤w.heap.size→PD.wfL (Ty.pd t)→jq w B (Ty.pd t) cs→
 Calls Tryz.prog 42 #[.agg cs.toArray] w fun e w'=>e=.returned (.bool t.shapes)∧Below w.heap.size w w'
theorem azl (a:Array Value) (W:World):Sem.run Tryz.prog (callFunc 66 a) W=.ok (.enter 66 a) W:=by kernel_rfl
theorem uw {kids:List Ty} (h:(kids.any fun t=>!t.shapes)=false):Ty.aot kids=true:=by
 rw[ak5,List.all_eq_true];intro x hx;have:=List.any_eq_false.1 h x hx;simpa using this
theorem an5 {w:World} {b:Nat} (hc:w.cell? ⟨b,0,none⟩=some (.int .i64 21)) (hb:b < w.heap.size):Rep w w.heap.size (.row 1 ([21].flatMap aoe)) (.slice (some ⟨b,0,none⟩) 1 1):=by
 rw[Rep];refine⟨_,1,1,rfl,rfl,by decide,fun _=>⟨b,0,rfl,hb,?_⟩⟩;show aft w w.heap.size b 0 [.lit (.int .i64 21)];rw[aft,aft];exact⟨⟨_,hc,by rw[Rep]⟩,trivial⟩
theorem a04 {t:Ty} (ih:aku t) {B:Nat} {cs:List Value} {w:World} (hB:B≤w.heap.size) (hwf:PD.wfL (Ty.pd t)) (h:jq w B (Ty.pd t) cs):
  Calls Tryz.prog 66 (#[.agg cs.toArray] ++#[]) w fun e w'=>e=.returned (.bool (!t.shapes))∧Below w.heap.size w w':=by
 obtain⟨kind,name,labels,kids⟩:=t;obtain⟨iy,iw,rfl,dh,dn⟩:=Ty.open_ h;have pz:=zqd dh;clear dh;have pq:=zqd dn;clear dn;have IH:=zqd ih;have HW:=zqd hwf;clear ih h hwf;go_enter Tryz.func66,Tryz.ntmps66
 go_wp2_with fail
 obtain⟨w0,hw0⟩:=zqe w 39 #[.int .i64 kind,.string name,iy,iw];rw[← hw0];have bA:=zqn hw0;have hB0:=zqb hw0;clear hw0;refine(IH.out B [.int .i64 kind,.string name,iy,iw] w0 (by have:=hB0.size;omega) HW.out (Ty.close_ (pz.out.below (hB0.mono hB)) (pq.out.below (hB0.mono hB)))).mono ?_;rintro e w1 ⟨rfl,hb1⟩;obtain⟨r,hr⟩:∃ r,r=(Ty.mk kind name labels kids).shapes:=⟨_,rfl⟩;have HR:=zqd hr;rw[← hr];clear hr;go_wp2_with fail
 go_ret
 exact⟨au (by rw[HR.out]),hB0.trans (hb1.mono hB0.size)⟩
theorem ql (kind:Int) {name:ByteArray} {labels:List ByteArray} {kids:List Ty} {B n n' c c':Nat} {A A':Option Addr} {w V:World} (HT:Hid (aja B n n' c c' A A' name labels kids w)) (HI:Hid (∀ t ∈ kids,aku t)) (HW:Hid (∀ t ∈ kids,PD.wfL (Ty.pd t))) (hB0:Below w.heap.size w V):
  Calls Tryz.prog 65 #[.slice A n c,.func (.func 66) #[] #[]] V fun e w'=>e=.returned (.bool (kids.any fun t=>!t.shapes))∧Below V.heap.size V w':=
 ane 66 #[] (fun t=>!t.shapes) (HT.out.c (kind:=kind) hB0).1 (HT.out.k hB0) azl (fun t ht cs W hW hr=>a04 (HI.out t ht) (B:=W.heap.size) (zql _) (HW.out t ht) (hr.more (by have h1:=(HT.out.c (kind:=kind) hB0).1;have:=hW.size;omega)))
set_option maxHeartbeats 4000000 in
theorem aut {kind:Int} {name:ByteArray} {labels:List ByteArray} {kids:List Ty} {B n n' c c':Nat} {A A':Option Addr} {w:World} (HT:Hid (aja B n n' c c' A A' name labels kids w)) (hk:kind=20∨kind=21) (hz:¬ name.size=0∨True):Calls Tryz.prog 87 #[.agg #[.int .i64 kind,.string name,.slice A' n' c',.slice A n c]] w fun e w'=>e=.returned (.bool (aag ⟨kind,name,labels,kids⟩))∧Below w.heap.size w w':=by
 have hn:=HT.out.hn;have hn':=HT.out.hn';have H16:Hid (inB kind 16 19=false):=aec.2 (by omega);have H23:Hid (inB kind 1 23=true):=afp (by omega) (by omega);clear hz;rcases hk with rfl|rfl
 ·by_cases hz:name.size=0
  ·obtain rfl:=ad3 hz
   have e0:=am2 hz
   have HF:Hid (aag ⟨20,{data:=#[]},labels,kids⟩=false):=by
    show _=_;have g1:=HT.out.HN;have g2:=HT.out.HN';rw[lu];have e1:=e0
    simp_all [named,inB,jk]
   clear e0 hz;go_enter Tryz.func87,Tryz.ntmps87
   go_wp2_with fail
   obtain⟨w0,hw0⟩:=zqe w 39 #[.int .i64 20,.string {data:=#[]},.slice A' n' c',.slice A n c];rw[← hw0];have bA:=zqn hw0;have hB0:=zqb hw0;clear hw0;obtain⟨aby,abz,ab1,abt⟩:=zc4 bA;refine(oz _ _ _ _).mono ?_;rintro e w' ⟨rfl,rfl⟩;rw[H16.out];go_wp2_with fail
   go_ret
   exact⟨au HF.out.symm,hB0⟩
  ·have hE:=adw hz
   have hE2:=adl hz;cases hok:abh name
   ·have hx0:=True.intro
    have HF:Hid (aag ⟨20,name,labels,kids⟩=false):=by
     show _=_;have g1:=HT.out.HN;have g2:=HT.out.HN';rw[lu]
     simp_all [named,inB,jk]
    have HO:=zqd hok;clear hok hz hx0;go_enter Tryz.func87,Tryz.ntmps87
    go_wp2_with fail
    obtain⟨w0,hw0⟩:=zqe w 39 #[.int .i64 20,.string name,.slice A' n' c',.slice A n c];rw[← hw0];have bA:=zqn hw0;have hB0:=zqb hw0;clear hw0;obtain⟨aby,abz,ab1,abt⟩:=zc4 bA;refine(oz _ _ _ _).mono ?_;rintro e w' ⟨rfl,rfl⟩;rw[H16.out];go_wp2_with fail
    refine(af2 _ HT.out.HS1 _).mono ?_;rintro e w' ⟨rfl,rfl⟩;rw[HO.out];go_wp2_with fail
    go_ret
    exact⟨au HF.out.symm,hB0⟩
   ·by_cases hl:n'=0
    ·by_cases hk0:n=0
     ·have hkk:((n:Int) ==0)=true:=by simp;omega
      have HF:Hid (aag ⟨20,name,labels,kids⟩=true):=by
       show _=_;have g1:=HT.out.HN;have g2:=HT.out.HN';rw[lu]
       simp_all [named,inB,jk]
      have HO:=zqd hok;clear hok hz hk0;subst hl;go_enter Tryz.func87,Tryz.ntmps87
      go_wp2_with fail
      obtain⟨w0,hw0⟩:=zqe w 39 #[.int .i64 20,.string name,.slice A' 0 c',.slice A n c];rw[← hw0];have bA:=zqn hw0;have hB0:=zqb hw0;clear hw0;obtain⟨aby,abz,ab1,abt⟩:=zc4 bA;refine(oz _ _ _ _).mono ?_;rintro e w' ⟨rfl,rfl⟩;rw[H16.out];go_wp2_with fail
      refine(af2 _ HT.out.HS1 _).mono ?_;rintro e w' ⟨rfl,rfl⟩;rw[HO.out];go_wp2_with fail
      refine(oz _ _ _ _).mono ?_;rintro e w' ⟨rfl,rfl⟩;rw[H23.out];go_wp2_with fail
      go_ret
      exact⟨au HF.out.symm,hB0⟩
     ·have hkk:((n:Int) ==0)=false:=by simp;omega
      have HF:Hid (aag ⟨20,name,labels,kids⟩=false):=by
       show _=_;have g1:=HT.out.HN;have g2:=HT.out.HN';rw[lu]
       simp_all [named,inB,jk]
      have HO:=zqd hok;clear hok hz hk0;subst hl;go_enter Tryz.func87,Tryz.ntmps87
      go_wp2_with fail
      obtain⟨w0,hw0⟩:=zqe w 39 #[.int .i64 20,.string name,.slice A' 0 c',.slice A n c];rw[← hw0];have bA:=zqn hw0;have hB0:=zqb hw0;clear hw0;obtain⟨aby,abz,ab1,abt⟩:=zc4 bA;refine(oz _ _ _ _).mono ?_;rintro e w' ⟨rfl,rfl⟩;rw[H16.out];go_wp2_with fail
      refine(af2 _ HT.out.HS1 _).mono ?_;rintro e w' ⟨rfl,rfl⟩;rw[HO.out];go_wp2_with fail
      refine(oz _ _ _ _).mono ?_;rintro e w' ⟨rfl,rfl⟩;rw[H23.out];go_wp2_with fail
      go_ret
      exact⟨au HF.out.symm,hB0⟩
    ·have hl1:0 < n':=by omega
     have HF:Hid (aag ⟨20,name,labels,kids⟩=false):=by
      show _=_;have g1:=HT.out.HN;have g2:=HT.out.HN';rw[lu];have g3:¬ labels=[]:=fun e=>by rw[e] at g2;exact hl g2
      simp_all [named,inB,jk]
     have HO:=zqd hok;clear hok hz hl;go_enter Tryz.func87,Tryz.ntmps87
     go_wp2_with fail
     obtain⟨w0,hw0⟩:=zqe w 39 #[.int .i64 20,.string name,.slice A' n' c',.slice A n c];rw[← hw0];have bA:=zqn hw0;have hB0:=zqb hw0;clear hw0;obtain⟨aby,abz,ab1,abt⟩:=zc4 bA;refine(oz _ _ _ _).mono ?_;rintro e w' ⟨rfl,rfl⟩;rw[H16.out];go_wp2_with fail
     refine(af2 _ HT.out.HS1 _).mono ?_;rintro e w' ⟨rfl,rfl⟩;rw[HO.out];go_wp2_with fail
     go_ret
     exact⟨au HF.out.symm,hB0⟩
 ·by_cases hz:name.size=0
  ·obtain rfl:=ad3 hz
   have e0:=am2 hz
   have HF:Hid (aag ⟨21,{data:=#[]},labels,kids⟩=false):=by
    show _=_;have g1:=HT.out.HN;have g2:=HT.out.HN';rw[lu];have e1:=e0
    simp_all [named,inB,jk]
   clear e0 hz;go_enter Tryz.func87,Tryz.ntmps87
   go_wp2_with fail
   obtain⟨w0,hw0⟩:=zqe w 39 #[.int .i64 21,.string {data:=#[]},.slice A' n' c',.slice A n c];rw[← hw0];have bA:=zqn hw0;have hB0:=zqb hw0;clear hw0;obtain⟨aby,abz,ab1,abt⟩:=zc4 bA;refine(oz _ _ _ _).mono ?_;rintro e w' ⟨rfl,rfl⟩;rw[H16.out];go_wp2_with fail
   go_ret
   exact⟨au HF.out.symm,hB0⟩
  ·have hE:=adw hz
   have hE2:=adl hz;cases hok:abh name
   ·have hx0:=True.intro
    have HF:Hid (aag ⟨21,name,labels,kids⟩=false):=by
     show _=_;have g1:=HT.out.HN;have g2:=HT.out.HN';rw[lu]
     simp_all [named,inB,jk]
    have HO:=zqd hok;clear hok hz hx0;go_enter Tryz.func87,Tryz.ntmps87
    go_wp2_with fail
    obtain⟨w0,hw0⟩:=zqe w 39 #[.int .i64 21,.string name,.slice A' n' c',.slice A n c];rw[← hw0];have bA:=zqn hw0;have hB0:=zqb hw0;clear hw0;obtain⟨aby,abz,ab1,abt⟩:=zc4 bA;refine(oz _ _ _ _).mono ?_;rintro e w' ⟨rfl,rfl⟩;rw[H16.out];go_wp2_with fail
    refine(af2 _ HT.out.HS1 _).mono ?_;rintro e w' ⟨rfl,rfl⟩;rw[HO.out];go_wp2_with fail
    go_ret
    exact⟨au HF.out.symm,hB0⟩
   ·by_cases hl:n'=0
    ·by_cases hk0:n=0
     ·have hkk:((n:Int) ==0)=true:=by simp;omega
      have HF:Hid (aag ⟨21,name,labels,kids⟩=true):=by
       show _=_;have g1:=HT.out.HN;have g2:=HT.out.HN';rw[lu]
       simp_all [named,inB,jk]
      have HO:=zqd hok;clear hok hz hk0;subst hl;go_enter Tryz.func87,Tryz.ntmps87
      go_wp2_with fail
      obtain⟨w0,hw0⟩:=zqe w 39 #[.int .i64 21,.string name,.slice A' 0 c',.slice A n c];rw[← hw0];have bA:=zqn hw0;have hB0:=zqb hw0;clear hw0;obtain⟨aby,abz,ab1,abt⟩:=zc4 bA;refine(oz _ _ _ _).mono ?_;rintro e w' ⟨rfl,rfl⟩;rw[H16.out];go_wp2_with fail
      refine(af2 _ HT.out.HS1 _).mono ?_;rintro e w' ⟨rfl,rfl⟩;rw[HO.out];go_wp2_with fail
      refine(oz _ _ _ _).mono ?_;rintro e w' ⟨rfl,rfl⟩;rw[H23.out];go_wp2_with fail
      go_ret
      exact⟨au HF.out.symm,hB0⟩
     ·have hkk:((n:Int) ==0)=false:=by simp;omega
      have HF:Hid (aag ⟨21,name,labels,kids⟩=false):=by
       show _=_;have g1:=HT.out.HN;have g2:=HT.out.HN';rw[lu]
       simp_all [named,inB,jk]
      have HO:=zqd hok;clear hok hz hk0;subst hl;go_enter Tryz.func87,Tryz.ntmps87
      go_wp2_with fail
      obtain⟨w0,hw0⟩:=zqe w 39 #[.int .i64 21,.string name,.slice A' 0 c',.slice A n c];rw[← hw0];have bA:=zqn hw0;have hB0:=zqb hw0;clear hw0;obtain⟨aby,abz,ab1,abt⟩:=zc4 bA;refine(oz _ _ _ _).mono ?_;rintro e w' ⟨rfl,rfl⟩;rw[H16.out];go_wp2_with fail
      refine(af2 _ HT.out.HS1 _).mono ?_;rintro e w' ⟨rfl,rfl⟩;rw[HO.out];go_wp2_with fail
      refine(oz _ _ _ _).mono ?_;rintro e w' ⟨rfl,rfl⟩;rw[H23.out];go_wp2_with fail
      go_ret
      exact⟨au HF.out.symm,hB0⟩
    ·have hl1:0 < n':=by omega
     have HF:Hid (aag ⟨21,name,labels,kids⟩=false):=by
      show _=_;have g1:=HT.out.HN;have g2:=HT.out.HN';rw[lu];have g3:¬ labels=[]:=fun e=>by rw[e] at g2;exact hl g2
      simp_all [named,inB,jk]
     have HO:=zqd hok;clear hok hz hl;go_enter Tryz.func87,Tryz.ntmps87
     go_wp2_with fail
     obtain⟨w0,hw0⟩:=zqe w 39 #[.int .i64 21,.string name,.slice A' n' c',.slice A n c];rw[← hw0];have bA:=zqn hw0;have hB0:=zqb hw0;clear hw0;obtain⟨aby,abz,ab1,abt⟩:=zc4 bA;refine(oz _ _ _ _).mono ?_;rintro e w' ⟨rfl,rfl⟩;rw[H16.out];go_wp2_with fail
     refine(af2 _ HT.out.HS1 _).mono ?_;rintro e w' ⟨rfl,rfl⟩;rw[HO.out];go_wp2_with fail
     go_ret
     exact⟨au HF.out.symm,hB0⟩
end Go.Proofs.YtfpannkadjdnaaaGreatDoor
