/-
  Whether a type has a part of some kinds; units: spec.l03Has, spec.l03Units, impl.isUnit, impl.kidsOk, impl.hasKind. (and 1 more texts)
-/
import Derived.Test.YtbafphecjijdmaaGreatDoorUb09
import Derived.Test.YtbafphecjijdmaaGreatDoorUb10
import Derived.Test.YtbafphecjijdmaaGreatDoorUb12
import Derived.Test.YtbafphecjijdmaaGreatDoorRows
import Derived.Shelf.SortM.Plain
import Derived.Shelf.SortM.SortNone
namespace Go.Proofs.YtbafphecjijdmaaGreatDoor
open Go.RowKit
set_option linter.all false
def bi3 (lo hi:Int) (t:Ty):Prop:=∀ (B:Nat) (cs:List Value) (w:World),B≤w.heap.size→lq w B (Ty.pd t) cs→
 Calls Tryz.prog 102 #[.agg cs.toArray,.int .i64 lo,.int .i64 hi] w fun e w'=>e=.returned (.bool (t.has lo hi))∧Below w.heap.size w w'
set_option maxHeartbeats 1600000 in
theorem a7f {lo hi kind:Int} {name:ByteArray} {labels:List ByteArray} {kids:List Ty} (ih:∀ t ∈ kids,bi3 lo hi t):bi3 lo hi ⟨kind,name,labels,kids⟩:=by
 intro B cs w hB h
 obtain⟨iw,qw,rfl,bf,gu⟩:=Ty.open_ h
 have pz:=zqd bf
 clear bf
 have qo:=zqd gu
 clear gu
 obtain⟨A,n,c,rfl,hnl,hm,hat⟩:=ni Ty.jd (by decide) qo.out
 unfold maxLen at hm
 have HN:=zqd hnl
 have HI:=zqd ih
 clear hnl ih h
 have HF:=zqd (show(Ty.mk kind name labels kids).has lo hi=(inB kind lo hi ||kids.any (Ty.has lo hi)) by rw[Ty.has,a1t])
 go_enter Tryz.func102,Tryz.ntmps102
 go_wp2_with fail
 refine(oz _ _ _ _).mono ?_
 rintro e w' ⟨rfl,rfl⟩
 cases hk:inB kind lo hi
 case true=>
  go_wp2_with fail
  go_ret
  exact⟨ah (by rw[HF.out,hk];rfl),(zqf _ _).alloc (zql _) _⟩
 have HK:=zqd hk
 clear hk
 go_wp2_with fail
 obtain⟨w0,hw0⟩:=zqe w 60 #[.int .i64 kind,.string name,iw,.slice A n c]
 rw[← hw0]
 have bA:=zqn hw0
 have hB0:=zqb hw0
 clear hw0
 go_loopw [7] (fun i wr=>∃ k:Nat,k≤n∧i=.int .i64 k∧Hid (∀ (j:Nat) (t:Ty),j < k→kids[j]?=some t→t.has lo hi=false)∧Below w.heap.size w wr∧Blk wr w.heap.size 60 #[.int .i64 kind,.string name,iw,.slice A n c]) (fun i _=>n - (intOf i).toNat)
 case atStart=>exact⟨0,Nat.zero_le _,rfl,zqd fun j t h=>absurd h (by omega),hB0,bA⟩
 case round=>
  obtain⟨k,hk,rfl,HP,hbr,bR⟩:=hrel
  clear hB0 bA
  have aqi:wr.cell? ⟨w.heap.size,3,none⟩=some (.slice A n c):=bR.cell 3
  have hsz:=hbr.size
  by_cases hlt:k < n
  ·obtain⟨g,off,rfl,hg2,hcell2⟩:=hat (by omega)
   obtain⟨t2,hx2,ab1⟩:=um HN.out hlt
   obtain⟨kind2,name2,zu,abv⟩:=t2
   have aiw:wr.cell? ⟨g,off+k * 4,none⟩=some (.int .i64 kind2):=bg hbr (by omega) (hcell2 k 0 _ _ hx2 (by rw[Ty.aj];rfl))
   have ad5:wr.cell? ⟨g,off+k * 4+1,none⟩=some (.string name2):=bg hbr (by omega) (hcell2 k 1 _ _ hx2 (by rw[Ty.aj];rfl))
   obtain⟨adg,ahq,ace⟩:∃ u,wr.cell? ⟨g,off+k * 4+2,none⟩=some u∧Rep wr B (.row 1 (zu.flatMap qj)) u:=jc hbr (by omega) hB (hcell2 k 2 _ _ hx2 (by rw[Ty.aj];rfl))
   have adi:=zqd ace
   clear ace
   obtain⟨aez,ajc,ad6⟩:∃ u,wr.cell? ⟨g,off+k * 4+3,none⟩=some u∧Rep wr B (.row 4 (abv.flatMap Ty.pd)) u:=jc hbr (by omega) hB (hcell2 k 3 _ _ hx2 (by rw[Ty.aj];rfl))
   have aew:=zqd ad6
   clear ad6
   have HX2:=zqd hx2
   have HM2:=zqd ab1
   clear hx2 ab1
   clear hcell2
   have hcall:=HI.out _ HM2.out B [.int .i64 kind2,.string name2,adg,aez] wr (Nat.le_trans hB hbr.size) (Ty.close_ adi.out aew.out)
   obtain⟨t,ht⟩:∃ t:Ty,t=⟨kind2,name2,zu,abv⟩:=⟨_,rfl⟩
   have hx:=HX2.out
   rw[← ht] at hcall hx
   have HX:=zqd hx
   have HC:=zqd hcall
   clear hcall ht hx
   go_wp2_with fail
   refine HC.out.mono ?_
   rintro e w1 ⟨rfl,hb1⟩
   have bR1:=bR.step hb1
   have hB1:=hbr.trans (hb1.mono hbr.size)
   cases hb:t.has lo hi
   ·go_wp2_with fail
    go_roundw
    case rel=>exact⟨k+1,by omega,by go_num,zqd (agd HP.out HX.out hb),hB1,bR1⟩
    case measure=>simp[intOf];omega
   ·have HA:=zqd (ap8 (p:=Ty.has lo hi) HX.out hb)
    go_wp2_with fail
    go_ret
    exact⟨ah (by rw[HF.out,HA.out,Bool.or_true]),hB1⟩
  ·have hkn:k=n:=by omega
   subst hkn
   have HA:=zqd (any_none (p:=Ty.has lo hi) (ts:=kids) (n:=k) (by have:=HN.out;omega) HP.out)
   go_wp2_with fail
   go_ret
   exact⟨ah (by rw[HF.out,HK.out,HA.out];rfl),hbr⟩
theorem amk (lo hi:Int):∀ t:Ty,bi3 lo hi t:=Ty.ai4 fun kind name labels kids ih=>a7f ih
set_option maxHeartbeats 1600000 in
theorem ahr (t:Ty) {B:Nat} {cs:List Value} {w:World} (hB:B≤w.heap.size) (h:lq w B (Ty.pd t) cs):
  Calls Tryz.prog 170 #[.agg cs.toArray] w fun e w'=>e=.returned (.bool (!acv t.kids))∧Below w.heap.size w w':=by
 obtain⟨kind,name,labels,kids⟩:=t
 obtain⟨iw,qw,rfl,bf,gu⟩:=Ty.open_ h
 have pz:=zqd bf
 clear bf
 have qo:=zqd gu
 clear gu
 obtain⟨A,n,c,rfl,hnl,hm,hat⟩:=ni Ty.jd (by decide) qo.out
 unfold maxLen at hm
 have HN:=zqd hnl
 clear hnl h
 have HF:=zqd (show(!acv (Ty.mk kind name labels kids).kids)=kids.any Ty.isUnit by simp[acv,Ty.kids])
 go_enter Tryz.func170,Tryz.ntmps170
 go_wp2_with fail
 obtain⟨w0,hw0⟩:=zqe w 60 #[.int .i64 kind,.string name,iw,.slice A n c]
 rw[← hw0]
 have bA:=zqn hw0
 have hB0:=zqb hw0
 clear hw0
 have aqi:w0.cell? ⟨w.heap.size,3,none⟩=some (.slice A n c):=bA.cell 3
 go_loop [3] (fun i=>∃ k:Nat,k≤n∧i=.int .i64 k∧Hid (∀ (j:Nat) (t:Ty),j < k→kids[j]?=some t→Ty.isUnit t=false)) (fun i=>n - (intOf i).toNat)
 case atStart=>exact⟨0,Nat.zero_le _,rfl,zqd fun j t h=>absurd h (by omega)⟩
 case round=>
  obtain⟨k,hk,rfl,HP⟩:=hrel
  by_cases hlt:k < n
  ·obtain⟨g,off,rfl,hg2,hcell2⟩:=hat (by omega)
   obtain⟨t2,hx2,ab1⟩:=um HN.out hlt
   obtain⟨kind2,name2,zu,abv⟩:=t2
   have aiw:w0.cell? ⟨g,off+k * 4,none⟩=some (.int .i64 kind2):=bg hB0 (by omega) (hcell2 k 0 _ _ hx2 (by rw[Ty.aj];rfl))
   have HX2:=zqd hx2
   have HM2:=zqd ab1
   clear hx2 ab1
   clear hcell2
   obtain⟨t,ht⟩:∃ t:Ty,t=⟨kind2,name2,zu,abv⟩:=⟨_,rfl⟩
   have hx:=HX2.out
   have HU:=zqd (show t.isUnit=(kind2 ==1) by rw[ht];rfl)
   rw[← ht] at hx
   have HX:=zqd hx
   clear ht hx
   cases hb:(kind2 ==1)
   ·have HB:=zqd (agd HP.out HX.out (by rw[HU.out,hb]))
    go_wp2_with fail
    go_round
    case rel=>exact⟨k+1,by omega,by go_num,HB⟩
    case measure=>simp[intOf];omega
   ·have HA:=zqd (ap8 (p:=Ty.isUnit) HX.out (by rw[HU.out,hb]))
    go_wp2_with fail
    go_ret
    exact⟨ah (by rw[HF.out,HA.out]),hB0⟩
  ·have hkn:k=n:=by omega
   subst hkn
   have HA:=zqd (any_none (p:=Ty.isUnit) (ts:=kids) (n:=k) (by have:=HN.out;omega) HP.out)
   go_wp2_with fail
   go_ret
   exact⟨ah (by rw[HF.out,HA.out]),hB0⟩
theorem a0g (t:Ty) {B:Nat} {cs:List Value} {w:World} (h:lq w B (Ty.pd t) cs):
  Calls Tryz.prog 109 #[.agg cs.toArray] w fun e w'=>e=.returned (.bool t.isUnit)∧Below w.heap.size w w':=by
 obtain⟨kind,name,labels,kids⟩:=t
 obtain⟨iw,qw,rfl,_,_⟩:=Ty.open_ h
 go_enter Tryz.func109,Tryz.ntmps109
 go_wp2_with fail
 go_ret
 exact⟨ah rfl,(zqf _ _).alloc (zql _) _⟩
theorem a7g (a:Array Value) (W:World):Sem.run Tryz.prog (callFunc 109 a) W=.ok (.enter 109 a) W:=by kernel_rfl
theorem apc {ts:List Ty} {v:Value} {B:Nat} {w:World} (h:Rep w B (.row 4 (ts.flatMap Ty.pd)) v):
  Calls Tryz.prog 142 #[v] w fun e w'=>e=.returned (.int .i64 ts.length)∧w=w':=by
 obtain⟨A,n,c,rfl,hnl,hm,_⟩:=ni Ty.jd (by decide) h
 unfold maxLen at hm
 rw[← hnl]
 clear h hnl
 go_enter Tryz.func142,Tryz.ntmps142
 go_wp2
 go_ret
 exact⟨rfl,rfl⟩
theorem ana {ts:List ByteArray} {v:Value} {B:Nat} {w:World} (h:Rep w B (.row 1 (ts.flatMap qj)) v):
  Calls Tryz.prog 143 #[v] w fun e w'=>e=.returned (.int .i64 ts.length)∧w=w':=by
 obtain⟨A,n,c,rfl,hnl,hm,_⟩:=ni aaz (by decide) h
 unfold maxLen at hm
 rw[← hnl]
 clear h hnl
 go_enter Tryz.func143,Tryz.ntmps143
 go_wp2
 go_ret
 exact⟨rfl,rfl⟩
set_option maxHeartbeats 1600000 in
theorem ahi (t:Ty) (many:Int) {B:Nat} {cs:List Value} {w:World} (hB:B≤w.heap.size) (h:lq w B (Ty.pd t) cs):
  Calls Tryz.prog 141 #[.agg cs.toArray,.int .i64 many] w fun e w'=>e=.returned (.bool (decide ((t.kids.length:Int)=many) && acv t.kids))∧Below w.heap.size w w':=by
 obtain⟨kind,name,labels,kids⟩:=t
 obtain⟨iw,qw,rfl,bf,gu⟩:=Ty.open_ h
 have pz:=zqd bf
 clear bf
 have qo:=zqd gu
 clear gu
 obtain⟨A,n,c,rfl⟩:=qo.out.form
 clear h
 have HF:=zqd (show(decide (((Ty.mk kind name labels kids).kids.length:Int)=many) && acv (Ty.mk kind name labels kids).kids)=(decide ((kids.length:Int)=many) && !kids.any Ty.isUnit) by rfl)
 obtain⟨L,hL⟩:∃ L:Nat,L=kids.length:=⟨_,rfl⟩
 have HL:=zqd hL
 clear hL
 cases he:((L:Int) ==many)
 ·have HE:Hid (decide ((L:Int)=many)=false):=by show _=_;simpa using he
  go_enter Tryz.func141,Tryz.ntmps141
  go_wp2_with fail
  obtain⟨w0,hw0⟩:=zqe w 60 #[.int .i64 kind,.string name,iw,.slice A n c]
  rw[← hw0]
  have bA:=zqn hw0
  have hB0:=zqb hw0
  clear hw0
  refine(apc (qo.out.below (hB0.mono hB))).mono ?_
  rintro e w1 ⟨rfl,rfl⟩
  rw[← HL.out]
  go_wp2_with fail
  go_ret
  exact⟨ah (by rw[HF.out,← HL.out,HE.out];rfl),hB0⟩
 ·have HE:Hid (decide ((L:Int)=many)=true):=by show _=_;simpa using he
  go_enter Tryz.func141,Tryz.ntmps141
  go_wp2_with fail
  obtain⟨w0,hw0⟩:=zqe w 60 #[.int .i64 kind,.string name,iw,.slice A n c]
  rw[← hw0]
  have bA:=zqn hw0
  have hB0:=zqb hw0
  clear hw0
  refine(apc (qo.out.below (hB0.mono hB))).mono ?_
  rintro e w1 ⟨rfl,rfl⟩
  rw[← HL.out]
  have aqi:w0.cell? ⟨w.heap.size,3,none⟩=some (.slice A n c):=bA.cell 3
  go_wp2_with fail
  refine(aqh 109 #[] Ty.isUnit (by have:=hB0.size;omega) (qo.out.below (hB0.mono hB)) a7g (fun t _ cs W _ hr=>a0g t hr)).mono ?_
  rintro e w2 ⟨rfl,hb2⟩
  go_wp2_with fail
  go_ret
  exact⟨ah (by rw[HF.out,← HL.out,HE.out];rfl),hB0.trans (hb2.mono hB0.size)⟩
def a5h (t:Ty):Prop:=∀ (B:Nat) (cs:List Value) (v:Value) (w:World),B≤w.heap.size→lq w B (Ty.pd t) cs→Rep w B (.row 1 ([21].flatMap aoc)) v→
 Calls Tryz.prog 85 #[.agg cs.toArray,v] w fun e w'=>e=.returned (.bool (t.has 21 21))∧Below w.heap.size w w'
theorem a4o (a:Array Value) (W:World):Sem.run Tryz.prog (callFunc 116 a) W=.ok (.enter 116 a) W:=by kernel_rfl
theorem a7h {t:Ty} (ih:a5h t) {B b:Nat} {cs:List Value} {v:Value} {w:World} (hB:B≤w.heap.size) (h:lq w B (Ty.pd t) cs) (k:Rep w B (.row 1 ([21].flatMap aoc)) v) (hc:w.cell? ⟨b,0,none⟩=some v) (hb:b < w.heap.size):
  Calls Tryz.prog 116 #[.agg cs.toArray,.pointer (some ⟨b,0,none⟩)] w fun e w'=>e=.returned (.bool (t.has 21 21))∧Below w.heap.size w w':=by
 obtain⟨kind,name,labels,kids⟩:=t
 obtain⟨iw,qw,rfl,bf,gu⟩:=Ty.open_ h
 have pz:=zqd bf
 clear bf
 have qo:=zqd gu
 clear gu
 have IH:=zqd ih
 have K:=zqd k
 clear ih k h
 go_enter Tryz.func116,Tryz.ntmps116
 go_wp2_with fail
 obtain⟨w0,hw0⟩:=zqe w 60 #[.int .i64 kind,.string name,iw,qw]
 rw[← hw0]
 have bA:=zqn hw0
 have hB0:=zqb hw0
 clear hw0
 refine(IH.out B [.int .i64 kind,.string name,iw,qw] v w0 (by have:=hB0.size;omega) (Ty.close_ (pz.out.below (hB0.mono hB)) (qo.out.below (hB0.mono hB))) (K.out.below (hB0.mono hB))).mono ?_
 rintro e w1 ⟨rfl,hb1⟩
 go_wp2_with fail
 go_ret
 exact⟨rfl,hB0.trans (hb1.mono hB0.size)⟩
set_option maxHeartbeats 1600000 in
theorem a7i {kind:Int} {name:ByteArray} {labels:List ByteArray} {kids:List Ty} (ih:∀ t ∈ kids,a5h t):a5h ⟨kind,name,labels,kids⟩:=by
 intro B cs v w hB h k
 obtain⟨iw,qw,rfl,bf,gu⟩:=Ty.open_ h
 have pz:=zqd bf
 clear bf
 have qo:=zqd gu
 clear gu
 obtain⟨A,n,c,rfl⟩:=qo.out.form
 obtain⟨A',n',c',rfl⟩:=k.form
 have HI:=zqd ih
 have K:=zqd k
 clear h k ih
 have HF:=zqd (show(Ty.mk kind name labels kids).has 21 21=(inB kind 21 21 ||kids.any (Ty.has 21 21)) by rw[Ty.has,a1t])
 have HG:Hid ([21].any (fun t=>decide (kind=t))=inB kind 21 21):=by
  show _=_
  rw[List.any_cons,List.any_nil,Bool.or_false,Bool.eq_iff_iff,agx,decide_eq_true_iff]
  omega
 go_enter Tryz.func85,Tryz.ntmps85
 go_wp2_with fail
 obtain⟨w0,hw0⟩:∃ W,W=(w.alloc (.cells #[.int .i64 kind,.string name,iw,.slice A n c] 60)).alloc (.cells #[.slice A' n' c'] 140):=⟨_,rfl⟩
 rw[← hw0]
 have bA:Blk w0 w.heap.size 60 #[.int .i64 kind,.string name,iw,.slice A n c]:=by rw[hw0];exact(Blk.new w _ _).alloc _
 have bK:Blk w0 (w.heap.size+1) 140 #[.slice A' n' c']:=by rw[hw0];have:=Blk.new (w.alloc (.cells #[.int .i64 kind,.string name,iw,.slice A n c] 60)) 140 #[.slice A' n' c'];simpa using this
 have hB0:Below w.heap.size w w0:=by rw[hw0];exact((zqf _ _).alloc (zql _) _).alloc (by simp) _
 clear hw0
 refine(apb kind (B:=B) (by have:=hB0.size;omega) (K.out.below (hB0.mono hB))).mono ?_
 rintro e w1 ⟨rfl,hb1⟩
 rw[HG.out]
 have hB1:=hB0.trans (hb1.mono hB0.size)
 have bA1:=bA.step hb1
 have bK1:=bK.step hb1
 clear bA bK
 cases hk:inB kind 21 21
 case true=>
  go_wp2_with fail
  go_ret
  exact⟨ah (by rw[HF.out,hk];rfl),hB1⟩
 have HK:=zqd hk
 clear hk
 have aqi:w1.cell? ⟨w.heap.size,3,none⟩=some (.slice A n c):=bA1.cell 3
 go_wp2_with fail
 refine(aqh 116 #[.pointer (some ⟨w.heap.size+1,0,none⟩)] (Ty.has 21 21) (B:=B) (by have:=hB1.size;omega) (qo.out.below (hB1.mono hB)) a4o (fun t ht cs W hW hr=>?_)).mono ?_
 ·have hsz:=hW.size
  have hl:=bK1.lt
  refine a7h (HI.out t ht) (B:=W.heap.size) (v:=.slice A' n' c') (zql _) (hr.more (by have:=hB1.size;omega)) ((((K.out.below (hB1.mono hB)).more (by have:=hB1.size;omega)).below hW).more (by omega)) ?_ (by omega)
  exact(hW.cell (p:=⟨w.heap.size+1,0,none⟩) hl).trans (bK1.cell 0)
 rintro e w2 ⟨rfl,hb2⟩
 go_wp2_with fail
 go_ret
 exact⟨ah (by rw[HF.out,HK.out];rfl),hB1.trans (hb2.mono hB1.size)⟩
theorem aml:∀ t:Ty,a5h t:=Ty.ai4 fun kind name labels kids ih=>a7i ih
end Go.Proofs.YtbafphecjijdmaaGreatDoor
namespace Go.Proofs.YtbafphecjijdmaaGreatDoor
open Go.RowKit Go.Shelf
set_option linter.unusedVariables false
set_option maxRecDepth 100000
def bq6:Go.Shelf.Ren:=⟨fun|6=>157|8=>173|9=>172|19=>193|20=>194|21=>184|22=>185|23=>186|24=>187|25=>188|26=>189|27=>190|28=>191|29=>192|36=>209|31=>210|32=>211|37=>212|38=>213|39=>152|41=>221|n=>n,fun|0=>0|3=>3|4=>4|5=>5|9=>9|26=>22|27=>22|29=>9|32=>183|35=>196|36=>197|41=>201|44=>204|46=>189|53=>217|57=>221|63=>237|64=>238|n=>n,fun n=>n⟩
set_option maxHeartbeats 2000000 in
theorem bb8:SlLaysM.n6 Tryz.prog bq6:=
 {mixed:=by kernel_rfl
  f6:=⟨Tryz.f157.name,by kernel_rfl,Tryz.func157.trans (congrArg some (by kernel_rfl))⟩
  f8:=Tryz.func173.trans (congrArg some (by kernel_rfl))
  f9:=⟨Tryz.f172.name,by kernel_rfl,Tryz.func172.trans (congrArg some (by kernel_rfl))⟩
  f19:=Tryz.func193.trans (congrArg some (by kernel_rfl))
  f20:=Tryz.func194.trans (congrArg some (by kernel_rfl))
  f21:=⟨Tryz.f184.name,by kernel_rfl,Tryz.func184.trans (congrArg some (by kernel_rfl))⟩
  f22:=⟨Tryz.f185.name,by kernel_rfl,Tryz.func185.trans (congrArg some (by kernel_rfl))⟩
  f23:=⟨Tryz.f186.name,by kernel_rfl,Tryz.func186.trans (congrArg some (by kernel_rfl))⟩
  f24:=⟨Tryz.f187.name,by kernel_rfl,Tryz.func187.trans (congrArg some (by kernel_rfl))⟩
  f25:=⟨Tryz.f188.name,by kernel_rfl,Tryz.func188.trans (congrArg some (by kernel_rfl))⟩
  f26:=⟨Tryz.f189.name,by kernel_rfl,Tryz.func189.trans (congrArg some (by kernel_rfl))⟩
  f27:=⟨Tryz.f190.name,by kernel_rfl,Tryz.func190.trans (congrArg some (by kernel_rfl))⟩
  f28:=⟨Tryz.f191.name,by kernel_rfl,Tryz.func191.trans (congrArg some (by kernel_rfl))⟩
  f29:=⟨Tryz.f192.name,by kernel_rfl,Tryz.func192.trans (congrArg some (by kernel_rfl))⟩
  f31:=Tryz.func210.trans (congrArg some (by kernel_rfl))
  f32:=Tryz.func211.trans (congrArg some (by kernel_rfl))
  f36:=⟨Tryz.f209.name,by kernel_rfl,Tryz.func209.trans (congrArg some (by kernel_rfl))⟩
  f37:=⟨Tryz.f212.name,by kernel_rfl,Tryz.func212.trans (congrArg some (by kernel_rfl))⟩
  f38:=⟨Tryz.f213.name,by kernel_rfl,Tryz.func213.trans (congrArg some (by kernel_rfl))⟩
  f39:=⟨Tryz.f152.name,by kernel_rfl,Tryz.func152.trans (congrArg some (by kernel_rfl))⟩
  f41:=⟨Tryz.f221.name,by kernel_rfl,Tryz.func221.trans (congrArg some (by kernel_rfl))⟩
  t0:=by kernel_rfl
  a0:=fun _=>by kernel_rfl
  z0:=fun _=>by kernel_rfl
  v0:=fun _=>by kernel_rfl
  t3:=by kernel_rfl
  a3:=fun _=>by kernel_rfl
  z3:=fun _=>by kernel_rfl
  v3:=fun _=>by kernel_rfl
  t4:=by kernel_rfl
  a4:=fun _=>by kernel_rfl
  z4:=fun _=>by kernel_rfl
  v4:=fun _=>by kernel_rfl
  t5:=by kernel_rfl
  a5:=fun _=>by kernel_rfl
  z5:=fun _=>by kernel_rfl
  v5:=fun _=>by kernel_rfl
  t9:=by kernel_rfl
  a9:=fun _=>by kernel_rfl
  z9:=fun _=>by kernel_rfl
  v9:=fun _=>by kernel_rfl
  t26:=by kernel_rfl
  a26:=fun _=>by kernel_rfl
  z26:=fun _=>by kernel_rfl
  v26:=fun _=>by kernel_rfl
  t27:=by kernel_rfl
  a27:=fun _=>by kernel_rfl
  z27:=fun _=>by kernel_rfl
  v27:=fun _=>by kernel_rfl
  t29:=by kernel_rfl
  a29:=fun _=>by kernel_rfl
  z29:=fun _=>by kernel_rfl
  v29:=fun _=>by kernel_rfl
  t32:=by kernel_rfl
  a32:=fun _=>by kernel_rfl
  z32:=fun _=>by kernel_rfl
  v32:=fun _=>by kernel_rfl
  t35:=by kernel_rfl
  a35:=fun _=>by kernel_rfl
  z35:=fun _=>by kernel_rfl
  v35:=fun _=>by kernel_rfl
  t36:=by kernel_rfl
  a36:=fun _=>by kernel_rfl
  z36:=fun _=>by kernel_rfl
  v36:=fun _=>by kernel_rfl
  t41:=by kernel_rfl
  a41:=fun _=>by kernel_rfl
  z41:=fun _=>by kernel_rfl
  v41:=fun _=>by kernel_rfl
  t44:=by kernel_rfl
  a44:=fun _=>by kernel_rfl
  z44:=fun _=>by kernel_rfl
  v44:=fun _=>by kernel_rfl
  t46:=by kernel_rfl
  a46:=fun _=>by kernel_rfl
  z46:=fun _=>by kernel_rfl
  v46:=fun _=>by kernel_rfl
  t53:=by kernel_rfl
  a53:=fun _=>by kernel_rfl
  z53:=fun _=>by kernel_rfl
  v53:=fun _=>by kernel_rfl
  t57:=by kernel_rfl
  a57:=fun _=>by kernel_rfl
  z57:=fun _=>by kernel_rfl
  v57:=fun _=>by kernel_rfl
  t63:=by kernel_rfl
  a63:=fun _=>by kernel_rfl
  z63:=fun _=>by kernel_rfl
  v63:=fun _=>by kernel_rfl
  t64:=by kernel_rfl
  a64:=fun _=>by kernel_rfl
  z64:=fun _=>by kernel_rfl
  v64:=fun _=>by kernel_rfl}
end Go.Proofs.YtbafphecjijdmaaGreatDoor
