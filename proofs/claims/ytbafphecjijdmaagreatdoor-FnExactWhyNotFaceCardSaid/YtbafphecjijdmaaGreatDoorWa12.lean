/-
  Why one type cannot stand for another: the contracts' words.
  spec.l03Name and impl.NameOk return the same bool.
-/
import Derived.Test.YtbafphecjijdmaaGreatDoorWa11
import Derived.Test.YtbafphecjijdmaaGreatDoorWa04
import Derived.Test.YtbafphecjijdmaaGreatDoorWa09
namespace Go.Proofs.YtbafphecjijdmaaGreatDoor
open Go.RowKit
set_option linter.unusedVariables false
set_option linter.unusedSimpArgs false
set_option linter.unnecessarySimpa false
def WQ (R:Why) (w:World) (e:Ending) (w':World):Prop:=e=.returned (.tuple #[.agg #[.int .i64 (a1p R),.string (a1q R)],.bool (as2 R)])∧Below w.heap.size w w'
def OkT (n:Nat) (t:Ty):Prop:=t.height≤n∧t.shapes=true
theorem aal {n:Nat} {kind:Int} {name:ByteArray} {labels:List ByteArray} {kids:List Ty} (h:OkT (n+1) ⟨kind,name,labels,kids⟩):∀ t ∈ kids,OkT n t:=fun t ht=>⟨a7s h.1 t ht,(shF h.2).all t ht⟩
def af7 (fid:Nat) (rec:Ty→Ty→ByteArray→Why) (n M:Nat):Prop:=∀ (x y:Ty) (at_:ByteArray) (B:Nat) (cs ds:List Value) (w:World),B≤w.heap.size→ae3 w→OkT n x→OkT n y→at_.size≤M→jy w B (Ty.pd x) cs→jy w B (Ty.pd y) ds→
 Calls Tryz.prog fid #[.agg cs.toArray,.agg ds.toArray,.string at_] w fun e w'=>WQ (rec x y at_) w e w'
theorem kb {lo hi B:Nat} {w w':World} (h:Keep lo hi w w') (hB:B≤lo∧lo≤w.heap.size):Below B w w':=(h.below hB.2).mono hB.1
theorem Keep.new {lo hi:Nat} {w w':World} (h:Keep lo hi w w') {p:Addr} (hp:w.heap.size≤p.block) (u:Value):Keep lo hi w (w'.setCell p u):=
 ⟨h.os,h.tape,h.output,by simpa [World.setCell] using h.size,fun k hk ho=>(Below.heap_setCell _ _ _ _ (by omega)).trans (h.block k hk ho)⟩
theorem Keep.setAt {lo:Nat} {w w':World} (h:Keep lo (lo+1) w w') (off:Nat) (u:Value):Keep lo (lo+1) w (w'.setCell ⟨lo,off,none⟩ u):=h.setCell (p:=⟨lo,off,none⟩) (Nat.le_refl _) (Nat.lt_succ_self _) u
theorem Keep.newAt {lo hi g:Nat} {w w':World} (h:Keep lo hi w w') (hp:w.heap.size≤g) (off:Nat) (u:Value):Keep lo hi w (w'.setCell ⟨g,off,none⟩ u):=h.new (p:=⟨g,off,none⟩) hp u
theorem bkv {a w:World} (h:Below a.heap.size a w) (o:Obj):Below a.heap.size a (w.alloc o):=h.alloc h.size o
theorem an9 {B P:Nat} {a w:World} (h:Below B a w) (hP:B≤P) (off:Nat) (u:Value):Below B a (w.setCell ⟨P,off,none⟩ u):=h.setCell (p:=⟨P,off,none⟩) hP u
theorem aeu (w:World) (ta:TypeId) (va vb:Array Value):∃ w0,w0=((w.alloc (.cells va ta)).alloc (.cells vb ta)).alloc (.cells #[.int .i64 0,.string {data:=#[]}] 34)∧Blk w0 w.heap.size ta va∧Blk w0 (w.heap.size+1) ta vb∧Blk w0 (w.heap.size+1+1) 34 #[.int .i64 0,.string {data:=#[]}]∧Below w.heap.size w w0∧w.heap.size+1+1 < w0.heap.size:=by
 refine⟨_,rfl,((Blk.new w _ _).alloc _).alloc _,?_,?_,(((Below.refl _ _).alloc (Nat.le_refl _) _).alloc (by simp) _).alloc (by simp;omega) _,by simp⟩
 ·have:=(Blk.new (w.alloc (.cells va ta)) ta vb).alloc (.cells #[.int .i64 0,.string {data:=#[]}] 34)
  simpa using this
 ·have:=Blk.new ((w.alloc (.cells va ta)).alloc (.cells vb ta)) 34 #[.int .i64 0,.string {data:=#[]}]
  simpa using this
theorem zr {W:World} {b:Nat} (h:Blk W b 34 #[.int .i64 0,.string {data:=#[]}]):W.cell? ⟨b,0,none⟩=some (.int .i64 0)∧W.cell? ⟨b,1,none⟩=some (.string {data:=#[]})∧W.frozen? ⟨b,0,none⟩=false∧W.frozen? ⟨b,1,none⟩=false:=⟨h.cell 0,h.cell 1,h.frozen 0,h.frozen 1⟩
theorem rq {W:World} {b:Nat} {k:Int} {s:ByteArray} (h:Blk W b 34 #[.int .i64 k,.string s]):W.cell? ⟨b,0,none⟩=some (.int .i64 k)∧W.cell? ⟨b,1,none⟩=some (.string s):=⟨h.cell 0,h.cell 1⟩
theorem aaz {w V:World} {b:Nat} (bR:Blk V b 34 #[.int .i64 0,.string {data:=#[]}]) (hB:Below w.heap.size w V) (hb:w.heap.size≤b) (k:Int) (s:ByteArray):
  ((V.setCell ⟨b,0,none⟩ (.int .i64 k)).setCell ⟨b,1,none⟩ (.string s)).cell? ⟨b,0,none⟩=some (.int .i64 k)∧((V.setCell ⟨b,0,none⟩ (.int .i64 k)).setCell ⟨b,1,none⟩ (.string s)).cell? ⟨b,1,none⟩=some (.string s)∧Below w.heap.size w ((V.setCell ⟨b,0,none⟩ (.int .i64 k)).setCell ⟨b,1,none⟩ (.string s)):=by
 have bN:Blk ((V.setCell ⟨b,0,none⟩ (.int .i64 k)).setCell ⟨b,1,none⟩ (.string s)) b 34 #[.int .i64 k,.string s]:=by
  have:=(bR.abf 0 (.int .i64 k)).abf 1 (.string s)
  simpa using this
 exact⟨bN.cell 0,bN.cell 1,an9 (an9 hB hb 0 _) hb 1 _⟩
theorem agm {w W:World} {B B0 g off k a0 a1 a2 a3:Nat} {ts:List Ty} {kind:Int} {name:ByteArray} {labels:List ByteArray} {kids:List Ty} (hb:Below B0 w W) (hg:g < B) (hB:B≤B0)
  (hcell:∀ (k j:Nat) (t:Ty) (x:PD),ts[k]?=some t→(Ty.pd t)[j]?=some x→∃ u,w.cell? ⟨g,off+(k * 4+j),none⟩=some u∧Rep w B x u) (hx:ts[k]?=some ⟨kind,name,labels,kids⟩)
  (e:a0=off+(k * 4+0)∧a1=off+(k * 4+1)∧a2=off+(k * 4+2)∧a3=off+(k * 4+3)):
  ∃ lV kV,W.cell? ⟨g,a0,none⟩=some (.int .i64 kind)∧W.cell? ⟨g,a1,none⟩=some (.string name)∧W.cell? ⟨g,a2,none⟩=some lV∧W.cell? ⟨g,a3,none⟩=some kV∧Rep W B (.row 1 (labels.flatMap tu)) lV∧Rep W B (.row 4 (kids.flatMap Ty.pd)) kV:=by
 obtain⟨rfl,rfl,rfl,rfl⟩:=e
 obtain⟨lV,h2,r2⟩:=ku hb (Nat.lt_of_lt_of_le hg hB) hB (hcell k 2 _ _ hx (by rw[Ty.ay];rfl))
 obtain⟨kV,h3,r3⟩:=ku hb (Nat.lt_of_lt_of_le hg hB) hB (hcell k 3 _ _ hx (by rw[Ty.ay];rfl))
 exact⟨lV,kV,gq hb (Nat.lt_of_lt_of_le hg hB) (hcell k 0 _ _ hx (by rw[Ty.ay];rfl)),gq hb (Nat.lt_of_lt_of_le hg hB) (hcell k 1 _ _ hx (by rw[Ty.ay];rfl)),h2,h3,r2,r3⟩
theorem a0o {w W:World} {B B0 g off k:Nat} {ts:List Param} {pn:ByteArray} {kind:Int} {name:ByteArray} {labels:List ByteArray} {kids:List Ty} (hb:Below B0 w W) (hg:g < B) (hB:B≤B0)
  (hcell:∀ (k j:Nat) (t:Param) (x:PD),ts[k]?=some t→(Param.pd t)[j]?=some x→∃ u,w.cell? ⟨g,off+(k * 5+j),none⟩=some u∧Rep w B x u) (hx:ts[k]?=some ⟨pn,⟨kind,name,labels,kids⟩⟩):
  ∃ lV kV,W.cell? ⟨g,off+k * 5,none⟩=some (.string pn)∧W.cell? ⟨g,off+k * 5+1,none⟩=some (.int .i64 kind)∧W.cell? ⟨g,off+k * 5+2,none⟩=some (.string name)∧W.cell? ⟨g,off+k * 5+3,none⟩=some lV∧W.cell? ⟨g,off+k * 5+4,none⟩=some kV∧Rep W B (.row 1 (labels.flatMap tu)) lV∧Rep W B (.row 4 (kids.flatMap Ty.pd)) kV:=by
 obtain⟨lV,h2,r2⟩:=ku hb (Nat.lt_of_lt_of_le hg hB) hB (hcell k 3 _ _ hx (by rw[Param.ay];rfl))
 obtain⟨kV,h3,r3⟩:=ku hb (Nat.lt_of_lt_of_le hg hB) hB (hcell k 4 _ _ hx (by rw[Param.ay];rfl))
 exact⟨lV,kV,gq hb (Nat.lt_of_lt_of_le hg hB) (hcell k 0 _ _ hx (by rw[Param.ay];rfl)),gq hb (Nat.lt_of_lt_of_le hg hB) (hcell k 1 _ _ hx (by rw[Param.ay];rfl)),gq hb (Nat.lt_of_lt_of_le hg hB) (hcell k 2 _ _ hx (by rw[Param.ay];rfl)),h2,h3,r2,r3⟩
theorem agn (R:Why):∃ (k:Int) (s:ByteArray) (b:Bool),Hid (a1p R=k)∧Hid (a1q R=s)∧Hid (as2 R=b):=⟨_,_,_,rfl,rfl,rfl⟩
theorem qx {a b:Int} {s t:ByteArray} {c d:Bool} (h1:a=b) (h2:s=t) (h3:c=d):Ending.returned (.tuple #[.agg #[.int .i64 a,.string s],.bool c])=.returned (.tuple #[.agg #[.int .i64 b,.string t],.bool d]):=by rw[h1,h2,h3]
theorem a5t {rec:Ty→Ty→ByteArray→Why} {an bn at_:ByteArray} {al bl:List ByteArray} {ak bk:List Ty}:ad5 rec 12 an al ak bn bl bk at_=amn rec (at_ ++⟨#[91,93]⟩) ak bk 0:=rfl
theorem a5u {rec:Ty→Ty→ByteArray→Why} {an bn at_:ByteArray} {al bl:List ByteArray} {ak bk:List Ty}:ad5 rec 13 an al ak bn bl bk at_=amn rec (at_ ++⟨#[63]⟩) ak bk 0:=rfl
theorem aui {rec:Ty→Ty→ByteArray→Why} {an bn at_:ByteArray} {al bl:List ByteArray} {ak bk:List Ty}:ad5 rec 14 an al ak bn bl bk at_=match amn rec (at_ ++⟨#[46,111,107]⟩) ak bk 0 with
  | some r=>some r
  | none=>amn rec (at_ ++⟨#[46,101,114,114]⟩) ak bk 1:=rfl
def aow (rec:Ty→Ty→ByteArray→Why) (at_:ByteArray) (ak bk:List Ty):Why:=if ak.length=bk.length then aa0 (an8 rec at_ ak bk) ak.length else some (3,at_)
theorem a5v {rec:Ty→Ty→ByteArray→Why} {an bn at_:ByteArray} {al bl:List ByteArray} {ak bk:List Ty}:ad5 rec 15 an al ak bn bl bk at_=aow rec at_ ak bk:=rfl
theorem a5w {rec:Ty→Ty→ByteArray→Why} {an bn at_:ByteArray} {al bl:List ByteArray} {ak bk:List Ty}:ad5 rec 16 an al ak bn bl bk at_=ajt (fun x y=>rec y x) 4 at_ bl bk al ak:=rfl
theorem aq2 {rec:Ty→Ty→ByteArray→Why} {c:Int} {an bn at_:ByteArray} {al bl:List ByteArray} {ak bk:List Ty} (h:c=17∨c=18∨c=19):ad5 rec c an al ak bn bl bk at_=ajt rec 5 at_ al ak bl bk:=by rcases h with rfl|rfl|rfl<;>rfl
theorem aq3 {rec:Ty→Ty→ByteArray→Why} {c:Int} {an bn at_:ByteArray} {al bl:List ByteArray} {ak bk:List Ty} (h:c=20∨c=21):ad5 rec c an al ak bn bl bk at_=if an=bn then none else some (6,at_):=by rcases h with rfl|rfl<;>rfl
theorem a1t {rec:Ty→Ty→ByteArray→Why} {c:Int} {an bn at_:ByteArray} {al bl:List ByteArray} {ak bk:List Ty} {x y:Ty} (h:c=22∨c=23) (hx:ak[0]?=some x) (hy:bk[0]?=some y):ad5 rec c an al ak bn bl bk at_=if afa 100 x y then none else some (3,at_):=by
 rcases h with rfl|rfl<;>simp[ad5,hx,hy]
theorem azh {rec:Ty→Ty→ByteArray→Why} {c:Int} {an bn at_:ByteArray} {al bl:List ByteArray} {ak bk:List Ty} (h:¬ (12≤c∧c≤23)):ad5 rec c an al ak bn bl bk at_=none:=by
 rw[ad5,if_neg (by omega),if_neg (by omega),if_neg (by omega),if_neg (by omega),if_neg (by omega),if_neg (by omega),if_neg (by omega),if_neg (by omega)]
set_option maxHeartbeats 800000 in
theorem afs (s:ByteArray) (hs:s.size≤maxLen) (w:World):
  Calls Tryz.prog 89 #[.string s] w fun e w'=>e=.returned (.bool (aag s))∧w=w':=by
 unfold maxLen at hs
 by_cases h1:1≤s.size
 case neg=>
  have HN:Hid (aag s=false):=by show _=_;simp only[aag,a0r (show((s.size:Nat):Int) < 1 by omega),Bool.and_false,Bool.false_and]
  go_enter Tryz.func89,Tryz.ntmps89
  go_wp2_with fail
  go_ret
  exact⟨ah HN.out.symm,rfl⟩
 by_cases h2:s.size≤12
 case neg=>
  have HN:Hid (aag s=false):=by show _=_;simp only[aag,a0s (show(12:Int) < ((s.size:Nat):Int) by omega),Bool.and_false,Bool.false_and]
  go_enter Tryz.func89,Tryz.ntmps89
  go_wp2_with fail
  go_ret
  exact⟨ah HN.out.symm,rfl⟩
 have h0:0 < s.size:=by omega
 have hl:s.size - 1 < s.size:=by omega
 by_cases h3:97≤(s[0].toNat:Int)∧(s[0].toNat:Int)≤122
 case neg=>
  have HN:Hid (aag s=false):=anb h0 (by
   rw[agw,aep h0]
   simp only[Nat.lt_irrefl,decide_false,Bool.false_and,Bool.or_false]
   rw[af4]
   omega)
  by_cases h4:(s[0].toNat:Int) < 97
  ·go_enter Tryz.func89,Tryz.ntmps89
   go_wp2_with fail
   go_ret
   exact⟨ah HN.out.symm,rfl⟩
  ·have h5:122 < (s[0].toNat:Int):=by omega
   go_enter Tryz.func89,Tryz.ntmps89
   go_wp2_with fail
   go_ret
   exact⟨ah HN.out.symm,rfl⟩
 obtain⟨h3a,h3b⟩:=h3
 cases h4:((s[s.size - 1].toNat:Int) ==45)
 case true=>
  have HN:Hid (aag s=false):=by
   show _=_
   have e:s[s.size - 1]=45:=(ajj _).2 (by have:=beq_iff_eq.1 h4;omega)
   rw[aag,aep hl,e]
   simp
  go_enter Tryz.func89,Tryz.ntmps89
  go_wp2_with fail
  go_ret
  exact⟨ah HN.out.symm,rfl⟩
 have HL:Hid ((s.data.toList[s.size - 1]? ==some 45)=false):=by
  show _=_
  rw[aep hl]
  have e:s[s.size - 1]≠45:=fun e=>by rw[(ajj _).1 e] at h4;simp at h4
  simp[e]
 have H0:=Lib.hid (And.intro h3a h3b)
 go_enter Tryz.func89,Tryz.ntmps89
 go_wp2_with fail
 clear h4 hl h3a h3b
 go_loop [3] (fun i=>∃ k:Nat,k≤s.size∧i=.int .i64 k∧Hid (∀ j,j < k→agw s j=true)) (fun i=>s.size - (intOf i).toNat)
 case atStart=>exact⟨0,Nat.zero_le _,rfl,Lib.hid fun j h=>absurd h (by omega)⟩
 case round=>
  obtain⟨k,hk,rfl,HP⟩:=hrel
  by_cases hlt:k < s.size
  ·by_cases ha:97≤(s[k].toNat:Int)∧(s[k].toNat:Int)≤122
   ·obtain⟨ha1,ha2⟩:=ha
    have HB:=Lib.hid (aop HP.out (show agw s k=true by rw[agw,aep hlt];simp[agi ha1 ha2]))
    have e45:((s[k].toNat:Int) ==45)=false:=by simp;omega
    go_wp2_with fail
    go_round
    case rel=>exact⟨k+1,by omega,by go_num,HB⟩
    case measure=>simp[intOf];omega
   have hk0:0 < k:=by
    rcases Nat.eq_zero_or_pos k with e|e
    ·subst e
     exact absurd H0.out ha
    ·exact e
   by_cases hd:48≤(s[k].toNat:Int)∧(s[k].toNat:Int)≤57
   ·obtain⟨hd1,hd2⟩:=hd
    have HB:=Lib.hid (aop HP.out (show agw s k=true by rw[agw,aep hlt];simp[agi hd1 hd2,hk0]))
    have e45:((s[k].toNat:Int) ==45)=false:=by simp;omega
    have ha':(s[k].toNat:Int) < 97:=by omega
    clear ha
    go_wp2_with fail
    go_round
    case rel=>exact⟨k+1,by omega,by go_num,HB⟩
    case measure=>simp[intOf];omega
   cases he:((s[k].toNat:Int) ==45)
   ·have hne:((s[k].toNat:Int) != 45)=true:=by rw[bne,he];rfl
    have HB:Hid (aag s=false):=anb hlt (by
     rw[agw,aep hlt]
     have h1:inB (s[k].toNat:Int) 97 122=false:=af4.2 (by omega)
     have h2:inB (s[k].toNat:Int) 48 57=false:=af4.2 (by omega)
     have h3:(s[k].toNat ==45)=false:=by simp only[beq_eq_false_iff_ne,ne_eq] at he ⊢;omega
     simp[h1,h2,h3])
    by_cases hx:(s[k].toNat:Int) < 48
    ·have hx':(s[k].toNat:Int) < 97:=by omega
     clear ha hd
     go_wp2_with fail
     go_ret
     exact⟨ah HB.out.symm,rfl⟩
    by_cases hy:(s[k].toNat:Int) < 97
    ·have hx':(57:Int) < (s[k].toNat:Int):=by omega
     clear ha hd
     go_wp2_with fail
     go_ret
     exact⟨ah HB.out.symm,rfl⟩
    ·have hx':(122:Int) < (s[k].toNat:Int):=by omega
     clear ha hd
     go_wp2_with fail
     go_ret
     exact⟨ah HB.out.symm,rfl⟩
   ·have hne:((s[k].toNat:Int) != 45)=false:=by rw[bne,he];rfl
    have hx':(s[k].toNat:Int) < 48:=by have:=beq_iff_eq.1 he;omega
    have hl:k - 1 < s.size:=by omega
    have h45:(s[k].toNat ==45)=true:=by have:=beq_iff_eq.1 he;simp;omega
    cases hp:((s[k - 1].toNat:Int) ==45)
    ·have HB:=Lib.hid (aop HP.out (show agw s k=true by
      rw[agw,aep hlt,aep hl]
      have e:s[k - 1]≠45:=fun e=>by rw[(ajj _).1 e] at hp;simp at hp
      simp[hk0,h45,e]))
     clear ha hd h45
     go_wp2_with fail
     go_round
     case rel=>exact⟨k+1,by omega,by go_num,HB⟩
     case measure=>simp[intOf];omega
    ·have HB:Hid (aag s=false):=anb hlt (by
      rw[agw,aep hlt,aep hl]
      have e:s[k - 1]=45:=(ajj _).2 (by have:=beq_iff_eq.1 hp;omega)
      have h1:inB (s[k].toNat:Int) 97 122=false:=af4.2 (by omega)
      have h2:inB (s[k].toNat:Int) 48 57=false:=af4.2 (by omega)
      simp[e,h1,h2])
     clear ha hd h45
     go_wp2_with fail
     go_ret
     exact⟨ah HB.out.symm,rfl⟩
  ·have hkn:k=s.size:=by omega
   subst hkn
   have HB:Hid (aag s=true):=by
    show _=_
    rw[a94 HP.out,HL.out,agi (by omega) (by omega)]
    rfl
   go_wp2_with fail
   go_ret
   exact⟨ah HB.out.symm,rfl⟩
set_option maxHeartbeats 1600000 in
theorem aeo (s:ByteArray) (hs:s.size≤maxLen) (w:World):
  Calls Tryz.prog 60 #[.string s] w fun e w'=>e=.returned (.bool (aag s))∧Below w.heap.size w w':=by
 unfold maxLen at hs
 go_enter Tryz.func60,Tryz.ntmps60
 go_wp2_with fail
 go_loopw [8] (fun i wr=>∃ k:Nat,k≤s.size∧i=.int .i64 k∧Hid (∀ j,j < k→agw s j=true)∧∃ q,wr=w.drewN q) (fun i _=>s.size - (intOf i).toNat)
 case atStart=>exact⟨0,Nat.zero_le _,rfl,Lib.hid fun j h=>absurd h (by omega),0,rfl⟩
 case round=>
  obtain⟨k,hk,rfl,HP,q,rfl⟩:=hrel
  by_cases hlt:k < s.size
  ·by_cases ha:97≤(s[k].toNat:Int)∧(s[k].toNat:Int)≤122
   ·obtain⟨ha1,ha2⟩:=ha
    have HB:=Lib.hid (aop HP.out (show agw s k=true by rw[agw,aep hlt];simp[agi ha1 ha2]))
    have d0:decide ((97:Int)≤(s[k].toNat:Int))=true:=by simp;omega
    have d1:decide ((s[k].toNat:Int)≤122)=true:=by simp;omega
    have d2:decide ((48:Int)≤(s[k].toNat:Int))=true:=by simp;omega
    have d3:decide ((s[k].toNat:Int)≤57)=false:=by simp;omega
    go_wp2_with fail
    go_quiet (fail)
    clear d0 d2
    go_wp2_with fail
    go_roundw
    case rel=>exact⟨k+1,by omega,by go_num,HB,_,rfl⟩
    case measure=>simp[intOf];omega
   by_cases hd:48≤(s[k].toNat:Int)∧(s[k].toNat:Int)≤57
   ·obtain⟨hd1,hd2⟩:=hd
    clear ha
    rcases Nat.eq_zero_or_pos k with e0|e0
    ·subst e0
     have HB:Hid (aag s=false):=anb hlt (by
      rw[agw,aep hlt]
      have h1:inB (s[0].toNat:Int) 97 122=false:=af4.2 (by omega)
      simp[h1])
     have d0:decide ((97:Int)≤(s[0].toNat:Int))=false:=by simp;omega
     have d1:decide ((s[0].toNat:Int)≤122)=true:=by simp;omega
     have d2:decide ((48:Int)≤(s[0].toNat:Int))=true:=by simp;omega
     have d3:decide ((s[0].toNat:Int)≤57)=true:=by simp;omega
     go_wp2_with fail
     go_quiet (fail)
     clear d0 d2
     go_wp2_with fail
     all_goals go_ret
     all_goals exact⟨ah HB.out.symm,below_drewN (Below.refl _ _) _⟩
    ·have HB:=Lib.hid (aop HP.out (show agw s k=true by rw[agw,aep hlt];simp[agi hd1 hd2,e0]))
     have k0:((k:Int) ==0)=false:=by simp;omega
     have d0:decide ((97:Int)≤(s[k].toNat:Int))=false:=by simp;omega
     have d1:decide ((s[k].toNat:Int)≤122)=true:=by simp;omega
     have d2:decide ((48:Int)≤(s[k].toNat:Int))=true:=by simp;omega
     have d3:decide ((s[k].toNat:Int)≤57)=true:=by simp;omega
     go_wp2_with fail
     go_quiet (fail)
     clear d0 d2
     go_wp2_with fail
     go_roundw
     case rel=>exact⟨k+1,by omega,by go_num,HB,_,rfl⟩
     case measure=>simp[intOf];omega
   cases he:((s[k].toNat:Int) ==45)
   ·have hne:((s[k].toNat:Int) != 45)=true:=by rw[bne,he];rfl
    have HB:Hid (aag s=false):=anb hlt (by
     rw[agw,aep hlt]
     have h1:inB (s[k].toNat:Int) 97 122=false:=af4.2 (by omega)
     have h2:inB (s[k].toNat:Int) 48 57=false:=af4.2 (by omega)
     have h3:(s[k].toNat ==45)=false:=by simp only[beq_eq_false_iff_ne,ne_eq] at he ⊢;omega
     simp[h1,h2,h3])
    by_cases hx:(s[k].toNat:Int) < 48
    ·clear ha hd
     have d0:decide ((97:Int)≤(s[k].toNat:Int))=false:=by simp;omega
     have d1:decide ((s[k].toNat:Int)≤122)=true:=by simp;omega
     have d2:decide ((48:Int)≤(s[k].toNat:Int))=false:=by simp;omega
     have d3:decide ((s[k].toNat:Int)≤57)=true:=by simp;omega
     go_wp2_with fail
     go_quiet (fail)
     clear d0 d2
     go_wp2_with fail
     all_goals go_ret
     all_goals exact⟨ah HB.out.symm,below_drewN (Below.refl _ _) _⟩
    by_cases hy:(s[k].toNat:Int) < 97
    ·have hy2:57 < (s[k].toNat:Int):=by omega
     clear ha hd
     have d0:decide ((97:Int)≤(s[k].toNat:Int))=false:=by simp;omega
     have d1:decide ((s[k].toNat:Int)≤122)=true:=by simp;omega
     have d2:decide ((48:Int)≤(s[k].toNat:Int))=true:=by simp;omega
     have d3:decide ((s[k].toNat:Int)≤57)=false:=by simp;omega
     go_wp2_with fail
     go_quiet (fail)
     clear d0 d2
     go_wp2_with fail
     all_goals go_ret
     all_goals exact⟨ah HB.out.symm,below_drewN (Below.refl _ _) _⟩
    ·have hy2:122 < (s[k].toNat:Int):=by omega
     clear ha hd
     have d0:decide ((97:Int)≤(s[k].toNat:Int))=true:=by simp;omega
     have d1:decide ((s[k].toNat:Int)≤122)=false:=by simp;omega
     have d2:decide ((48:Int)≤(s[k].toNat:Int))=true:=by simp;omega
     have d3:decide ((s[k].toNat:Int)≤57)=false:=by simp;omega
     go_wp2_with fail
     go_quiet (fail)
     clear d0 d2
     go_wp2_with fail
     all_goals go_ret
     all_goals exact⟨ah HB.out.symm,below_drewN (Below.refl _ _) _⟩
   ·have hne:((s[k].toNat:Int) != 45)=false:=by rw[bne,he];rfl
    have hx':(s[k].toNat:Int) < 48:=by have:=beq_iff_eq.1 he;omega
    have h45:(s[k].toNat ==45)=true:=by have:=beq_iff_eq.1 he;simp;omega
    rcases Nat.eq_zero_or_pos k with e0|e0
    ·subst e0
     have HB:Hid (aag s=false):=anb hlt (by
      rw[agw,aep hlt]
      have h1:inB (s[0].toNat:Int) 97 122=false:=af4.2 (by omega)
      simp[h1])
     clear ha hd h45
     have d0:decide ((97:Int)≤(s[0].toNat:Int))=false:=by simp;omega
     have d1:decide ((s[0].toNat:Int)≤122)=true:=by simp;omega
     have d2:decide ((48:Int)≤(s[0].toNat:Int))=false:=by simp;omega
     have d3:decide ((s[0].toNat:Int)≤57)=true:=by simp;omega
     go_wp2_with fail
     go_quiet (fail)
     clear d0 d2
     go_wp2_with fail
     all_goals go_ret
     all_goals exact⟨ah HB.out.symm,below_drewN (Below.refl _ _) _⟩
    have k0:((k:Int) ==0)=false:=by simp;omega
    have hl:k - 1 < s.size:=by omega
    cases hp:((s[k - 1].toNat:Int) ==45)
    ·have HB:=Lib.hid (aop HP.out (show agw s k=true by
      rw[agw,aep hlt,aep hl]
      have e:s[k - 1]≠45:=fun e=>by rw[(ajj _).1 e] at hp;simp at hp
      simp[e0,h45,e]))
     clear ha hd h45
     have d0:decide ((97:Int)≤(s[k].toNat:Int))=false:=by simp;omega
     have d1:decide ((s[k].toNat:Int)≤122)=true:=by simp;omega
     have d2:decide ((48:Int)≤(s[k].toNat:Int))=false:=by simp;omega
     have d3:decide ((s[k].toNat:Int)≤57)=true:=by simp;omega
     go_wp2_with fail
     go_quiet (fail)
     clear d0 d2
     go_wp2_with fail
     go_roundw
     case rel=>exact⟨k+1,by omega,by go_num,HB,_,rfl⟩
     case measure=>simp[intOf];omega
    ·have HB:Hid (aag s=false):=anb hlt (by
      rw[agw,aep hlt,aep hl]
      have e:s[k - 1]=45:=(ajj _).2 (by have:=beq_iff_eq.1 hp;omega)
      have h1:inB (s[k].toNat:Int) 97 122=false:=af4.2 (by omega)
      have h2:inB (s[k].toNat:Int) 48 57=false:=af4.2 (by omega)
      simp[e,h1,h2])
     clear ha hd h45
     have d0:decide ((97:Int)≤(s[k].toNat:Int))=false:=by simp;omega
     have d1:decide ((s[k].toNat:Int)≤122)=true:=by simp;omega
     have d2:decide ((48:Int)≤(s[k].toNat:Int))=false:=by simp;omega
     have d3:decide ((s[k].toNat:Int)≤57)=true:=by simp;omega
     go_wp2_with fail
     go_quiet (fail)
     clear d0 d2
     go_wp2_with fail
     all_goals go_ret
     all_goals exact⟨ah HB.out.symm,below_drewN (Below.refl _ _) _⟩
  ·have hkn:k=s.size:=by omega
   subst hkn
   have HW:=Lib.hid (a94 HP.out)
   by_cases h1:1≤s.size
   ·by_cases h2:s.size≤12
    ·have hl:s.size - 1 < s.size:=by omega
     cases hp:((s[s.size - 1].toNat:Int) ==45)
     ·have hne:((s[s.size - 1].toNat:Int) != 45)=true:=by rw[bne,hp];rfl
      have HB:Hid (aag s=true):=by
       show _=_
       have e:s[s.size - 1]≠45:=fun e=>by rw[(ajj _).1 e] at hp;simp at hp
       rw[HW.out,aep hl,agi (by omega) (by omega)]
       simp[e]
      go_wp2_with fail
      all_goals go_ret
      all_goals exact⟨ah HB.out.symm,below_drewN (Below.refl _ _) _⟩
     ·have hne:((s[s.size - 1].toNat:Int) != 45)=false:=by rw[bne,hp];rfl
      have HB:Hid (aag s=false):=by
       show _=_
       have e:s[s.size - 1]=45:=(ajj _).2 (by have:=beq_iff_eq.1 hp;omega)
       rw[HW.out,aep hl,e]
       simp
      go_wp2_with fail
      all_goals go_ret
      all_goals exact⟨ah HB.out.symm,below_drewN (Below.refl _ _) _⟩
    ·have HB:Hid (aag s=false):=by
      show _=_
      rw[HW.out,a0s (by omega)]
      rfl
     go_wp2_with fail
     all_goals go_ret
     all_goals exact⟨ah HB.out.symm,below_drewN (Below.refl _ _) _⟩
   ·have HB:Hid (aag s=false):=by
     show _=_
     rw[HW.out,a0r (by omega)]
     rfl
    go_wp2_with fail
    all_goals go_ret
    all_goals exact⟨ah HB.out.symm,below_drewN (Below.refl _ _) _⟩
end Go.Proofs.YtbafphecjijdmaaGreatDoor
