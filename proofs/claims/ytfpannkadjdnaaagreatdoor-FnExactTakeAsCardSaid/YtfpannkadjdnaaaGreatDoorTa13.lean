/-
  Values that fit a type, as the reference asks it: plain. No program in sight. (and 1 more texts)
-/
import Derived.Test.YtfpannkadjdnaaaGreatDoorTa12
import Derived.Test.YtfpannkadjdnaaaGreatDoorTa09
import Derived.Test.YtfpannkadjdnaaaGreatDoorTa10
namespace Go.Proofs.YtfpannkadjdnaaaGreatDoor
open Go.RowKit
set_option linter.all false
def agc (rec:Val→Ty→Bool) (vs:List Val) (most:Nat) (t:Ty):Bool:=decide (vs.length≤most) && vs.all (fun v=>rec v t)
def an3 (rec:Val→Ty→Bool) (vs:List Val) (t:Ty):Bool:=if t.kind=1 then decide (vs.length=0)else decide (vs.length=1) && vs.all (fun v=>rec v t)
section
variable {rec:Val→Ty→Bool} {vs:List Val} {ts:List Ty}
theorem aw5 {t:Ty} (h:∀ k,k < vs.length→ts[k]?=some t):(List.range vs.length).all (ah1 rec vs ts)=vs.all (fun v=>rec v t):=by
 rw[Bool.eq_iff_iff,List.all_eq_true,List.all_eq_true];constructor
 ·intro hh v hv
  obtain⟨k,hk,rfl⟩:=List.getElem_of_mem hv;have:=hh k (List.mem_range.2 hk);rw[ah1,List.getElem?_eq_getElem hk,h k hk] at this;exact this
 ·intro hh k hk
  have hk:=List.mem_range.1 hk;rw[ah1,List.getElem?_eq_getElem hk,h k hk];exact hh _ (List.getElem_mem _)
theorem aix (h:¬ ts.length=vs.length):xw rec vs ts=false:=by rw[xw,decide_eq_false h];rfl
theorem aoj:xw rec vs []=decide (vs.length=0):=by
 cases vs with
 | nil=>rfl
 | cons v r=>exact aix (by simp)
theorem asc (t:Ty):xw rec vs [t]=(decide (vs.length=1) && vs.all (fun v=>rec v t)):=by
 by_cases h:vs.length=1
 ·rw[xw,decide_eq_true h,decide_eq_true (by rw[h];rfl),aw5 (t:=t) (fun k hk=>by rw[show k=0 by omega];rfl)]
 ·rw[aix (fun e=>h e.symm),decide_eq_false h];rfl
theorem amb (vn:Int) (k0:Ty):og 12 vn vs.length [k0]=List.replicate (min vs.length 8) k0:=by
 rw[og,if_pos rfl];exact List.flatten_replicate_singleton
theorem bs3 (vn:Int) (k0:Ty):xw rec vs (og 12 vn vs.length [k0])=agc rec vs 8 k0:=by
 rw[amb,agc];by_cases h:vs.length≤8
 ·rw[xw,decide_eq_true h,List.length_replicate,decide_eq_true (by omega),aw5 (t:=k0) (fun k hk=>by rw[List.getElem?_replicate,if_pos (by omega)])]
 ·rw[aix (by rw[List.length_replicate];omega),decide_eq_false h];rfl
theorem a0y (n:Nat) (ks:List Ty):og 13 0 n ks=[]:=rfl
theorem a0z (n:Nat) (k0:Ty) (h:¬ k0.kind=1):og 13 1 n [k0]=[k0]:=by
 show ag9 (some k0)=_;rw[ag9,if_neg h]
theorem bs4 (vn:Int) (k0:Ty) (h:¬ k0.kind=1):(inB vn 0 1 && xw rec vs (og 13 vn vs.length [k0]))=(decide (vn=(vs.length:Int)) && agc rec vs 1 k0):=by
 by_cases h0:vn=0
 ·subst h0
  rw[a0y,aoj];cases vs with
  | nil=>rfl
  | cons v r=>rw[decide_eq_false (by simp),decide_eq_false (by simp;omega)];rfl
 by_cases h1:vn=1
 ·subst h1
  rw[a0z _ _ h,asc,agc];by_cases hl:vs.length=1
  ·rw[decide_eq_true hl,decide_eq_true (show(1:Int)=(vs.length:Int) by omega),decide_eq_true (by omega)];rfl
  ·rw[decide_eq_false hl,decide_eq_false (show ¬ (1:Int)=(vs.length:Int) by omega)];rfl
 ·have hb:inB vn 0 1=false:=by rw[aec];omega
  rw[hb,agc];by_cases hl:vs.length≤1
  ·rw[decide_eq_false (show ¬ vn=(vs.length:Int) by omega)];rfl
  ·rw[decide_eq_false hl];simp
theorem apg {kind vn:Int} (hk:kind=14∨kind=17) (h0:0≤vn) (ks:List Ty):caseT kind vn ks=ks[vn.toNat]?:=by
 rw[caseT,if_neg (by omega),if_pos h0]
theorem ajy {kind vn:Int} (hk:kind=14∨kind=17) (h0:0≤vn) {t:Ty} (n:Nat) (ks:List Ty) (ht:ks[vn.toNat]?=some t):og kind vn n ks=if t.kind=1 then [] else [t]:=by
 rw[og,if_neg (by omega),if_neg (by omega),if_pos (by omega),apg hk h0,ht];rfl
theorem azb {kind vn:Int} (hk:kind=14∨kind=17) (h0:0≤vn) {t:Ty} (ks:List Ty) (ht:ks[vn.toNat]?=some t):xw rec vs (og kind vn vs.length ks)=an3 rec vs t:=by
 rw[ajy hk h0 _ _ ht,an3];by_cases h:t.kind=1
 ·rw[if_pos h,if_pos h,aoj]
 ·rw[if_neg h,if_neg h,asc]
theorem agz {kind vn:Int} (hk:kind=15∨kind=16) (n:Nat) (ks:List Ty):og kind vn n ks=ks:=by
 rw[og,if_neg (by omega),if_pos hk]
theorem aiy {kind vn:Int} (hk:¬ (12≤kind∧kind≤17)) (n:Nat) (ks:List Ty):og kind vn n ks=[]:=by
 rw[og,if_neg (by omega),if_neg (by omega),if_neg (by omega)]
theorem ae1 {kind vn:Int} (hk:¬ (12≤kind∧kind≤17)) (ks:List Ty):xw rec vs (og kind vn vs.length ks)=decide (vs.length=0):=by
 rw[aiy hk,aoj]
theorem ajn (h:xw rec vs ts=true) {k:Nat} {v:Val} {t:Ty} (hv:vs[k]?=some v) (ht:ts[k]?=some t):rec v t=true:=by
 rw[xw,Bool.and_eq_true] at h;have:=List.all_eq_true.1 h.2 k (List.mem_range.2 (List.getElem?_eq_some_iff.1 hv).1);rw[ah1,hv,ht] at this;exact this
theorem aic (h:xw rec vs ts=true):ts.length=vs.length:=by
 rw[xw,Bool.and_eq_true] at h;exact of_decide_eq_true h.1
end
theorem avz {n:Nat} {vk vn:Int} {vt:ByteArray} {vks:List Val} {tk:Int} {tn:ByteArray} {tl:List ByteArray} {tks:List Ty}:
  uq (n+1) ⟨vk,vn,vt,vks⟩ ⟨tk,tn,tl,tks⟩=(decide (vk=tk) && ay9 (uq n) tk tl.length tks vn vt vks):=rfl
structure byd (n:Nat) (vk vn:Int) (vt:ByteArray) (vks:List Val) (tk:Int) (nl:Nat) (tks:List Ty):Prop where
 kind:vk=tk
 num:adu tk nl vn=true
 text:as1 vt=true
 kids:xw (uq n) vks (og tk vn vks.length tks)=true
theorem bdj {n:Nat} {vk vn:Int} {vt:ByteArray} {vks:List Val} {tk:Int} {tn:ByteArray} {tl:List ByteArray} {tks:List Ty} (h:uq (n+1) ⟨vk,vn,vt,vks⟩ ⟨tk,tn,tl,tks⟩=true):byd n vk vn vt vks tk tl.length tks:=by
 rw[avz,ay9,Bool.and_eq_true,Bool.and_eq_true,Bool.and_eq_true,Bool.and_eq_true] at h;exact⟨of_decide_eq_true h.1,h.2.1,h.2.2.2.1,h.2.2.2.2⟩
theorem afc {k:Int} (h:k=2∨k=13∨k=14) (nl:Nat) (n:Int):adu k nl n=inB n 0 1:=by rcases h with rfl|rfl|rfl<;>rfl
theorem af0 {k:Int} (h:isNum k=true) (nl:Nat) (n:Int):adu k nl n=inB n (zu k) (zx k):=by
 have h2:3≤k∧k≤9:=abm.1 h;rw[adu,if_neg (by omega),a5g,if_neg (by omega),if_pos h]
theorem aie {k:Int} (h:k=17∨k=18) (nl:Nat) (n:Int):adu k nl n=inB n 0 ((nl:Int) - 1):=by rcases h with rfl|rfl<;>rfl
theorem am0 (nl:Nat) (n:Int):adu 19 nl n=inB n 0 (2 ^ nl - 1):=rfl
theorem aif {k:Int} (h:k=20∨k=21∨k=22∨k=23) (nl:Nat) (n:Int):adu k nl n=inB n 0 2147483647:=by rcases h with rfl|rfl|rfl|rfl<;>rfl
theorem ahm {k:Int} (h:k=1∨k=11∨k=12∨k=15∨k=16) (nl:Nat) (n:Int):adu k nl n=inB n 0 0:=by rcases h with rfl|rfl|rfl|rfl|rfl<;>rfl
theorem av1 {kind:Int} {name:ByteArray} {labels:List ByteArray} {kids:List Ty} (h:Ty.shapes ⟨kind,name,labels,kids⟩=true):1≤kind∧kind≤23:=by
 have hr:=(shF h).right;by_cases h1:1≤kind∧kind≤23
 ·exact h1
 ·rw[jk,if_neg (by omega),if_neg (by omega),if_neg (by omega),if_neg (by omega),if_neg (by omega),if_neg (by omega),Bool.and_eq_true] at hr
  exact abm.1 hr.1
theorem ab7 {kind:Int} {name:ByteArray} {labels:List ByteArray} {kids:List Ty} (h:Ty.shapes ⟨kind,name,labels,kids⟩=true):labels.length≤16:=by
 have sf:=shF h;by_cases hk:inB kind 16 19=true
 ·exact(sf.asy hk).1
 ·rw[Ty.shapes,Bool.and_eq_true] at h
  have h1:((if named kind then abh name else decide (name.size=0)) && (if inB kind 16 19 then aaj labels else decide (labels.length=0)) && jk kind labels.length kids)=true:=h.1;simp only[Bool.and_eq_true] at h1;have h2:=h1.1.2;rw[if_neg hk] at h2;have:=of_decide_eq_true h2;omega
theorem afm {kind vn:Int} {n:Nat} {ks:List Ty} {t:Ty} (h:t ∈ og kind vn n ks):t ∈ ks:=by
 rw[og] at h;split at h
 ·obtain⟨l,hl,ht⟩:=List.mem_flatten.1 h
  rw[(List.mem_replicate.1 hl).2] at ht;exact ht
 split at h
 ·exact h
 split at h
 ·have key:∀ o:Option Ty,t ∈ ag9 o→o=some t∧¬ t.kind=1:=fun o ho=>by
   cases o with
   | none=>simp[ag9] at ho
   | some s=>
    rw[ag9] at ho;split at ho
    ·simp at ho
    ·next hk=>simp at ho;subst ho;exact⟨rfl,hk⟩
  obtain⟨h1,h2⟩:=key _ h;rw[caseT] at h1;split at h1
  ·split at h1
   ·cases h1;exact absurd rfl h2
   ·split at h1
    ·exact List.mem_of_getElem? h1
    ·cases h1
  ·split at h1
   ·exact List.mem_of_getElem? h1
   ·cases h1
 ·simp at h
theorem akt {kind vn:Int} {name:ByteArray} {labels:List ByteArray} {kids:List Ty} (h:Ty.shapes ⟨kind,name,labels,kids⟩=true) (hn:adu kind labels.length vn=true) (hk:kind=13∨kind=14∨kind=17):
  (0≤vn∧vn≤4611686018427387904)∧∃ s,caseT kind vn kids=some s:=by
 have sf:=shF h;have hl:=ab7 h;rcases hk with rfl|rfl|rfl
 ·rw[afc (by omega)] at hn
  have hb:=abm.1 hn;have h1:=ade (.inr (.inl rfl)) sf.right;refine⟨by omega,?_⟩;rw[caseT,if_pos rfl];by_cases h0:vn=0
  ·exact⟨_,if_pos h0⟩
  ·rw[if_neg h0,if_pos (by omega),show(vn - 1).toNat=0 by omega]
   exact⟨kids[0],List.getElem?_eq_getElem (by omega)⟩
 ·rw[afc (by omega)] at hn
  have hb:=abm.1 hn;have h1:=ai7 sf.right;refine⟨by omega,?_⟩;rw[apg (.inl rfl) (by omega)];exact⟨_,List.getElem?_eq_getElem (show vn.toNat < kids.length by omega)⟩
 ·rw[aie (by omega)] at hn
  have hb:=abm.1 hn;have h1:=afz (.inr rfl) sf.right;refine⟨by omega,?_⟩;rw[apg (.inr rfl) (by omega)];exact⟨_,List.getElem?_eq_getElem (show vn.toNat < kids.length by omega)⟩
set_option maxHeartbeats 800000 in
theorem af2 (s:ByteArray) (hs:s.size≤maxLen) (w:World):
  Calls Tryz.prog 101 #[.string s] w fun e w'=>e=.returned (.bool (abh s))∧w=w':=by
 unfold maxLen at hs;by_cases h1:1≤s.size
 case neg=>
  have HN:Hid (abh s=false):=by show _=_;simp only[abh,aye (show((s.size:Nat):Int) < 1 by omega),Bool.and_false,Bool.false_and]
  go_enter Tryz.func101,Tryz.ntmps101
  go_wp2_with fail
  go_ret
  exact⟨au HN.out.symm,rfl⟩
 by_cases h2:s.size≤12
 case neg=>
  have HN:Hid (abh s=false):=by show _=_;simp only[abh,ap3 (show(12:Int) < ((s.size:Nat):Int) by omega),Bool.and_false,Bool.false_and]
  go_enter Tryz.func101,Tryz.ntmps101
  go_wp2_with fail
  go_ret
  exact⟨au HN.out.symm,rfl⟩
 have h0:0 < s.size:=by omega
 have hl:s.size - 1 < s.size:=by omega
 by_cases h3:97≤(s[0].toNat:Int)∧(s[0].toNat:Int)≤122
 case neg=>
  have HN:Hid (abh s=false):=aln h0 (by
   rw[afy,adv h0];simp only[Nat.lt_irrefl,decide_false,Bool.false_and,Bool.or_false];rw[aec];omega)
  by_cases h4:(s[0].toNat:Int) < 97
  ·go_enter Tryz.func101,Tryz.ntmps101
   go_wp2_with fail
   go_ret
   exact⟨au HN.out.symm,rfl⟩
  ·have h5:122 < (s[0].toNat:Int):=by omega
   go_enter Tryz.func101,Tryz.ntmps101
   go_wp2_with fail
   go_ret
   exact⟨au HN.out.symm,rfl⟩
 obtain⟨h3a,h3b⟩:=h3;cases h4:((s[s.size - 1].toNat:Int) ==45)
 case true=>
  have HN:Hid (abh s=false):=by
   show _=_;have e:s[s.size - 1]=45:=(aib _).2 (by have:=beq_iff_eq.1 h4;omega);rw[abh,adv hl,e];simp
  go_enter Tryz.func101,Tryz.ntmps101
  go_wp2_with fail
  go_ret
  exact⟨au HN.out.symm,rfl⟩
 have HL:Hid ((s.data.toList[s.size - 1]? ==some 45)=false):=by
  show _=_;rw[adv hl];have e:s[s.size - 1]≠45:=fun e=>by rw[(aib _).1 e] at h4;simp at h4
  simp[e]
 have H0:=zqd (And.intro h3a h3b);go_enter Tryz.func101,Tryz.ntmps101
 go_wp2_with fail
 clear h4 hl h3a h3b;go_loop [3] (fun i=>∃ k:Nat,k≤s.size∧i=.int .i64 k∧Hid (∀ j,j < k→afy s j=true)) (fun i=>s.size - (intOf i).toNat)
 case atStart=>exact⟨0,Nat.zero_le _,rfl,zqd fun j h=>absurd h (by omega)⟩
 case round=>
  obtain⟨k,hk,rfl,HP⟩:=hrel;by_cases hlt:k < s.size
  ·by_cases ha:97≤(s[k].toNat:Int)∧(s[k].toNat:Int)≤122
   ·obtain⟨ha1,ha2⟩:=ha
    have HB:=zqd (am3 HP.out (show afy s k=true by rw[afy,adv hlt];simp[afp ha1 ha2]));have e45:((s[k].toNat:Int) ==45)=false:=by simp;omega
    go_wp2_with fail
    go_round
    case rel=>exact⟨k+1,by omega,by go_num,HB⟩
    case measure=>simp[intOf];omega
   have hk0:0 < k:=by
    rcases Nat.eq_zero_or_pos k with e|e
    ·subst e
     exact absurd H0.out ha
    ·exact e
   by_cases hd:48≤(s[k].toNat:Int)∧(s[k].toNat:Int)≤57
   ·obtain⟨hd1,hd2⟩:=hd
    have HB:=zqd (am3 HP.out (show afy s k=true by rw[afy,adv hlt];simp[afp hd1 hd2,hk0]));have e45:((s[k].toNat:Int) ==45)=false:=by simp;omega
    have ha':(s[k].toNat:Int) < 97:=by omega
    clear ha;go_wp2_with fail
    go_round
    case rel=>exact⟨k+1,by omega,by go_num,HB⟩
    case measure=>simp[intOf];omega
   cases he:((s[k].toNat:Int) ==45)
   ·have hne:((s[k].toNat:Int) != 45)=true:=by rw[bne,he];rfl
    have HB:Hid (abh s=false):=aln hlt (by
     rw[afy,adv hlt];have h1:inB (s[k].toNat:Int) 97 122=false:=aec.2 (by omega);have h2:inB (s[k].toNat:Int) 48 57=false:=aec.2 (by omega);have h3:(s[k].toNat ==45)=false:=by simp only[beq_eq_false_iff_ne,ne_eq] at he ⊢;omega
     simp[h1,h2,h3])
    by_cases hx:(s[k].toNat:Int) < 48
    ·have hx':(s[k].toNat:Int) < 97:=by omega
     clear ha hd;go_wp2_with fail
     go_ret
     exact⟨au HB.out.symm,rfl⟩
    by_cases hy:(s[k].toNat:Int) < 97
    ·have hx':(57:Int) < (s[k].toNat:Int):=by omega
     clear ha hd;go_wp2_with fail
     go_ret
     exact⟨au HB.out.symm,rfl⟩
    ·have hx':(122:Int) < (s[k].toNat:Int):=by omega
     clear ha hd;go_wp2_with fail
     go_ret
     exact⟨au HB.out.symm,rfl⟩
   ·have hne:((s[k].toNat:Int) != 45)=false:=by rw[bne,he];rfl
    have hx':(s[k].toNat:Int) < 48:=by have:=beq_iff_eq.1 he;omega
    have hl:k - 1 < s.size:=by omega
    have h45:(s[k].toNat ==45)=true:=by have:=beq_iff_eq.1 he;simp;omega
    cases hp:((s[k - 1].toNat:Int) ==45)
    ·have HB:=zqd (am3 HP.out (show afy s k=true by
      rw[afy,adv hlt,adv hl];have e:s[k - 1]≠45:=fun e=>by rw[(aib _).1 e] at hp;simp at hp
      simp[hk0,h45,e]))
     clear ha hd h45;go_wp2_with fail
     go_round
     case rel=>exact⟨k+1,by omega,by go_num,HB⟩
     case measure=>simp[intOf];omega
    ·have HB:Hid (abh s=false):=aln hlt (by
      rw[afy,adv hlt,adv hl];have e:s[k - 1]=45:=(aib _).2 (by have:=beq_iff_eq.1 hp;omega);have h1:inB (s[k].toNat:Int) 97 122=false:=aec.2 (by omega);have h2:inB (s[k].toNat:Int) 48 57=false:=aec.2 (by omega);simp[e,h1,h2])
     clear ha hd h45;go_wp2_with fail
     go_ret
     exact⟨au HB.out.symm,rfl⟩
  ·have hkn:k=s.size:=by omega
   subst hkn
   have HB:Hid (abh s=true):=by
    show _=_;rw[a4x HP.out,HL.out,afp (by omega) (by omega)];rfl
   go_wp2_with fail
   go_ret
   exact⟨au HB.out.symm,rfl⟩
set_option maxHeartbeats 1600000 in
theorem af4 (s:ByteArray) (hs:s.size≤maxLen) (w:World):
  Calls Tryz.prog 69 #[.string s] w fun e w'=>e=.returned (.bool (abh s))∧Below w.heap.size w w':=by
 unfold maxLen at hs;go_enter Tryz.func69,Tryz.ntmps69
 go_wp2_with fail
 go_loopw [8] (fun i wr=>∃ k:Nat,k≤s.size∧i=.int .i64 k∧Hid (∀ j,j < k→afy s j=true)∧∃ q,wr=w.drewN q) (fun i _=>s.size - (intOf i).toNat)
 case atStart=>exact⟨0,Nat.zero_le _,rfl,zqd fun j h=>absurd h (by omega),0,rfl⟩
 case round=>
  obtain⟨k,hk,rfl,HP,q,rfl⟩:=hrel;by_cases hlt:k < s.size
  ·by_cases ha:97≤(s[k].toNat:Int)∧(s[k].toNat:Int)≤122
   ·obtain⟨ha1,ha2⟩:=ha
    have HB:=zqd (am3 HP.out (show afy s k=true by rw[afy,adv hlt];simp[afp ha1 ha2]));have d0:decide ((97:Int)≤(s[k].toNat:Int))=true:=by simp;omega
    have d1:decide ((s[k].toNat:Int)≤122)=true:=by simp;omega
    have d2:decide ((48:Int)≤(s[k].toNat:Int))=true:=by simp;omega
    have d3:decide ((s[k].toNat:Int)≤57)=false:=by simp;omega
    go_wp2_with fail
    go_quiet (fail)
    clear d0 d2;go_wp2_with fail
    go_roundw
    case rel=>exact⟨k+1,by omega,by go_num,HB,_,rfl⟩
    case measure=>simp[intOf];omega
   by_cases hd:48≤(s[k].toNat:Int)∧(s[k].toNat:Int)≤57
   ·obtain⟨hd1,hd2⟩:=hd
    clear ha;rcases Nat.eq_zero_or_pos k with e0|e0
    ·subst e0
     have HB:Hid (abh s=false):=aln hlt (by
      rw[afy,adv hlt];have h1:inB (s[0].toNat:Int) 97 122=false:=aec.2 (by omega);simp[h1])
     have d0:decide ((97:Int)≤(s[0].toNat:Int))=false:=by simp;omega
     have d1:decide ((s[0].toNat:Int)≤122)=true:=by simp;omega
     have d2:decide ((48:Int)≤(s[0].toNat:Int))=true:=by simp;omega
     have d3:decide ((s[0].toNat:Int)≤57)=true:=by simp;omega
     go_wp2_with fail
     go_quiet (fail)
     clear d0 d2;go_wp2_with fail
     all_goals go_ret
     all_goals exact⟨au HB.out.symm,below_drewN (zqf _ _) _⟩
    ·have HB:=zqd (am3 HP.out (show afy s k=true by rw[afy,adv hlt];simp[afp hd1 hd2,e0]))
     have k0:((k:Int) ==0)=false:=by simp;omega
     have d0:decide ((97:Int)≤(s[k].toNat:Int))=false:=by simp;omega
     have d1:decide ((s[k].toNat:Int)≤122)=true:=by simp;omega
     have d2:decide ((48:Int)≤(s[k].toNat:Int))=true:=by simp;omega
     have d3:decide ((s[k].toNat:Int)≤57)=true:=by simp;omega
     go_wp2_with fail
     go_quiet (fail)
     clear d0 d2;go_wp2_with fail
     go_roundw
     case rel=>exact⟨k+1,by omega,by go_num,HB,_,rfl⟩
     case measure=>simp[intOf];omega
   cases he:((s[k].toNat:Int) ==45)
   ·have hne:((s[k].toNat:Int) != 45)=true:=by rw[bne,he];rfl
    have HB:Hid (abh s=false):=aln hlt (by
     rw[afy,adv hlt];have h1:inB (s[k].toNat:Int) 97 122=false:=aec.2 (by omega);have h2:inB (s[k].toNat:Int) 48 57=false:=aec.2 (by omega);have h3:(s[k].toNat ==45)=false:=by simp only[beq_eq_false_iff_ne,ne_eq] at he ⊢;omega
     simp[h1,h2,h3])
    by_cases hx:(s[k].toNat:Int) < 48
    ·clear ha hd
     have d0:decide ((97:Int)≤(s[k].toNat:Int))=false:=by simp;omega
     have d1:decide ((s[k].toNat:Int)≤122)=true:=by simp;omega
     have d2:decide ((48:Int)≤(s[k].toNat:Int))=false:=by simp;omega
     have d3:decide ((s[k].toNat:Int)≤57)=true:=by simp;omega
     go_wp2_with fail
     go_quiet (fail)
     clear d0 d2;go_wp2_with fail
     all_goals go_ret
     all_goals exact⟨au HB.out.symm,below_drewN (zqf _ _) _⟩
    by_cases hy:(s[k].toNat:Int) < 97
    ·have hy2:57 < (s[k].toNat:Int):=by omega
     clear ha hd;have d0:decide ((97:Int)≤(s[k].toNat:Int))=false:=by simp;omega
     have d1:decide ((s[k].toNat:Int)≤122)=true:=by simp;omega
     have d2:decide ((48:Int)≤(s[k].toNat:Int))=true:=by simp;omega
     have d3:decide ((s[k].toNat:Int)≤57)=false:=by simp;omega
     go_wp2_with fail
     go_quiet (fail)
     clear d0 d2;go_wp2_with fail
     all_goals go_ret
     all_goals exact⟨au HB.out.symm,below_drewN (zqf _ _) _⟩
    ·have hy2:122 < (s[k].toNat:Int):=by omega
     clear ha hd;have d0:decide ((97:Int)≤(s[k].toNat:Int))=true:=by simp;omega
     have d1:decide ((s[k].toNat:Int)≤122)=false:=by simp;omega
     have d2:decide ((48:Int)≤(s[k].toNat:Int))=true:=by simp;omega
     have d3:decide ((s[k].toNat:Int)≤57)=false:=by simp;omega
     go_wp2_with fail
     go_quiet (fail)
     clear d0 d2;go_wp2_with fail
     all_goals go_ret
     all_goals exact⟨au HB.out.symm,below_drewN (zqf _ _) _⟩
   ·have hne:((s[k].toNat:Int) != 45)=false:=by rw[bne,he];rfl
    have hx':(s[k].toNat:Int) < 48:=by have:=beq_iff_eq.1 he;omega
    have h45:(s[k].toNat ==45)=true:=by have:=beq_iff_eq.1 he;simp;omega
    rcases Nat.eq_zero_or_pos k with e0|e0
    ·subst e0
     have HB:Hid (abh s=false):=aln hlt (by
      rw[afy,adv hlt];have h1:inB (s[0].toNat:Int) 97 122=false:=aec.2 (by omega);simp[h1])
     clear ha hd h45;have d0:decide ((97:Int)≤(s[0].toNat:Int))=false:=by simp;omega
     have d1:decide ((s[0].toNat:Int)≤122)=true:=by simp;omega
     have d2:decide ((48:Int)≤(s[0].toNat:Int))=false:=by simp;omega
     have d3:decide ((s[0].toNat:Int)≤57)=true:=by simp;omega
     go_wp2_with fail
     go_quiet (fail)
     clear d0 d2;go_wp2_with fail
     all_goals go_ret
     all_goals exact⟨au HB.out.symm,below_drewN (zqf _ _) _⟩
    have k0:((k:Int) ==0)=false:=by simp;omega
    have hl:k - 1 < s.size:=by omega
    cases hp:((s[k - 1].toNat:Int) ==45)
    ·have HB:=zqd (am3 HP.out (show afy s k=true by
      rw[afy,adv hlt,adv hl];have e:s[k - 1]≠45:=fun e=>by rw[(aib _).1 e] at hp;simp at hp
      simp[e0,h45,e]))
     clear ha hd h45;have d0:decide ((97:Int)≤(s[k].toNat:Int))=false:=by simp;omega
     have d1:decide ((s[k].toNat:Int)≤122)=true:=by simp;omega
     have d2:decide ((48:Int)≤(s[k].toNat:Int))=false:=by simp;omega
     have d3:decide ((s[k].toNat:Int)≤57)=true:=by simp;omega
     go_wp2_with fail
     go_quiet (fail)
     clear d0 d2;go_wp2_with fail
     go_roundw
     case rel=>exact⟨k+1,by omega,by go_num,HB,_,rfl⟩
     case measure=>simp[intOf];omega
    ·have HB:Hid (abh s=false):=aln hlt (by
      rw[afy,adv hlt,adv hl];have e:s[k - 1]=45:=(aib _).2 (by have:=beq_iff_eq.1 hp;omega);have h1:inB (s[k].toNat:Int) 97 122=false:=aec.2 (by omega);have h2:inB (s[k].toNat:Int) 48 57=false:=aec.2 (by omega);simp[e,h1,h2])
     clear ha hd h45;have d0:decide ((97:Int)≤(s[k].toNat:Int))=false:=by simp;omega
     have d1:decide ((s[k].toNat:Int)≤122)=true:=by simp;omega
     have d2:decide ((48:Int)≤(s[k].toNat:Int))=false:=by simp;omega
     have d3:decide ((s[k].toNat:Int)≤57)=true:=by simp;omega
     go_wp2_with fail
     go_quiet (fail)
     clear d0 d2;go_wp2_with fail
     all_goals go_ret
     all_goals exact⟨au HB.out.symm,below_drewN (zqf _ _) _⟩
  ·have hkn:k=s.size:=by omega
   subst hkn;have HW:=zqd (a4x HP.out);by_cases h1:1≤s.size
   ·by_cases h2:s.size≤12
    ·have hl:s.size - 1 < s.size:=by omega
     cases hp:((s[s.size - 1].toNat:Int) ==45)
     ·have hne:((s[s.size - 1].toNat:Int) != 45)=true:=by rw[bne,hp];rfl
      have HB:Hid (abh s=true):=by
       show _=_;have e:s[s.size - 1]≠45:=fun e=>by rw[(aib _).1 e] at hp;simp at hp
       rw[HW.out,adv hl,afp (by omega) (by omega)];simp[e]
      go_wp2_with fail
      all_goals go_ret
      all_goals exact⟨au HB.out.symm,below_drewN (zqf _ _) _⟩
     ·have hne:((s[s.size - 1].toNat:Int) != 45)=false:=by rw[bne,hp];rfl
      have HB:Hid (abh s=false):=by
       show _=_;have e:s[s.size - 1]=45:=(aib _).2 (by have:=beq_iff_eq.1 hp;omega);rw[HW.out,adv hl,e];simp
      go_wp2_with fail
      all_goals go_ret
      all_goals exact⟨au HB.out.symm,below_drewN (zqf _ _) _⟩
    ·have HB:Hid (abh s=false):=by
      show _=_;rw[HW.out,ap3 (by omega)];rfl
     go_wp2_with fail
     all_goals go_ret
     all_goals exact⟨au HB.out.symm,below_drewN (zqf _ _) _⟩
   ·have HB:Hid (abh s=false):=by
     show _=_;rw[HW.out,aye (by omega)];rfl
    go_wp2_with fail
    all_goals go_ret
    all_goals exact⟨au HB.out.symm,below_drewN (zqf _ _) _⟩
end Go.Proofs.YtfpannkadjdnaaaGreatDoor
