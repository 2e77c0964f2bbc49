/-
  A value as another type's, as the reference makes it: which kid's type stands where. Plain. No program in sight.
-/
import Derived.Test.YtfpannkadjdnaaaGreatDoorTa23
namespace Go.Proofs.YtfpannkadjdnaaaGreatDoor
open Go.RowKit
set_option linter.all false
theorem aiw {t:Ty} (h:acp t=true):OkT 4 t:=by
 simp only[acp,Bool.and_eq_true,decide_eq_true_eq] at h;exact⟨h.1.1,h.2⟩
theorem au1 {o:Option Ty} {k:Nat} {x:Ty} (h:(ag9 o)[k]?=some x):k=0∧o=some x:=by
 cases o with
 | none=>simp[ag9] at h
 | some t=>
  rw[ag9] at h;split at h
  ·simp at h
  ·match k with
   | 0=>simp at h;exact⟨rfl,by rw[h]⟩
   | k+1=>simp at h
theorem aqr {vn:Int} {m k:Nat} {ks:List Ty} {x:Ty} (hl:ks.length=1) (h:(og 12 vn m ks)[k]?=some x):ks[0]?=some x:=by
 obtain⟨s,rfl⟩:=aoy hl;rw[og,if_pos rfl,List.flatten_replicate_singleton,List.getElem?_replicate] at h;split at h
 ·exact h
 ·cases h
theorem aqs {vn:Int} {m k:Nat} {ks:List Ty} {x:Ty} (hv:0≤vn∧vn≤1) (h:(og 13 vn m ks)[k]?=some x):k=0∧ks[0]?=some x:=by
 rw[og,if_neg (by omega),if_neg (by omega),if_pos (by omega)] at h;by_cases h0:vn=0
 ·subst h0
  have e:ag9 (caseT 13 0 ks)=[]:=rfl;rw[e] at h;simp at h
 ·obtain rfl:vn=1:=by omega
  obtain⟨hk,hh⟩:=au1 h;exact⟨hk,hh⟩
theorem ajr {kind:Int} {c m k:Nat} {ks:List Ty} {x:Ty} (hk:kind=14∨kind=17) (h:(og kind (c:Int) m ks)[k]?=some x):k=0∧ks[c]?=some x:=by
 rw[og,if_neg (by omega),if_neg (by omega),if_pos (by omega)] at h;obtain⟨h1,h2⟩:=au1 h;rw[apg hk (by omega),Int.toNat_natCast] at h2;exact⟨h1,h2⟩
section
variable {n:Nat} {ak bk:Int} {an bn:ByteArray} {al bl:List ByteArray} {aks bks:List Ty} {vn:Int} {vks:List Val}
structure aok (n:Nat) (aks bks:List Ty) (vks:List Val) (k ia ib:Nat) (s t:Ty) (v:Val) (rec:Nat→Val):Prop where
 hs:aks[ia]?=some s
 ht:bks[ib]?=some t
 hv:vks[k]?=some v
 may:agr n s t
 fit:uq n v s=true
 is:rec k=ru n s t v
theorem abd.aoz (h:abd n ak an al aks bk bn bl bks vn vks) (h16:¬ ak=16) {k:Nat} (hk:k < vks.length):
  ∃ s t v,(og ak vn vks.length aks)[k]?=some s∧(og bk (aah ak al bl vn) vks.length bks)[k]?=some t∧vks[k]?=some v∧agr n s t∧uq n v s=true∧
   ae0 (ru n) vks (og ak vn vks.length aks) (og bk (aah ak al bl vn) vks.length bks) k=ru n s t v:=by
 have hp:=h.pairs h16;have hl:=aic h.kids;obtain⟨s,h1⟩:∃ s,(og ak vn vks.length aks)[k]?=some s:=⟨_,List.getElem?_eq_getElem (by omega)⟩;obtain⟨t,h2⟩:∃ t,(og bk (aah ak al bl vn) vks.length bks)[k]?=some t:=⟨_,List.getElem?_eq_getElem (by rw[hp.1];omega)⟩;have h3:vks[k]?=some vks[k]:=List.getElem?_eq_getElem hk;exact⟨_,_,_,h1,h2,h3,hp.2 k _ _ h1 h2,ajn h.kids h3 h1,ani h1 h2 h3⟩
theorem abd.bv4 (h:abd n 12 an al aks 12 bn bl bks vn vks) {k:Nat} (hk:k < vks.length):∃ s t v,aok n aks bks vks k 0 0 s t v (ae0 (ru n) vks (og 12 vn vks.length aks) (og 12 (aah 12 al bl vn) vks.length bks)):=by
 obtain⟨s,t,v,h1,h2,h3,hm,hf,he⟩:=h.aoz (by decide) hk;exact⟨s,t,v,aqr (ade (.inl rfl) (shF h.sa).right) h1,aqr (ade (.inl rfl) (shF h.sb).right) h2,h3,hm,hf,he⟩
theorem abd.bv5 (h:abd n 13 an al aks 13 bn bl bks vn vks) {k:Nat} (hk:k < vks.length):∃ s t v,aok n aks bks vks k 0 0 s t v (ae0 (ru n) vks (og 13 vn vks.length aks) (og 13 (aah 13 al bl vn) vks.length bks)):=by
 obtain⟨s,t,v,h1,h2,h3,hm,hf,he⟩:=h.aoz (by decide) hk;have hb:=abm.1 ((afc (by omega) al.length vn).symm.trans h.num);exact⟨s,t,v,(aqs hb h1).2,(aqs (by rw[agb (by omega) (by omega)];exact hb) h2).2,h3,hm,hf,he⟩
theorem abd.bv6 {c:Nat} (h:abd n 14 an al aks 14 bn bl bks (c:Int) vks) {k:Nat} (hk:k < vks.length):∃ s t v,aok n aks bks vks k c c s t v (ae0 (ru n) vks (og 14 (c:Int) vks.length aks) (og 14 (aah 14 al bl (c:Int)) vks.length bks)):=by
 obtain⟨s,t,v,h1,h2,h3,hm,hf,he⟩:=h.aoz (by decide) hk;have h2':=h2;rw[agb (by omega) (by omega)] at h2';exact⟨s,t,v,(ajr (.inl rfl) h1).2,(ajr (.inl rfl) h2').2,h3,hm,hf,he⟩
theorem abd.bv7 (h:abd n 15 an al aks 15 bn bl bks vn vks) {k:Nat} (hk:k < vks.length):∃ s t v,aok n aks bks vks k k k s t v (ae0 (ru n) vks (og 15 vn vks.length aks) (og 15 (aah 15 al bl vn) vks.length bks)):=by
 obtain⟨s,t,v,h1,h2,h3,hm,hf,he⟩:=h.aoz (by decide) hk;have h1':=h1;have h2':=h2;rw[agz (.inl rfl)] at h1' h2';exact⟨s,t,v,h1',h2',h3,hm,hf,he⟩
theorem abd.bv8 {c i:Nat} (h:abd n 17 an al aks 17 bn bl bks (c:Int) vks) (hi:aah 17 al bl (c:Int)=(i:Int)) {k:Nat} (hk:k < vks.length):∃ s t v,aok n aks bks vks k c i s t v (ae0 (ru n) vks (og 17 (c:Int) vks.length aks) (og 17 (aah 17 al bl (c:Int)) vks.length bks)):=by
 obtain⟨s,t,v,h1,h2,h3,hm,hf,he⟩:=h.aoz (by decide) hk;have h2':=h2;rw[hi] at h2';exact⟨s,t,v,(ajr (.inr rfl) h1).2,(ajr (.inr rfl) h2').2,h3,hm,hf,he⟩
theorem abd.same (h:abd n ak an al aks bk bn bl bks vn vks) (hb:¬ isNum bk=true):ak=bk:=by
 rcases ai8 h.may with ⟨h1,h2⟩|⟨rfl,_,_⟩
 ·exact absurd h2 hb
 ·rfl
theorem abd.none_ (h:abd n ak an al aks bk bn bl bks vn vks) (hk:¬ (12≤ak∧ak≤17)):vks=[]:=by
 have:=aic h.kids;rw[aiy hk] at this;exact List.eq_nil_of_length_eq_zero this.symm
end
end Go.Proofs.YtfpannkadjdnaaaGreatDoor
