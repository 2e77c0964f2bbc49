/-
  What the row of TakeAs lists. (and 1 more texts)
-/
import Derived.Test.YtfpannkadjdnaaaGreatDoorRows
import Derived.Test.YtfpannkadjdnaaaGreatDoorTa29
import Derived.Test.YtfpannkadjdnaaaGreatDoorTa11
import Derived.LaidMore
import Derived.Test.YtfpannkadjdnaaaGreatDoorTa41
namespace Go.Proofs.YtfpannkadjdnaaaGreatDoor
open Go.RowKit Go.Shelf
def aq2:List (String×DataW Unit):=[("math/bits.deBruijn32tab",Rows.laid_math_bits_deBruijn32tab),("math/bits.deBruijn64tab",Rows.laid_math_bits_deBruijn64tab),("internal/strconv.uint64pow10",Rows.laid_internal_strconv_uint64pow10),("unicode/utf8.acceptRanges",Rows.laid_unicode_utf8_acceptRanges),("unicode/utf8.first",Rows.laid_unicode_utf8_first)]
theorem a3v {l:List (String×DataW Unit)} (hp:(l.all fun x=>x.2.handleName?.isNone)=true) (hm1:("unicode/utf8.acceptRanges",(Rows.laid_unicode_utf8_acceptRanges:DataW Unit)) ∈ l) (hm2:("unicode/utf8.first",(Rows.laid_unicode_utf8_first:DataW Unit)) ∈ l) {w:World} (h:laidMetH Tryz.prog l w):aiz w:=by
 rw[MakeChecks.laidMetH_plain _ _ _ hp] at h;have h1:=Lib.laidMet.reads h hm1;have h2:=Lib.laidMet.reads h hm2;rw[a06] at h1;rw[a2q] at h2;have ht:=utf8Tabs_of_readsT (U8Types.of196 a1r) ⟨by kernel_rfl,by kernel_rfl,by kernel_rfl,by kernel_rfl,by kernel_rfl,by kernel_rfl,by kernel_rfl⟩ h2 h1;refine⟨?_,ht⟩;have hc:=ht.1 0 (by decide);have hd:=(ht.2 0 (by decide)).1;have l1:=World.block_lt_of_cell? w _ hc;have l2:=World.block_lt_of_cell? w _ hd;have e1:ano.g 3=0∨ano.g 3=1:=by first|exact .inl rfl|exact .inr rfl
 have e2:ano.g 4=0∨ano.g 4=1:=by first|exact .inl rfl|exact .inr rfl
 have e3:ano.g 3≠ano.g 4:=by decide
 simp only at l1 l2;omega
def atm (w:World):Prop:=aiz w∧ad2 w
theorem atm.below {w w':World} (h:atm w) (hb:Below w.heap.size w w'):atm w':=⟨h.1.below hb,h.2.below hb⟩
theorem bes {w:World} (h:laidMetH Tryz.prog aq2 w):atm w:=
 ⟨a3v (by kernel_rfl) (.tail _ (.tail _ (.tail _ (.head _)))) (.tail _ (.tail _ (.tail _ (.tail _ (.head _))))) h,a2g (by kernel_rfl) (.tail _ (.tail _ (.head _))) h⟩
end Go.Proofs.YtfpannkadjdnaaaGreatDoor
namespace Go.Proofs.YtfpannkadjdnaaaGreatDoor
open Go.RowKit
set_option linter.all false
def atn:Nat→Nat
 | 0=>0
 | n+1=>3+16 * atn n
theorem a0b {K:Nat}:∀ {L:List Val},(∀ v ∈ L,PD.zq (Val.pd v)≤K)→PD.zq (L.flatMap Val.pd)≤L.length * K
 | [],_=>by simp[PD.zq]
 | v ::L,h=>by
  have h1:=h v (by simp);have h2:=a0b (L:=L) fun x hx=>h x (by simp[hx]);rw[List.flatMap_cons,alz,List.length_cons,Nat.succ_mul];omega
theorem axg {K m:Nat} {f:Nat→Val} (hm:m≤16) (h:∀ k,k < m→PD.zq (Val.pd (f k))≤K):PD.zq (((List.range m).map f).flatMap Val.pd)≤16 * K:=by
 refine Nat.le_trans (a0b (K:=K) fun v hv=>?_) ?_
 ·obtain⟨k,hk,rfl⟩:=List.mem_map.1 hv
  exact h k (List.mem_range.1 hk)
 ·rw[List.length_map,List.length_range]
  exact Nat.mul_le_mul_right _ hm
theorem ato:∀ (n:Nat) (v:Val) (a b:Ty),OkT n a→OkT n b→uq n v a=true→agr n a b→PD.zq (Val.pd (ru n a b v))≤atn n
 | 0,v,a,b,ha,_,_,_=>by
  have:=agi a;have:=ha.1;omega
 | n+1,v,a,b,ha,hb,hf,hm=>by
  obtain⟨vk,vn,vt,vks⟩:=v;obtain⟨ak,an,al,aks⟩:=a;obtain⟨bk,bn,bl,bks⟩:=b;obtain⟨rfl,h1,h2,h3⟩:=bdj hf;have hO:abd n vk an al aks bk bn bl bks vn vks:=⟨ha.2,hb.2,qg ha,qg hb,h1,h3,hm⟩;by_cases k16:vk=16
  ·subst k16
   obtain rfl:=hO.as4.1
   have key:=axg (K:=atn n) (f:=recAt (ru n) al aks bl bks vks) (ab7 hO.sb) fun k hk=>by
    obtain⟨i,s,t,v,hi,_,_,_,hs,ht,hv,hmm,hff⟩:=hO.bdv (List.getElem?_eq_getElem hk);rw[as5 (List.getElem?_eq_getElem hk) hi hs ht hv];exact ato n v s t (hO.ka s (List.mem_of_getElem? hs)) (hO.kb t (List.mem_of_getElem? ht)) hff hmm
   rw[ru,aik,if_pos rfl,Val.ji];simp only[PD.zq,PD.cnt,atn];omega
  ·have key:=axg (K:=atn n) (f:=ae0 (ru n) vks (og vk vn vks.length aks) (og bk (aah vk al bl vn) vks.length bks)) (hO.few k16) fun k hk=>by
    obtain⟨s,t,v,hs,ht,hv,hmm,hff,he⟩:=hO.aoz k16 hk;rw[he];exact ato n v s t (hO.ka s (afm (List.mem_of_getElem? hs))) (hO.kb t (afm (List.mem_of_getElem? ht))) hff hmm
   rw[ru,aik,if_neg k16,Val.ji];simp only[PD.zq,PD.cnt,atn];omega
theorem awq:∀ ds:List PD,ab8 ds≤PD.zq ds
 | []=>zql _
 | .lit _ ::r=>by have:=awq r;simp only[ab8,PD.zq];omega
 | .row _ xs ::r=>by have:=awq r;simp only[ab8,PD.zq,PD.cnt];omega
theorem a5z (v:Val) (a b:Ty):ab8 (Val.pd (ai3 v a b).1)≤1099511627775:=by
 have hz:ab8 (Val.pd ael)≤1099511627775:=by
  rw[show ael=⟨0,0,⟨#[]⟩,[]⟩from rfl,Val.ji];simp[ab8,PD.zq]
 rw[ai3];split
 ·next h1=>
  split
  ·next h2=>
   simp only[Bool.and_eq_true] at h1 h2;have:=ato 4 v a b (aiw h1.1) (aiw h1.2) h2.1 (atl.1 h2.2);have h4:atn 4=13107:=by decide
   have:=awq (Val.pd (ru 4 a b v));simp only;omega
  ·exact hz
 ·exact hz
theorem a0c {t:Ty} (h:PD.szL (Ty.pd t)≤1048576):t.parts≤4194304:=by
 have hp:=ayv t;omega
theorem ayb (v:Val) (a b:Ty) (hwv:PD.wfL (Val.pd v)) (hzv:PD.szL (Val.pd v)≤1048576) (hwa:PD.wfL (Ty.pd a)) (hza:PD.szL (Ty.pd a)≤1048576) (hwb:PD.wfL (Ty.pd b)) (hzb:PD.szL (Ty.pd b)≤1048576):∀ (B:Nat) (cs ds es:List Value) (w:World),B≤w.heap.size→atm w→jq w B (Val.pd v) cs→jq w B (Ty.pd a) ds→jq w B (Ty.pd b) es→
  Calls Tryz.prog 6 #[.agg cs.toArray,.agg ds.toArray,.agg es.toArray] w fun e w'=>∃ us,e=.returned (.tuple #[.agg us.toArray,.int .i64 (ai3 v a b).2])∧LvC w' w.heap.size w'.heap.size (Val.pd (ai3 v a b).1) us∧Below w.heap.size w w':=
 fun B cs ds es w hB hT hv ha hb=>awo v a b B cs ds es w hB hT.1 hT.2 hwv hwa hwb hv ha hb
theorem ayc (v:Val) (a b:Ty) (hwv:PD.wfL (Val.pd v)) (hzv:PD.szL (Val.pd v)≤1048576) (hwa:PD.wfL (Ty.pd a)) (hza:PD.szL (Ty.pd a)≤1048576) (hwb:PD.wfL (Ty.pd b)) (hzb:PD.szL (Ty.pd b)≤1048576):∀ (B:Nat) (cs ds es:List Value) (w:World),B≤w.heap.size→atm w→jq w B (Val.pd v) cs→jq w B (Ty.pd a) ds→jq w B (Ty.pd b) es→
  Calls Tryz.prog 9 #[.agg cs.toArray,.agg ds.toArray,.agg es.toArray] w fun e w'=>∃ us,e=.returned (.tuple #[.agg us.toArray,.int .i64 (ai3 v a b).2])∧LvC w' w.heap.size w'.heap.size (Val.pd (ai3 v a b).1) us∧Below w.heap.size w w':=
 fun B cs ds es w hB hT hv ha hb=>awp v a b (a0c hza) (a0c hzb) B cs ds es w hB hT.1 hT.2 hwv hwa hwb hv ha hb
end Go.Proofs.YtfpannkadjdnaaaGreatDoor
