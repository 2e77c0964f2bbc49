/-
  Interfaces of the program: increasing, resources, funcResources, FaceOk (by program: gen_fci.py).
-/
import Derived.Test.YtbafphecjijdmaaGreatDoorWa26
import Derived.Test.YtbafphecjijdmaaGreatDoorWa30
import Derived.Test.YtbafphecjijdmaaGreatDoorWa40
import Derived.Test.YtbafphecjijdmaaGreatDoorWa27
import Derived.Test.YtbafphecjijdmaaGreatDoorWa31
namespace Go.Proofs.YtbafphecjijdmaaGreatDoor
open Go.RowKit
set_option linter.unusedVariables false
set_option linter.unusedSimpArgs false
set_option linter.unnecessarySimpa false
set_option maxRecDepth 16000
set_option maxHeartbeats 1600000 in
theorem aqo {xs:List ByteArray} {B:Nat} {v:Value} {w:World} (hB:B≤w.heap.size) (h:Rep w B (.row 1 (xs.flatMap tu)) v):
  Calls Tryz.prog 62 #[v] w fun e w'=>e=.returned (.bool (amv xs))∧Below w.heap.size w w':=by
 obtain⟨R,hR⟩:∃ R:Bool,R=amv xs:=⟨_,rfl⟩
 rw[← hR]
 have HR:=Lib.hid hR
 obtain⟨A,n,c,rfl,hn,hm,hat⟩:=ajd h
 have HN:=Lib.hid hn
 clear h hn hR
 go_enter Tryz.func62,Tryz.ntmps62
 go_wp2_with fail
 go_loopw [3] (fun i wr=>∃ k:Nat,1≤k∧(k≤n∨k=1)∧i=.int .i64 k∧Hid (∀ j,j < k→aio xs j=true)∧Below w.heap.size w wr) (fun i _=>n - (intOf i).toNat)
 case atStart=>exact⟨1,Nat.le_refl _,.inr rfl,rfl,Lib.hid fun j h=>(by have hj:j=0:=(by omega);subst hj;exact aq8 _),Below.refl _ _⟩
 case round=>
  obtain⟨k,hk0,hk,rfl,HP,hbr⟩:=hrel
  by_cases hlt:k < n
  case neg=>
   have HF:Hid (R=true):=by show _=_;rw[HR.out];exact ayn fun j hj=>HP.out j (by have:=HN.out;omega)
   go_wp2_with fail
   go_ret
   exact⟨ah HF.out.symm,hbr⟩
  obtain⟨g,off,rfl,hg,hcell⟩:=hat (by omega)
  obtain⟨x,hx,_⟩:=xg HN.out hlt
  obtain⟨y,hy,_⟩:=xg HN.out (show k - 1 < n by omega)
  have c_x:wr.cell? ⟨g,off+k,none⟩=some (.string x):=(hbr.cell (p:=⟨g,off+k,none⟩) (by simp only;omega)).trans (hcell k x hx)
  have c_y:wr.cell? ⟨g,off+(k - 1),none⟩=some (.string y):=(hbr.cell (p:=⟨g,off+(k - 1),none⟩) (by simp only;omega)).trans (hcell (k - 1) y hy)
  have HIN:=Lib.hid (av1 (by omega) hx hy)
  have hki:((k:Int) - 1).toNat=k - 1:=by omega
  have hkp:(0:Int)≤(k:Int) - 1:=by omega
  have hk1:(1:Int)≤(k:Int):=by omega
  have hkn:(k:Int) - 1 < (n:Int):=by omega
  have HL:Hid (k < xs.length):=(List.getElem?_eq_some_iff.1 hx).1
  clear hx hy hcell hat
  cases hlx:Op.bytesLess y.toList x.toList
  case false=>
   have HF:Hid (R=false):=by show _=_;rw[HR.out];exact ayo HL.out (HIN.out.trans hlx)
   go_wp2_with fail
   go_quiet (fail)
   go_wp2_with fail
   go_ret
   exact⟨ah HF.out.symm,below_drewN hbr _⟩
  case true=>
   have HQ:=Lib.hid (ate HP.out (HIN.out.trans hlx))
   go_wp2_with fail
   go_quiet (fail)
   go_wp2_with fail
   go_roundw
   case rel=>exact⟨k+1,by omega,by omega,by go_num,HQ,below_drewN hbr _⟩
   case measure=>simp[intOf];omega
def bl3 (L:List ByteArray) (w:World) (e:Ending) (w':World):Prop:=∃ v,e=.returned v∧w'.ownsRow w.heap.size 9 1 v L.length (strs L)∧Below w.heap.size w w'
def beh (t:Ty):Prop:=∀ (B:Nat) (cs:List Value) (w:World),B≤w.heap.size→jy w B (Ty.pd t) cs→t.parts≤1073741824→
 Calls Tryz.prog 96 #[.agg cs.toArray] w fun e w'=>bl3 t.hN w e w'
theorem aur {w:World} {base n:Nat} {e:TypeId} {v:Value} {xs:List ByteArray} (h:w.ownsRow base e 1 v n (strs xs)):aq9 w v 1 xs.length (strs xs):=a6k (amb h)
theorem a9m {w:World} {base base' sz n:Nat} {e:TypeId} {v:Value} {xs:List Value} (h:w.ownsRow base e sz v n xs) (hb:base'≤base):w.ownsRow base' e sz v n xs:=
 ⟨h.1,h.2.elim .inl fun⟨g,cap,cur,e1,hbb,hh,hr⟩=>.inr ⟨g,cap,cur,e1,Nat.le_trans hb hbb,hh,hr⟩⟩
theorem aus:∀ ts:List Ty,(ts.flatMap Ty.hN).length≤Ty.ac1 ts
 | []=>by simp[Ty.ac1]
 | t ::r=>by
  have h1:=aqe t
  have h2:=aus r
  rw[List.flatMap_cons,List.length_append,Ty.ac1];omega
set_option maxHeartbeats 3200000 in
theorem ba9 {kind:Int} {name:ByteArray} {labels:List ByteArray} {kids:List Ty} (ih:∀ t ∈ kids,beh t):beh ⟨kind,name,labels,kids⟩:=by
 intro B cs w hB h hz
 obtain⟨i0,hi,hz0,hz1,hz2⟩:=info_parts alu
 obtain⟨iq,qp,rfl,bf,eu⟩:=Ty.open_ h
 have pq:=Lib.hid bf
 clear bf
 have qm:=Lib.hid eu
 clear eu
 obtain⟨A,n,c,rfl,hnl,hm,hat⟩:=ny Ty.jw (by decide) qm.out
 unfold maxLen at hm
 rw[Ty.parts] at hz
 have HN:=Lib.hid hnl
 have HI:=Lib.hid ih
 have hnp:n≤1073741824:=by have:=aqx kids;omega
 clear hnl ih h
 obtain⟨N0,hN0⟩:∃ N0,(if named kind then [name] else [])=N0:=⟨_,rfl⟩
 have HN0:=Lib.hid hN0
 have a3m:Hid (N0.length≤1):=by show _≤_;rw[← hN0];split<;>simp
 clear hN0
 obtain⟨we,hwe⟩:∃ V,V=((w.alloc (.cells #[.int .i64 kind,.string name,iq,.slice A n c] 60)).alloc (.cells #[] 9)):=⟨_,rfl⟩
 have hbe:Below w.heap.size w we:=by rw[hwe];exact((Below.refl _ _).alloc (Nat.le_refl _) _).alloc (by simp) _
 have hoe:we.ownsRow w.heap.size 9 1 (.slice (some ⟨w.heap.size+1,0,none⟩) 0 0) 0 (strs []):=by
  rw[hwe]
  have:=World.ownsRow_made (base:=w.heap.size) (e:=9) (size:=1) (w.alloc (.cells #[.int .i64 kind,.string name,iq,.slice A n c] 60)) #[] 0 (by simp) (by simp) (by simp)
  simpa [strs] using this
 have HWE:=Lib.hid hwe
 have HBE:=Lib.hid hbe
 have HOE:=Lib.hid hoe
 clear hwe hbe hoe
 cases hnk:named kind
 case false=>
  have HZ:Hid (N0=[]):=by show _=_;rw[← HN0.out,hnk];rfl
  have bv3:(kind ==20)=false:=by cases h:(kind ==20)<;>simp[named,h] at hnk ⊢
  have bv4:(kind ==21)=false:=by cases h:(kind ==21)<;>simp[named,h] at hnk ⊢
  clear hnk
  go_enter Tryz.func96,Tryz.ntmps96
  go_wp2_with fail
  rw[← HWE.out]
  have HO0:Hid (we.ownsRow w.heap.size 9 1 (.slice (some ⟨w.heap.size+1,0,none⟩) 0 0) N0.length (strs N0)):=by show World.ownsRow _ _ _ _ _ _ _;rw[HZ.out];exact HOE.out
  have hBa:=HBE.out
  go_loopw [3,23] (fun out i wr=>∃ (k m:Nat) (u:Value) (L:List ByteArray),u=out∧k≤n∧i=.int .i64 k∧Hid (L=N0 ++(kids.take k).flatMap Ty.hN∧m=L.length)∧wr.ownsRow w.heap.size 9 1 u m (strs L)∧Below w.heap.size w wr) (fun _ i _=>n - (intOf i).toNat)
  case atStart=>exact⟨0,_,_,N0,rfl,Nat.zero_le _,rfl,Lib.hid ⟨by simp,rfl⟩,HO0.out,hBa⟩
  case round=>
   obtain⟨k,m,u,L,rfl,hk,rfl,HP,hown,hbr⟩:=hrel
   have hsz:=hbr.size
   by_cases hlt:k < n
   ·obtain⟨g,off,rfl,hg2,hcell2⟩:=hat (by omega)
    obtain⟨t2,hx2,ac9⟩:=xg HN.out hlt
    obtain⟨kind2,name2,zh,abl⟩:=t2
    have aht:wr.cell? ⟨g,off+k * 4,none⟩=some (.int .i64 kind2):=gq hbr (by omega) (hcell2 k 0 _ _ hx2 (by rw[Ty.ay];rfl))
    have afe:wr.cell? ⟨g,off+k * 4+1,none⟩=some (.string name2):=gq hbr (by omega) (hcell2 k 1 _ _ hx2 (by rw[Ty.ay];rfl))
    obtain⟨ac0,ag3,ab2⟩:∃ u,wr.cell? ⟨g,off+k * 4+2,none⟩=some u∧Rep wr B (.row 1 (zh.flatMap tu)) u:=ku hbr (by omega) hB (hcell2 k 2 _ _ hx2 (by rw[Ty.ay];rfl))
    have ac2:=Lib.hid ab2
    clear ab2
    obtain⟨aeh,ah9,adr⟩:∃ u,wr.cell? ⟨g,off+k * 4+3,none⟩=some u∧Rep wr B (.row 4 (abl.flatMap Ty.pd)) u:=ku hbr (by omega) hB (hcell2 k 3 _ _ hx2 (by rw[Ty.ay];rfl))
    have aee:=Lib.hid adr
    clear adr
    obtain⟨aei,aej,aek,rfl⟩:=ac2.out.form
    obtain⟨aft,afu,afv,rfl⟩:=aee.out.form
    have HX2:=Lib.hid hx2
    have HM2:=Lib.hid ac9
    clear hx2 ac9
    clear hcell2
    have hpk:=aiu HX2.out
    have hpl:=ag7 kids (k+1)
    have hmL:m≤1+Ty.ac1 (kids.take k):=by
     obtain⟨h1,h2⟩:=HP.out
     have h3:=aus (kids.take k)
     have h4:=a3m.out
     rw[h2,h1,List.length_append];omega
    have HOW:=Lib.hid hown
    have HFL:=Lib.hid (akp (f:=Ty.hN) HX2.out)
    have hpt:(Ty.mk kind2 name2 zh abl).parts≤1073741824:=by omega
    have hln:=aqe ⟨kind2,name2,zh,abl⟩
    clear hown
    go_wp2_with fail
    obtain⟨wb,hwb⟩:∃ W,W=wr.alloc (.cells #[.int .i64 kind2,.string name2,.slice aei aej aek,.slice aft afu afv] 60):=⟨_,rfl⟩
    rw[← hwb]
    have bE:Blk wb wr.heap.size 60 #[.int .i64 kind2,.string name2,.slice aei aej aek,.slice aft afu afv]:=by rw[hwb];exact Blk.new wr _ _
    have hbb:Below wr.heap.size wr wb:=by rw[hwb];exact(Below.refl _ _).alloc (Nat.le_refl _) _
    clear hwb
    have hBb:=hbr.trans (hbb.mono hsz)
    refine(HI.out _ HM2.out B [.int .i64 kind2,.string name2,.slice aei aej aek,.slice aft afu afv] wb (Nat.le_trans hB hBb.size) (Ty.close_ (ac2.out.below (hbb.mono (Nat.le_trans hB hsz))) (aee.out.below (hbb.mono (Nat.le_trans hB hsz)))) hpt).mono ?_
    rintro e wq ⟨v2,rfl,hown2,hbq⟩
    obtain⟨L2,hL2⟩:∃ L2,L2=Ty.hN ⟨kind2,name2,zh,abl⟩:=⟨_,rfl⟩
    rw[← hL2] at hown2 hln HFL
    have alf:=Lib.hid (aur hown2)
    have hBq:=hBb.trans (hbq.mono hBb.size)
    have hs4:=af8 (af8 HOW.out hbb) hbq
    obtain⟨l2,hl2⟩:∃ l,L2.length=l:=⟨_,rfl⟩
    rw[hl2] at alf hln
    have hmB:m+l2≤1073741825:=by omega
    clear hown2 hL2 hpk hmL hln
    go_wp2_with (at_builtin;refine ai6 rfl _ _ 22 rfl w.heap.size 9 i0 (.string {data:=#[]}) 1 16 Tryz.underlying22 hi hz0 hz1 hz2 rfl (by decide) _ _ _ rfl hs4 _ _ _ rfl alf.out (alx _) (by simp only[maxLen];omega) (by omega) hBq.size ?_;intro v' w5 hown' hgrow agq)
    have hB6:=hBq.grown hgrow hBq.size (fun g hg=>(hs4.lt g hg).1)
    have ajx:=Lib.hid hown'
    have HQ:Hid (L ++L2=N0 ++(kids.take (k+1)).flatMap Ty.hN∧m+l2=(L ++L2).length):=by
     obtain⟨h1,h2⟩:=HP.out
     exact⟨by rw[HFL.out,h1,List.append_assoc],by rw[List.length_append,h2,hl2]⟩
    clear hs4 hown' hgrow agq
    go_roundw
    case rel=>exact⟨k+1,m+l2,_,L ++L2,rfl,by omega,by go_num,HQ,by rw[afc];exact ajx.out,hB6⟩
    case measure=>simp[intOf];omega
   ·have hkn:k=n:=by omega
    have HT:Hid (kids.take k=kids):=List.take_of_length_le (by have:=HN.out;omega)
    have HE:Hid (L=Ty.hN ⟨kind,name,labels,kids⟩):=by show _=_;rw[HP.out.1,HT.out,aun,HN0.out]
    have HFI:Hid (wr.ownsRow w.heap.size 9 1 u (Ty.hN ⟨kind,name,labels,kids⟩).length (strs (Ty.hN ⟨kind,name,labels,kids⟩))):=by show World.ownsRow _ _ _ _ _ _ _;rw[← HE.out,← HP.out.2];exact hown
    clear hown
    subst hkn
    go_wp2_with fail
    go_ret
    exact⟨_,rfl,HFI.out,hbr⟩
 case true=>
  have HZ:Hid (N0=[name]):=by show _=_;rw[← HN0.out,hnk];rfl
  have hs4:=HOE.out.alloc (.cells #[Value.string name] 9)
  have hc1:=cell_one_new we (Value.string name) 9
  have hB5:Below w.heap.size w (we.alloc (.cells #[Value.string name] 9)):=HBE.out.alloc HBE.out.size _
  have hwz:we.heap.size=w.heap.size+1+1:=by rw[HWE.out];simp
  rw[HWE.out] at hs4 hc1 hB5
  have hsz2:((w.alloc (.cells #[.int .i64 kind,.string name,iq,.slice A n c] 60)).alloc (.cells #[] 9)).heap.size=w.heap.size+1+1:=by simp
  rw[hsz2] at hc1
  clear hwz
  rcases(show kind=20∨kind=21 by simpa [named] using hnk)with rfl|rfl
  ·have bX:Blk (((w.alloc (.cells #[.int .i64 20,.string name,iq,.slice A n c] 60)).alloc (.cells #[] 9)).alloc (.cells #[Value.string name] 9)) w.heap.size 60 #[.int .i64 20,.string name,iq,.slice A n c]:=((Blk.new w _ _).alloc _).alloc _
   go_enter Tryz.func96,Tryz.ntmps96
   go_wp2_with (at_builtin;refine wpList_append_own _ rfl _ _ 22 rfl w.heap.size 9 i0 (.string {data:=#[]}) 1 16 Tryz.underlying22 hi hz0 hz1 hz2 rfl (by decide) (.slice (some ⟨w.heap.size+1,0,none⟩) 0 0) _ _ rfl hs4 ⟨w.heap.size+1+1,0,none⟩ 1 1 [_] rfl rfl hc1 (ai0 _) (by simp only[maxLen];omega) (by omega) hB5.size ?_;intro va wa hown' hgrow _;have bXa:Blk wa w.heap.size 60 #[.int .i64 20,.string name,iq,.slice A n c]:=(hgrow.block _ bX.lt (fun e=>by revert e;simp[Value.ownBlock])).trans bX;have a_3:wa.cell? ⟨w.heap.size,3,none⟩=some (.slice A n c):=bXa.cell 3)
   have hBa:=hB5.grown hgrow hB5.size (fun g hg=>(hs4.lt g hg).1)
   have HO0:Hid (wa.ownsRow w.heap.size 9 1 va N0.length (strs N0)):=by show World.ownsRow _ _ _ _ _ _ _;rw[HZ.out];exact hown'
   clear hs4 hc1 hB5 hown' hgrow hnk
   go_loopw [3,23] (fun out i wr=>∃ (k m:Nat) (u:Value) (L:List ByteArray),u=out∧k≤n∧i=.int .i64 k∧Hid (L=N0 ++(kids.take k).flatMap Ty.hN∧m=L.length)∧wr.ownsRow w.heap.size 9 1 u m (strs L)∧Below w.heap.size w wr) (fun _ i _=>n - (intOf i).toNat)
   case atStart=>exact⟨0,_,_,N0,rfl,Nat.zero_le _,rfl,Lib.hid ⟨by simp,rfl⟩,HO0.out,hBa⟩
   case round=>
    obtain⟨k,m,u,L,rfl,hk,rfl,HP,hown,hbr⟩:=hrel
    have hsz:=hbr.size
    by_cases hlt:k < n
    ·obtain⟨g,off,rfl,hg2,hcell2⟩:=hat (by omega)
     obtain⟨t2,hx2,ac9⟩:=xg HN.out hlt
     obtain⟨kind2,name2,zh,abl⟩:=t2
     have aht:wr.cell? ⟨g,off+k * 4,none⟩=some (.int .i64 kind2):=gq hbr (by omega) (hcell2 k 0 _ _ hx2 (by rw[Ty.ay];rfl))
     have afe:wr.cell? ⟨g,off+k * 4+1,none⟩=some (.string name2):=gq hbr (by omega) (hcell2 k 1 _ _ hx2 (by rw[Ty.ay];rfl))
     obtain⟨ac0,ag3,ab2⟩:∃ u,wr.cell? ⟨g,off+k * 4+2,none⟩=some u∧Rep wr B (.row 1 (zh.flatMap tu)) u:=ku hbr (by omega) hB (hcell2 k 2 _ _ hx2 (by rw[Ty.ay];rfl))
     have ac2:=Lib.hid ab2
     clear ab2
     obtain⟨aeh,ah9,adr⟩:∃ u,wr.cell? ⟨g,off+k * 4+3,none⟩=some u∧Rep wr B (.row 4 (abl.flatMap Ty.pd)) u:=ku hbr (by omega) hB (hcell2 k 3 _ _ hx2 (by rw[Ty.ay];rfl))
     have aee:=Lib.hid adr
     clear adr
     obtain⟨aei,aej,aek,rfl⟩:=ac2.out.form
     obtain⟨aft,afu,afv,rfl⟩:=aee.out.form
     have HX2:=Lib.hid hx2
     have HM2:=Lib.hid ac9
     clear hx2 ac9
     clear hcell2
     have hpk:=aiu HX2.out
     have hpl:=ag7 kids (k+1)
     have hmL:m≤1+Ty.ac1 (kids.take k):=by
      obtain⟨h1,h2⟩:=HP.out
      have h3:=aus (kids.take k)
      have h4:=a3m.out
      rw[h2,h1,List.length_append];omega
     have HOW:=Lib.hid hown
     have HFL:=Lib.hid (akp (f:=Ty.hN) HX2.out)
     have hpt:(Ty.mk kind2 name2 zh abl).parts≤1073741824:=by omega
     have hln:=aqe ⟨kind2,name2,zh,abl⟩
     clear hown
     go_wp2_with fail
     obtain⟨wb,hwb⟩:∃ W,W=wr.alloc (.cells #[.int .i64 kind2,.string name2,.slice aei aej aek,.slice aft afu afv] 60):=⟨_,rfl⟩
     rw[← hwb]
     have bE:Blk wb wr.heap.size 60 #[.int .i64 kind2,.string name2,.slice aei aej aek,.slice aft afu afv]:=by rw[hwb];exact Blk.new wr _ _
     have hbb:Below wr.heap.size wr wb:=by rw[hwb];exact(Below.refl _ _).alloc (Nat.le_refl _) _
     clear hwb
     have hBb:=hbr.trans (hbb.mono hsz)
     refine(HI.out _ HM2.out B [.int .i64 kind2,.string name2,.slice aei aej aek,.slice aft afu afv] wb (Nat.le_trans hB hBb.size) (Ty.close_ (ac2.out.below (hbb.mono (Nat.le_trans hB hsz))) (aee.out.below (hbb.mono (Nat.le_trans hB hsz)))) hpt).mono ?_
     rintro e wq ⟨v2,rfl,hown2,hbq⟩
     obtain⟨L2,hL2⟩:∃ L2,L2=Ty.hN ⟨kind2,name2,zh,abl⟩:=⟨_,rfl⟩
     rw[← hL2] at hown2 hln HFL
     have alf:=Lib.hid (aur hown2)
     have hBq:=hBb.trans (hbq.mono hBb.size)
     have hs4:=af8 (af8 HOW.out hbb) hbq
     obtain⟨l2,hl2⟩:∃ l,L2.length=l:=⟨_,rfl⟩
     rw[hl2] at alf hln
     have hmB:m+l2≤1073741825:=by omega
     clear hown2 hL2 hpk hmL hln
     go_wp2_with (at_builtin;refine ai6 rfl _ _ 22 rfl w.heap.size 9 i0 (.string {data:=#[]}) 1 16 Tryz.underlying22 hi hz0 hz1 hz2 rfl (by decide) _ _ _ rfl hs4 _ _ _ rfl alf.out (alx _) (by simp only[maxLen];omega) (by omega) hBq.size ?_;intro v' w5 hown' hgrow agq)
     have hB6:=hBq.grown hgrow hBq.size (fun g hg=>(hs4.lt g hg).1)
     have ajx:=Lib.hid hown'
     have HQ:Hid (L ++L2=N0 ++(kids.take (k+1)).flatMap Ty.hN∧m+l2=(L ++L2).length):=by
      obtain⟨h1,h2⟩:=HP.out
      exact⟨by rw[HFL.out,h1,List.append_assoc],by rw[List.length_append,h2,hl2]⟩
     clear hs4 hown' hgrow agq
     go_roundw
     case rel=>exact⟨k+1,m+l2,_,L ++L2,rfl,by omega,by go_num,HQ,by rw[afc];exact ajx.out,hB6⟩
     case measure=>simp[intOf];omega
    ·have hkn:k=n:=by omega
     have HT:Hid (kids.take k=kids):=List.take_of_length_le (by have:=HN.out;omega)
     have HE:Hid (L=Ty.hN ⟨20,name,labels,kids⟩):=by show _=_;rw[HP.out.1,HT.out,aun,HN0.out]
     have HFI:Hid (wr.ownsRow w.heap.size 9 1 u (Ty.hN ⟨20,name,labels,kids⟩).length (strs (Ty.hN ⟨20,name,labels,kids⟩))):=by show World.ownsRow _ _ _ _ _ _ _;rw[← HE.out,← HP.out.2];exact hown
     clear hown
     subst hkn
     go_wp2_with fail
     go_ret
     exact⟨_,rfl,HFI.out,hbr⟩
  ·have bX:Blk (((w.alloc (.cells #[.int .i64 21,.string name,iq,.slice A n c] 60)).alloc (.cells #[] 9)).alloc (.cells #[Value.string name] 9)) w.heap.size 60 #[.int .i64 21,.string name,iq,.slice A n c]:=((Blk.new w _ _).alloc _).alloc _
   go_enter Tryz.func96,Tryz.ntmps96
   go_wp2_with (at_builtin;refine wpList_append_own _ rfl _ _ 22 rfl w.heap.size 9 i0 (.string {data:=#[]}) 1 16 Tryz.underlying22 hi hz0 hz1 hz2 rfl (by decide) (.slice (some ⟨w.heap.size+1,0,none⟩) 0 0) _ _ rfl hs4 ⟨w.heap.size+1+1,0,none⟩ 1 1 [_] rfl rfl hc1 (ai0 _) (by simp only[maxLen];omega) (by omega) hB5.size ?_;intro va wa hown' hgrow _;have bXa:Blk wa w.heap.size 60 #[.int .i64 21,.string name,iq,.slice A n c]:=(hgrow.block _ bX.lt (fun e=>by revert e;simp[Value.ownBlock])).trans bX;have a_3:wa.cell? ⟨w.heap.size,3,none⟩=some (.slice A n c):=bXa.cell 3)
   have hBa:=hB5.grown hgrow hB5.size (fun g hg=>(hs4.lt g hg).1)
   have HO0:Hid (wa.ownsRow w.heap.size 9 1 va N0.length (strs N0)):=by show World.ownsRow _ _ _ _ _ _ _;rw[HZ.out];exact hown'
   clear hs4 hc1 hB5 hown' hgrow hnk
   go_loopw [3,23] (fun out i wr=>∃ (k m:Nat) (u:Value) (L:List ByteArray),u=out∧k≤n∧i=.int .i64 k∧Hid (L=N0 ++(kids.take k).flatMap Ty.hN∧m=L.length)∧wr.ownsRow w.heap.size 9 1 u m (strs L)∧Below w.heap.size w wr) (fun _ i _=>n - (intOf i).toNat)
   case atStart=>exact⟨0,_,_,N0,rfl,Nat.zero_le _,rfl,Lib.hid ⟨by simp,rfl⟩,HO0.out,hBa⟩
   case round=>
    obtain⟨k,m,u,L,rfl,hk,rfl,HP,hown,hbr⟩:=hrel
    have hsz:=hbr.size
    by_cases hlt:k < n
    ·obtain⟨g,off,rfl,hg2,hcell2⟩:=hat (by omega)
     obtain⟨t2,hx2,ac9⟩:=xg HN.out hlt
     obtain⟨kind2,name2,zh,abl⟩:=t2
     have aht:wr.cell? ⟨g,off+k * 4,none⟩=some (.int .i64 kind2):=gq hbr (by omega) (hcell2 k 0 _ _ hx2 (by rw[Ty.ay];rfl))
     have afe:wr.cell? ⟨g,off+k * 4+1,none⟩=some (.string name2):=gq hbr (by omega) (hcell2 k 1 _ _ hx2 (by rw[Ty.ay];rfl))
     obtain⟨ac0,ag3,ab2⟩:∃ u,wr.cell? ⟨g,off+k * 4+2,none⟩=some u∧Rep wr B (.row 1 (zh.flatMap tu)) u:=ku hbr (by omega) hB (hcell2 k 2 _ _ hx2 (by rw[Ty.ay];rfl))
     have ac2:=Lib.hid ab2
     clear ab2
     obtain⟨aeh,ah9,adr⟩:∃ u,wr.cell? ⟨g,off+k * 4+3,none⟩=some u∧Rep wr B (.row 4 (abl.flatMap Ty.pd)) u:=ku hbr (by omega) hB (hcell2 k 3 _ _ hx2 (by rw[Ty.ay];rfl))
     have aee:=Lib.hid adr
     clear adr
     obtain⟨aei,aej,aek,rfl⟩:=ac2.out.form
     obtain⟨aft,afu,afv,rfl⟩:=aee.out.form
     have HX2:=Lib.hid hx2
     have HM2:=Lib.hid ac9
     clear hx2 ac9
     clear hcell2
     have hpk:=aiu HX2.out
     have hpl:=ag7 kids (k+1)
     have hmL:m≤1+Ty.ac1 (kids.take k):=by
      obtain⟨h1,h2⟩:=HP.out
      have h3:=aus (kids.take k)
      have h4:=a3m.out
      rw[h2,h1,List.length_append];omega
     have HOW:=Lib.hid hown
     have HFL:=Lib.hid (akp (f:=Ty.hN) HX2.out)
     have hpt:(Ty.mk kind2 name2 zh abl).parts≤1073741824:=by omega
     have hln:=aqe ⟨kind2,name2,zh,abl⟩
     clear hown
     go_wp2_with fail
     obtain⟨wb,hwb⟩:∃ W,W=wr.alloc (.cells #[.int .i64 kind2,.string name2,.slice aei aej aek,.slice aft afu afv] 60):=⟨_,rfl⟩
     rw[← hwb]
     have bE:Blk wb wr.heap.size 60 #[.int .i64 kind2,.string name2,.slice aei aej aek,.slice aft afu afv]:=by rw[hwb];exact Blk.new wr _ _
     have hbb:Below wr.heap.size wr wb:=by rw[hwb];exact(Below.refl _ _).alloc (Nat.le_refl _) _
     clear hwb
     have hBb:=hbr.trans (hbb.mono hsz)
     refine(HI.out _ HM2.out B [.int .i64 kind2,.string name2,.slice aei aej aek,.slice aft afu afv] wb (Nat.le_trans hB hBb.size) (Ty.close_ (ac2.out.below (hbb.mono (Nat.le_trans hB hsz))) (aee.out.below (hbb.mono (Nat.le_trans hB hsz)))) hpt).mono ?_
     rintro e wq ⟨v2,rfl,hown2,hbq⟩
     obtain⟨L2,hL2⟩:∃ L2,L2=Ty.hN ⟨kind2,name2,zh,abl⟩:=⟨_,rfl⟩
     rw[← hL2] at hown2 hln HFL
     have alf:=Lib.hid (aur hown2)
     have hBq:=hBb.trans (hbq.mono hBb.size)
     have hs4:=af8 (af8 HOW.out hbb) hbq
     obtain⟨l2,hl2⟩:∃ l,L2.length=l:=⟨_,rfl⟩
     rw[hl2] at alf hln
     have hmB:m+l2≤1073741825:=by omega
     clear hown2 hL2 hpk hmL hln
     go_wp2_with (at_builtin;refine ai6 rfl _ _ 22 rfl w.heap.size 9 i0 (.string {data:=#[]}) 1 16 Tryz.underlying22 hi hz0 hz1 hz2 rfl (by decide) _ _ _ rfl hs4 _ _ _ rfl alf.out (alx _) (by simp only[maxLen];omega) (by omega) hBq.size ?_;intro v' w5 hown' hgrow agq)
     have hB6:=hBq.grown hgrow hBq.size (fun g hg=>(hs4.lt g hg).1)
     have ajx:=Lib.hid hown'
     have HQ:Hid (L ++L2=N0 ++(kids.take (k+1)).flatMap Ty.hN∧m+l2=(L ++L2).length):=by
      obtain⟨h1,h2⟩:=HP.out
      exact⟨by rw[HFL.out,h1,List.append_assoc],by rw[List.length_append,h2,hl2]⟩
     clear hs4 hown' hgrow agq
     go_roundw
     case rel=>exact⟨k+1,m+l2,_,L ++L2,rfl,by omega,by go_num,HQ,by rw[afc];exact ajx.out,hB6⟩
     case measure=>simp[intOf];omega
    ·have hkn:k=n:=by omega
     have HT:Hid (kids.take k=kids):=List.take_of_length_le (by have:=HN.out;omega)
     have HE:Hid (L=Ty.hN ⟨21,name,labels,kids⟩):=by show _=_;rw[HP.out.1,HT.out,aun,HN0.out]
     have HFI:Hid (wr.ownsRow w.heap.size 9 1 u (Ty.hN ⟨21,name,labels,kids⟩).length (strs (Ty.hN ⟨21,name,labels,kids⟩))):=by show World.ownsRow _ _ _ _ _ _ _;rw[← HE.out,← HP.out.2];exact hown
     clear hown
     subst hkn
     go_wp2_with fail
     go_ret
     exact⟨_,rfl,HFI.out,hbr⟩
theorem a3n:∀ t:Ty,beh t:=Ty.ahy fun kind name labels kids ih=>ba9 ih
set_option maxHeartbeats 3200000 in
theorem a3o (f:jh) (hok:OkN f) {B:Nat} {cs:List Value} {w:World} (hB:B≤w.heap.size) (h:jy w B (jh.pd f) cs):
  Calls Tryz.prog 65 #[.agg cs.toArray] w fun e w'=>bl3 (ata f) w e w':=by
 obtain⟨params,⟨bg,cu,jv,mg⟩,async⟩:=f
 obtain⟨i0,hi,hz0,hz1,hz2⟩:=info_parts alu
 obtain⟨ad3,oq,ug,rfl,adu,aaf,aaw⟩:=jh.open_ h
 have af5:=Lib.hid adu
 clear adu
 have ab9:=Lib.hid aaf
 clear aaf
 have ac6:=Lib.hid aaw
 clear aaw
 obtain⟨A,n,c,rfl,hnl,hm,hat⟩:=ny Param.jw (by decide) af5.out
 unfold maxLen at hm
 have HN:=Lib.hid hnl
 have hn6:n≤6:=by have h1:params.length≤6:=hok.len;omega
 have hrp:(Ty.mk bg cu jv mg).parts≤24:=hok.res.2
 have HOK:=Lib.hid (fun p (hp:p ∈ params)=>(hok.par p hp).2)
 clear hnl h hok
 have hrl:=aqe ⟨bg,cu,jv,mg⟩
 go_enter Tryz.func65,Tryz.ntmps65
 go_wp2_with fail
 obtain⟨w0,hw0⟩:∃ W,W=w.alloc (.cells #[.slice A n c,.int .i64 bg,.string cu,oq,ug,.bool async] 62):=⟨_,rfl⟩
 rw[← hw0]
 have bA:Blk w0 w.heap.size 62 #[.slice A n c,.int .i64 bg,.string cu,oq,ug,.bool async]:=by rw[hw0];exact Blk.new w _ _
 have hB0:Below w.heap.size w w0:=by rw[hw0];exact(Below.refl _ _).alloc (Nat.le_refl _) _
 clear hw0
 refine(a3n ⟨bg,cu,jv,mg⟩ B [.int .i64 bg,.string cu,oq,ug] w0 (Nat.le_trans hB hB0.size) (Ty.close_ (ab9.out.below (hB0.mono hB)) (ac6.out.below (hB0.mono hB))) (by omega)).mono ?_
 rintro e w1 ⟨v1,rfl,hown1,hb1⟩
 obtain⟨N0,hN0⟩:∃ N0,Ty.hN ⟨bg,cu,jv,mg⟩=N0:=⟨_,rfl⟩
 have HN0:Hid (N0=Ty.hN ⟨bg,cu,jv,mg⟩):=hN0.symm
 have HO0:w1.ownsRow w.heap.size 9 1 v1 N0.length (strs N0):=by rw[← hN0];exact a9m hown1 hB0.size
 have a3m:Hid (N0.length≤24):=by show _≤_;rw[← hN0];omega
 have hBa:=hB0.trans (hb1.mono hB0.size)
 have bA1:=bA.step hb1
 have ao1:w1.cell? ⟨w.heap.size,0,none⟩=some (.slice A n c):=bA1.cell 0
 clear bA hB0 hown1 hN0 hrl
 go_wp2_with fail
 go_loopw [3,12] (fun out i wr=>∃ (k m:Nat) (u:Value) (L:List ByteArray),u=out∧k≤n∧i=.int .i64 k∧Hid (L=N0 ++(params.take k).flatMap (fun p=>p.typ.hN)∧m=L.length)∧m≤24+24 * k∧wr.ownsRow w.heap.size 9 1 u m (strs L)∧Below w.heap.size w wr) (fun _ i _=>n - (intOf i).toNat)
 case atStart=>exact⟨0,_,_,N0,rfl,Nat.zero_le _,rfl,Lib.hid ⟨by simp,rfl⟩,by have:=a3m.out;omega,HO0,hBa⟩
 case round=>
  obtain⟨k,m,u,L,rfl,hk,rfl,HP,hmL,hown,hbr⟩:=hrel
  have hsz:=hbr.size
  by_cases hlt:k < n
  ·obtain⟨g,off,rfl,hg,hcell⟩:=hat (by omega)
   obtain⟨t,hx,hmem⟩:=xg HN.out hlt
   obtain⟨name,⟨iy,ji,og,um⟩⟩:=t
   have an3:wr.cell? ⟨g,off+k * 5,none⟩=some (.string name):=gq hbr (by omega) (hcell k 0 _ _ hx (by rw[Param.ay];rfl))
   have ak5:wr.cell? ⟨g,off+k * 5+1,none⟩=some (.int .i64 iy):=gq hbr (by omega) (hcell k 1 _ _ hx (by rw[Param.ay];rfl))
   have ak6:wr.cell? ⟨g,off+k * 5+2,none⟩=some (.string ji):=gq hbr (by omega) (hcell k 2 _ _ hx (by rw[Param.ay];rfl))
   obtain⟨aau,ajb,abd⟩:∃ u,wr.cell? ⟨g,off+k * 5+3,none⟩=some u∧Rep wr B (.row 1 (og.flatMap tu)) u:=ku hbr (by omega) hB (hcell k 3 _ _ hx (by rw[Param.ay];rfl))
   have acs:=Lib.hid abd
   clear abd
   obtain⟨abx,ak7,ace⟩:∃ u,wr.cell? ⟨g,off+k * 5+4,none⟩=some u∧Rep wr B (.row 4 (um.flatMap Ty.pd)) u:=ku hbr (by omega) hB (hcell k 4 _ _ hx (by rw[Param.ay];rfl))
   have adz:=Lib.hid ace
   clear ace
   obtain⟨abh,abj,abk,rfl⟩:=acs.out.form
   obtain⟨aci,acj,acn,rfl⟩:=adz.out.form
   have HX:=Lib.hid hx
   have HM:=Lib.hid hmem
   clear hx hmem
   clear hcell
   have HOW:=Lib.hid hown
   have HFL:Hid ((params.take (k+1)).flatMap (fun p=>p.typ.hN)=(params.take k).flatMap (fun p=>p.typ.hN) ++Ty.hN ⟨iy,ji,og,um⟩):=akp HX.out
   have hpt:(Ty.mk iy ji og um).parts≤24:=(HOK.out _ HM.out)
   have hln:=aqe ⟨iy,ji,og,um⟩
   clear hown
   go_wp2_with fail
   obtain⟨wb,hwb⟩:∃ W,W=wr.alloc (.cells #[.string name,.int .i64 iy,.string ji,.slice abh abj abk,.slice aci acj acn] 115):=⟨_,rfl⟩
   rw[← hwb]
   have bE:Blk wb wr.heap.size 115 #[.string name,.int .i64 iy,.string ji,.slice abh abj abk,.slice aci acj acn]:=by rw[hwb];exact Blk.new wr _ _
   have hbb:Below wr.heap.size wr wb:=by rw[hwb];exact(Below.refl _ _).alloc (Nat.le_refl _) _
   clear hwb
   have hBb:=hbr.trans (hbb.mono hsz)
   refine(a3n ⟨iy,ji,og,um⟩ B [.int .i64 iy,.string ji,.slice abh abj abk,.slice aci acj acn] wb (Nat.le_trans hB hBb.size) (Ty.close_ (acs.out.below (hbb.mono (Nat.le_trans hB hsz))) (adz.out.below (hbb.mono (Nat.le_trans hB hsz)))) (by omega)).mono ?_
   rintro e wq ⟨v2,rfl,hown2,hbq⟩
   obtain⟨L2,hL2⟩:∃ L2,L2=Ty.hN ⟨iy,ji,og,um⟩:=⟨_,rfl⟩
   rw[← hL2] at hown2 hln HFL
   have alf:=Lib.hid (aur hown2)
   have hBq:=hBb.trans (hbq.mono hBb.size)
   have hs4:=af8 (af8 HOW.out hbb) hbq
   obtain⟨l2,hl2⟩:∃ l,L2.length=l:=⟨_,rfl⟩
   rw[hl2] at alf hln
   clear hown2 hL2
   go_wp2_with (at_builtin;refine ai6 rfl _ _ 22 rfl w.heap.size 9 i0 (.string {data:=#[]}) 1 16 Tryz.underlying22 hi hz0 hz1 hz2 rfl (by decide) _ _ _ rfl hs4 _ _ _ rfl alf.out (alx _) (by simp only[maxLen];omega) (by omega) hBq.size ?_;intro v' w5 hown' hgrow agq)
   have hB6:=hBq.grown hgrow hBq.size (fun g hg=>(hs4.lt g hg).1)
   have ajx:=Lib.hid hown'
   have HQ:Hid (L ++L2=N0 ++(params.take (k+1)).flatMap (fun p=>p.typ.hN)∧m+l2=(L ++L2).length):=by
    obtain⟨h1,h2⟩:=HP.out
    exact⟨by rw[HFL.out,h1,List.append_assoc],by rw[List.length_append,h2,hl2]⟩
   clear hs4 hown' hgrow agq
   go_roundw
   case rel=>exact⟨k+1,m+l2,_,L ++L2,rfl,by omega,by go_num,HQ,by omega,by rw[afc];exact ajx.out,hB6⟩
   case measure=>simp[intOf];omega
  ·have hkn:k=n:=by omega
   have HT:Hid (params.take k=params):=List.take_of_length_le (by have:=HN.out;omega)
   have HE:Hid (L=ata ⟨params,⟨bg,cu,jv,mg⟩,async⟩):=by show _=_;rw[HP.out.1,HT.out,HN0.out];rfl
   have HFI:Hid (wr.ownsRow w.heap.size 9 1 u (ata ⟨params,⟨bg,cu,jv,mg⟩,async⟩).length (strs (ata ⟨params,⟨bg,cu,jv,mg⟩,async⟩))):=by show World.ownsRow _ _ _ _ _ _ _;rw[← HE.out,← HP.out.2];exact hown
   clear hown
   subst hkn
   go_wp2_with fail
   go_ret
   exact⟨_,rfl,HFI.out,hbr⟩
theorem a5g (a:Array Value) (W:World):Sem.run Tryz.prog (callFunc 64 a) W=.ok (.enter 64 a) W:=by kernel_rfl
theorem a5h (a:Array Value) (W:World):Sem.run Tryz.prog (callFunc 66 a) W=.ok (.enter 66 a) W:=by kernel_rfl
theorem bbd (x:ByteArray) (hx:x.size≤maxLen) (w:World):Calls Tryz.prog 64 #[.string x] w fun e w'=>e=.returned (.bool (!aag x))∧Below w.heap.size w w':=by
 have HN:=Lib.hid (aeo x hx w)
 obtain⟨b,hb⟩:∃ b,aag x=b:=⟨_,rfl⟩
 rw[hb] at HN ⊢
 go_enter Tryz.func64,Tryz.ntmps64
 go_wp2_with fail
 refine HN.out.mono ?_
 rintro e w1 ⟨rfl,hb1⟩
 go_wp2_with fail
 go_ret
 exact⟨rfl,hb1⟩
theorem bei (res:List ByteArray) (x:ByteArray):(res.any fun t=>decide (x=t))=res.any fun r=>decide (r=x):=by
 congr 1
 funext t
 exact decide_eq_decide.2 ⟨Eq.symm,Eq.symm⟩
theorem bbe (x:ByteArray) {res:List ByteArray} {B b:Nat} {v:Value} {w:World} (hB:B≤w.heap.size) (k:Rep w B (.row 1 (res.flatMap tu)) v) (hc:w.cell? ⟨b,3,none⟩=some v):
  Calls Tryz.prog 66 #[.string x,.pointer (some ⟨b,0,none⟩)] w fun e w'=>e=.returned (.bool (!(res.any fun r=>decide (r=x))))∧Below w.heap.size w w':=by
 have HC:=Lib.hid (akf x hB k)
 rw[bei] at HC
 obtain⟨q,hq⟩:∃ q,(res.any fun r=>decide (r=x))=q:=⟨_,rfl⟩
 rw[hq] at HC ⊢
 obtain⟨A,n,c,rfl,-⟩:=ajd k
 clear k hq
 go_enter Tryz.func66,Tryz.ntmps66
 go_wp2_with fail
 refine HC.out.mono ?_
 rintro e w1 ⟨rfl,hb1⟩
 go_wp2_with fail
 go_ret
 exact⟨rfl,hb1⟩
theorem bbf {α:Type} {xs:List α} {p:α→Bool} (h:(xs.any fun x=>!p x)=false):xs.all p=true:=by
 rw[List.any_eq_false] at h
 rw[List.all_eq_true]
 intro x hx
 have:=h x hx
 simpa using this
theorem bl4 {α:Type} {xs:List α} {p:α→Bool} (h:(xs.any fun x=>!p x)=true):xs.all p=false:=by
 obtain⟨x,hx,h2⟩:=List.any_eq_true.1 h
 exact List.all_eq_false.2 ⟨x,hx,by simpa using h2⟩
theorem bbg {f:jh} {res:List ByteArray}:((ata f).any fun n=>!(res.any fun r=>decide (r=n)))=!ajc f res:=by
 rw[ajc,← List.not_all_eq_any_not]
structure SzF (f:jh):Prop where
 len:f.params.length≤1048576
 par:∀ p ∈ f.params,p.typ.parts≤4194304
 res:f.result.parts≤4194304
set_option maxHeartbeats 12800000 in
theorem avm (f:qg) (hsz:∀ x ∈ f.funcs,SzF x.typ) (hvz:f.version.size≤1048576) {B:Nat} {cs:List Value} {w:World} (hB:B≤w.heap.size) (hT:ali w) (hwf:PD.wfL (qg.pd f)) (h:jy w B (qg.pd f) cs):
  Calls Tryz.prog 31 #[.agg cs.toArray] w fun e w'=>e=.returned (.bool (agc f))∧Below w.heap.size w w':=by
 obtain⟨package,name,version,resources,funcs⟩:=f
 obtain⟨w1_,w2_,w3_,w4_,w5_⟩:=ba2 hwf
 obtain⟨i0,hi,hz0,hz1,hz2⟩:=info_parts alu
 have HWR:=Lib.hid w4_
 have HWF:=Lib.hid w5_
 have HSZ:=Lib.hid hsz
 have HT:=Lib.hid hT
 simp only at hvz
 obtain⟨R,hR⟩:∃ R:Bool,R=agc ⟨package,name,version,resources,funcs⟩:=⟨_,rfl⟩
 rw[← hR]
 rw[agc] at hR
 simp only at hR
 have HR:=Lib.hid hR
 clear hR w4_ w5_ hwf hsz hT
 obtain⟨oz,aaq,rfl,aa8,ad4⟩:=qg.open_ h
 have adq:=Lib.hid aa8
 clear aa8
 have af0:=Lib.hid ad4
 clear ad4
 obtain⟨A,n,c,rfl,hnl,hm,hat⟩:=ny Fun.jw (by decide) af0.out
 obtain⟨RA,rn,rc,rfl,hrl,hrm,a8h⟩:=ajd adq.out
 unfold maxLen at hm
 have HN:=Lib.hid hnl
 have HRN:=Lib.hid hrl
 clear h hnl hrl
 go_enter Tryz.func31,Tryz.ntmps31
 go_wp2_with fail
 obtain⟨w0,hw0⟩:∃ W,W=w.alloc (.cells #[.string package,.string name,.string version,.slice RA rn rc,.slice A n c] 30):=⟨_,rfl⟩
 rw[← hw0]
 have bA:Blk w0 w.heap.size 30 #[.string package,.string name,.string version,.slice RA rn rc,.slice A n c]:=by rw[hw0];exact Blk.new w _ _
 have hB0:Below w.heap.size w w0:=by rw[hw0];exact(Below.refl _ _).alloc (Nat.le_refl _) _
 clear hw0
 refine(aeo package w1_ _).mono ?_
 rintro e w1 ⟨rfl,hb1⟩
 have hB1:=hB0.trans (hb1.mono hB0.size)
 have bA1:=bA.step hb1
 clear bA
 cases hp:aag package
 case false=>
  have HF:Hid (R=false):=by show _=_;rw[HR.out,hp];rfl
  clear hp
  go_wp2_with fail
  go_ret
  exact⟨ah HF.out.symm,hB1⟩
 have ag5:w1.cell? ⟨w.heap.size,0,none⟩=some (.string package):=bA1.cell 0
 have akb:w1.cell? ⟨w.heap.size,1,none⟩=some (.string name):=bA1.cell 1
 have ag6:w1.cell? ⟨w.heap.size,2,none⟩=some (.string version):=bA1.cell 2
 have afx:w1.cell? ⟨w.heap.size,3,none⟩=some (.slice RA rn rc):=bA1.cell 3
 have aia:w1.cell? ⟨w.heap.size,4,none⟩=some (.slice A n c):=bA1.cell 4
 go_wp2_with fail
 refine(aeo name w2_ _).mono ?_
 rintro e w2 ⟨rfl,hb2⟩
 have hB2:=hB1.trans (hb2.mono hB1.size)
 have bA2:=bA1.step hb2
 clear bA1 ag5 akb ag6 afx aia
 cases hq:aag name
 case false=>
  have HF:Hid (R=false):=by show _=_;rw[HR.out,hp,hq];rfl
  clear hp hq
  go_wp2_with fail
  go_ret
  exact⟨ah HF.out.symm,hB2⟩
 have ag5:w2.cell? ⟨w.heap.size,0,none⟩=some (.string package):=bA2.cell 0
 have akb:w2.cell? ⟨w.heap.size,1,none⟩=some (.string name):=bA2.cell 1
 have ag6:w2.cell? ⟨w.heap.size,2,none⟩=some (.string version):=bA2.cell 2
 have afx:w2.cell? ⟨w.heap.size,3,none⟩=some (.slice RA rn rc):=bA2.cell 3
 have aia:w2.cell? ⟨w.heap.size,4,none⟩=some (.slice A n c):=bA2.cell 4
 go_wp2_with fail
 refine(a9d version hvz _ (HT.out.below hB2)).mono ?_
 rintro e w3 ⟨rfl,hb3⟩
 have hB3:=hB2.trans (hb3.mono hB2.size)
 have bA3:=bA2.step hb3
 clear bA2 ag5 akb ag6 afx aia
 cases hv:decide (0≤afb version)
 case false=>
  have HF:Hid (R=false):=by show _=_;rw[HR.out,hp,hq,hv];rfl
  clear hp hq hv
  go_wp2_with fail
  go_ret
  exact⟨ah HF.out.symm,hB3⟩
 have ag5:w3.cell? ⟨w.heap.size,0,none⟩=some (.string package):=bA3.cell 0
 have akb:w3.cell? ⟨w.heap.size,1,none⟩=some (.string name):=bA3.cell 1
 have ag6:w3.cell? ⟨w.heap.size,2,none⟩=some (.string version):=bA3.cell 2
 have afx:w3.cell? ⟨w.heap.size,3,none⟩=some (.slice RA rn rc):=bA3.cell 3
 have aia:w3.cell? ⟨w.heap.size,4,none⟩=some (.slice A n c):=bA3.cell 4
 by_cases hr4:rn≤4
 case neg=>
  have HF:Hid (R=false):=by show _=_;rw[HR.out,hp,hq,hv,decide_eq_false (show ¬ resources.length≤4 by have:=HRN.out;omega)];rfl
  clear hp hq hv
  go_wp2_with fail
  go_ret
  exact⟨ah HF.out.symm,hB3⟩
 by_cases hn8:n≤8
 case neg=>
  have HF:Hid (R=false):=by show _=_;rw[HR.out,hp,hq,hv,decide_eq_true (show resources.length≤4 by have:=HRN.out;omega),decide_eq_false (show ¬ funcs.length≤8 by have:=HN.out;omega)];rfl
  clear hp hq hv
  go_wp2_with fail
  go_ret
  exact⟨ah HF.out.symm,hB3⟩
 have HF0:Hid (R=(ao2 resources && (funcs.all (fnB resources) && amv (funcs.map Fun.name)))):=by show _=_;rw[HR.out,hp,hq,hv,decide_eq_true (show resources.length≤4 by have:=HRN.out;omega),decide_eq_true (show funcs.length≤8 by have:=HN.out;omega)];rfl
 clear hp hq hv HR
 go_wp2_with fail
 refine(aqo (xs:=resources) (Nat.le_trans hB hB3.size) (adq.out.below (hB3.mono hB))).mono ?_
 rintro e w4 ⟨rfl,hb4⟩
 have hB4:=hB3.trans (hb4.mono hB3.size)
 have bA4:=bA3.step hb4
 clear bA3 ag5 akb ag6 afx aia
 cases hic:amv resources
 case false=>
  have HF:Hid (R=false):=by show _=_;rw[HF0.out,ao2,hic];rfl
  clear hic
  go_wp2_with fail
  go_ret
  exact⟨ah HF.out.symm,hB4⟩
 have ag5:w4.cell? ⟨w.heap.size,0,none⟩=some (.string package):=bA4.cell 0
 have akb:w4.cell? ⟨w.heap.size,1,none⟩=some (.string name):=bA4.cell 1
 have ag6:w4.cell? ⟨w.heap.size,2,none⟩=some (.string version):=bA4.cell 2
 have afx:w4.cell? ⟨w.heap.size,3,none⟩=some (.slice RA rn rc):=bA4.cell 3
 have aia:w4.cell? ⟨w.heap.size,4,none⟩=some (.slice A n c):=bA4.cell 4
 go_wp2_with fail
 refine(anc 64 #[] (fun x=>!aag x) (Nat.le_trans hB hB4.size) (adq.out.below (hB4.mono hB)) a5g (fun x hx W hW=>bbd x (HWR.out x hx) W)).mono ?_
 rintro e w5 ⟨rfl,hb5⟩
 have hB5:=hB4.trans (hb5.mono hB4.size)
 have bA5:=bA4.step hb5
 clear bA4 ag5 akb ag6 afx aia
 cases han:resources.any (fun x=>!aag x)
 case true=>
  have HF:Hid (R=false):=by show _=_;rw[HF0.out,ao2,hic,bl4 han];rfl
  clear hic han
  go_wp2_with fail
  go_ret
  exact⟨ah HF.out.symm,hB5⟩
 have HG:Hid (R=(funcs.all (fnB resources) && amv (funcs.map Fun.name))):=by show _=_;rw[HF0.out,ao2,hic,bbf han];rfl
 clear hic han HF0
 have ag5:w5.cell? ⟨w.heap.size,0,none⟩=some (.string package):=bA5.cell 0
 have akb:w5.cell? ⟨w.heap.size,1,none⟩=some (.string name):=bA5.cell 1
 have ag6:w5.cell? ⟨w.heap.size,2,none⟩=some (.string version):=bA5.cell 2
 have afx:w5.cell? ⟨w.heap.size,3,none⟩=some (.slice RA rn rc):=bA5.cell 3
 have aia:w5.cell? ⟨w.heap.size,4,none⟩=some (.slice A n c):=bA5.cell 4
 have a6:(w5.alloc (.cells #[] 9)).cell? ⟨w.heap.size,4,none⟩=some (.slice A n c):=(bA5.alloc _).cell 4
 go_wp2_with fail
 obtain⟨w6,hw6⟩:∃ V,V=w5.alloc (.cells #[] 9):=⟨_,rfl⟩
 rw[← hw6]
 have hb6:Below w5.heap.size w5 w6:=by rw[hw6];exact(Below.refl _ _).alloc (Nat.le_refl _) _
 have hB6:=hB5.trans (hb6.mono hB5.size)
 have bA6:=bA5.step hb6
 have ho6:w6.ownsRow (w.heap.size+1) 9 1 (.slice (some ⟨w5.heap.size,0,none⟩) 0 0) 0 (strs []):=by rw[hw6];exact World.ownsRow_made w5 #[] 0 (by have:=bA5.lt;omega) (by simp) (by simp)
 clear a6 hw6 hb6 hB5 bA5 ag5 akb ag6 afx aia
 go_loopw [3,47] (fun out i wr=>∃ (k:Nat) (u:Value),u=out∧k≤n∧i=.int .i64 k∧Hid (∀ (j:Nat) (x:Fun),j < k→funcs[j]?=some x→(fun x=>!fnB resources x) x=false)∧wr.ownsRow (w.heap.size+1) 9 1 u k (strs ((funcs.take k).map Fun.name))∧Below w.heap.size w wr∧Blk wr w.heap.size 30 #[.string package,.string name,.string version,.slice RA rn rc,.slice A n c]) (fun _ i _=>n - (intOf i).toNat)
 case atStart=>exact⟨0,_,rfl,Nat.zero_le _,rfl,Lib.hid fun j x h=>absurd h (by omega),ho6,hB6,bA6⟩
 case round=>
  clear ho6 hB6 bA6
  obtain⟨k,u,rfl,hk,rfl,HP,hown,hbr,bR⟩:=hrel
  have hsz:=hbr.size
  by_cases hlt:k < n
  case neg=>
   have hkn:k=n:=by omega
   have HT2:Hid (funcs.take k=funcs):=List.take_of_length_le (by have:=HN.out;omega)
   rw[HT2.out] at hown
   have LI:=Lib.hid (amb hown)
   have HF:Hid (R=amv (funcs.map Fun.name)):=by
    show _=_
    rw[HG.out,bbf (any_none (n:=k) (by have:=HN.out;omega) HP.out)];rfl
   clear hown
   subst hkn
   go_wp2_with fail
   refine(aqo (xs:=funcs.map Fun.name) (Nat.le_refl _) LI.out).mono ?_
   rintro e w2 ⟨rfl,hb2⟩
   go_wp2_with fail
   go_ret
   exact⟨ah HF.out.symm,hbr.trans (hb2.mono hsz)⟩
  obtain⟨g,off,rfl,hg2,hcell2⟩:=hat (by omega)
  obtain⟨t2,hx2,ac9⟩:=xg HN.out hlt
  obtain⟨name2,⟨ach,⟨l7,l9,zl,aan⟩,x9⟩⟩:=t2
  have afe:wr.cell? ⟨g,off+k * 7,none⟩=some (.string name2):=gq hbr (by omega) (hcell2 k 0 _ _ hx2 (by rw[Fun.ay];rfl))
  obtain⟨ao5,akc,afd⟩:∃ u,wr.cell? ⟨g,off+k * 7+1,none⟩=some u∧Rep wr B (.row 5 (ach.flatMap Param.pd)) u:=ku hbr (by omega) hB (hcell2 k 1 _ _ hx2 (by rw[Fun.ay];rfl))
  have afy:=Lib.hid afd
  clear afd
  have ahh:wr.cell? ⟨g,off+k * 7+2,none⟩=some (.int .i64 l7):=gq hbr (by omega) (hcell2 k 2 _ _ hx2 (by rw[Fun.ay];rfl))
  have ahi:wr.cell? ⟨g,off+k * 7+3,none⟩=some (.string l9):=gq hbr (by omega) (hcell2 k 3 _ _ hx2 (by rw[Fun.ay];rfl))
  obtain⟨akh,ag0,ada⟩:∃ u,wr.cell? ⟨g,off+k * 7+4,none⟩=some u∧Rep wr B (.row 1 (zl.flatMap tu)) u:=ku hbr (by omega) hB (hcell2 k 4 _ _ hx2 (by rw[Fun.ay];rfl))
  have ad2:=Lib.hid ada
  clear ada
  obtain⟨alg,ahj,ad6⟩:∃ u,wr.cell? ⟨g,off+k * 7+5,none⟩=some u∧Rep wr B (.row 4 (aan.flatMap Ty.pd)) u:=ku hbr (by omega) hB (hcell2 k 5 _ _ hx2 (by rw[Fun.ay];rfl))
  have ad9:=Lib.hid ad6
  clear ad6
  have akr:wr.cell? ⟨g,off+k * 7+6,none⟩=some (.bool x9):=gq hbr (by omega) (hcell2 k 6 _ _ hx2 (by rw[Fun.ay];rfl))
  obtain⟨aa2,aa3,aa4,rfl⟩:=afy.out.form
  obtain⟨uo,uq,uw,rfl⟩:=ad2.out.form
  obtain⟨yx,y5,y7,rfl⟩:=ad9.out.form
  have HX2:=Lib.hid hx2
  have HM2:=Lib.hid ac9
  clear hx2 ac9
  clear hcell2
  have HMS:=Lib.hid (aqf (f:=Fun.name) HX2.out)
  have hfw:=blg (HWF.out _ HM2.out)
  have hns:=hfw.1
  have hft:=hfw.2
  have hzz:=HSZ.out _ HM2.out
  have HOW:=Lib.hid hown
  have hBw:=Nat.le_trans hB hsz
  have HFB:Hid (fnB resources ⟨name2,⟨ach,⟨l7,l9,zl,aan⟩,x9⟩⟩=(aag name2 && (ah5 ⟨ach,⟨l7,l9,zl,aan⟩,x9⟩ && ajc ⟨ach,⟨l7,l9,zl,aan⟩,x9⟩ resources))):=rfl
  have amz:Hid (jy wr B (jh.pd ⟨ach,⟨l7,l9,zl,aan⟩,x9⟩) [.slice aa2 aa3 aa4,.int .i64 l7,.string l9,.slice uo uq uw,.slice yx y5 y7,.bool x9]):=(jh.close_ afy.out ad2.out ad9.out)
  have a8i:=Lib.hid (adq.out.below (hbr.mono hB))
  clear hfw hown
  go_wp2_with fail
  obtain⟨wb,hwb⟩:∃ W,W=wr.alloc (.cells #[.string name2,.slice aa2 aa3 aa4,.int .i64 l7,.string l9,.slice uo uq uw,.slice yx y5 y7,.bool x9] 99):=⟨_,rfl⟩
  rw[← hwb]
  have bE:Blk wb wr.heap.size 99 #[.string name2,.slice aa2 aa3 aa4,.int .i64 l7,.string l9,.slice uo uq uw,.slice yx y5 y7,.bool x9]:=by rw[hwb];exact Blk.new wr _ _
  have hbb:Below wr.heap.size wr wb:=by rw[hwb];exact(Below.refl _ _).alloc (Nat.le_refl _) _
  clear hwb
  have hBb:=hbr.trans (hbb.mono hsz)
  have bRb:=bR.step hbb
  refine(aeo name2 hns _).mono ?_
  rintro e wc ⟨rfl,hbc⟩
  have bej:=hbb.trans (hbc.mono hbb.size)
  have hBc:=hBb.trans (hbc.mono hBb.size)
  have bEc:=bE.step hbc
  have bRc:=bRb.step hbc
  clear bE bRb
  cases hnm:aag name2
  case false=>
   have HF:Hid (R=false):=by show _=_;rw[HG.out,ak9 HX2.out (.inl (by rw[HFB.out,hnm];rfl))]
   clear hnm
   go_wp2_with fail
   go_ret
   exact⟨ah HF.out.symm,hBc⟩
  have e_1:wc.cell? ⟨wr.heap.size,1,none⟩=some (.slice aa2 aa3 aa4):=bEc.cell 1
  have e_2:wc.cell? ⟨wr.heap.size,2,none⟩=some (.int .i64 l7):=bEc.cell 2
  have e_3:wc.cell? ⟨wr.heap.size,3,none⟩=some (.string l9):=bEc.cell 3
  have e_4:wc.cell? ⟨wr.heap.size,4,none⟩=some (.slice uo uq uw):=bEc.cell 4
  have e_5:wc.cell? ⟨wr.heap.size,5,none⟩=some (.slice yx y5 y7):=bEc.cell 5
  have e_6:wc.cell? ⟨wr.heap.size,6,none⟩=some (.bool x9):=bEc.cell 6
  go_wp2_with fail
  refine(a2o ⟨ach,⟨l7,l9,zl,aan⟩,x9⟩ hzz.len hzz.par hzz.res (B:=B) (cs:=[.slice aa2 aa3 aa4,.int .i64 l7,.string l9,.slice uo uq uw,.slice yx y5 y7,.bool x9]) (Nat.le_trans hB hBc.size) hft (amz.out.below (bej.mono hBw))).mono ?_
  rintro e wd ⟨rfl,hbd⟩
  have hbd1:=bej.trans (hbd.mono bej.size)
  have hBd:=hBc.trans (hbd.mono hBc.size)
  have bEd:=bEc.step hbd
  have bRd:=bRc.step hbd
  clear bEc bRc e_1 e_2 e_3 e_4 e_5 e_6
  cases hfb:ah5 ⟨ach,⟨l7,l9,zl,aan⟩,x9⟩
  case false=>
   have HF:Hid (R=false):=by show _=_;rw[HG.out,ak9 HX2.out (.inl (by rw[HFB.out,hnm,hfb];rfl))]
   clear hnm hfb
   go_wp2_with fail
   go_ret
   exact⟨ah HF.out.symm,hBd⟩
  have e_1:wd.cell? ⟨wr.heap.size,1,none⟩=some (.slice aa2 aa3 aa4):=bEd.cell 1
  have e_2:wd.cell? ⟨wr.heap.size,2,none⟩=some (.int .i64 l7):=bEd.cell 2
  have e_3:wd.cell? ⟨wr.heap.size,3,none⟩=some (.string l9):=bEd.cell 3
  have e_4:wd.cell? ⟨wr.heap.size,4,none⟩=some (.slice uo uq uw):=bEd.cell 4
  have e_5:wd.cell? ⟨wr.heap.size,5,none⟩=some (.slice yx y5 y7):=bEd.cell 5
  have e_6:wd.cell? ⟨wr.heap.size,6,none⟩=some (.bool x9):=bEd.cell 6
  go_wp2_with fail
  refine(a3o ⟨ach,⟨l7,l9,zl,aan⟩,x9⟩ (a2p hfb) (B:=B) (cs:=[.slice aa2 aa3 aa4,.int .i64 l7,.string l9,.slice uo uq uw,.slice yx y5 y7,.bool x9]) (Nat.le_trans hB hBd.size) (amz.out.below (hbd1.mono hBw))).mono ?_
  rintro e we ⟨vn,rfl,bgl,hbe⟩
  have bek:=hbd1.trans (hbe.mono hbd1.size)
  have hBe:=hBd.trans (hbe.mono hBd.size)
  have bEe:=bEd.step hbe
  have bRe:=bRd.step hbe
  have bqf:=Lib.hid (amb bgl)
  have b_r:we.cell? ⟨w.heap.size,3,none⟩=some (.slice RA rn rc):=bRe.cell 3
  clear bEd bRd bgl e_1 e_2 e_3 e_4 e_5 e_6
  go_wp2_with fail
  have bl5:=Lib.hid b_r
  refine(anc 66 #[.pointer (some ⟨w.heap.size,0,none⟩)] (fun x=>!(resources.any fun r=>decide (r=x))) (Nat.le_refl _) bqf.out a5h (fun x hx W hW=>bbe x (B:=B) (v:=.slice RA rn rc) (Nat.le_trans hB (Nat.le_trans hBe.size hW.size)) (a8i.out.below ((bek.mono hBw).trans (hW.mono (Nat.le_trans hB hBe.size)))) ((hW.cell (p:=⟨w.heap.size,3,none⟩) bRe.lt).trans bl5.out))).mono ?_
  rintro e wf ⟨rfl,hbf⟩
  rw[bbg]
  have bqg:=bek.trans (hbf.mono bek.size)
  have hBf:=hBe.trans (hbf.mono hBe.size)
  have bEf:=bEe.step hbf
  have bRf:=bRe.step hbf
  clear bEe bRe b_r bl5
  cases hkn2:ajc ⟨ach,⟨l7,l9,zl,aan⟩,x9⟩ resources
  case false=>
   have HF:Hid (R=false):=by show _=_;rw[HG.out,ak9 HX2.out (.inl (by rw[HFB.out,hnm,hfb,hkn2];rfl))]
   clear hnm hfb hkn2
   go_wp2_with fail
   go_ret
   exact⟨ah HF.out.symm,hBf⟩
  have HQ:=Lib.hid (afr HP.out HX2.out (by show(!_)=false;rw[HFB.out,hnm,hfb,hkn2];rfl))
  have e_0:wf.cell? ⟨wr.heap.size,0,none⟩=some (.string name2):=bEf.cell 0
  have hs4:=(af8 HOW.out bqg).alloc (.cells #[Value.string name2] 9)
  have hc1:=cell_one_new wf (Value.string name2) 9
  have hBg:Below w.heap.size w (wf.alloc (.cells #[Value.string name2] 9)):=hBf.alloc hBf.size _
  have bRg:=bRf.alloc (.cells #[Value.string name2] 9)
  have bv5:w.heap.size < wf.heap.size:=bRf.lt
  clear hnm hfb hkn2 bEf
  go_wp2_with (at_builtin;refine wpList_append_own _ rfl _ _ 22 rfl (w.heap.size+1) 9 i0 (.string {data:=#[]}) 1 16 Tryz.underlying22 hi hz0 hz1 hz2 rfl (by decide) _ _ _ rfl hs4 ⟨wf.heap.size,0,none⟩ 1 1 [_] rfl rfl hc1 (ai0 _) (by simp only[maxLen];omega) (by omega) (by have:=bRg.lt;omega) ?_;intro v' w5 hown' hgrow _)
  have hBh:=hBg.grown hgrow hBg.size (fun g hg=>by have:=(hs4.lt g hg).1;omega)
  have ajx:=Lib.hid hown'
  have bRh:Blk w5 w.heap.size 30 #[.string package,.string name,.string version,.slice RA rn rc,.slice (some ⟨g,off,none⟩) n c]:=(hgrow.block _ bRg.lt (fun e=>by have:=(hs4.lt _ e.symm).1;omega)).trans bRg
  clear hs4 hc1 hown' hgrow
  go_roundw
  case rel=>exact⟨k+1,_,rfl,by omega,by go_num,HQ,by rw[HMS.out,afc];exact ajx.out,hBh,bRh⟩
  case measure=>simp[intOf];omega
end Go.Proofs.YtbafphecjijdmaaGreatDoor
