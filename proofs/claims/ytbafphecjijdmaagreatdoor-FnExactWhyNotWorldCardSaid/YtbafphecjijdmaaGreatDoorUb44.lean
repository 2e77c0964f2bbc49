/-
  Interfaces of the program: increasing, resources, funcResources, FaceOk (by program: gen_fci.py).
-/
import Derived.Test.YtbafphecjijdmaaGreatDoorUb24
import Derived.Test.YtbafphecjijdmaaGreatDoorUb28
import Derived.Test.YtbafphecjijdmaaGreatDoorUb39
import Derived.Test.YtbafphecjijdmaaGreatDoorUb25
import Derived.Test.YtbafphecjijdmaaGreatDoorUb30
namespace Go.Proofs.YtbafphecjijdmaaGreatDoor
open Go.RowKit
set_option linter.all false
set_option maxRecDepth 16000
set_option maxHeartbeats 1600000 in
theorem asj {xs:List ByteArray} {B:Nat} {v:Value} {w:World} (hB:B≤w.heap.size) (h:Rep w B (.row 1 (xs.flatMap qj)) v):
  Calls Tryz.prog 62 #[v] w fun e w'=>e=.returned (.bool (an1 xs))∧Below w.heap.size w w':=by
 obtain⟨R,hR⟩:∃ R:Bool,R=an1 xs:=⟨_,rfl⟩
 rw[← hR]
 have HR:=zqd hR
 obtain⟨A,n,c,rfl,hn,hm,hat⟩:=akg h
 have HN:=zqd hn
 clear h hn hR
 go_enter Tryz.func62,Tryz.ntmps62
 go_wp2_with fail
 go_loopw [3] (fun i wr=>∃ k:Nat,1≤k∧(k≤n∨k=1)∧i=.int .i64 k∧Hid (∀ j,j < k→ajn xs j=true)∧Below w.heap.size w wr) (fun i _=>n - (intOf i).toNat)
 case atStart=>exact⟨1,zql _,.inr rfl,rfl,zqd fun j h=>(by have hj:j=0:=(by omega);subst hj;exact atc _),zqf _ _⟩
 case round=>
  obtain⟨k,hk0,hk,rfl,HP,hbr⟩:=hrel
  by_cases hlt:k < n
  case neg=>
   have HF:Hid (R=true):=by show _=_;rw[HR.out];exact a2c fun j hj=>HP.out j (by have:=HN.out;omega)
   go_wp2_with fail
   go_ret
   exact⟨ah HF.out.symm,hbr⟩
  obtain⟨g,off,rfl,hg,hcell⟩:=hat (by omega)
  obtain⟨x,hx,_⟩:=um HN.out hlt
  obtain⟨y,hy,_⟩:=um HN.out (show k - 1 < n by omega)
  have c_x:wr.cell? ⟨g,off+k,none⟩=some (.string x):=(hbr.cell (p:=⟨g,off+k,none⟩) (by simp only;omega)).trans (hcell k x hx)
  have c_y:wr.cell? ⟨g,off+(k - 1),none⟩=some (.string y):=(hbr.cell (p:=⟨g,off+(k - 1),none⟩) (by simp only;omega)).trans (hcell (k - 1) y hy)
  have HIN:=zqd (ayq (by omega) hx hy)
  have hki:((k:Int) - 1).toNat=k - 1:=by omega
  have hkp:(0:Int)≤(k:Int) - 1:=by omega
  have hk1:(1:Int)≤(k:Int):=by omega
  have hkn:(k:Int) - 1 < (n:Int):=by omega
  have HL:Hid (k < xs.length):=(List.getElem?_eq_some_iff.1 hx).1
  clear hx hy hcell hat
  cases hlx:Op.bytesLess y.toList x.toList
  case false=>
   have HF:Hid (R=false):=by show _=_;rw[HR.out];exact a2d HL.out (HIN.out.trans hlx)
   go_wp2_with fail
   go_quiet (fail)
   go_wp2_with fail
   go_ret
   exact⟨ah HF.out.symm,below_drewN hbr _⟩
  case true=>
   have HQ:=zqd (ako HP.out (HIN.out.trans hlx))
   go_wp2_with fail
   go_quiet (fail)
   go_wp2_with fail
   go_roundw
   case rel=>exact⟨k+1,by omega,by omega,by go_num,HQ,below_drewN hbr _⟩
   case measure=>simp[intOf];omega
def bsa (L:List ByteArray) (w:World) (e:Ending) (w':World):Prop:=∃ v,e=.returned v∧w'.ownsRow w.heap.size 9 1 v L.length (strs L)∧Below w.heap.size w w'
def bkk (t:Ty):Prop:=∀ (B:Nat) (cs:List Value) (w:World),B≤w.heap.size→lq w B (Ty.pd t) cs→t.parts≤1073741824→
 Calls Tryz.prog 96 #[.agg cs.toArray] w fun e w'=>bsa t.hN w e w'
theorem aw5 {w:World} {base n:Nat} {e:TypeId} {v:Value} {xs:List ByteArray} (h:w.ownsRow base e 1 v n (strs xs)):ate w v 1 xs.length (strs xs):=bco (ane h)
theorem be8 {w:World} {base base' sz n:Nat} {e:TypeId} {v:Value} {xs:List Value} (h:w.ownsRow base e sz v n xs) (hb:base'≤base):w.ownsRow base' e sz v n xs:=
 ⟨h.1,h.2.elim .inl fun⟨g,cap,cur,e1,hbb,hh,hr⟩=>.inr ⟨g,cap,cur,e1,Nat.le_trans hb hbb,hh,hr⟩⟩
theorem aw6:∀ ts:List Ty,(ts.flatMap Ty.hN).length≤Ty.adh ts
 | []=>by simp[Ty.adh]
 | t ::r=>by
  have h1:=ar8 t
  have h2:=aw6 r
  rw[List.flatMap_cons,List.length_append,Ty.adh];omega
set_option maxHeartbeats 3200000 in
theorem bg6 {kind:Int} {name:ByteArray} {labels:List ByteArray} {kids:List Ty} (ih:∀ t ∈ kids,bkk t):bkk ⟨kind,name,labels,kids⟩:=by
 intro B cs w hB h hz
 obtain⟨i0,hi,hz0,hz1,hz2⟩:=info_parts amu
 obtain⟨iw,qw,rfl,bf,gu⟩:=Ty.open_ h
 have pz:=zqd bf
 clear bf
 have qo:=zqd gu
 clear gu
 obtain⟨A,n,c,rfl,hnl,hm,hat⟩:=ni Ty.jd (by decide) qo.out
 unfold maxLen at hm
 rw[Ty.parts] at hz
 have HN:=zqd hnl
 have HI:=zqd ih
 have hnp:n≤1073741824:=by have:=as1 kids;omega
 clear hnl ih h
 obtain⟨N0,hN0⟩:∃ N0,(if named kind then [name] else [])=N0:=⟨_,rfl⟩
 have HN0:=zqd hN0
 have a9k:Hid (N0.length≤1):=by show _≤_;rw[← hN0];split<;>simp
 clear hN0
 obtain⟨we,hwe⟩:∃ V,V=((w.alloc (.cells #[.int .i64 kind,.string name,iw,.slice A n c] 60)).alloc (.cells #[] 9)):=⟨_,rfl⟩
 have hbe:Below w.heap.size w we:=by rw[hwe];exact((zqf _ _).alloc (zql _) _).alloc (by simp) _
 have hoe:we.ownsRow w.heap.size 9 1 (.slice (some ⟨w.heap.size+1,0,none⟩) 0 0) 0 (strs []):=by
  rw[hwe]
  have:=World.ownsRow_made (base:=w.heap.size) (e:=9) (size:=1) (w.alloc (.cells #[.int .i64 kind,.string name,iw,.slice A n c] 60)) #[] 0 (by simp) (by simp) (by simp)
  simpa [strs] using this
 have HWE:=zqd hwe
 have HBE:=zqd hbe
 have HOE:=zqd hoe
 clear hwe hbe hoe
 cases hnk:named kind
 case false=>
  have HZ:Hid (N0=[]):=by show _=_;rw[← HN0.out,hnk];rfl
  have b3m:(kind ==20)=false:=by cases h:(kind ==20)<;>simp[named,h] at hnk ⊢
  have b3n:(kind ==21)=false:=by cases h:(kind ==21)<;>simp[named,h] at hnk ⊢
  clear hnk
  go_enter Tryz.func96,Tryz.ntmps96
  go_wp2_with fail
  rw[← HWE.out]
  have HO0:Hid (we.ownsRow w.heap.size 9 1 (.slice (some ⟨w.heap.size+1,0,none⟩) 0 0) N0.length (strs N0)):=by show World.ownsRow _ _ _ _ _ _ _;rw[HZ.out];exact HOE.out
  have hBa:=HBE.out
  go_loopw [3,23] (fun out i wr=>∃ (k m:Nat) (u:Value) (L:List ByteArray),u=out∧k≤n∧i=.int .i64 k∧Hid (L=N0 ++(kids.take k).flatMap Ty.hN∧m=L.length)∧wr.ownsRow w.heap.size 9 1 u m (strs L)∧Below w.heap.size w wr) (fun _ i _=>n - (intOf i).toNat)
  case atStart=>exact⟨0,_,_,N0,rfl,Nat.zero_le _,rfl,zqd ⟨by simp,rfl⟩,HO0.out,hBa⟩
  case round=>
   obtain⟨k,m,u,L,rfl,hk,rfl,HP,hown,hbr⟩:=hrel
   have hsz:=hbr.size
   by_cases hlt:k < n
   ·obtain⟨g,off,rfl,hg2,hcell2⟩:=hat (by omega)
    obtain⟨t2,hx2,ab1⟩:=um HN.out hlt
    obtain⟨kind2,name2,zu,abv⟩:=t2
    have aiw:wr.cell? ⟨g,off+k * 4,none⟩=some (.int .i64 kind2):=bg hbr (by omega) (hcell2 k 0 _ _ hx2 (by rw[Ty.aj];rfl))
    have ad5:wr.cell? ⟨g,off+k * 4+1,none⟩=some (.string name2):=bg hbr (by omega) (hcell2 k 1 _ _ hx2 (by rw[Ty.aj];rfl))
    obtain⟨adg,ahq,ace⟩:∃ u,wr.cell? ⟨g,off+k * 4+2,none⟩=some u∧Rep wr B (.row 1 (zu.flatMap qj)) u:=jc hbr (by omega) hB (hcell2 k 2 _ _ hx2 (by rw[Ty.aj];rfl))
    have adi:=zqd ace
    clear ace
    obtain⟨aez,ajc,ad6⟩:∃ u,wr.cell? ⟨g,off+k * 4+3,none⟩=some u∧Rep wr B (.row 4 (abv.flatMap Ty.pd)) u:=jc hbr (by omega) hB (hcell2 k 3 _ _ hx2 (by rw[Ty.aj];rfl))
    have aew:=zqd ad6
    clear ad6
    obtain⟨ae0,ae1,ae2,rfl⟩:=adi.out.form
    obtain⟨agh,agi,agj,rfl⟩:=aew.out.form
    have HX2:=zqd hx2
    have HM2:=zqd ab1
    clear hx2 ab1
    clear hcell2
    have hpk:=ajr HX2.out
    have hpl:=ahy kids (k+1)
    have hmL:m≤1+Ty.adh (kids.take k):=by
     obtain⟨h1,h2⟩:=HP.out
     have h3:=aw6 (kids.take k)
     have h4:=a9k.out
     rw[h2,h1,List.length_append];omega
    have HOW:=zqd hown
    have HFL:=zqd (alo (f:=Ty.hN) HX2.out)
    have hpt:(Ty.mk kind2 name2 zu abv).parts≤1073741824:=by omega
    have hln:=ar8 ⟨kind2,name2,zu,abv⟩
    clear hown
    go_wp2_with fail
    obtain⟨wb,hwb⟩:=zqe wr 60 #[.int .i64 kind2,.string name2,.slice ae0 ae1 ae2,.slice agh agi agj]
    rw[← hwb]
    have bE:=zqn hwb
    have hbb:=zqb hwb
    clear hwb
    have hBb:=hbr.trans (hbb.mono hsz)
    refine(HI.out _ HM2.out B [.int .i64 kind2,.string name2,.slice ae0 ae1 ae2,.slice agh agi agj] wb (Nat.le_trans hB hBb.size) (Ty.close_ (adi.out.below (hbb.mono (Nat.le_trans hB hsz))) (aew.out.below (hbb.mono (Nat.le_trans hB hsz)))) hpt).mono ?_
    rintro e wq ⟨v2,rfl,hown2,hbq⟩
    obtain⟨L2,hL2⟩:∃ L2,L2=Ty.hN ⟨kind2,name2,zu,abv⟩:=⟨_,rfl⟩
    rw[← hL2] at hown2 hln HFL
    have amh:=zqd (aw5 hown2)
    have hBq:=hBb.trans (hbq.mono hBb.size)
    have hs4:=agw (agw HOW.out hbb) hbq
    obtain⟨l2,hl2⟩:∃ l,L2.length=l:=⟨_,rfl⟩
    rw[hl2] at amh hln
    have hmB:m+l2≤1073741825:=by omega
    clear hown2 hL2 hpk hmL hln
    go_wp2_with (at_builtin;refine aj6 rfl _ _ 22 rfl w.heap.size 9 i0 (.string {data:=#[]}) 1 16 Tryz.underlying22 hi hz0 hz1 hz2 rfl (by decide) _ _ _ rfl hs4 _ _ _ rfl amh.out (amz _) (by simp only[maxLen];omega) (by omega) hBq.size ?_;intro v' w5 hown' hgrow ahe)
    have hB6:=hBq.grown hgrow hBq.size (fun g hg=>(hs4.lt g hg).1)
    have aky:=zqd hown'
    have HQ:Hid (L ++L2=N0 ++(kids.take (k+1)).flatMap Ty.hN∧m+l2=(L ++L2).length):=by
     obtain⟨h1,h2⟩:=HP.out
     exact⟨by rw[HFL.out,h1,List.append_assoc],by rw[List.length_append,h2,hl2]⟩
    clear hs4 hown' hgrow ahe
    go_roundw
    case rel=>exact⟨k+1,m+l2,_,L ++L2,rfl,by omega,by go_num,HQ,by rw[afs];exact aky.out,hB6⟩
    case measure=>simp[intOf];omega
   ·have hkn:k=n:=by omega
    have HT:Hid (kids.take k=kids):=List.take_of_length_le (by have:=HN.out;omega)
    have HE:Hid (L=Ty.hN ⟨kind,name,labels,kids⟩):=by show _=_;rw[HP.out.1,HT.out,aw0,HN0.out]
    have HFI:Hid (wr.ownsRow w.heap.size 9 1 u (Ty.hN ⟨kind,name,labels,kids⟩).length (strs (Ty.hN ⟨kind,name,labels,kids⟩))):=by show World.ownsRow _ _ _ _ _ _ _;rw[← HE.out,← HP.out.2];exact hown
    clear hown
    subst hkn
    go_wp2_with fail
    go_ret
    exact⟨_,rfl,HFI.out,hbr⟩
 case true=>
  have HZ:Hid (N0=[name]):=by show _=_;rw[← HN0.out,hnk];rfl
  have hs4:=HOE.out.alloc (.cells #[Value.string name] 9)
  have hc1:=cell_one_new we (Value.string name) 9
  have hB5:Below w.heap.size w (we.alloc (.cells #[Value.string name] 9)):=HBE.out.alloc HBE.out.size _
  have hwz:we.heap.size=w.heap.size+1+1:=by rw[HWE.out];simp
  rw[HWE.out] at hs4 hc1 hB5
  have hsz2:((w.alloc (.cells #[.int .i64 kind,.string name,iw,.slice A n c] 60)).alloc (.cells #[] 9)).heap.size=w.heap.size+1+1:=by simp
  rw[hsz2] at hc1
  clear hwz
  rcases(show kind=20∨kind=21 by simpa [named] using hnk)with rfl|rfl
  ·have bX:Blk (((w.alloc (.cells #[.int .i64 20,.string name,iw,.slice A n c] 60)).alloc (.cells #[] 9)).alloc (.cells #[Value.string name] 9)) w.heap.size 60 #[.int .i64 20,.string name,iw,.slice A n c]:=((Blk.new w _ _).alloc _).alloc _
   go_enter Tryz.func96,Tryz.ntmps96
   go_wp2_with (at_builtin;refine wpList_append_own _ rfl _ _ 22 rfl w.heap.size 9 i0 (.string {data:=#[]}) 1 16 Tryz.underlying22 hi hz0 hz1 hz2 rfl (by decide) (.slice (some ⟨w.heap.size+1,0,none⟩) 0 0) _ _ rfl hs4 ⟨w.heap.size+1+1,0,none⟩ 1 1 [_] rfl rfl hc1 (ajx _) (by simp only[maxLen];omega) (by omega) hB5.size ?_;intro va wa hown' hgrow _;have bXa:Blk wa w.heap.size 60 #[.int .i64 20,.string name,iw,.slice A n c]:=(hgrow.block _ bX.lt (fun e=>by revert e;simp[Value.ownBlock])).trans bX;have a_3:wa.cell? ⟨w.heap.size,3,none⟩=some (.slice A n c):=bXa.cell 3)
   have hBa:=hB5.grown hgrow hB5.size (fun g hg=>(hs4.lt g hg).1)
   have HO0:Hid (wa.ownsRow w.heap.size 9 1 va N0.length (strs N0)):=by show World.ownsRow _ _ _ _ _ _ _;rw[HZ.out];exact hown'
   clear hs4 hc1 hB5 hown' hgrow hnk
   go_loopw [3,23] (fun out i wr=>∃ (k m:Nat) (u:Value) (L:List ByteArray),u=out∧k≤n∧i=.int .i64 k∧Hid (L=N0 ++(kids.take k).flatMap Ty.hN∧m=L.length)∧wr.ownsRow w.heap.size 9 1 u m (strs L)∧Below w.heap.size w wr) (fun _ i _=>n - (intOf i).toNat)
   case atStart=>exact⟨0,_,_,N0,rfl,Nat.zero_le _,rfl,zqd ⟨by simp,rfl⟩,HO0.out,hBa⟩
   case round=>
    obtain⟨k,m,u,L,rfl,hk,rfl,HP,hown,hbr⟩:=hrel
    have hsz:=hbr.size
    by_cases hlt:k < n
    ·obtain⟨g,off,rfl,hg2,hcell2⟩:=hat (by omega)
     obtain⟨t2,hx2,ab1⟩:=um HN.out hlt
     obtain⟨kind2,name2,zu,abv⟩:=t2
     have aiw:wr.cell? ⟨g,off+k * 4,none⟩=some (.int .i64 kind2):=bg hbr (by omega) (hcell2 k 0 _ _ hx2 (by rw[Ty.aj];rfl))
     have ad5:wr.cell? ⟨g,off+k * 4+1,none⟩=some (.string name2):=bg hbr (by omega) (hcell2 k 1 _ _ hx2 (by rw[Ty.aj];rfl))
     obtain⟨adg,ahq,ace⟩:∃ u,wr.cell? ⟨g,off+k * 4+2,none⟩=some u∧Rep wr B (.row 1 (zu.flatMap qj)) u:=jc hbr (by omega) hB (hcell2 k 2 _ _ hx2 (by rw[Ty.aj];rfl))
     have adi:=zqd ace
     clear ace
     obtain⟨aez,ajc,ad6⟩:∃ u,wr.cell? ⟨g,off+k * 4+3,none⟩=some u∧Rep wr B (.row 4 (abv.flatMap Ty.pd)) u:=jc hbr (by omega) hB (hcell2 k 3 _ _ hx2 (by rw[Ty.aj];rfl))
     have aew:=zqd ad6
     clear ad6
     obtain⟨ae0,ae1,ae2,rfl⟩:=adi.out.form
     obtain⟨agh,agi,agj,rfl⟩:=aew.out.form
     have HX2:=zqd hx2
     have HM2:=zqd ab1
     clear hx2 ab1
     clear hcell2
     have hpk:=ajr HX2.out
     have hpl:=ahy kids (k+1)
     have hmL:m≤1+Ty.adh (kids.take k):=by
      obtain⟨h1,h2⟩:=HP.out
      have h3:=aw6 (kids.take k)
      have h4:=a9k.out
      rw[h2,h1,List.length_append];omega
     have HOW:=zqd hown
     have HFL:=zqd (alo (f:=Ty.hN) HX2.out)
     have hpt:(Ty.mk kind2 name2 zu abv).parts≤1073741824:=by omega
     have hln:=ar8 ⟨kind2,name2,zu,abv⟩
     clear hown
     go_wp2_with fail
     obtain⟨wb,hwb⟩:=zqe wr 60 #[.int .i64 kind2,.string name2,.slice ae0 ae1 ae2,.slice agh agi agj]
     rw[← hwb]
     have bE:=zqn hwb
     have hbb:=zqb hwb
     clear hwb
     have hBb:=hbr.trans (hbb.mono hsz)
     refine(HI.out _ HM2.out B [.int .i64 kind2,.string name2,.slice ae0 ae1 ae2,.slice agh agi agj] wb (Nat.le_trans hB hBb.size) (Ty.close_ (adi.out.below (hbb.mono (Nat.le_trans hB hsz))) (aew.out.below (hbb.mono (Nat.le_trans hB hsz)))) hpt).mono ?_
     rintro e wq ⟨v2,rfl,hown2,hbq⟩
     obtain⟨L2,hL2⟩:∃ L2,L2=Ty.hN ⟨kind2,name2,zu,abv⟩:=⟨_,rfl⟩
     rw[← hL2] at hown2 hln HFL
     have amh:=zqd (aw5 hown2)
     have hBq:=hBb.trans (hbq.mono hBb.size)
     have hs4:=agw (agw HOW.out hbb) hbq
     obtain⟨l2,hl2⟩:∃ l,L2.length=l:=⟨_,rfl⟩
     rw[hl2] at amh hln
     have hmB:m+l2≤1073741825:=by omega
     clear hown2 hL2 hpk hmL hln
     go_wp2_with (at_builtin;refine aj6 rfl _ _ 22 rfl w.heap.size 9 i0 (.string {data:=#[]}) 1 16 Tryz.underlying22 hi hz0 hz1 hz2 rfl (by decide) _ _ _ rfl hs4 _ _ _ rfl amh.out (amz _) (by simp only[maxLen];omega) (by omega) hBq.size ?_;intro v' w5 hown' hgrow ahe)
     have hB6:=hBq.grown hgrow hBq.size (fun g hg=>(hs4.lt g hg).1)
     have aky:=zqd hown'
     have HQ:Hid (L ++L2=N0 ++(kids.take (k+1)).flatMap Ty.hN∧m+l2=(L ++L2).length):=by
      obtain⟨h1,h2⟩:=HP.out
      exact⟨by rw[HFL.out,h1,List.append_assoc],by rw[List.length_append,h2,hl2]⟩
     clear hs4 hown' hgrow ahe
     go_roundw
     case rel=>exact⟨k+1,m+l2,_,L ++L2,rfl,by omega,by go_num,HQ,by rw[afs];exact aky.out,hB6⟩
     case measure=>simp[intOf];omega
    ·have hkn:k=n:=by omega
     have HT:Hid (kids.take k=kids):=List.take_of_length_le (by have:=HN.out;omega)
     have HE:Hid (L=Ty.hN ⟨20,name,labels,kids⟩):=by show _=_;rw[HP.out.1,HT.out,aw0,HN0.out]
     have HFI:Hid (wr.ownsRow w.heap.size 9 1 u (Ty.hN ⟨20,name,labels,kids⟩).length (strs (Ty.hN ⟨20,name,labels,kids⟩))):=by show World.ownsRow _ _ _ _ _ _ _;rw[← HE.out,← HP.out.2];exact hown
     clear hown
     subst hkn
     go_wp2_with fail
     go_ret
     exact⟨_,rfl,HFI.out,hbr⟩
  ·have bX:Blk (((w.alloc (.cells #[.int .i64 21,.string name,iw,.slice A n c] 60)).alloc (.cells #[] 9)).alloc (.cells #[Value.string name] 9)) w.heap.size 60 #[.int .i64 21,.string name,iw,.slice A n c]:=((Blk.new w _ _).alloc _).alloc _
   go_enter Tryz.func96,Tryz.ntmps96
   go_wp2_with (at_builtin;refine wpList_append_own _ rfl _ _ 22 rfl w.heap.size 9 i0 (.string {data:=#[]}) 1 16 Tryz.underlying22 hi hz0 hz1 hz2 rfl (by decide) (.slice (some ⟨w.heap.size+1,0,none⟩) 0 0) _ _ rfl hs4 ⟨w.heap.size+1+1,0,none⟩ 1 1 [_] rfl rfl hc1 (ajx _) (by simp only[maxLen];omega) (by omega) hB5.size ?_;intro va wa hown' hgrow _;have bXa:Blk wa w.heap.size 60 #[.int .i64 21,.string name,iw,.slice A n c]:=(hgrow.block _ bX.lt (fun e=>by revert e;simp[Value.ownBlock])).trans bX;have a_3:wa.cell? ⟨w.heap.size,3,none⟩=some (.slice A n c):=bXa.cell 3)
   have hBa:=hB5.grown hgrow hB5.size (fun g hg=>(hs4.lt g hg).1)
   have HO0:Hid (wa.ownsRow w.heap.size 9 1 va N0.length (strs N0)):=by show World.ownsRow _ _ _ _ _ _ _;rw[HZ.out];exact hown'
   clear hs4 hc1 hB5 hown' hgrow hnk
   go_loopw [3,23] (fun out i wr=>∃ (k m:Nat) (u:Value) (L:List ByteArray),u=out∧k≤n∧i=.int .i64 k∧Hid (L=N0 ++(kids.take k).flatMap Ty.hN∧m=L.length)∧wr.ownsRow w.heap.size 9 1 u m (strs L)∧Below w.heap.size w wr) (fun _ i _=>n - (intOf i).toNat)
   case atStart=>exact⟨0,_,_,N0,rfl,Nat.zero_le _,rfl,zqd ⟨by simp,rfl⟩,HO0.out,hBa⟩
   case round=>
    obtain⟨k,m,u,L,rfl,hk,rfl,HP,hown,hbr⟩:=hrel
    have hsz:=hbr.size
    by_cases hlt:k < n
    ·obtain⟨g,off,rfl,hg2,hcell2⟩:=hat (by omega)
     obtain⟨t2,hx2,ab1⟩:=um HN.out hlt
     obtain⟨kind2,name2,zu,abv⟩:=t2
     have aiw:wr.cell? ⟨g,off+k * 4,none⟩=some (.int .i64 kind2):=bg hbr (by omega) (hcell2 k 0 _ _ hx2 (by rw[Ty.aj];rfl))
     have ad5:wr.cell? ⟨g,off+k * 4+1,none⟩=some (.string name2):=bg hbr (by omega) (hcell2 k 1 _ _ hx2 (by rw[Ty.aj];rfl))
     obtain⟨adg,ahq,ace⟩:∃ u,wr.cell? ⟨g,off+k * 4+2,none⟩=some u∧Rep wr B (.row 1 (zu.flatMap qj)) u:=jc hbr (by omega) hB (hcell2 k 2 _ _ hx2 (by rw[Ty.aj];rfl))
     have adi:=zqd ace
     clear ace
     obtain⟨aez,ajc,ad6⟩:∃ u,wr.cell? ⟨g,off+k * 4+3,none⟩=some u∧Rep wr B (.row 4 (abv.flatMap Ty.pd)) u:=jc hbr (by omega) hB (hcell2 k 3 _ _ hx2 (by rw[Ty.aj];rfl))
     have aew:=zqd ad6
     clear ad6
     obtain⟨ae0,ae1,ae2,rfl⟩:=adi.out.form
     obtain⟨agh,agi,agj,rfl⟩:=aew.out.form
     have HX2:=zqd hx2
     have HM2:=zqd ab1
     clear hx2 ab1
     clear hcell2
     have hpk:=ajr HX2.out
     have hpl:=ahy kids (k+1)
     have hmL:m≤1+Ty.adh (kids.take k):=by
      obtain⟨h1,h2⟩:=HP.out
      have h3:=aw6 (kids.take k)
      have h4:=a9k.out
      rw[h2,h1,List.length_append];omega
     have HOW:=zqd hown
     have HFL:=zqd (alo (f:=Ty.hN) HX2.out)
     have hpt:(Ty.mk kind2 name2 zu abv).parts≤1073741824:=by omega
     have hln:=ar8 ⟨kind2,name2,zu,abv⟩
     clear hown
     go_wp2_with fail
     obtain⟨wb,hwb⟩:=zqe wr 60 #[.int .i64 kind2,.string name2,.slice ae0 ae1 ae2,.slice agh agi agj]
     rw[← hwb]
     have bE:=zqn hwb
     have hbb:=zqb hwb
     clear hwb
     have hBb:=hbr.trans (hbb.mono hsz)
     refine(HI.out _ HM2.out B [.int .i64 kind2,.string name2,.slice ae0 ae1 ae2,.slice agh agi agj] wb (Nat.le_trans hB hBb.size) (Ty.close_ (adi.out.below (hbb.mono (Nat.le_trans hB hsz))) (aew.out.below (hbb.mono (Nat.le_trans hB hsz)))) hpt).mono ?_
     rintro e wq ⟨v2,rfl,hown2,hbq⟩
     obtain⟨L2,hL2⟩:∃ L2,L2=Ty.hN ⟨kind2,name2,zu,abv⟩:=⟨_,rfl⟩
     rw[← hL2] at hown2 hln HFL
     have amh:=zqd (aw5 hown2)
     have hBq:=hBb.trans (hbq.mono hBb.size)
     have hs4:=agw (agw HOW.out hbb) hbq
     obtain⟨l2,hl2⟩:∃ l,L2.length=l:=⟨_,rfl⟩
     rw[hl2] at amh hln
     have hmB:m+l2≤1073741825:=by omega
     clear hown2 hL2 hpk hmL hln
     go_wp2_with (at_builtin;refine aj6 rfl _ _ 22 rfl w.heap.size 9 i0 (.string {data:=#[]}) 1 16 Tryz.underlying22 hi hz0 hz1 hz2 rfl (by decide) _ _ _ rfl hs4 _ _ _ rfl amh.out (amz _) (by simp only[maxLen];omega) (by omega) hBq.size ?_;intro v' w5 hown' hgrow ahe)
     have hB6:=hBq.grown hgrow hBq.size (fun g hg=>(hs4.lt g hg).1)
     have aky:=zqd hown'
     have HQ:Hid (L ++L2=N0 ++(kids.take (k+1)).flatMap Ty.hN∧m+l2=(L ++L2).length):=by
      obtain⟨h1,h2⟩:=HP.out
      exact⟨by rw[HFL.out,h1,List.append_assoc],by rw[List.length_append,h2,hl2]⟩
     clear hs4 hown' hgrow ahe
     go_roundw
     case rel=>exact⟨k+1,m+l2,_,L ++L2,rfl,by omega,by go_num,HQ,by rw[afs];exact aky.out,hB6⟩
     case measure=>simp[intOf];omega
    ·have hkn:k=n:=by omega
     have HT:Hid (kids.take k=kids):=List.take_of_length_le (by have:=HN.out;omega)
     have HE:Hid (L=Ty.hN ⟨21,name,labels,kids⟩):=by show _=_;rw[HP.out.1,HT.out,aw0,HN0.out]
     have HFI:Hid (wr.ownsRow w.heap.size 9 1 u (Ty.hN ⟨21,name,labels,kids⟩).length (strs (Ty.hN ⟨21,name,labels,kids⟩))):=by show World.ownsRow _ _ _ _ _ _ _;rw[← HE.out,← HP.out.2];exact hown
     clear hown
     subst hkn
     go_wp2_with fail
     go_ret
     exact⟨_,rfl,HFI.out,hbr⟩
theorem a9l:∀ t:Ty,bkk t:=Ty.ai4 fun kind name labels kids ih=>bg6 ih
set_option maxHeartbeats 3200000 in
theorem a9m (f:jh) (hok:OkN f) {B:Nat} {cs:List Value} {w:World} (hB:B≤w.heap.size) (h:lq w B (jh.pd f) cs):
  Calls Tryz.prog 65 #[.agg cs.toArray] w fun e w'=>bsa (avk f) w e w':=by
 obtain⟨params,⟨dh,dn,ku,ny⟩,async⟩:=f
 obtain⟨i0,hi,hz0,hz1,hz2⟩:=info_parts amu
 obtain⟨aeh,pq,uf,rfl,aea,aao,aa2⟩:=jh.open_ h
 have ags:=zqd aea
 clear aea
 have acs:=zqd aao
 clear aao
 have ado:=zqd aa2
 clear aa2
 obtain⟨A,n,c,rfl,hnl,hm,hat⟩:=ni Param.jd (by decide) ags.out
 unfold maxLen at hm
 have HN:=zqd hnl
 have hn6:n≤6:=by have h1:params.length≤6:=hok.len;omega
 have hrp:(Ty.mk dh dn ku ny).parts≤24:=hok.res.2
 have HOK:=zqd (fun p (hp:p ∈ params)=>(hok.par p hp).2)
 clear hnl h hok
 have hrl:=ar8 ⟨dh,dn,ku,ny⟩
 go_enter Tryz.func65,Tryz.ntmps65
 go_wp2_with fail
 obtain⟨w0,hw0⟩:=zqe w 62 #[.slice A n c,.int .i64 dh,.string dn,pq,uf,.bool async]
 rw[← hw0]
 have bA:=zqn hw0
 have hB0:=zqb hw0
 clear hw0
 refine(a9l ⟨dh,dn,ku,ny⟩ B [.int .i64 dh,.string dn,pq,uf] w0 (Nat.le_trans hB hB0.size) (Ty.close_ (acs.out.below (hB0.mono hB)) (ado.out.below (hB0.mono hB))) (by omega)).mono ?_
 rintro e w1 ⟨v1,rfl,hown1,hb1⟩
 obtain⟨N0,hN0⟩:∃ N0,Ty.hN ⟨dh,dn,ku,ny⟩=N0:=⟨_,rfl⟩
 have HN0:Hid (N0=Ty.hN ⟨dh,dn,ku,ny⟩):=hN0.symm
 have HO0:w1.ownsRow w.heap.size 9 1 v1 N0.length (strs N0):=by rw[← hN0];exact be8 hown1 hB0.size
 have a9k:Hid (N0.length≤24):=by show _≤_;rw[← hN0];omega
 have hBa:=hB0.trans (hb1.mono hB0.size)
 have bA1:=bA.step hb1
 have aqm:w1.cell? ⟨w.heap.size,0,none⟩=some (.slice A n c):=bA1.cell 0
 clear bA hB0 hown1 hN0 hrl
 go_wp2_with fail
 go_loopw [3,12] (fun out i wr=>∃ (k m:Nat) (u:Value) (L:List ByteArray),u=out∧k≤n∧i=.int .i64 k∧Hid (L=N0 ++(params.take k).flatMap (fun p=>p.typ.hN)∧m=L.length)∧m≤24+24 * k∧wr.ownsRow w.heap.size 9 1 u m (strs L)∧Below w.heap.size w wr) (fun _ i _=>n - (intOf i).toNat)
 case atStart=>exact⟨0,_,_,N0,rfl,Nat.zero_le _,rfl,zqd ⟨by simp,rfl⟩,by have:=a9k.out;omega,HO0,hBa⟩
 case round=>
  obtain⟨k,m,u,L,rfl,hk,rfl,HP,hmL,hown,hbr⟩:=hrel
  have hsz:=hbr.size
  by_cases hlt:k < n
  ·obtain⟨g,off,rfl,hg,hcell⟩:=hat (by omega)
   obtain⟨t,hx,hmem⟩:=um HN.out hlt
   obtain⟨name,⟨je,jm,ou,uj⟩⟩:=t
   have ape:wr.cell? ⟨g,off+k * 5,none⟩=some (.string name):=bg hbr (by omega) (hcell k 0 _ _ hx (by rw[Param.aj];rfl))
   have al8:wr.cell? ⟨g,off+k * 5+1,none⟩=some (.int .i64 je):=bg hbr (by omega) (hcell k 1 _ _ hx (by rw[Param.aj];rfl))
   have al9:wr.cell? ⟨g,off+k * 5+2,none⟩=some (.string jm):=bg hbr (by omega) (hcell k 2 _ _ hx (by rw[Param.aj];rfl))
   obtain⟨aa0,ake,abo⟩:∃ u,wr.cell? ⟨g,off+k * 5+3,none⟩=some u∧Rep wr B (.row 1 (ou.flatMap qj)) u:=jc hbr (by omega) hB (hcell k 3 _ _ hx (by rw[Param.aj];rfl))
   have ac7:=zqd abo
   clear abo
   obtain⟨ab7,ama,acw⟩:∃ u,wr.cell? ⟨g,off+k * 5+4,none⟩=some u∧Rep wr B (.row 4 (uj.flatMap Ty.pd)) u:=jc hbr (by omega) hB (hcell k 4 _ _ hx (by rw[Param.aj];rfl))
   have aef:=zqd acw
   clear acw
   obtain⟨abr,abt,abu,rfl⟩:=ac7.out.form
   obtain⟨ac0,ac1,ac2,rfl⟩:=aef.out.form
   have HX:=zqd hx
   have HM:=zqd hmem
   clear hx hmem
   clear hcell
   have HOW:=zqd hown
   have HFL:Hid ((params.take (k+1)).flatMap (fun p=>p.typ.hN)=(params.take k).flatMap (fun p=>p.typ.hN) ++Ty.hN ⟨je,jm,ou,uj⟩):=alo HX.out
   have hpt:(Ty.mk je jm ou uj).parts≤24:=(HOK.out _ HM.out)
   have hln:=ar8 ⟨je,jm,ou,uj⟩
   clear hown
   go_wp2_with fail
   obtain⟨wb,hwb⟩:=zqe wr 115 #[.string name,.int .i64 je,.string jm,.slice abr abt abu,.slice ac0 ac1 ac2]
   rw[← hwb]
   have bE:=zqn hwb
   have hbb:=zqb hwb
   clear hwb
   have hBb:=hbr.trans (hbb.mono hsz)
   refine(a9l ⟨je,jm,ou,uj⟩ B [.int .i64 je,.string jm,.slice abr abt abu,.slice ac0 ac1 ac2] wb (Nat.le_trans hB hBb.size) (Ty.close_ (ac7.out.below (hbb.mono (Nat.le_trans hB hsz))) (aef.out.below (hbb.mono (Nat.le_trans hB hsz)))) (by omega)).mono ?_
   rintro e wq ⟨v2,rfl,hown2,hbq⟩
   obtain⟨L2,hL2⟩:∃ L2,L2=Ty.hN ⟨je,jm,ou,uj⟩:=⟨_,rfl⟩
   rw[← hL2] at hown2 hln HFL
   have amh:=zqd (aw5 hown2)
   have hBq:=hBb.trans (hbq.mono hBb.size)
   have hs4:=agw (agw HOW.out hbb) hbq
   obtain⟨l2,hl2⟩:∃ l,L2.length=l:=⟨_,rfl⟩
   rw[hl2] at amh hln
   clear hown2 hL2
   go_wp2_with (at_builtin;refine aj6 rfl _ _ 22 rfl w.heap.size 9 i0 (.string {data:=#[]}) 1 16 Tryz.underlying22 hi hz0 hz1 hz2 rfl (by decide) _ _ _ rfl hs4 _ _ _ rfl amh.out (amz _) (by simp only[maxLen];omega) (by omega) hBq.size ?_;intro v' w5 hown' hgrow ahe)
   have hB6:=hBq.grown hgrow hBq.size (fun g hg=>(hs4.lt g hg).1)
   have aky:=zqd hown'
   have HQ:Hid (L ++L2=N0 ++(params.take (k+1)).flatMap (fun p=>p.typ.hN)∧m+l2=(L ++L2).length):=by
    obtain⟨h1,h2⟩:=HP.out
    exact⟨by rw[HFL.out,h1,List.append_assoc],by rw[List.length_append,h2,hl2]⟩
   clear hs4 hown' hgrow ahe
   go_roundw
   case rel=>exact⟨k+1,m+l2,_,L ++L2,rfl,by omega,by go_num,HQ,by omega,by rw[afs];exact aky.out,hB6⟩
   case measure=>simp[intOf];omega
  ·have hkn:k=n:=by omega
   have HT:Hid (params.take k=params):=List.take_of_length_le (by have:=HN.out;omega)
   have HE:Hid (L=avk ⟨params,⟨dh,dn,ku,ny⟩,async⟩):=by show _=_;rw[HP.out.1,HT.out,HN0.out];rfl
   have HFI:Hid (wr.ownsRow w.heap.size 9 1 u (avk ⟨params,⟨dh,dn,ku,ny⟩,async⟩).length (strs (avk ⟨params,⟨dh,dn,ku,ny⟩,async⟩))):=by show World.ownsRow _ _ _ _ _ _ _;rw[← HE.out,← HP.out.2];exact hown
   clear hown
   subst hkn
   go_wp2_with fail
   go_ret
   exact⟨_,rfl,HFI.out,hbr⟩
theorem bbf (a:Array Value) (W:World):Sem.run Tryz.prog (callFunc 64 a) W=.ok (.enter 64 a) W:=by kernel_rfl
theorem bbg (a:Array Value) (W:World):Sem.run Tryz.prog (callFunc 66 a) W=.ok (.enter 66 a) W:=by kernel_rfl
theorem bg8 (x:ByteArray) (hx:x.size≤maxLen) (w:World):Calls Tryz.prog 64 #[.string x] w fun e w'=>e=.returned (.bool (!zn x))∧Below w.heap.size w w':=by
 have HN:=zqd (aem x hx w)
 obtain⟨b,hb⟩:∃ b,zn x=b:=⟨_,rfl⟩
 rw[hb] at HN ⊢
 go_enter Tryz.func64,Tryz.ntmps64
 go_wp2_with fail
 refine HN.out.mono ?_
 rintro e w1 ⟨rfl,hb1⟩
 go_wp2_with fail
 go_ret
 exact⟨rfl,hb1⟩
theorem bkl (res:List ByteArray) (x:ByteArray):(res.any fun t=>decide (x=t))=res.any fun r=>decide (r=x):=by
 congr 1
 funext t
 exact decide_eq_decide.2 ⟨Eq.symm,Eq.symm⟩
theorem bg9 (x:ByteArray) {res:List ByteArray} {B b:Nat} {v:Value} {w:World} (hB:B≤w.heap.size) (k:Rep w B (.row 1 (res.flatMap qj)) v) (hc:w.cell? ⟨b,3,none⟩=some v):
  Calls Tryz.prog 66 #[.string x,.pointer (some ⟨b,0,none⟩)] w fun e w'=>e=.returned (.bool (!(res.any fun r=>decide (r=x))))∧Below w.heap.size w w':=by
 have HC:=zqd (alc x hB k)
 rw[bkl] at HC
 obtain⟨q,hq⟩:∃ q,(res.any fun r=>decide (r=x))=q:=⟨_,rfl⟩
 rw[hq] at HC ⊢
 obtain⟨A,n,c,rfl,-⟩:=akg k
 clear k hq
 go_enter Tryz.func66,Tryz.ntmps66
 go_wp2_with fail
 refine HC.out.mono ?_
 rintro e w1 ⟨rfl,hb1⟩
 go_wp2_with fail
 go_ret
 exact⟨rfl,hb1⟩
theorem bha {α:Type} {xs:List α} {p:α→Bool} (h:(xs.any fun x=>!p x)=false):xs.all p=true:=by
 rw[List.any_eq_false] at h
 rw[List.all_eq_true]
 intro x hx
 have:=h x hx
 simpa using this
theorem bsb {α:Type} {xs:List α} {p:α→Bool} (h:(xs.any fun x=>!p x)=true):xs.all p=false:=by
 obtain⟨x,hx,h2⟩:=List.any_eq_true.1 h
 exact List.all_eq_false.2 ⟨x,hx,by simpa using h2⟩
theorem bhb {f:jh} {res:List ByteArray}:((avk f).any fun n=>!(res.any fun r=>decide (r=n)))=!akf f res:=by
 rw[akf,← List.not_all_eq_any_not]
structure SzF (f:jh):Prop where
 len:f.params.length≤1048576
 par:∀ p ∈ f.params,p.typ.parts≤4194304
 res:f.result.parts≤4194304
set_option maxHeartbeats 12800000 in
theorem bbh (f:cu) (hsz:∀ x ∈ f.funcs,SzF x.typ) (hvz:f.version.size≤1048576) {B:Nat} {cs:List Value} {w:World} (hB:B≤w.heap.size) (hT:akm w) (hwf:PD.wfL (cu.pd f)) (h:lq w B (cu.pd f) cs):
  Calls Tryz.prog 31 #[.agg cs.toArray] w fun e w'=>e=.returned (.bool (ag9 f))∧Below w.heap.size w w':=by
 obtain⟨package,name,version,resources,funcs⟩:=f
 obtain⟨w1_,w2_,w3_,w4_,w5_⟩:=bgv hwf
 obtain⟨i0,hi,hz0,hz1,hz2⟩:=info_parts amu
 have HWR:=zqd w4_
 have HWF:=zqd w5_
 have HSZ:=zqd hsz
 have HT:=zqd hT
 simp only at hvz
 obtain⟨R,hR⟩:∃ R:Bool,R=ag9 ⟨package,name,version,resources,funcs⟩:=⟨_,rfl⟩
 rw[← hR]
 rw[ag9] at hR
 simp only at hR
 have HR:=zqd hR
 clear hR w4_ w5_ hwf hsz hT
 obtain⟨aai,adq,rfl,abl,aei⟩:=cu.open_ h
 have ad4:=zqd abl
 clear abl
 have agn:=zqd aei
 clear aei
 obtain⟨A,n,c,rfl,hnl,hm,hat⟩:=ni Fun.jd (by decide) agn.out
 obtain⟨RA,rn,rc,rfl,hrl,hrm,bd8⟩:=akg ad4.out
 unfold maxLen at hm
 have HN:=zqd hnl
 have HRN:=zqd hrl
 clear h hnl hrl
 go_enter Tryz.func31,Tryz.ntmps31
 go_wp2_with fail
 obtain⟨w0,hw0⟩:=zqe w 30 #[.string package,.string name,.string version,.slice RA rn rc,.slice A n c]
 rw[← hw0]
 have bA:=zqn hw0
 have hB0:=zqb hw0
 clear hw0
 refine(aem package w1_ _).mono ?_
 rintro e w1 ⟨rfl,hb1⟩
 have hB1:=hB0.trans (hb1.mono hB0.size)
 have bA1:=bA.step hb1
 clear bA
 cases hp:zn package
 case false=>
  have HF:Hid (R=false):=by show _=_;rw[HR.out,hp];rfl
  clear hp
  go_wp2_with fail
  go_ret
  exact⟨ah HF.out.symm,hB1⟩
 obtain⟨ahs,ak6,aht,agl,ajd⟩:=zc5 bA1
 go_wp2_with fail
 refine(aem name w2_ _).mono ?_
 rintro e w2 ⟨rfl,hb2⟩
 have hB2:=hB1.trans (hb2.mono hB1.size)
 have bA2:=bA1.step hb2
 clear bA1 ahs ak6 aht agl ajd
 cases hq:zn name
 case false=>
  have HF:Hid (R=false):=by show _=_;rw[HR.out,hp,hq];rfl
  clear hp hq
  go_wp2_with fail
  go_ret
  exact⟨ah HF.out.symm,hB2⟩
 obtain⟨ahs,ak6,aht,agl,ajd⟩:=zc5 bA2
 go_wp2_with fail
 refine(a07 version hvz _ (HT.out.below hB2)).mono ?_
 rintro e w3 ⟨rfl,hb3⟩
 have hB3:=hB2.trans (hb3.mono hB2.size)
 have bA3:=bA2.step hb3
 clear bA2 ahs ak6 aht agl ajd
 cases hv:decide (0≤afh version)
 case false=>
  have HF:Hid (R=false):=by show _=_;rw[HR.out,hp,hq,hv];rfl
  clear hp hq hv
  go_wp2_with fail
  go_ret
  exact⟨ah HF.out.symm,hB3⟩
 obtain⟨ahs,ak6,aht,agl,ajd⟩:=zc5 bA3
 by_cases hr4:rn≤4
 case neg=>
  have HF:Hid (R=false):=by show _=_;rw[HR.out,hp,hq,hv,decide_eq_false (show ¬ resources.length≤4 by have:=HRN.out;omega)];rfl
  clear hp hq hv
  go_wp2_with fail
  go_ret
  exact⟨ah HF.out.symm,hB3⟩
 by_cases hn8:n≤8
 case neg=>
  have HF:Hid (R=false):=by show _=_;rw[HR.out,hp,hq,hv,decide_eq_true (show resources.length≤4 by have:=HRN.out;omega),decide_eq_false (show ¬ funcs.length≤8 by have:=HN.out;omega)];rfl
  clear hp hq hv
  go_wp2_with fail
  go_ret
  exact⟨ah HF.out.symm,hB3⟩
 have HF0:Hid (R=(aqp resources && (funcs.all (fnB resources) && an1 (funcs.map Fun.name)))):=by show _=_;rw[HR.out,hp,hq,hv,decide_eq_true (show resources.length≤4 by have:=HRN.out;omega),decide_eq_true (show funcs.length≤8 by have:=HN.out;omega)];rfl
 clear hp hq hv HR
 go_wp2_with fail
 refine(asj (xs:=resources) (Nat.le_trans hB hB3.size) (ad4.out.below (hB3.mono hB))).mono ?_
 rintro e w4 ⟨rfl,hb4⟩
 have hB4:=hB3.trans (hb4.mono hB3.size)
 have bA4:=bA3.step hb4
 clear bA3 ahs ak6 aht agl ajd
 cases hic:an1 resources
 case false=>
  have HF:Hid (R=false):=by show _=_;rw[HF0.out,aqp,hic];rfl
  clear hic
  go_wp2_with fail
  go_ret
  exact⟨ah HF.out.symm,hB4⟩
 obtain⟨ahs,ak6,aht,agl,ajd⟩:=zc5 bA4
 go_wp2_with fail
 refine(aoi 64 #[] (fun x=>!zn x) (Nat.le_trans hB hB4.size) (ad4.out.below (hB4.mono hB)) bbf (fun x hx W hW=>bg8 x (HWR.out x hx) W)).mono ?_
 rintro e w5 ⟨rfl,hb5⟩
 have hB5:=hB4.trans (hb5.mono hB4.size)
 have bA5:=bA4.step hb5
 clear bA4 ahs ak6 aht agl ajd
 cases han:resources.any (fun x=>!zn x)
 case true=>
  have HF:Hid (R=false):=by show _=_;rw[HF0.out,aqp,hic,bsb han];rfl
  clear hic han
  go_wp2_with fail
  go_ret
  exact⟨ah HF.out.symm,hB5⟩
 have HG:Hid (R=(funcs.all (fnB resources) && an1 (funcs.map Fun.name))):=by show _=_;rw[HF0.out,aqp,hic,bha han];rfl
 clear hic han HF0
 obtain⟨ahs,ak6,aht,agl,ajd⟩:=zc5 bA5
 have a6:(w5.alloc (.cells #[] 9)).cell? ⟨w.heap.size,4,none⟩=some (.slice A n c):=(bA5.alloc _).cell 4
 go_wp2_with fail
 obtain⟨w6,hw6⟩:=zqe w5 9 #[]
 rw[← hw6]
 have hb6:=zqb hw6
 have hB6:=hB5.trans (hb6.mono hB5.size)
 have bA6:=bA5.step hb6
 have ho6:w6.ownsRow (w.heap.size+1) 9 1 (.slice (some ⟨w5.heap.size,0,none⟩) 0 0) 0 (strs []):=by rw[hw6];exact World.ownsRow_made w5 #[] 0 (by have:=bA5.lt;omega) (by simp) (by simp)
 clear a6 hw6 hb6 hB5 bA5 ahs ak6 aht agl ajd
 go_loopw [3,47] (fun out i wr=>∃ (k:Nat) (u:Value),u=out∧k≤n∧i=.int .i64 k∧Hid (∀ (j:Nat) (x:Fun),j < k→funcs[j]?=some x→(fun x=>!fnB resources x) x=false)∧wr.ownsRow (w.heap.size+1) 9 1 u k (strs ((funcs.take k).map Fun.name))∧Below w.heap.size w wr∧Blk wr w.heap.size 30 #[.string package,.string name,.string version,.slice RA rn rc,.slice A n c]) (fun _ i _=>n - (intOf i).toNat)
 case atStart=>exact⟨0,_,rfl,Nat.zero_le _,rfl,zqd fun j x h=>absurd h (by omega),ho6,hB6,bA6⟩
 case round=>
  clear ho6 hB6 bA6
  obtain⟨k,u,rfl,hk,rfl,HP,hown,hbr,bR⟩:=hrel
  have hsz:=hbr.size
  by_cases hlt:k < n
  case neg=>
   have hkn:k=n:=by omega
   have HT2:Hid (funcs.take k=funcs):=List.take_of_length_le (by have:=HN.out;omega)
   rw[HT2.out] at hown
   have LI:=zqd (ane hown)
   have HF:Hid (R=an1 (funcs.map Fun.name)):=by
    show _=_
    rw[HG.out,bha (any_none (n:=k) (by have:=HN.out;omega) HP.out)];rfl
   clear hown
   subst hkn
   go_wp2_with fail
   refine(asj (xs:=funcs.map Fun.name) (zql _) LI.out).mono ?_
   rintro e w2 ⟨rfl,hb2⟩
   go_wp2_with fail
   go_ret
   exact⟨ah HF.out.symm,hbr.trans (hb2.mono hsz)⟩
  obtain⟨g,off,rfl,hg2,hcell2⟩:=hat (by omega)
  obtain⟨t2,hx2,ab1⟩:=um HN.out hlt
  obtain⟨name2,⟨acz,⟨mg,ng,aac,aav⟩,yt⟩⟩:=t2
  have ad5:wr.cell? ⟨g,off+k * 7,none⟩=some (.string name2):=bg hbr (by omega) (hcell2 k 0 _ _ hx2 (by rw[Fun.aj];rfl))
  obtain⟨aqs,ak7,aft⟩:∃ u,wr.cell? ⟨g,off+k * 7+1,none⟩=some u∧Rep wr B (.row 5 (acz.flatMap Param.pd)) u:=jc hbr (by omega) hB (hcell2 k 1 _ _ hx2 (by rw[Fun.aj];rfl))
  have agm:=zqd aft
  clear aft
  have aia:wr.cell? ⟨g,off+k * 7+2,none⟩=some (.int .i64 mg):=bg hbr (by omega) (hcell2 k 2 _ _ hx2 (by rw[Fun.aj];rfl))
  have aib:wr.cell? ⟨g,off+k * 7+3,none⟩=some (.string ng):=bg hbr (by omega) (hcell2 k 3 _ _ hx2 (by rw[Fun.aj];rfl))
  obtain⟨ale,ahl,ads⟩:∃ u,wr.cell? ⟨g,off+k * 7+4,none⟩=some u∧Rep wr B (.row 1 (aac.flatMap qj)) u:=jc hbr (by omega) hB (hcell2 k 4 _ _ hx2 (by rw[Fun.aj];rfl))
  have aeg:=zqd ads
  clear ads
  obtain⟨ami,aic,aek⟩:∃ u,wr.cell? ⟨g,off+k * 7+5,none⟩=some u∧Rep wr B (.row 4 (aav.flatMap Ty.pd)) u:=jc hbr (by omega) hB (hcell2 k 5 _ _ hx2 (by rw[Fun.aj];rfl))
  have aeo:=zqd aek
  clear aek
  have alr:wr.cell? ⟨g,off+k * 7+6,none⟩=some (.bool yt):=bg hbr (by omega) (hcell2 k 6 _ _ hx2 (by rw[Fun.aj];rfl))
  obtain⟨abh,abj,abk,rfl⟩:=agm.out.form
  obtain⟨vk,wu,xg,rfl⟩:=aeg.out.form
  obtain⟨y9,zf,zh,rfl⟩:=aeo.out.form
  have HX2:=zqd hx2
  have HM2:=zqd ab1
  clear hx2 ab1
  clear hcell2
  have HMS:=zqd (ar9 (f:=Fun.name) HX2.out)
  have hfw:=brm (HWF.out _ HM2.out)
  have hns:=hfw.1
  have hft:=hfw.2
  have hzz:=HSZ.out _ HM2.out
  have HOW:=zqd hown
  have hBw:=Nat.le_trans hB hsz
  have HFB:Hid (fnB resources ⟨name2,⟨acz,⟨mg,ng,aac,aav⟩,yt⟩⟩=(zn name2 && (ai7 ⟨acz,⟨mg,ng,aac,aav⟩,yt⟩ && akf ⟨acz,⟨mg,ng,aac,aav⟩,yt⟩ resources))):=rfl
  have alq:Hid (lq wr B (jh.pd ⟨acz,⟨mg,ng,aac,aav⟩,yt⟩) [.slice abh abj abk,.int .i64 mg,.string ng,.slice vk wu xg,.slice y9 zf zh,.bool yt]):=(jh.close_ agm.out aeg.out aeo.out)
  have bd9:=zqd (ad4.out.below (hbr.mono hB))
  clear hfw hown
  go_wp2_with fail
  obtain⟨wb,hwb⟩:=zqe wr 99 #[.string name2,.slice abh abj abk,.int .i64 mg,.string ng,.slice vk wu xg,.slice y9 zf zh,.bool yt]
  rw[← hwb]
  have bE:=zqn hwb
  have hbb:=zqb hwb
  clear hwb
  have hBb:=hbr.trans (hbb.mono hsz)
  have bRb:=bR.step hbb
  refine(aem name2 hns _).mono ?_
  rintro e wc ⟨rfl,hbc⟩
  have bkm:=hbb.trans (hbc.mono hbb.size)
  have hBc:=hBb.trans (hbc.mono hBb.size)
  have bEc:=bE.step hbc
  have bRc:=bRb.step hbc
  clear bE bRb
  cases hnm:zn name2
  case false=>
   have HF:Hid (R=false):=by show _=_;rw[HG.out,amc HX2.out (.inl (by rw[HFB.out,hnm];rfl))]
   clear hnm
   go_wp2_with fail
   go_ret
   exact⟨ah HF.out.symm,hBc⟩
  have e_1:wc.cell? ⟨wr.heap.size,1,none⟩=some (.slice abh abj abk):=bEc.cell 1
  have e_2:wc.cell? ⟨wr.heap.size,2,none⟩=some (.int .i64 mg):=bEc.cell 2
  have e_3:wc.cell? ⟨wr.heap.size,3,none⟩=some (.string ng):=bEc.cell 3
  have e_4:wc.cell? ⟨wr.heap.size,4,none⟩=some (.slice vk wu xg):=bEc.cell 4
  have e_5:wc.cell? ⟨wr.heap.size,5,none⟩=some (.slice y9 zf zh):=bEc.cell 5
  have e_6:wc.cell? ⟨wr.heap.size,6,none⟩=some (.bool yt):=bEc.cell 6
  go_wp2_with fail
  refine(a8e ⟨acz,⟨mg,ng,aac,aav⟩,yt⟩ hzz.len hzz.par hzz.res (B:=B) (cs:=[.slice abh abj abk,.int .i64 mg,.string ng,.slice vk wu xg,.slice y9 zf zh,.bool yt]) (Nat.le_trans hB hBc.size) hft (alq.out.below (bkm.mono hBw))).mono ?_
  rintro e wd ⟨rfl,hbd⟩
  have hbd1:=bkm.trans (hbd.mono bkm.size)
  have hBd:=hBc.trans (hbd.mono hBc.size)
  have bEd:=bEc.step hbd
  have bRd:=bRc.step hbd
  clear bEc bRc e_1 e_2 e_3 e_4 e_5 e_6
  cases hfb:ai7 ⟨acz,⟨mg,ng,aac,aav⟩,yt⟩
  case false=>
   have HF:Hid (R=false):=by show _=_;rw[HG.out,amc HX2.out (.inl (by rw[HFB.out,hnm,hfb];rfl))]
   clear hnm hfb
   go_wp2_with fail
   go_ret
   exact⟨ah HF.out.symm,hBd⟩
  have e_1:wd.cell? ⟨wr.heap.size,1,none⟩=some (.slice abh abj abk):=bEd.cell 1
  have e_2:wd.cell? ⟨wr.heap.size,2,none⟩=some (.int .i64 mg):=bEd.cell 2
  have e_3:wd.cell? ⟨wr.heap.size,3,none⟩=some (.string ng):=bEd.cell 3
  have e_4:wd.cell? ⟨wr.heap.size,4,none⟩=some (.slice vk wu xg):=bEd.cell 4
  have e_5:wd.cell? ⟨wr.heap.size,5,none⟩=some (.slice y9 zf zh):=bEd.cell 5
  have e_6:wd.cell? ⟨wr.heap.size,6,none⟩=some (.bool yt):=bEd.cell 6
  go_wp2_with fail
  refine(a9m ⟨acz,⟨mg,ng,aac,aav⟩,yt⟩ (a8f hfb) (B:=B) (cs:=[.slice abh abj abk,.int .i64 mg,.string ng,.slice vk wu xg,.slice y9 zf zh,.bool yt]) (Nat.le_trans hB hBd.size) (alq.out.below (hbd1.mono hBw))).mono ?_
  rintro e we ⟨vn,rfl,bmq,hbe⟩
  have bkn:=hbd1.trans (hbe.mono hbd1.size)
  have hBe:=hBd.trans (hbe.mono hBd.size)
  have bEe:=bEd.step hbe
  have bRe:=bRd.step hbe
  have bw0:=zqd (ane bmq)
  have b_r:we.cell? ⟨w.heap.size,3,none⟩=some (.slice RA rn rc):=bRe.cell 3
  clear bEd bRd bmq e_1 e_2 e_3 e_4 e_5 e_6
  go_wp2_with fail
  have bsc:=zqd b_r
  refine(aoi 66 #[.pointer (some ⟨w.heap.size,0,none⟩)] (fun x=>!(resources.any fun r=>decide (r=x))) (zql _) bw0.out bbg (fun x hx W hW=>bg9 x (B:=B) (v:=.slice RA rn rc) (Nat.le_trans hB (Nat.le_trans hBe.size hW.size)) (bd9.out.below ((bkn.mono hBw).trans (hW.mono (Nat.le_trans hB hBe.size)))) ((hW.cell (p:=⟨w.heap.size,3,none⟩) bRe.lt).trans bsc.out))).mono ?_
  rintro e wf ⟨rfl,hbf⟩
  rw[bhb]
  have bw1:=bkn.trans (hbf.mono bkn.size)
  have hBf:=hBe.trans (hbf.mono hBe.size)
  have bEf:=bEe.step hbf
  have bRf:=bRe.step hbf
  clear bEe bRe b_r bsc
  cases hkn2:akf ⟨acz,⟨mg,ng,aac,aav⟩,yt⟩ resources
  case false=>
   have HF:Hid (R=false):=by show _=_;rw[HG.out,amc HX2.out (.inl (by rw[HFB.out,hnm,hfb,hkn2];rfl))]
   clear hnm hfb hkn2
   go_wp2_with fail
   go_ret
   exact⟨ah HF.out.symm,hBf⟩
  have HQ:=zqd (agd HP.out HX2.out (by show(!_)=false;rw[HFB.out,hnm,hfb,hkn2];rfl))
  have e_0:wf.cell? ⟨wr.heap.size,0,none⟩=some (.string name2):=bEf.cell 0
  have hs4:=(agw HOW.out bw1).alloc (.cells #[Value.string name2] 9)
  have hc1:=cell_one_new wf (Value.string name2) 9
  have hBg:Below w.heap.size w (wf.alloc (.cells #[Value.string name2] 9)):=hBf.alloc hBf.size _
  have bRg:=bRf.alloc (.cells #[Value.string name2] 9)
  have b3o:w.heap.size < wf.heap.size:=bRf.lt
  clear hnm hfb hkn2 bEf
  go_wp2_with (at_builtin;refine wpList_append_own _ rfl _ _ 22 rfl (w.heap.size+1) 9 i0 (.string {data:=#[]}) 1 16 Tryz.underlying22 hi hz0 hz1 hz2 rfl (by decide) _ _ _ rfl hs4 ⟨wf.heap.size,0,none⟩ 1 1 [_] rfl rfl hc1 (ajx _) (by simp only[maxLen];omega) (by omega) (by have:=bRg.lt;omega) ?_;intro v' w5 hown' hgrow _)
  have hBh:=hBg.grown hgrow hBg.size (fun g hg=>by have:=(hs4.lt g hg).1;omega)
  have aky:=zqd hown'
  have bRh:Blk w5 w.heap.size 30 #[.string package,.string name,.string version,.slice RA rn rc,.slice (some ⟨g,off,none⟩) n c]:=(hgrow.block _ bRg.lt (fun e=>by have:=(hs4.lt _ e.symm).1;omega)).trans bRg
  clear hs4 hc1 hown' hgrow
  go_roundw
  case rel=>exact⟨k+1,_,rfl,by omega,by go_num,HQ,by rw[HMS.out,afs];exact aky.out,hBh,bRh⟩
  case measure=>simp[intOf];omega
end Go.Proofs.YtbafphecjijdmaaGreatDoor
