/-
  How deep and how large a type is: spec.l03Size, impl.deep, impl.parts; spec.l03Has, spec.l03Units, impl.isUnit.
-/
import Derived.Test.YtfpannkadjdnaaaGreatDoorTa09
import Derived.Test.YtfpannkadjdnaaaGreatDoorTa10
namespace Go.Proofs.YtfpannkadjdnaaaGreatDoor
open Go.RowKit
set_option linter.all false
theorem apj (a b:Int) (w:World):Calls Tryz.prog 86 #[.int .i64 a,.int .i64 b] w fun e w'=>e=.returned (.int .i64 (max a b))∧w=w':=by
 by_cases h:b < a
 ·go_enter Tryz.func86,Tryz.ntmps86
  go_wp2
  go_ret
  exact⟨aa2 (by omega),rfl⟩
 ·go_enter Tryz.func86,Tryz.ntmps86
  go_wp2
  go_ret
  exact⟨aa2 (by omega),rfl⟩
def ajb (t:Ty) (d:Nat):Prop:=d+t.height≤5∧t.parts≤24
instance (t:Ty) (d:Nat):Decidable (ajb t d):=by unfold ajb;exact inferInstance
def szD (t:Ty) (d:Nat):Int:=if ajb t d then t.height else 5
def szP (t:Ty) (d:Nat):Int:=if ajb t d then t.parts else 25
def a2m (t:Ty):Prop:=∀ (B:Nat) (cs:List Value) (w:World) (d:Nat),1≤d→d≤5→B≤w.heap.size→jq w B (Ty.pd t) cs→
 Calls Tryz.prog 49 #[.agg cs.toArray,.int .i64 d] w fun e w'=>e=.returned (.tuple #[.int .i64 (szD t d),.int .i64 (szP t d)])∧Below w.heap.size w w'
set_option maxHeartbeats 1600000 in
theorem axu {kind:Int} {name:ByteArray} {labels:List ByteArray} {kids:List Ty} (ih:∀ t ∈ kids,a2m t):a2m ⟨kind,name,labels,kids⟩:=by
 intro B cs w d h1 h5 hB h;obtain⟨iy,iw,rfl,dh,dn⟩:=Ty.open_ h;have pz:=zqd dh;clear dh;have pq:=zqd dn;clear dn;obtain⟨A,n,c,rfl,hnl,hm,hat⟩:=bf Ty.ay (by decide) pq.out;unfold maxLen at hm;have HN:=zqd hnl;have HI:=zqd ih;clear hnl ih h;by_cases hd:d≤4
 case neg=>
  have HF:Hid (¬ ajb ⟨kind,name,labels,kids⟩ d):=fun hx=>by have:=agi ⟨kind,name,labels,kids⟩;have:=hx.1;omega
  have hd':(4:Int) < d:=by omega
  go_enter Tryz.func49,Tryz.ntmps49
  go_wp2_with fail
  go_ret2
  exact⟨ap5 (by rw[szD,if_neg HF.out]) (by rw[szP,if_neg HF.out]),(zqf _ _).alloc (zql _) _⟩
 by_cases hn:n≤24
 case neg=>
  have HF:Hid (¬ ajb ⟨kind,name,labels,kids⟩ d):=fun hx=>by
   have h2:=hx.2;have h3:=aug kids;rw[Ty.parts] at h2;have:=HN.out;omega
  have hn':(24:Int) < n:=by omega
  go_enter Tryz.func49,Tryz.ntmps49
  go_wp2_with fail
  go_ret2
  exact⟨ap5 (by rw[szD,if_neg HF.out]) (by rw[szP,if_neg HF.out]),(zqf _ _).alloc (zql _) _⟩
 go_enter Tryz.func49,Tryz.ntmps49
 go_wp2_with fail
 obtain⟨w0,hw0⟩:=zqe w 39 #[.int .i64 kind,.string name,iy,.slice A n c];rw[← hw0];have bA:=zqn hw0;have hB0:=zqb hw0;clear hw0;go_loopw [6,7,8] (fun mo pa i wr=>∃ (k H P:Nat),k≤n∧mo=.int .i64 H∧pa=.int .i64 (1+P)∧i=.int .i64 k∧d+1+H≤5∧P≤23∧Hid (H=Ty.aey (kids.take k))∧Hid (P=Ty.aed (kids.take k))∧Below w.heap.size w wr∧Blk wr w.heap.size 39 #[.int .i64 kind,.string name,iy,.slice A n c]) (fun _ _ i _=>n - (intOf i).toNat)
 case atStart=>exact⟨0,0,0,Nat.zero_le _,rfl,by simp,rfl,by omega,by omega,zqd rfl,zqd rfl,hB0,bA⟩
 case round=>
  obtain⟨k,H,P,hk,rfl,rfl,rfl,hH,hP,HH,HP,hbr,bR⟩:=hrel;clear hB0 bA;have aqh:wr.cell? ⟨w.heap.size,3,none⟩=some (.slice A n c):=bR.cell 3;have hsz:=hbr.size;by_cases hlt:k < n
  ·have HX0:=True.intro
   obtain⟨g,off,rfl,hg2,hcell2⟩:=hat (by omega);obtain⟨t2,hx2,aeb⟩:=uo HN.out hlt;obtain⟨kind2,name2,aa5,aa1⟩:=t2;have afe:wr.cell? ⟨g,off+k * 4,none⟩=some (.int .i64 kind2):=ng hbr (by omega) (hcell2 k 0 _ _ hx2 (by rw[Ty.ji];rfl));have aro:wr.cell? ⟨g,off+k * 4+1,none⟩=some (.string name2):=ng hbr (by omega) (hcell2 k 1 _ _ hx2 (by rw[Ty.ji];rfl));obtain⟨adf,an4,afd⟩:∃ u,wr.cell? ⟨g,off+k * 4+2,none⟩=some u∧Rep wr B (.row 1 (aa5.flatMap aam)) u:=xq hbr (by omega) hB (hcell2 k 2 _ _ hx2 (by rw[Ty.ji];rfl));have agl:=zqd afd;clear afd;obtain⟨ad1,afr,acy⟩:∃ u,wr.cell? ⟨g,off+k * 4+3,none⟩=some u∧Rep wr B (.row 4 (aa1.flatMap Ty.pd)) u:=xq hbr (by omega) hB (hcell2 k 3 _ _ hx2 (by rw[Ty.ji];rfl));have acj:=zqd acy;clear acy;have HX2:=zqd hx2;have HM2:=zqd aeb;clear hx2 aeb;clear hcell2;have hcall:=HI.out _ HM2.out B [.int .i64 kind2,.string name2,adf,ad1] wr (d+1) (by omega) (by omega) (Nat.le_trans hB hbr.size) (Ty.close_ agl.out acj.out);have HS1:=aqd HX2.out;have HS2:=ar9 HX2.out;have HS3:=a4w HM2.out;have HS4:=auh HM2.out;have HS5:=aos kids (k+1);have HS6:=auf kids (k+1);obtain⟨t,ht⟩:∃ t:Ty,t=⟨kind2,name2,aa5,aa1⟩:=⟨_,rfl⟩;rw[← ht] at hcall HS1 HS2 HS3 HS4;rw[← HH.out] at HS1;rw[← HP.out] at HS2;by_cases hok:ajb t (d+1)
   ·rw[szD,szP,if_pos hok,if_pos hok] at hcall
    have hok1:=hok.1;have hok2:=hok.2;obtain⟨x,hx⟩:∃ x:Nat,x=t.height:=⟨_,rfl⟩;obtain⟨y,hy⟩:∃ y:Nat,y=t.parts:=⟨_,rfl⟩;rw[← hx] at hcall HS1 hok1;rw[← hy] at hcall HS2 hok2;have HC:=zqd hcall;have H1:=zqd HS1;have H2:=zqd HS2;have H5:=zqd HS5;clear hcall HS1 HS2 HS3 HS4 HS5 HS6 hok hx hy ht HX0;by_cases hsum:P+y≤23
    ·go_wp2_with fail
     refine HC.out.mono ?_;rintro e w1 ⟨rfl,hb1⟩;have bR1:=bR.step hb1;have hB1:=hbr.trans (hb1.mono hbr.size);go_wp2_with fail
     refine(apj _ _ _).mono ?_;rintro e w2 ⟨rfl,rfl⟩;go_wp2_with fail
     go_roundw
     case rel=>exact⟨k+1,max H x,P+y,by omega,by go_num,by go_num,by go_num,by omega,by omega,zqd H1.out.symm,zqd H2.out.symm,hB1,bR1⟩
     case measure=>simp[intOf];omega
    ·have HF:Hid (¬ ajb ⟨kind,name,labels,kids⟩ d):=fun hx=>by
      have h2:=hx.2;rw[Ty.parts] at h2;have:=H5.out;rw[H2.out] at this;omega
     have hgt:(24:Int) < 1+(P:Int)+(y:Int):=by omega
     go_wp2_with fail
     refine HC.out.mono ?_;rintro e w1 ⟨rfl,hb1⟩;have hB1:=hbr.trans (hb1.mono hbr.size);go_wp2_with fail
     refine(apj _ _ _).mono ?_;rintro e w2 ⟨rfl,rfl⟩;go_wp2_with fail
     go_ret2
     exact⟨ap5 (by rw[szD,if_neg HF.out]) (by rw[szP,if_neg HF.out]),hB1⟩
   ·have HF:Hid (¬ ajb ⟨kind,name,labels,kids⟩ d):=fun hx=>by
     refine hok ⟨?_,?_⟩
     ·have h2:=hx.1
      rw[Ty.height] at h2;omega
     ·have h2:=hx.2
      rw[Ty.parts] at h2;omega
    rw[szD,szP,if_neg hok,if_neg hok] at hcall;have HC:=zqd hcall;clear hcall HS1 HS2 HS3 HS4 HS5 HS6 hok ht HX0;go_wp2_with fail
    refine HC.out.mono ?_;rintro e w1 ⟨rfl,hb1⟩;have hB1:=hbr.trans (hb1.mono hbr.size);go_wp2_with fail
    refine(apj _ _ _).mono ?_;rintro e w2 ⟨rfl,rfl⟩;go_wp2_with fail
    go_ret2
    exact⟨ap5 (by rw[szD,if_neg HF.out]) (by rw[szP,if_neg HF.out]),hB1⟩
  ·have hkn:k=n:=by omega
   have HT:Hid (kids.take k=kids):=List.take_of_length_le (by have:=HN.out;omega)
   have HF:Hid (ajb ⟨kind,name,labels,kids⟩ d):=by
    have h1:=HH.out;have h2:=HP.out;rw[HT.out] at h1 h2;refine⟨?_,?_⟩
    ·rw[Ty.height];omega
    ·rw[Ty.parts];omega
   subst hkn;go_wp2_with fail
   go_ret2
   exact⟨ap5 (by rw[szD,if_pos HF.out,Ty.height,HH.out,HT.out];push_cast;omega) (by rw[szP,if_pos HF.out,Ty.parts,HP.out,HT.out];push_cast;omega),hbr⟩
theorem azm:∀ t:Ty,a2m t:=Ty.ai6 fun kind name labels kids ih=>axu ih
theorem a5n {L:Nat} (h:¬ L=0):((L:Int) - 1)=((L - 1:Nat):Int):=by omega
theorem azn {L:Nat} (a b:Nat) (h:¬ L=0):min (max a b) L=max (min a L) (min b (L - 1+1)):=by omega
def a2n (t:Ty):Prop:=∀ (B:Nat) (cs:List Value) (w:World) (L:Nat),L≤4→B≤w.heap.size→jq w B (Ty.pd t) cs→
 Calls Tryz.prog 40 #[.agg cs.toArray,.int .i64 L] w fun e w'=>e=.returned (.int .i64 (min t.height (L+1):Nat))∧Below w.heap.size w w'
set_option maxHeartbeats 1600000 in
theorem axv {kind:Int} {name:ByteArray} {labels:List ByteArray} {kids:List Ty} (ih:∀ t ∈ kids,a2n t):a2n ⟨kind,name,labels,kids⟩:=by
 intro B cs w L h5 hB h;obtain⟨iy,iw,rfl,dh,dn⟩:=Ty.open_ h;have pz:=zqd dh;clear dh;have pq:=zqd dn;clear dn;obtain⟨A,n,c,rfl,hnl,hm,hat⟩:=bf Ty.ay (by decide) pq.out;unfold maxLen at hm;have HN:=zqd hnl;have HI:=zqd ih;clear hnl ih h;by_cases hL:L=0
 ·subst hL
  have HF:Hid (min (Ty.mk kind name labels kids).height (0+1)=1):=by show _=_;have:=agi (Ty.mk kind name labels kids);omega
  go_enter Tryz.func40,Tryz.ntmps40
  go_wp2_with fail
  go_ret
  exact⟨aa2 (by rw[HF.out];rfl),(zqf _ _).alloc (zql _) _⟩
 have hL0:((L:Int) ==0)=false:=by simp;omega
 go_enter Tryz.func40,Tryz.ntmps40
 go_wp2_with fail
 obtain⟨w0,hw0⟩:=zqe w 39 #[.int .i64 kind,.string name,iy,.slice A n c];rw[← hw0];have bA:=zqn hw0;have hB0:=zqb hw0;clear hw0;go_loopw [5,13] (fun dp i wr=>∃ (k H:Nat),k≤n∧dp=.int .i64 H∧i=.int .i64 k∧H≤5∧Hid (H=min (Ty.aey (kids.take k)) L)∧Below w.heap.size w wr) (fun _ i _=>n - (intOf i).toNat)
 case atStart=>exact⟨0,0,Nat.zero_le _,rfl,rfl,by omega,zqd (by simp[Ty.aey]),hB0⟩
 case round=>
  obtain⟨k,H,hk,rfl,rfl,hH,HH,hbr⟩:=hrel;clear hB0 bA;have hsz:=hbr.size;by_cases hlt:k < n
  ·obtain⟨g,off,rfl,hg2,hcell2⟩:=hat (by omega)
   obtain⟨t2,hx2,aeb⟩:=uo HN.out hlt;obtain⟨kind2,name2,aa5,aa1⟩:=t2;have afe:wr.cell? ⟨g,off+k * 4,none⟩=some (.int .i64 kind2):=ng hbr (by omega) (hcell2 k 0 _ _ hx2 (by rw[Ty.ji];rfl));have aro:wr.cell? ⟨g,off+k * 4+1,none⟩=some (.string name2):=ng hbr (by omega) (hcell2 k 1 _ _ hx2 (by rw[Ty.ji];rfl));obtain⟨adf,an4,afd⟩:∃ u,wr.cell? ⟨g,off+k * 4+2,none⟩=some u∧Rep wr B (.row 1 (aa5.flatMap aam)) u:=xq hbr (by omega) hB (hcell2 k 2 _ _ hx2 (by rw[Ty.ji];rfl));have agl:=zqd afd;clear afd;obtain⟨ad1,afr,acy⟩:∃ u,wr.cell? ⟨g,off+k * 4+3,none⟩=some u∧Rep wr B (.row 4 (aa1.flatMap Ty.pd)) u:=xq hbr (by omega) hB (hcell2 k 3 _ _ hx2 (by rw[Ty.ji];rfl));have acj:=zqd acy;clear acy;obtain⟨akb,akc,akd,rfl⟩:=agl.out.form;obtain⟨adg,adh,adi,rfl⟩:=acj.out.form;have HX2:=zqd hx2;have HM2:=zqd aeb;clear hx2 aeb;clear hcell2;have HS1:=zqd (aqd HX2.out);obtain⟨t,ht⟩:∃ t:Ty,t=⟨kind2,name2,aa5,aa1⟩:=⟨_,rfl⟩;have HT:=zqd ht;clear ht;go_wp2_with fail
   obtain⟨w1,hw1⟩:=zqe wr 39 #[.int .i64 kind2,.string name2,.slice akb akc akd,.slice adg adh adi];rw[← hw1];have bE:=zqn hw1;have hb1:=zqb hw1;clear hw1;have hcall:=HI.out _ HM2.out B [.int .i64 kind2,.string name2,.slice akb akc akd,.slice adg adh adi] w1 (L - 1) (by omega) (by have:=hb1.size;omega) (Ty.close_ (agl.out.below (hb1.mono (by omega))) (acj.out.below (hb1.mono (by omega))));rw[← HT.out] at hcall;obtain⟨x,hx⟩:∃ x:Nat,x=min t.height (L - 1+1):=⟨_,rfl⟩;rw[← hx] at hcall;have hx5:x≤5:=by omega
   have HX:=zqd hx;have hL1:=a5n hL;rw[← hL1] at hcall;clear hx hL1;refine hcall.mono ?_;rintro e w2 ⟨rfl,hb2⟩;have hB1:=(hbr.trans (hb1.mono hbr.size)).trans (hb2.mono (by have:=hb1.size;omega));clear hcall;go_wp2_with fail
   go_roundw
   case rel=>
    exact⟨k+1,max H x,by omega,by go_num,by go_num,by omega,zqd (by rw[HS1.out,← HT.out,HH.out,HX.out,azn _ _ hL]),hB1⟩
   case measure=>simp[intOf];omega
  ·have hkn:k=n:=by omega
   have HT:Hid (kids.take k=kids):=List.take_of_length_le (by have:=HN.out;omega);subst hkn;go_wp2_with fail
   go_ret
   exact⟨aa2 (by rw[HH.out,HT.out,Ty.height];omega),hbr⟩
theorem anh:∀ t:Ty,a2n t:=Ty.ai6 fun kind name labels kids ih=>axv ih
def azo (t:Ty):Prop:=∀ (B:Nat) (cs:List Value) (w:World),t.parts≤4194304→B≤w.heap.size→jq w B (Ty.pd t) cs→
 Calls Tryz.prog 41 #[.agg cs.toArray] w fun e w'=>e=.returned (.int .i64 t.parts)∧Below w.heap.size w w'
set_option maxHeartbeats 1600000 in
theorem av5 {kind:Int} {name:ByteArray} {labels:List ByteArray} {kids:List Ty} (ih:∀ t ∈ kids,azo t):azo ⟨kind,name,labels,kids⟩:=by
 intro B cs w h5 hB h;rw[Ty.parts] at h5 ⊢;obtain⟨iy,iw,rfl,dh,dn⟩:=Ty.open_ h;have pz:=zqd dh;clear dh;have pq:=zqd dn;clear dn;obtain⟨A,n,c,rfl,hnl,hm,hat⟩:=bf Ty.ay (by decide) pq.out;unfold maxLen at hm;have HN:=zqd hnl;have HI:=zqd ih;clear hnl ih h;obtain⟨S,hS⟩:∃ S:Nat,S=Ty.aed kids:=⟨_,rfl⟩;rw[← hS] at h5 ⊢;have HS:=zqd hS;clear hS;go_enter Tryz.func41,Tryz.ntmps41
 go_wp2_with fail
 obtain⟨w0,hw0⟩:=zqe w 39 #[.int .i64 kind,.string name,iy,.slice A n c];rw[← hw0];have bA:=zqn hw0;have hB0:=zqb hw0;clear hw0;go_loopw [3,9] (fun dp i wr=>∃ (k P:Nat),k≤n∧dp=.int .i64 (1+P)∧i=.int .i64 k∧P≤S∧Hid (P=Ty.aed (kids.take k))∧Below w.heap.size w wr) (fun _ i _=>n - (intOf i).toNat)
 case atStart=>exact⟨0,0,Nat.zero_le _,by simp,rfl,by omega,zqd (by simp[Ty.aed]),hB0⟩
 case round=>
  obtain⟨k,P,hk,rfl,rfl,hP,HP,hbr⟩:=hrel;clear hB0 bA;have hsz:=hbr.size;by_cases hlt:k < n
  ·obtain⟨g,off,rfl,hg2,hcell2⟩:=hat (by omega)
   obtain⟨t2,hx2,aeb⟩:=uo HN.out hlt;obtain⟨kind2,name2,aa5,aa1⟩:=t2;have afe:wr.cell? ⟨g,off+k * 4,none⟩=some (.int .i64 kind2):=ng hbr (by omega) (hcell2 k 0 _ _ hx2 (by rw[Ty.ji];rfl));have aro:wr.cell? ⟨g,off+k * 4+1,none⟩=some (.string name2):=ng hbr (by omega) (hcell2 k 1 _ _ hx2 (by rw[Ty.ji];rfl));obtain⟨adf,an4,afd⟩:∃ u,wr.cell? ⟨g,off+k * 4+2,none⟩=some u∧Rep wr B (.row 1 (aa5.flatMap aam)) u:=xq hbr (by omega) hB (hcell2 k 2 _ _ hx2 (by rw[Ty.ji];rfl));have agl:=zqd afd;clear afd;obtain⟨ad1,afr,acy⟩:∃ u,wr.cell? ⟨g,off+k * 4+3,none⟩=some u∧Rep wr B (.row 4 (aa1.flatMap Ty.pd)) u:=xq hbr (by omega) hB (hcell2 k 3 _ _ hx2 (by rw[Ty.ji];rfl));have acj:=zqd acy;clear acy;obtain⟨akb,akc,akd,rfl⟩:=agl.out.form;obtain⟨adg,adh,adi,rfl⟩:=acj.out.form;have HX2:=zqd hx2;have HM2:=zqd aeb;clear hx2 aeb;clear hcell2;have hs1:=ar9 HX2.out;have hs2:=aos kids (k+1);obtain⟨t,ht⟩:∃ t:Ty,t=⟨kind2,name2,aa5,aa1⟩:=⟨_,rfl⟩;have HT:=zqd ht;rw[← ht] at hs1;obtain⟨x,hx⟩:∃ x:Nat,x=t.parts:=⟨_,rfl⟩;have HX:=zqd hx;rw[← hx,← HP.out] at hs1;rw[hs1,← HS.out] at hs2;have HS1:=zqd hs1;clear ht hs1 hx;go_wp2_with fail
   obtain⟨w1,hw1⟩:=zqe wr 39 #[.int .i64 kind2,.string name2,.slice akb akc akd,.slice adg adh adi];rw[← hw1];have bE:=zqn hw1;have hb1:=zqb hw1;clear hw1;have hcall:=HI.out _ HM2.out B [.int .i64 kind2,.string name2,.slice akb akc akd,.slice adg adh adi] w1 (by rw[← HT.out,← HX.out];omega) (by have:=hb1.size;omega) (Ty.close_ (agl.out.below (hb1.mono (by omega))) (acj.out.below (hb1.mono (by omega))));rw[← HT.out,← HX.out] at hcall;refine hcall.mono ?_;rintro e w2 ⟨rfl,hb2⟩;have hB1:=(hbr.trans (hb1.mono hbr.size)).trans (hb2.mono (by have:=hb1.size;omega));clear hcall;go_wp2_with fail
   go_roundw
   case rel=>exact⟨k+1,P+x,by omega,by go_num,by go_num,by omega,zqd HS1.out.symm,hB1⟩
   case measure=>simp[intOf];omega
  ·have hkn:k=n:=by omega
   have HT:Hid (kids.take k=kids):=List.take_of_length_le (by have:=HN.out;omega);subst hkn;go_wp2_with fail
   go_ret
   exact⟨aa2 (by rw[HP.out,HT.out,← HS.out];omega),hbr⟩
theorem ap1:∀ t:Ty,azo t:=Ty.ai6 fun kind name labels kids ih=>av5 ih
end Go.Proofs.YtfpannkadjdnaaaGreatDoor
