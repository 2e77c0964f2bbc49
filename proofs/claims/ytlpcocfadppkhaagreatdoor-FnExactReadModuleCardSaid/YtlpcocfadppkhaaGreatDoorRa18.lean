/-
  A module's copy: spec.l15Own (by program: gen_ow.py) (by program: gen_why.py).
-/
import Derived.Test.YtlpcocfadppkhaaGreatDoorRa15
import Derived.Deep.CutRange
namespace Go.Proofs.YtlpcocfadppkhaaGreatDoor
open Go.RowKit
set_option linter.unusedVariables false
set_option linter.unusedSimpArgs false
set_option linter.unnecessarySimpa false
set_option maxRecDepth 16000
theorem ajc (xs:List Imp):∀ u ∈ xs.flatMap zk,u.oneCell'=true:=fun u hu=>by
 obtain⟨x,_,hx⟩:=List.mem_flatMap.1 hu
 exact adi _ _ _ u hx
theorem atd (xs:List Ins):∀ u ∈ xs.flatMap zi,u.oneCell'=true:=fun u hu=>by
 obtain⟨x,_,hx⟩:=List.mem_flatMap.1 hu
 exact abt _ _ u hx
theorem ate {W:World} {lo lo' sz n:Nat} {t:TypeId} {v:Value} {cs:List Value} (h:W.ownsRow lo t sz v n cs) (hl:lo'≤lo):W.ownsRow lo' t sz v n cs:=
 ⟨h.1,h.2.imp id fun⟨g,cap,cur,hv,hb,r⟩=>⟨g,cap,cur,hv,Nat.le_trans hl hb,r⟩⟩
theorem av4 (G o j:Nat):(⟨G,o,none⟩:Addr).add j=⟨G,o+j,none⟩:=by unfold Addr.add;split<;>simp_all
theorem anm {α:Type} {f:α→List PD} {g:α→List Value} {sz:Nat} (hlen:∀ t,(f t).length=sz) (hsz:0 < sz) (hf:∀ x,f x=(g x).map PD.lit) {w:World} {B:Nat} {v:Value} {xs:List α} (h:Rep w B (.row sz (xs.flatMap f)) v):uw w v sz xs.length (xs.flatMap g):=by
 obtain⟨A,n,c,rfl,rfl,hm,hat⟩:=jr hlen hsz h
 have hg:∀ t,(g t).length=sz:=fun t=>by have:=hlen t;rw[hf t,List.length_map] at this;exact this
 have hl:∀ ys:List α,(ys.flatMap g).length=ys.length * sz:=fun ys=>by
  induction ys with
  | nil=>simp
  | cons y ys ih=>rw[List.flatMap_cons,List.length_append,ih,hg,List.length_cons,Nat.succ_mul];omega
 by_cases h0:xs.length=0
 ·have e:xs=[]:=List.eq_nil_of_length_eq_zero h0
  subst e
  cases A with
  | none=>exact .inl ⟨c,rfl,rfl,rfl⟩
  | some ad=>exact .inr ⟨ad,c,rfl,by simp,fun j u hu=>by simp at hu⟩
 ·obtain⟨gg,off,rfl,hgB,hcell⟩:=hat (by omega)
  refine .inr ⟨_,c,rfl,hl xs,fun j u hu=>?_⟩
  have hj:j < xs.length * sz:=by rw[← hl xs];exact(List.getElem?_eq_some_iff.1 hu).1
  have hk:j / sz < xs.length:=Nat.div_lt_of_lt_mul (by rw[Nat.mul_comm];exact hj)
  have hr:j % sz < sz:=Nat.mod_lt _ hsz
  have hjj:j / sz * sz+j % sz=j:=Nat.div_add_mod' j sz
  have hx:xs[j / sz]?=some xs[j / sz]:=List.getElem?_eq_getElem hk
  have e1:=iw hg hx hr
  rw[hjj,hu] at e1
  have e2:(f xs[j / sz])[j % sz]?=some (.lit u):=by rw[hf,List.getElem?_map,← e1];rfl
  obtain⟨q,hq,hrep⟩:=hcell _ _ _ _ hx e2
  rw[hrep.uo,hjj] at hq
  rw[av4]
  exact hq
theorem ayz {w W:World} {B B0 g off k:Nat} {ts:List Core} {name:ByteArray} {params locals:Int} {result:Bool} {code:List Ins} (hb:Below B0 w W) (hg:g < B) (hB:B≤B0)
  (hcell:∀ (k j:Nat) (t:Core) (x:PD),ts[k]?=some t→(Core.pd t)[j]?=some x→∃ u,w.cell? ⟨g,off+(k * 5+j),none⟩=some u∧Rep w B x u) (hx:ts[k]?=some ⟨name,params,locals,result,code⟩):
  ∃ kV,W.cell? ⟨g,off+k * 5,none⟩=some (.string name)∧W.cell? ⟨g,off+k * 5+1,none⟩=some (.int .i64 params)∧W.cell? ⟨g,off+k * 5+2,none⟩=some (.int .i64 locals)∧W.cell? ⟨g,off+k * 5+3,none⟩=some (.bool result)∧W.cell? ⟨g,off+k * 5+4,none⟩=some kV∧Rep W B (.row 2 (code.flatMap Ins.pd)) kV:=by
 obtain⟨kV,h4,r4⟩:=abh hb (Nat.lt_of_lt_of_le hg hB) hB (hcell k 4 _ _ hx (by rw[Core.aj];rfl))
 exact⟨kV,ak hb (Nat.lt_of_lt_of_le hg hB) (hcell k 0 _ _ hx (by rw[Core.aj];rfl)),ak hb (Nat.lt_of_lt_of_le hg hB) (hcell k 1 _ _ hx (by rw[Core.aj];rfl)),ak hb (Nat.lt_of_lt_of_le hg hB) (hcell k 2 _ _ hx (by rw[Core.aj];rfl)),ak hb (Nat.lt_of_lt_of_le hg hB) (hcell k 3 _ _ hx (by rw[Core.aj];rfl)),h4,r4⟩
theorem GM.addCore {lo:Nat} {W W2 W3:World} {p:Int} {is:List Imp} {cs:List Core} {vi vc vc' u:Value} {vs:List Value} {name:ByteArray} {a b:Int} {r:Bool} {code:List Ins} (h:GM lo W ⟨p,is,cs⟩ vi vc vs) (hlo:lo≤W.heap.size) (hb:Below W.heap.size W W2) (hu:W2.ownsRow W.heap.size 54 2 u code.length (code.flatMap zi))
  (hr:W3.ownsRow lo 36 5 vc' (cs.length+1) (jf cs vs ++[.string name,.int .i64 a,.int .i64 b,.bool r,u])) (hg:W2.grownBy W3 vc.ownBlock) (hat:vc'.ownBlock=vc.ownBlock∨vc'.ownBlock=some W2.heap.size):
  GM lo W3 ⟨p,is,cs ++[⟨name,a,b,r,code⟩]⟩ vi vc' (vs ++[u]):=by
 have hl:vs.length=cs.length:=h.1
 refine⟨by simp[hl],?_⟩
 have h1:jl lo W2 ([abw is vi] ++aa7 cs vs vc ::(jq cs vs ++[aav ⟨name,a,b,r,code⟩ u])):=by
  have h2:=h.2.step hb
  refine⟨fun x hx=>?_,?_⟩
  ·have hx':x ∈ (abw is vi ::aa7 cs vs vc ::jq cs vs) ++[aav ⟨name,a,b,r,code⟩ u]:=by simpa using hx
   rcases List.mem_append.1 hx' with hx|hx
   ·exact h2.1 x hx
   ·simp at hx
    subst hx
    exact ate hu hlo
  ·have e:[abw is vi] ++aa7 cs vs vc ::(jq cs vs ++[aav ⟨name,a,b,r,code⟩ u])=(abw is vi ::aa7 cs vs vc ::jq cs vs) ++[aav ⟨name,a,b,r,code⟩ u]:=by simp
   rw[e]
   refine List.pairwise_append.2 ⟨h2.2,by simp,fun x hx y hy g hgx hgy=>?_⟩
   simp at hy
   subst hy
   have k1:=((h.2.1 x hx).lt g hgx).2
   have k2:=(hu.lt g hgy).1
   omega
 have h3:=jl.grow (r':=aa7 (cs ++[⟨name,a,b,r,code⟩]) (vs ++[u]) vc') h1 hg (by
  show W3.ownsRow lo 36 5 vc' (cs ++[_]).length (jf (cs ++[_]) (vs ++[_]))
  rw[aai _ _ hl,List.length_append]
  exact hr) hat
 rw[vk _ _ hl]
 simpa using h3
theorem ay0 {lo:Nat} {W:World} {t sz n:Nat} {v:Value} {cs:List Value} {ds:List PD} (h:W.ownsRow lo t sz v n cs) (hlo:lo≤W.heap.size) (hL:ah W ds cs []):Lv W lo W.heap.size (.row sz ds) v:=by
 obtain⟨G,h1,h2⟩:=adh h hL
 rw[List.append_nil] at h2
 refine⟨G,h1,⟨h2.nodup (by cases v.ownBlock<;>simp),fun g hg=>?_⟩,Nat.le_refl _⟩
 have:=h2.subset hg
 rw[Option.mem_toList] at this
 exact h.lt g this
theorem GM.cores {lo:Nat} {W:World} {p:Int} {cs:List Core} {vi vc:Value} {vs:List Value} (h:GM lo W ⟨p,[],cs⟩ vi vc vs):Lv W lo W.heap.size (.row 5 (cs.flatMap Core.pd)) vc:=by
 have hin:=ane (rs:=aa7 cs vs vc ::jq cs vs) ⟨fun x hx=>h.2.1 x (by simp[hx]),(List.pairwise_cons.1 h.2.2).2⟩
 obtain⟨F,h2,s2⟩:=agk (lo:=lo) (W:=W) (cs:=cs) (vs:=vs) h.1 fun r hr=>h.2.1 r (by simp[hr])
 obtain⟨G,h3,s3⟩:=adh h.pq h2
 have hs:List.Sublist G ((aa7 cs vs vc ::jq cs vs).flatMap agj):=by
  rw[List.flatMap_cons]
  exact s3.trans (List.Sublist.append (List.Sublist.refl _) s2)
 exact⟨G,h3,⟨hs.nodup hin.1,fun g hg=>hin.2 g (hs.subset hg)⟩,Nat.le_refl _⟩
theorem ano {lo sz n:Nat} {t:TypeId} {v:Value} {cs:List Value} {W:World} {bx:Nat} (h:W.ownsRow lo t sz v n cs) (hne:∀ j,v.ownBlock=some j→j≠bx) (a b c:Value):(((W.setCell ⟨bx,0,none⟩ a).setCell ⟨bx,1,none⟩ b).setCell ⟨bx,2,none⟩ c).ownsRow lo t sz v n cs:=
 adg (r:=⟨t,sz,v,n,cs⟩) h fun g hg=>by
  have hn:=hne g hg
  rw[Below.heap_setCell _ _ _ _ hn,Below.heap_setCell _ _ _ _ hn,Below.heap_setCell _ _ _ _ hn]
theorem own_ne {v u:Value} {k bx:Nat} (h:v.ownBlock=u.ownBlock∨v.ownBlock=some k) (hu:u.ownBlock≠some bx) (hk:k≠bx):∀ j,v.ownBlock=some j→j≠bx:=fun j hj e=>by
 subst e
 rcases h with h|h
 ·exact hu (h ▸ hj)
 ·rw[h] at hj;exact hk (Option.some.inj hj)
theorem ay1 {lo lo2:Nat} {W:World} {p:Int} {is:List Imp} {cs:List Core} {vi vc J:Value} {vs:List Value} (h:GM lo2 W ⟨p,[],cs⟩ vi vc vs) (hi:W.ownsRow lo 52 3 J is.length (is.flatMap zk)) (hj:∀ j,J.ownBlock=some j→lo≤j∧j < lo2) (hl:lo2≤W.heap.size) (hl3:lo≤lo2):LvC W lo W.heap.size (Mod.pd ⟨p,is,cs⟩) [.int .i64 p,J,vc]:=by
 obtain⟨G1,h1,s1⟩:=adh hi (afd (f:=Imp.pd) (g:=zk) (fun _=>rfl) is)
 rw[List.append_nil] at s1
 obtain⟨G2,h2,i2,e2⟩:=h.cores
 refine⟨G1 ++G2,?_,⟨List.nodup_append.2 ⟨s1.nodup (by cases J.ownBlock<;>simp),i2.1,fun x hx y hy e=>?_⟩,fun g hg=>?_⟩,Nat.le_refl _⟩
 ·rw[Mod.aj]
  have k:=ah.cons (Hold.afe W (.int .i64 p)) (ah.cons h1 (ah.cons h2 (ah.nil W)))
  simpa using k
 ·subst e
  have a:=hj x (by have:=s1.subset hx;rwa[Option.mem_toList] at this)
  have b:=i2.2 x hy
  omega
 ·rcases List.mem_append.1 hg with hg|hg
  ·have a:=hj g (by have:=s1.subset hg;rwa[Option.mem_toList] at this);omega
  ·have b:=i2.2 g hg
   omega
set_option maxHeartbeats 12800000 in
theorem agq (m:Mod) (hl:aao m 30001) {B:Nat} {cs:List Value} {w:World} (hB:B≤w.heap.size) (h:jd w B (Mod.pd m) cs):
  Calls Tryz.prog 13 #[.agg cs.toArray] w fun e w'=>∃ us,e=.returned (.agg us.toArray)∧LvC w' w.heap.size w'.heap.size (Mod.pd m) us∧Below w.heap.size w w':=by
 obtain⟨p,is,cs'⟩:=m
 obtain⟨iV,cV,rfl,r_i,r_c⟩:=Mod.open_ h
 obtain⟨iA,iN,iC,rfl⟩:=r_i.form
 obtain⟨cA,cN,cC,rfl⟩:=r_c.form
 obtain⟨A',n',c',he,atf,a1e,aur⟩:=jr Core.au (by decide) r_c
 obtain⟨rfl,rfl,rfl⟩:cA=A'∧cN=n'∧cC=c':=by injection he with e1 e2 e3;exact⟨e1,e2,e3⟩
 clear he
 have HI:=Lib.hid r_i
 have HCN:=Lib.hid atf
 have HAT:=Lib.hid aur
 have HL:=Lib.hid hl
 have hik:is.length≤30001:=hl.1
 have hck:cN≤30001:=by rw[atf];exact hl.2.1
 obtain⟨iK,hiK⟩:∃ k,k=is.length:=⟨_,rfl⟩
 rw[← hiK] at hik
 have HIK:=Lib.hid hiK
 clear h r_i r_c atf aur a1e hl hiK
 obtain⟨w0,hw0⟩:∃ V,V=(w.alloc (.cells #[.int .i64 p,.slice iA iN iC,.slice cA cN cC] 25)).alloc (.cells #[.int .i64 0,.slice none 0 0,.slice none 0 0] 25):=⟨_,rfl⟩
 have bA0:Blk w0 (w.heap.size) 25 #[.int .i64 p,.slice iA iN iC,.slice cA cN cC]:=by rw[hw0];exact(Blk.new w _ _).alloc _
 have bR0:Blk w0 (w.heap.size+1) 25 #[.int .i64 0,.slice none 0 0,.slice none 0 0]:=by rw[hw0];have:=Blk.new (w.alloc (.cells #[.int .i64 p,.slice iA iN iC,.slice cA cN cC] 25)) 25 #[.int .i64 0,.slice none 0 0,.slice none 0 0];simpa using this
 have hB0:Below w.heap.size w w0:=by rw[hw0];exact((Below.refl _ _).alloc (Nat.le_refl _) _).alloc (by simp) _
 have hs0:w.heap.size+1 < w0.heap.size:=bR0.lt
 have HW0:=Lib.hid hw0
 clear hw0
 obtain⟨lo,hlo⟩:∃ l,l=w0.heap.size:=⟨_,rfl⟩
 have HLO:=Lib.hid hlo
 have hlo1:w.heap.size+1 < lo:=by omega
 clear hlo
 have HSO:Hid (∀ V:World,Below w.heap.size w V→uw V (.slice iA iN iC) 3 iK (is.flatMap zk)):=Lib.hid fun V hV=>by rw[HIK.out];exact anm Imp.au (by decide) (fun _=>rfl) (HI.out.below (hV.mono hB))
 have HAS:Hid (∀ V:World,Blk V (w.heap.size) 25 #[.int .i64 p,.slice iA iN iC,.slice cA cN cC]→V.cell? ⟨w.heap.size,0,none⟩=some (.int .i64 p)∧V.cell? ⟨w.heap.size,1,none⟩=some (.slice iA iN iC)):=Lib.hid fun V hV=>⟨hV.cell 0,hV.cell 1⟩
 have hnil:([]:List Value) ++is.flatMap zk=is.flatMap zk:=rfl
 go_enter Tryz.func13,Tryz.ntmps13
 go_upto_region 1 with fail
 rw[← HW0.out]
 clear HW0
 go_cut [3] from 6 to 12 (fun v3 wx=>∃ (b3:Nat) (jA:Option Addr) (jN jC:Nat),v3=.pointer (some ⟨b3,0,none⟩)∧Hid (wx.ownsRow lo 52 3 (.slice jA jN jC) iK (is.flatMap zk))∧Hid (Blk wx (b3) 25 #[.int .i64 p,.slice jA jN jC,.slice none 0 0])∧Hid (Below w0.heap.size w0 wx)∧lo≤b3∧Hid (∀ j,Value.ownBlock (.slice jA jN jC)=some j→j≠b3))
 case first=>
  obtain⟨i0,hi,hz0,hz1,hz2⟩:=info_parts ai5
  have hdr:Below w0.heap.size w0 w0.drew:=(Below.refl _ _).drew
  have k0:=HAS.out _ (bA0.step hdr)
  have HLE:=HLO.out
  refine wp_region_held_drew (S:=(fun w'=>w'.cell? ⟨w.heap.size,0,none⟩=some (.int .i64 p)∧w'.cell? ⟨w.heap.size,1,none⟩=some (.slice iA iN iC))) (by kernel_rfl) k0 (fun hHeld=>?_)
  refine wpAnyH_take (i:=0) (oi:=_) (v:=_) (by simp only[List.getElem?_toArray,List.getElem?_cons_succ,List.getElem?_cons_zero];rfl) (by kernel_rfl) (by kernel_rfl) (by kernel_rfl) (by exact fun _ _ _ h=>h) (Or.inl ⟨by rfl,by intro w hSw;(try dsimp only at hSw);go_simp;try with_reducible rfl⟩) (by assumption) ?_
  try simp only[Act.put,List.setIfInBounds_toArray,List.set_cons_zero,List.set_cons_succ]
  refine wpAnyH_take (i:=1) (oi:=_) (v:=_) (by simp only[List.getElem?_toArray,List.getElem?_cons_succ,List.getElem?_cons_zero];rfl) (by kernel_rfl) (by kernel_rfl) (by kernel_rfl) (by exact fun _ _ _ h=>h) (Or.inl ⟨by rfl,by intro w hSw;(try dsimp only at hSw);go_simp;try with_reducible rfl⟩) (by assumption) ?_
  try simp only[Act.put,List.setIfInBounds_toArray,List.set_cons_zero,List.set_cons_succ]
  refine wpAnyH_take (i:=3) (oi:=_) (v:=_) (by simp only[List.getElem?_toArray,List.getElem?_cons_succ,List.getElem?_cons_zero];rfl) (by kernel_rfl) (by kernel_rfl) (by kernel_rfl) (by exact fun _ _ _ h=>h) (Or.inl ⟨by rfl,by intro w hSw;(try dsimp only at hSw);go_simp;try with_reducible rfl⟩) (by assumption) ?_
  try simp only[Act.put,List.setIfInBounds_toArray,List.set_cons_zero,List.set_cons_succ]
  refine wpAnyH_take (i:=4) (oi:=_) (v:=_) (by simp only[List.getElem?_toArray,List.getElem?_cons_succ,List.getElem?_cons_zero];rfl) (by kernel_rfl) (by kernel_rfl) (by kernel_rfl) (by exact fun _ _ _ h=>h) (Or.inl ⟨by rfl,by intro w hSw;(try dsimp only at hSw);go_simp;try with_reducible rfl⟩) (by assumption) ?_
  try simp only[Act.put,List.setIfInBounds_toArray,List.set_cons_zero,List.set_cons_succ]
  refine wpAnyH_ready (rs:=[2,7]) (by kernel_rfl) (by simp) ?_
  refine AllReadyH.cons (o:=?a7g) ?a1f (fun K hK=>?a1g) (AllReadyH.cons (o:=?a7h) ?a1h (fun K hK=>?a1i) AllReadyH.nil)
  case a1f=>
   simp only[List.getElem?_toArray,List.getElem?_cons_succ,List.getElem?_cons_zero];rfl
  case a1h=>
   simp only[List.getElem?_toArray,List.getElem?_cons_succ,List.getElem?_cons_zero];rfl
  case a1g=>
   go_simp
   have kA:=HAS.out _ (bA0.step (hdr.alloc (Nat.le_refl _) (.cells #[] 52)))
   refine hK.out _ _ (by first|exact kA|go_keep) (fun hHeld=>?_)
   clear hK K
   try simp only[Act.put,List.setIfInBounds_toArray,List.set_cons_zero,List.set_cons_succ]
   refine wpAnyH_ready (rs:=[5,7]) (by kernel_rfl) (by simp) ?_
   refine AllReadyH.cons (o:=?a7i) ?a1j (fun K hK=>?a1k) (AllReadyH.cons (o:=?a7j) ?a1l (fun K hK=>?a1m) AllReadyH.nil)
   case a1j=>
    simp only[List.getElem?_toArray,List.getElem?_cons_succ,List.getElem?_cons_zero];rfl
   case a1l=>
    simp only[List.getElem?_toArray,List.getElem?_cons_succ,List.getElem?_cons_zero];rfl
   case a1k=>
    have HOWN:Hid ((w0.drew.alloc (.cells #[] 52)).ownsRow lo 52 3 (.slice (some ⟨w0.heap.size,0,none⟩) 0 0) 0 []):=Lib.hid (by have:=World.ownsRow_made (base:=lo) (e:=52) (size:=3) w0.drew #[] 0 (by show lo≤w0.heap.size;have:=HLO.out;omega) (by decide) rfl;exact this)
    have ni:=Lib.hid (HSO.out _ (hB0.trans ((hdr.alloc (Nat.le_refl _) (.cells #[] 52)).mono hB0.size)))
    refine cu (by rfl) _ _ 22 (by rfl) lo 52 i0 (.agg #[.string {data:=#[]},.int .i64 0,.bool false]) 3 32 Tryz.underlying22 hi hz0 hz1 hz2 rfl (by decide) (.slice (some ⟨w0.heap.size,0,none⟩) 0 0) 0 [] (by rfl) HOWN.out (.slice iA iN iC) iK (is.flatMap zk) (by rfl) ni.out (ajc _) (by simp only[maxLen];omega) (by omega) (Nat.le_trans (Nat.le_of_eq HLO.out) (hdr.alloc (Nat.le_refl _) (.cells #[] 52)).size) ?_
    rw[Nat.zero_add,hnil]
    intro v' w3 hown' hgrow ig
    obtain⟨jA,jN,jC,rfl,-⟩:=(Own.lu hown').form
    have hB3:Below w0.heap.size w0 w3:=(hdr.alloc (Nat.le_refl _) (.cells #[] 52)).grown hgrow (hdr.alloc (Nat.le_refl _) (.cells #[] 52)).size (fun j hj=>by have:=(HOWN.out.lt j hj).1;omega)
    have k3:=HAS.out _ (bA0.step hB3)
    refine hK.out _ _ (by first|exact k3|go_keep) (fun hHeld=>?_)
    clear hK K
    try simp only[Act.put,List.setIfInBounds_toArray,List.set_cons_zero,List.set_cons_succ]
    refine wpAnyH_take (i:=6) (oi:=_) (v:=_) (by simp only[List.getElem?_toArray,List.getElem?_cons_succ,List.getElem?_cons_zero];rfl) (by kernel_rfl) (by kernel_rfl) (by kernel_rfl) (by exact fun _ _ _ h=>h) (Or.inl ⟨by rfl,by intro w hSw;(try dsimp only at hSw);go_simp;try with_reducible rfl⟩) (by assumption) ?_
    try simp only[Act.put,List.setIfInBounds_toArray,List.set_cons_zero,List.set_cons_succ]
    refine wpAnyH_ready (rs:=[7]) (by kernel_rfl) (by simp) ?_
    refine AllReadyH.cons (o:=?o3) ?h3 (fun K hK=>?k3) AllReadyH.nil
    case h3=>
     simp only[List.getElem?_toArray,List.getElem?_cons_succ,List.getElem?_cons_zero];rfl
    go_simp
    have bX3:Blk (w3.alloc (.cells #[.int .i64 0,.slice none 0 0,.slice none 0 0] 25)) w3.heap.size 25 #[.int .i64 0,.slice none 0 0,.slice none 0 0]:=Blk.new w3 _ _
    obtain⟨z0,z1,z2⟩:(w3.alloc (.cells #[.int .i64 0,.slice none 0 0,.slice none 0 0] 25)).cell? ⟨w3.heap.size,0,none⟩=some (.int .i64 0)∧(w3.alloc (.cells #[.int .i64 0,.slice none 0 0,.slice none 0 0] 25)).cell? ⟨w3.heap.size,1,none⟩=some (.slice none 0 0)∧(w3.alloc (.cells #[.int .i64 0,.slice none 0 0,.slice none 0 0] 25)).cell? ⟨w3.heap.size,2,none⟩=some (.slice none 0 0):=⟨bX3.cell 0,bX3.cell 1,bX3.cell 2⟩
    have f0:=bX3.frozen 0
    have f1:=bX3.frozen 1
    have f2:=bX3.frozen 2
    have k7:=HAS.out _ (bA0.step (hB3.alloc hB3.size (.cells #[.int .i64 0,.slice none 0 0,.slice none 0 0] 25)))
    refine hK.out _ _ (by first|exact k7|go_keep) (fun hHeld=>?_)
    clear hK K
    try simp only[Act.put,List.setIfInBounds_toArray,List.set_cons_zero,List.set_cons_succ]
    refine wpAnyH_ready (rs:=[8]) (by kernel_rfl) (by simp) ?_
    refine AllReadyH.cons (o:=?o4) ?h4 (fun K hK=>?k4) AllReadyH.nil
    case h4=>
     simp only[List.getElem?_toArray,List.getElem?_cons_succ,List.getElem?_cons_zero];rfl
    go_simp
    have bE:Blk (w3.alloc (.cells #[.int .i64 p,.slice jA jN jC,.slice none 0 0] 25)) w3.heap.size 25 #[.int .i64 p,.slice jA jN jC,.slice none 0 0]:=Blk.new w3 _ _
    have hBE:Below w0.heap.size w0 (w3.alloc (.cells #[.int .i64 p,.slice jA jN jC,.slice none 0 0] 25)):=hB3.alloc hB3.size _
    have hNE:∀ j,Value.ownBlock (.slice jA jN jC)=some j→j≠w3.heap.size:=fun j hj=>Nat.ne_of_lt (hown'.lt j hj).2
    have hOE:=hown'.alloc (.cells #[.int .i64 p,.slice jA jN jC,.slice none 0 0] 25)
    have kE:=HAS.out _ (bA0.step hBE)
    refine hK.out _ _ (by first|exact kE|go_keep) (fun hHeld=>?_)
    clear hK K
    try simp only[Act.put,List.setIfInBounds_toArray,List.set_cons_zero,List.set_cons_succ]
    refine wpAnyH_done (by kernel_rfl) ?_ _
    go_wp2_with fail
    go_meet
    exact⟨_,jA,jN,jC,rfl,Lib.hid hOE,Lib.hid bE,Lib.hid hBE,by have:=HLO.out;have:=hB3.size;omega,Lib.hid hNE⟩
   case a1m=>
    go_simp
    have k7:=HAS.out _ (bA0.step (((hdr.alloc (Nat.le_refl _) (.cells #[] 52))).alloc ((hdr.alloc (Nat.le_refl _) (.cells #[] 52))).size (.cells #[.int .i64 0,.slice none 0 0,.slice none 0 0] 25)))
    refine hK.out _ _ (by first|exact k7|go_keep) (fun hHeld=>?_)
    clear hK K
    try simp only[Act.put,List.setIfInBounds_toArray,List.set_cons_zero,List.set_cons_succ]
    refine wpAnyH_ready (rs:=[5]) (by kernel_rfl) (by simp) ?_
    refine AllReadyH.cons (o:=?o5) ?h5 (fun K hK=>?k5) AllReadyH.nil
    case h5=>
     simp only[List.getElem?_toArray,List.getElem?_cons_succ,List.getElem?_cons_zero];rfl
    have HOWN:Hid (((w0.drew.alloc (.cells #[] 52)).alloc (.cells #[.int .i64 0,.slice none 0 0,.slice none 0 0] 25)).ownsRow lo 52 3 (.slice (some ⟨w0.heap.size,0,none⟩) 0 0) 0 []):=Lib.hid (World.ownsRow.alloc (show((w0.drew.alloc (.cells #[] 52))).ownsRow lo 52 3 (.slice (some ⟨w0.heap.size,0,none⟩) 0 0) 0 [] from by have:=World.ownsRow_made (base:=lo) (e:=52) (size:=3) w0.drew #[] 0 (by show lo≤w0.heap.size;have:=HLO.out;omega) (by decide) rfl;exact this) (.cells #[.int .i64 0,.slice none 0 0,.slice none 0 0] 25))
    have ni:=Lib.hid (HSO.out _ (hB0.trans ((((hdr.alloc (Nat.le_refl _) (.cells #[] 52))).alloc ((hdr.alloc (Nat.le_refl _) (.cells #[] 52))).size (.cells #[.int .i64 0,.slice none 0 0,.slice none 0 0] 25)).mono hB0.size)))
    refine cu (by rfl) _ _ 22 (by rfl) lo 52 i0 (.agg #[.string {data:=#[]},.int .i64 0,.bool false]) 3 32 Tryz.underlying22 hi hz0 hz1 hz2 rfl (by decide) (.slice (some ⟨w0.heap.size,0,none⟩) 0 0) 0 [] (by rfl) HOWN.out (.slice iA iN iC) iK (is.flatMap zk) (by rfl) ni.out (ajc _) (by simp only[maxLen];omega) (by omega) (Nat.le_trans (Nat.le_of_eq HLO.out) (((hdr.alloc (Nat.le_refl _) (.cells #[] 52))).alloc ((hdr.alloc (Nat.le_refl _) (.cells #[] 52))).size (.cells #[.int .i64 0,.slice none 0 0,.slice none 0 0] 25)).size) ?_
    rw[Nat.zero_add,hnil]
    intro v' w3 hown' hgrow ig
    obtain⟨jA,jN,jC,rfl,-⟩:=(Own.lu hown').form
    have hB3:Below w0.heap.size w0 w3:=(((hdr.alloc (Nat.le_refl _) (.cells #[] 52))).alloc ((hdr.alloc (Nat.le_refl _) (.cells #[] 52))).size (.cells #[.int .i64 0,.slice none 0 0,.slice none 0 0] 25)).grown hgrow (((hdr.alloc (Nat.le_refl _) (.cells #[] 52))).alloc ((hdr.alloc (Nat.le_refl _) (.cells #[] 52))).size (.cells #[.int .i64 0,.slice none 0 0,.slice none 0 0] 25)).size (fun j hj=>by have:=(HOWN.out.lt j hj).1;omega)
    have k3:=HAS.out _ (bA0.step hB3)
    have bX2:Blk (((w0.drew.alloc (.cells #[] 52)).alloc (.cells #[.int .i64 0,.slice none 0 0,.slice none 0 0] 25))) (w0.heap.size+1) 25 #[.int .i64 0,.slice none 0 0,.slice none 0 0]:=by have:=Blk.new ((w0.drew.alloc (.cells #[] 52))) 25 #[.int .i64 0,.slice none 0 0,.slice none 0 0];simpa using this
    have bX3:Blk w3 (w0.heap.size+1) 25 #[.int .i64 0,.slice none 0 0,.slice none 0 0]:=(hgrow.block (w0.heap.size+1) (bX2).lt (by simp[Value.ownBlock])).trans bX2
    obtain⟨z0,z1,z2⟩:w3.cell? ⟨w0.heap.size+1,0,none⟩=some (.int .i64 0)∧w3.cell? ⟨w0.heap.size+1,1,none⟩=some (.slice none 0 0)∧w3.cell? ⟨w0.heap.size+1,2,none⟩=some (.slice none 0 0):=⟨bX3.cell 0,bX3.cell 1,bX3.cell 2⟩
    have f0:=bX3.frozen 0
    have f1:=bX3.frozen 1
    have f2:=bX3.frozen 2
    refine hK.out _ _ (by first|exact k3|go_keep) (fun hHeld=>?_)
    clear hK K
    try simp only[Act.put,List.setIfInBounds_toArray,List.set_cons_zero,List.set_cons_succ]
    refine wpAnyH_take (i:=6) (oi:=_) (v:=_) (by simp only[List.getElem?_toArray,List.getElem?_cons_succ,List.getElem?_cons_zero];rfl) (by kernel_rfl) (by kernel_rfl) (by kernel_rfl) (by exact fun _ _ _ h=>h) (Or.inl ⟨by rfl,by intro w hSw;(try dsimp only at hSw);go_simp;try with_reducible rfl⟩) (by assumption) ?_
    try simp only[Act.put,List.setIfInBounds_toArray,List.set_cons_zero,List.set_cons_succ]
    refine wpAnyH_ready (rs:=[8]) (by kernel_rfl) (by simp) ?_
    refine AllReadyH.cons (o:=?o6) ?h6 (fun K hK=>?k6) AllReadyH.nil
    case h6=>
     simp only[List.getElem?_toArray,List.getElem?_cons_succ,List.getElem?_cons_zero];rfl
    go_simp
    have bE:Blk (((w3.setCell ⟨w0.heap.size+1,0,none⟩ (.int .i64 p)).setCell ⟨w0.heap.size+1,1,none⟩ (.slice jA jN jC)).setCell ⟨w0.heap.size+1,2,none⟩ (.slice none 0 0)) (w0.heap.size+1) 25 #[.int .i64 p,.slice jA jN jC,.slice none 0 0]:=by have:=((bX3.dh 0 (.int .i64 p)).dh 1 (.slice jA jN jC)).dh 2 (.slice none 0 0);simpa using this
    have hBE:Below w0.heap.size w0 (((w3.setCell ⟨w0.heap.size+1,0,none⟩ (.int .i64 p)).setCell ⟨w0.heap.size+1,1,none⟩ (.slice jA jN jC)).setCell ⟨w0.heap.size+1,2,none⟩ (.slice none 0 0)):=(((hB3).setCell (by simp only;omega) _).setCell (by simp only;omega) _).setCell (by simp only;omega) _
    have hNE:∀ j,Value.ownBlock (.slice jA jN jC)=some j→j≠w0.heap.size+1:=own_ne ig (by simp[Value.ownBlock]) (by simp<;>omega)
    have hOE:=ano (hown') hNE (.int .i64 p) (.slice jA jN jC) (.slice none 0 0)
    have kE:=HAS.out _ (bA0.step hBE)
    refine hK.out _ _ (by first|exact kE|go_keep) (fun hHeld=>?_)
    clear hK K
    try simp only[Act.put,List.setIfInBounds_toArray,List.set_cons_zero,List.set_cons_succ]
    refine wpAnyH_done (by kernel_rfl) ?_ _
    go_wp2_with fail
    go_meet
    exact⟨_,jA,jN,jC,rfl,Lib.hid hOE,Lib.hid bE,Lib.hid hBE,by have:=HLO.out;have:=hB3.size;omega,Lib.hid hNE⟩
  case a1i=>
   go_simp
   have k7:=HAS.out _ (bA0.step (hdr.alloc (Nat.le_refl _) (.cells #[.int .i64 0,.slice none 0 0,.slice none 0 0] 25)))
   refine hK.out _ _ (by first|exact k7|go_keep) (fun hHeld=>?_)
   clear hK K
   try simp only[Act.put,List.setIfInBounds_toArray,List.set_cons_zero,List.set_cons_succ]
   refine wpAnyH_ready (rs:=[2]) (by kernel_rfl) (by simp) ?_
   refine AllReadyH.cons (o:=?o7) ?h7 (fun K hK=>?k7) AllReadyH.nil
   case h7=>
    simp only[List.getElem?_toArray,List.getElem?_cons_succ,List.getElem?_cons_zero];rfl
   go_simp
   have k8:=HAS.out _ (bA0.step (((hdr.alloc (Nat.le_refl _) (.cells #[.int .i64 0,.slice none 0 0,.slice none 0 0] 25))).alloc ((hdr.alloc (Nat.le_refl _) (.cells #[.int .i64 0,.slice none 0 0,.slice none 0 0] 25))).size (.cells #[] 52)))
   refine hK.out _ _ (by first|exact k8|go_keep) (fun hHeld=>?_)
   clear hK K
   try simp only[Act.put,List.setIfInBounds_toArray,List.set_cons_zero,List.set_cons_succ]
   refine wpAnyH_ready (rs:=[5]) (by kernel_rfl) (by simp) ?_
   refine AllReadyH.cons (o:=?o8) ?h8 (fun K hK=>?k8) AllReadyH.nil
   case h8=>
    simp only[List.getElem?_toArray,List.getElem?_cons_succ,List.getElem?_cons_zero];rfl
   have HOWN:Hid (((w0.drew.alloc (.cells #[.int .i64 0,.slice none 0 0,.slice none 0 0] 25)).alloc (.cells #[] 52)).ownsRow lo 52 3 (.slice (some ⟨(w0.heap.size+1),0,none⟩) 0 0) 0 []):=Lib.hid (by have:=World.ownsRow_made (base:=lo) (e:=52) (size:=3) (w0.drew.alloc (.cells #[.int .i64 0,.slice none 0 0,.slice none 0 0] 25)) #[] 0 (by have:=(hdr.alloc (Nat.le_refl _) (.cells #[.int .i64 0,.slice none 0 0,.slice none 0 0] 25)).size;have:=HLO.out;omega) (by decide) rfl;simpa using this)
   have ni:=Lib.hid (HSO.out _ (hB0.trans ((((hdr.alloc (Nat.le_refl _) (.cells #[.int .i64 0,.slice none 0 0,.slice none 0 0] 25))).alloc ((hdr.alloc (Nat.le_refl _) (.cells #[.int .i64 0,.slice none 0 0,.slice none 0 0] 25))).size (.cells #[] 52)).mono hB0.size)))
   refine cu (by rfl) _ _ 22 (by rfl) lo 52 i0 (.agg #[.string {data:=#[]},.int .i64 0,.bool false]) 3 32 Tryz.underlying22 hi hz0 hz1 hz2 rfl (by decide) (.slice (some ⟨(w0.heap.size+1),0,none⟩) 0 0) 0 [] (by rfl) HOWN.out (.slice iA iN iC) iK (is.flatMap zk) (by rfl) ni.out (ajc _) (by simp only[maxLen];omega) (by omega) (Nat.le_trans (Nat.le_of_eq HLO.out) (((hdr.alloc (Nat.le_refl _) (.cells #[.int .i64 0,.slice none 0 0,.slice none 0 0] 25))).alloc ((hdr.alloc (Nat.le_refl _) (.cells #[.int .i64 0,.slice none 0 0,.slice none 0 0] 25))).size (.cells #[] 52)).size) ?_
   rw[Nat.zero_add,hnil]
   intro v' w3 hown' hgrow ig
   obtain⟨jA,jN,jC,rfl,-⟩:=(Own.lu hown').form
   have hB3:Below w0.heap.size w0 w3:=(((hdr.alloc (Nat.le_refl _) (.cells #[.int .i64 0,.slice none 0 0,.slice none 0 0] 25))).alloc ((hdr.alloc (Nat.le_refl _) (.cells #[.int .i64 0,.slice none 0 0,.slice none 0 0] 25))).size (.cells #[] 52)).grown hgrow (((hdr.alloc (Nat.le_refl _) (.cells #[.int .i64 0,.slice none 0 0,.slice none 0 0] 25))).alloc ((hdr.alloc (Nat.le_refl _) (.cells #[.int .i64 0,.slice none 0 0,.slice none 0 0] 25))).size (.cells #[] 52)).size (fun j hj=>by have:=(HOWN.out.lt j hj).1;omega)
   have k3:=HAS.out _ (bA0.step hB3)
   have bX2:Blk (((w0.drew.alloc (.cells #[.int .i64 0,.slice none 0 0,.slice none 0 0] 25)).alloc (.cells #[] 52))) (w0.heap.size) 25 #[.int .i64 0,.slice none 0 0,.slice none 0 0]:=(Blk.new w0.drew 25 #[.int .i64 0,.slice none 0 0,.slice none 0 0]).alloc (.cells #[] 52)
   have bX3:Blk w3 (w0.heap.size) 25 #[.int .i64 0,.slice none 0 0,.slice none 0 0]:=(hgrow.block (w0.heap.size) (bX2).lt (by simp[Value.ownBlock])).trans bX2
   obtain⟨z0,z1,z2⟩:w3.cell? ⟨w0.heap.size,0,none⟩=some (.int .i64 0)∧w3.cell? ⟨w0.heap.size,1,none⟩=some (.slice none 0 0)∧w3.cell? ⟨w0.heap.size,2,none⟩=some (.slice none 0 0):=⟨bX3.cell 0,bX3.cell 1,bX3.cell 2⟩
   have f0:=bX3.frozen 0
   have f1:=bX3.frozen 1
   have f2:=bX3.frozen 2
   refine hK.out _ _ (by first|exact k3|go_keep) (fun hHeld=>?_)
   clear hK K
   try simp only[Act.put,List.setIfInBounds_toArray,List.set_cons_zero,List.set_cons_succ]
   refine wpAnyH_take (i:=6) (oi:=_) (v:=_) (by simp only[List.getElem?_toArray,List.getElem?_cons_succ,List.getElem?_cons_zero];rfl) (by kernel_rfl) (by kernel_rfl) (by kernel_rfl) (by exact fun _ _ _ h=>h) (Or.inl ⟨by rfl,by intro w hSw;(try dsimp only at hSw);go_simp;try with_reducible rfl⟩) (by assumption) ?_
   try simp only[Act.put,List.setIfInBounds_toArray,List.set_cons_zero,List.set_cons_succ]
   refine wpAnyH_ready (rs:=[8]) (by kernel_rfl) (by simp) ?_
   refine AllReadyH.cons (o:=?o9) ?h9 (fun K hK=>?k9) AllReadyH.nil
   case h9=>
    simp only[List.getElem?_toArray,List.getElem?_cons_succ,List.getElem?_cons_zero];rfl
   go_simp
   have bE:Blk (((w3.setCell ⟨w0.heap.size,0,none⟩ (.int .i64 p)).setCell ⟨w0.heap.size,1,none⟩ (.slice jA jN jC)).setCell ⟨w0.heap.size,2,none⟩ (.slice none 0 0)) (w0.heap.size) 25 #[.int .i64 p,.slice jA jN jC,.slice none 0 0]:=by have:=((bX3.dh 0 (.int .i64 p)).dh 1 (.slice jA jN jC)).dh 2 (.slice none 0 0);simpa using this
   have hBE:Below w0.heap.size w0 (((w3.setCell ⟨w0.heap.size,0,none⟩ (.int .i64 p)).setCell ⟨w0.heap.size,1,none⟩ (.slice jA jN jC)).setCell ⟨w0.heap.size,2,none⟩ (.slice none 0 0)):=(((hB3).setCell (by simp only;omega) _).setCell (by simp only;omega) _).setCell (by simp only;omega) _
   have hNE:∀ j,Value.ownBlock (.slice jA jN jC)=some j→j≠w0.heap.size:=own_ne ig (by simp[Value.ownBlock]) (by simp<;>omega)
   have hOE:=ano (hown') hNE (.int .i64 p) (.slice jA jN jC) (.slice none 0 0)
   have kE:=HAS.out _ (bA0.step hBE)
   refine hK.out _ _ (by first|exact kE|go_keep) (fun hHeld=>?_)
   clear hK K
   try simp only[Act.put,List.setIfInBounds_toArray,List.set_cons_zero,List.set_cons_succ]
   refine wpAnyH_done (by kernel_rfl) ?_ _
   go_wp2_with fail
   go_meet
   exact⟨_,jA,jN,jC,rfl,Lib.hid hOE,Lib.hid bE,Lib.hid hBE,by have:=HLO.out;have:=hB3.size;omega,Lib.hid hNE⟩
 case rest=>
  obtain⟨b3,jA,jN,jC,rfl,HIR,HB3,HBC,hb3,HNE⟩:=hcut
  obtain⟨lo2,hlo2⟩:∃ l,l=wc.heap.size:=⟨_,rfl⟩
  have ay2:b3 < lo2:=by rw[hlo2];exact HB3.out.lt
  have HJL:Hid (∀ j,Value.ownBlock (.slice jA jN jC)=some j→lo≤j∧j < lo2):=Lib.hid (by rw[hlo2];exact fun j hj=>HIR.out.lt j hj)
  have bAc:Blk wc (w.heap.size) 25 #[.int .i64 p,.slice iA iN iC,.slice cA cN cC]:=bA0.step HBC.out
  have bRc:Blk wc (w.heap.size+1) 25 #[.int .i64 0,.slice none 0 0,.slice none 0 0]:=bR0.step HBC.out
  have hBc:Below w.heap.size w wc:=hB0.trans (HBC.out.mono hB0.size)
  have hl2:lo2≤wc.heap.size:=Nat.le_of_eq hlo2
  clear hlo2 bA0 bR0 hB0 HBC HAS HSO HI
  go_wp2_with fail
  go_loopw [4] (fun i wr=>∃ (k:Nat) (vc:Value) (vs:List Value),k≤cN∧i=.int .i64 k∧Hid (GM lo2 wr ⟨p,[],cs'.take k⟩ (.slice none 0 0) vc vs)∧Hid (Below w.heap.size w wr)∧Hid (wr.ownsRow lo 52 3 (.slice jA jN jC) iK (is.flatMap zk))∧lo2≤wr.heap.size∧Hid (Blk wr (w.heap.size+1) 25 #[.int .i64 0,.slice none 0 0,.slice none 0 0])∧Hid (Blk wr (w.heap.size) 25 #[.int .i64 p,.slice iA iN iC,.slice cA cN cC])∧Hid (Blk wr (b3) 25 #[.int .i64 p,.slice jA jN jC,vc])) (fun i _=>cN - (intOf i).toNat)
  case atStart=>exact⟨0,.slice none 0 0,[],Nat.zero_le _,rfl,Lib.hid (by rw[List.take_zero];exact GM.new _ _ _),Lib.hid hBc,HIR,hl2,Lib.hid bRc,Lib.hid bAc,HB3⟩
  case round=>
   clear bRc bAc HIR HB3 hBc hl2
   obtain⟨k,vc,vs,hkn,rfl,HGM,HB,HIR,hlr,HR,HA,H3⟩:=hrel
   have hdN:k=(cs'.take k).length:=by rw[List.length_take,← HCN.out];omega
   obtain⟨dA,dC,rfl,hvc⟩:=zl HGM.out.pq
   rw[show(Mod.mk p [] (cs'.take k)).cores.length=k from hdN.symm] at HGM H3
   clear hvc
   have HDN:=Lib.hid hdN
   clear hdN
   have hBr:=HB.out
   have bRr:Blk wr (w.heap.size+1) 25 #[.int .i64 0,.slice none 0 0,.slice none 0 0]:=HR.out
   have bAr:Blk wr (w.heap.size) 25 #[.int .i64 p,.slice iA iN iC,.slice cA cN cC]:=HA.out
   have b3r:Blk wr (b3) 25 #[.int .i64 p,.slice jA jN jC,.slice dA k dC]:=H3.out
   have ax1:=hBr.size
   have a2:wr.cell? ⟨w.heap.size,2,none⟩=some (.slice cA cN cC):=bAr.cell 2
   by_cases hlt:k < cN
   case pos=>
    obtain⟨g,off,rfl,hg,hcell⟩:=HAT.out (by omega)
    obtain⟨x,hx,hxm⟩:=l7 HCN.out hlt
    obtain⟨name,pa,lc,rs,code⟩:=x
    have hcl:code.length≤30001:=HL.out.2.2 _ hxm
    obtain⟨kV,c0,c1,c2,c3,c4,rk⟩:=ayz hBr hg hB hcell hx
    obtain⟨kA,kN,kC,rfl⟩:=rk.form
    have HRK:=Lib.hid rk
    have HGX:Hid (cs'.take (k+1)=cs'.take k ++[⟨name,pa,lc,rs,code⟩]):=by show _=_;rw[List.take_add_one,hx];rfl
    clear rk hcell hx hxm
    have hgr:g < wr.heap.size:=by omega
    obtain⟨i0,hi,hz0,hz1,hz2⟩:=info_parts ai6
    obtain⟨i1,hi1,hy0,hy1,hy2⟩:=info_parts ahh
    have n0:(k:Int) < (cN:Int):=by omega
    go_upto_region 6 with fail
    obtain⟨w1,hw1⟩:∃ V,V=wr.alloc (.cells #[.string name,.int .i64 pa,.int .i64 lc,.bool rs,.slice kA kN kC] 36):=⟨_,rfl⟩
    rw[← hw1]
    have bX1:Blk w1 (wr.heap.size) 36 #[.string name,.int .i64 pa,.int .i64 lc,.bool rs,.slice kA kN kC]:=by rw[hw1];exact Blk.new wr _ _
    have hB1:Below wr.heap.size wr w1:=by rw[hw1];exact(Below.refl _ _).alloc (Nat.le_refl _) _
    have hs1:wr.heap.size < w1.heap.size:=bX1.lt
    clear hw1
    have anp:Below wr.heap.size wr (w1.alloc (.cells #[] 54)):=hB1.alloc hB1.size _
    have HOW:Hid ((w1.alloc (.cells #[] 54)).ownsRow wr.heap.size 54 2 (.slice (some ⟨w1.heap.size,0,none⟩) 0 0) 0 []):=Lib.hid (by have:=World.ownsRow_made (base:=wr.heap.size) (e:=54) (size:=2) w1 #[] 0 (Nat.le_of_lt hs1) (by decide) rfl;exact this)
    have HSC:Hid (uw (w1.alloc (.cells #[] 54)) (.slice kA kN kC) 2 code.length (code.flatMap zi)):=Lib.hid (anm Ins.au (by decide) (fun _=>rfl) (HRK.out.below (anp.mono (by omega))))
    have z4:w1.cell? ⟨wr.heap.size,4,none⟩=some (.slice kA kN kC):=bX1.cell 4
    have y4:(w1.alloc (.cells #[] 54)).cell? ⟨wr.heap.size,4,none⟩=some (.slice kA kN kC):=(bX1.alloc _).cell 4
    have hbase:wr.heap.size≤(w1.alloc (.cells #[] 54)).heap.size:=anp.size
    go_upto_region 7 with (at_builtin;refine aae rfl _ _ 34 rfl wr.heap.size 54 i0 (.agg #[.int .i64 0,.int .i64 0]) 2 16 Tryz.underlying34 hi hz0 hz1 hz2 rfl (by decide) _ _ _ rfl HOW.out _ _ _ rfl HSC.out (atd _) (by simp only[maxLen];omega) (by omega) hbase ?_;intro v' w2 hown' hgrow ig;obtain⟨eA,eN,eC,rfl,-⟩:=(Own.lu hown').form;have bX2:Blk w2 (wr.heap.size) 36 #[.string name,.int .i64 pa,.int .i64 lc,.bool rs,.slice kA kN kC]:=(hgrow.block (wr.heap.size) (bX1.alloc (.cells #[] 54)).lt (by intro hne;exact absurd (Option.some.inj hne) (by first|exact Nat.ne_of_lt hs1|exact(Nat.ne_of_lt hs1).symm))).trans (bX1.alloc (.cells #[] 54));have x4:w2.cell? ⟨wr.heap.size,4,none⟩=some (.slice kA kN kC):=bX2.cell 4;have f4:=bX2.frozen 4;have HGR:Hid (World.grownBy (w1.alloc (.cells #[] 54)) w2 (some w1.heap.size)):=Lib.hid hgrow;have am1:Hid (Value.ownBlock (.slice eA eN eC)=some w1.heap.size∨Value.ownBlock (.slice eA eN eC)=some ((w1.alloc (.cells #[] 54))).heap.size):=Lib.hid ig;have HOU:Hid (w2.ownsRow wr.heap.size 54 2 (.slice eA eN eC) code.length (code.flatMap zi)):=Lib.hid (by have q:=hown';rw[Nat.zero_add,List.nil_append] at q;exact q);clear hgrow ig hown')
    have hBs:Below wr.heap.size wr (w2.setCell ⟨wr.heap.size,4,none⟩ (.slice eA eN eC)):=(anp.grown HGR.out hbase (fun j hj=>by have:=Option.some.inj hj;omega)).setCell (Nat.le_refl _) _
    have bXs:Blk (w2.setCell ⟨wr.heap.size,4,none⟩ (.slice eA eN eC)) (wr.heap.size) 36 #[.string name,.int .i64 pa,.int .i64 lc,.bool rs,.slice eA eN eC]:=by
     have:=bX2.dh 4 (.slice eA eN eC)
     simpa using this
    have hne1:∀ j,Value.ownBlock (.slice eA eN eC)=some j→j≠wr.heap.size:=by
     intro j hj e
     subst e
     have q:=anp.size
     rcases am1.out with h|h<;>rw[h] at hj<;>have:=Option.some.inj hj
     ·omega
     ·have:=(bX1.alloc (.cells #[] 54)).lt;omega
    have HOS:Hid ((w2.setCell ⟨wr.heap.size,4,none⟩ (.slice eA eN eC)).ownsRow wr.heap.size 54 2 (.slice eA eN eC) code.length (code.flatMap zi)):=Lib.hid (adg (r:=⟨54,2,.slice eA eN eC,code.length,code.flatMap zi⟩) HOU.out fun j hj=>Below.heap_setCell _ _ _ _ (hne1 j hj))
    obtain⟨w3,hw3⟩:∃ V,V=(w2.setCell ⟨wr.heap.size,4,none⟩ (.slice eA eN eC)):=⟨_,rfl⟩
    rw[← hw3] at hBs bXs HOS
    rw[← hw3]
    clear hw3 HOU am1 HGR HOW HSC y4 z4 x4 f4 bX2 bX1 hB1 anp hne1 hbase HRK
    have hs3:wr.heap.size≤w3.heap.size:=hBs.size
    have anq:Below wr.heap.size wr (w3.alloc (.cells #[.string name,.int .i64 pa,.int .i64 lc,.bool rs,.slice eA eN eC] 36)):=hBs.alloc hs3 _
    have HOC:Hid ((w3.alloc (.cells #[.string name,.int .i64 pa,.int .i64 lc,.bool rs,.slice eA eN eC] 36)).ownsRow lo2 36 5 (.slice dA k dC) k (jf (cs'.take k) vs)):=Lib.hid (by have q:=(HGM.out.step anq).pq;rw[← HDN.out] at q;exact q)
    have HSK:Hid (uw (w3.alloc (.cells #[.string name,.int .i64 pa,.int .i64 lc,.bool rs,.slice eA eN eC] 36)) (.slice (some ⟨w3.heap.size,0,none⟩) 1 1) 5 1 [.string name,.int .i64 pa,.int .i64 lc,.bool rs,.slice eA eN eC]):=Lib.hid (.inr ⟨_,1,rfl,rfl,World.news_of_block (heap_alloc_new w3 _)⟩)
    have HVB:Hid (∀ j,Value.ownBlock (.slice dA k dC)=some j→lo2≤j∧j < wr.heap.size):=Lib.hid fun j hj=>HGM.out.pq.lt j hj
    have z0:w3.cell? ⟨wr.heap.size,0,none⟩=some (.string name):=bXs.cell 0
    have z1:w3.cell? ⟨wr.heap.size,1,none⟩=some (.int .i64 pa):=bXs.cell 1
    have z2:w3.cell? ⟨wr.heap.size,2,none⟩=some (.int .i64 lc):=bXs.cell 2
    have z3:w3.cell? ⟨wr.heap.size,3,none⟩=some (.bool rs):=bXs.cell 3
    have z4:w3.cell? ⟨wr.heap.size,4,none⟩=some (.slice eA eN eC):=bXs.cell 4
    have y2:w3.cell? ⟨b3,2,none⟩=some (.slice dA k dC):=(b3r.below hBs (by omega)).cell 2
    have y3:(w3.alloc (.cells #[.string name,.int .i64 pa,.int .i64 lc,.bool rs,.slice eA eN eC] 36)).cell? ⟨b3,2,none⟩=some (.slice dA k dC):=(b3r.below anq (by omega)).cell 2
    have hl3:lo2≤(w3.alloc (.cells #[.string name,.int .i64 pa,.int .i64 lc,.bool rs,.slice eA eN eC] 36)).heap.size:=Nat.le_trans hlr anq.size
    go_wp2_with (at_builtin;refine aae rfl _ _ 23 rfl lo2 36 i1 (.agg #[.string {data:=#[]},.int .i64 0,.int .i64 0,.bool false,.slice none 0 0]) 5 64 Tryz.underlying23 hi1 hy0 hy1 hy2 rfl (by decide) _ _ _ rfl HOC.out _ _ _ rfl HSK.out (abo _ _ _ _ _ _ _) (by simp only[maxLen];omega) (by omega) hl3 ?_;intro v2 w4 hown' hgrow ig;obtain⟨mA,mN,mC,rfl,-⟩:=(Own.lu hown').form;have HBF:Hid (Below lo2 wr w4):=Lib.hid ((anq.mono hlr).grown hgrow hl3 (fun j hj=>(HVB.out j hj).1));have b34:=b3r.below HBF.out ay2;have x2:w4.cell? ⟨b3,2,none⟩=some (.slice dA k dC):=b34.cell 2;have f2:=b34.frozen 2;have HG4:Hid (GM lo2 w4 ⟨p,[],cs'.take k ++[⟨name,pa,lc,rs,code⟩]⟩ (.slice none 0 0) (.slice mA mN mC) (vs ++[.slice eA eN eC])):=Lib.hid (GM.addCore HGM.out hlr anq (HOS.out.alloc _) (by rw[← HDN.out];exact hown') hgrow ig);clear hgrow ig hown')
    have hB5:Below w.heap.size w (w4.setCell ⟨b3,2,none⟩ (.slice mA mN mC)):=(hBr.trans (HBF.out.mono (by omega))).setCell (by simp only;omega) _
    have hI5:(w4.setCell ⟨b3,2,none⟩ (.slice mA mN mC)).ownsRow lo 52 3 (.slice jA jN jC) iK (is.flatMap zk):=adg (r:=⟨52,3,.slice jA jN jC,iK,is.flatMap zk⟩) HIR.out fun j hj=>(Below.heap_setCell _ _ _ _ (HNE.out j hj)).trans (HBF.out.block j (HJL.out j hj).2)
    have hs5:lo2≤(w4.setCell ⟨b3,2,none⟩ (.slice mA mN mC)).heap.size:=by have:=HBF.out.size;simp[World.setCell];omega
    have bR5:Blk (w4.setCell ⟨b3,2,none⟩ (.slice mA mN mC)) (w.heap.size+1) 25 #[.int .i64 0,.slice none 0 0,.slice none 0 0]:=(bRr.below HBF.out (by omega)).far (by simp only;omega) _
    have bA5:=(bAr.below HBF.out (by omega)).far (p:=⟨b3,2,none⟩) (by simp only;omega) (.slice mA mN mC)
    have b35:Blk (w4.setCell ⟨b3,2,none⟩ (.slice mA mN mC)) (b3) 25 #[.int .i64 p,.slice jA jN jC,.slice mA mN mC]:=by
     have:=b34.dh 2 (.slice mA mN mC)
     simpa using this
    go_roundw
    case rel=>exact⟨k+1,_,_,by omega,by go_num,Lib.hid (by rw[HGX.out];exact HG4.out.far (p:=⟨b3,2,none⟩) ay2 _),Lib.hid hB5,Lib.hid hI5,hs5,Lib.hid bR5,Lib.hid bA5,Lib.hid b35⟩
    case measure=>simp[intOf];omega
   case neg=>
    have hk:k=cN:=by omega
    have HT:Hid (cs'.take k=cs'):=by show _=_;rw[hk,HCN.out,List.take_length]
    rw[HT.out] at HGM
    clear hk
    have hq:=ay1 HGM.out (by rw[← HIK.out];exact HIR.out) HJL.out hlr (by omega)
    have z0:wr.cell? ⟨b3,0,none⟩=some (.int .i64 p):=b3r.cell 0
    have z1:wr.cell? ⟨b3,1,none⟩=some (.slice jA jN jC):=b3r.cell 1
    have z2:wr.cell? ⟨b3,2,none⟩=some (.slice dA k dC):=b3r.cell 2
    have y0:wr.cell? ⟨w.heap.size+1,0,none⟩=some (.int .i64 0):=bRr.cell 0
    have f0:=bRr.frozen 0
    have y1:wr.cell? ⟨w.heap.size+1,1,none⟩=some (.slice none 0 0):=bRr.cell 1
    have f1:=bRr.frozen 1
    have y2:wr.cell? ⟨w.heap.size+1,2,none⟩=some (.slice none 0 0):=bRr.cell 2
    have f2:=bRr.frozen 2
    clear HGM HT HIR
    have n0:¬ (k:Int) < (cN:Int):=by omega
    go_wp2_with fail
    have bN:Blk (((wr.setCell ⟨w.heap.size+1,0,none⟩ (.int .i64 p)).setCell ⟨w.heap.size+1,1,none⟩ (.slice jA jN jC)).setCell ⟨w.heap.size+1,2,none⟩ (.slice dA k dC)) (w.heap.size+1) 25 #[.int .i64 p,.slice jA jN jC,.slice dA k dC]:=by
     have:=(((bRr.dh 0 (.int .i64 p)).dh 1 (.slice jA jN jC)).dh 2 (.slice dA k dC))
     simpa using this
    have m0:=bN.cell 0
    have m1:=bN.cell 1
    have m2:=bN.cell 2
    have k1:Below w.heap.size w (((wr.setCell ⟨w.heap.size+1,0,none⟩ (.int .i64 p)).setCell ⟨w.heap.size+1,1,none⟩ (.slice jA jN jC)).setCell ⟨w.heap.size+1,2,none⟩ (.slice dA k dC)):=by
     iterate 3 (refine Below.setCell ?_ (by simp) _)
     exact hBr
    have k2:LvC (((wr.setCell ⟨w.heap.size+1,0,none⟩ (.int .i64 p)).setCell ⟨w.heap.size+1,1,none⟩ (.slice jA jN jC)).setCell ⟨w.heap.size+1,2,none⟩ (.slice dA k dC)) w.heap.size ((((wr.setCell ⟨w.heap.size+1,0,none⟩ (.int .i64 p)).setCell ⟨w.heap.size+1,1,none⟩ (.slice jA jN jC)).setCell ⟨w.heap.size+1,2,none⟩ (.slice dA k dC))).heap.size (Mod.pd ⟨p,is,cs'⟩) [.int .i64 p,.slice jA jN jC,.slice dA k dC]:=by
     rw[show((((wr.setCell ⟨w.heap.size+1,0,none⟩ (.int .i64 p)).setCell ⟨w.heap.size+1,1,none⟩ (.slice jA jN jC)).setCell ⟨w.heap.size+1,2,none⟩ (.slice dA k dC))).heap.size=wr.heap.size by simp[World.setCell]]
     exact(((hq.setCell (p:=⟨w.heap.size+1,0,none⟩) (.inl hlo1) (.int .i64 p)).setCell (p:=⟨w.heap.size+1,1,none⟩) (.inl hlo1) (.slice jA jN jC)).setCell (p:=⟨w.heap.size+1,2,none⟩) (.inl hlo1) (.slice dA k dC)).low (by omega)
    refine bodyPost_ret (v:=.agg #[.int .i64 p,.slice jA jN jC,.slice dA k dC]) (by simp[results,Tryz.results13,go_sem,m0,m1,m2]) rfl ⟨_,rfl,k2,k1⟩
end Go.Proofs.YtlpcocfadppkhaaGreatDoor
