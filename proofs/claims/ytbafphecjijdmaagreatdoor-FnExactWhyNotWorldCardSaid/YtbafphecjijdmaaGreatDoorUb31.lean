/-
  Types are copied (the reference: l03Own; by program: gen_owns.py).
-/
import Derived.Test.YtbafphecjijdmaaGreatDoorUb30
import Derived.Test.YtbafphecjijdmaaGreatDoorUb07
import Derived.Test.YtbafphecjijdmaaGreatDoorUb15
import Derived.Deep.RegionHeld3
import Derived.Deep.AppendLies
import Derived.Deep.Cut
import Derived.Deep.CutRange
import Derived.Deep.RegionLaw
namespace Go.Proofs.YtbafphecjijdmaaGreatDoor
open Go.RowKit
set_option linter.all false
set_option maxRecDepth 16000
theorem ownsRow_lit (w:World) {lo:Nat} {e:TypeId} (cur:Array Value) (h:lo≤w.heap.size) (hm:cur.size≤maxLen):(w.alloc (.cells cur e)).ownsRow lo e 1 (.slice (some ⟨w.heap.size,0,none⟩) cur.size cur.size) cur.size cur.toList:=
 ⟨by simp,.inr ⟨w.heap.size,cur.size,cur,rfl,h,heap_alloc_new w _,zql _,hm,by simp,by rw[Nat.mul_one];exact List.take_of_length_le (by simp)⟩⟩
theorem apq (w:World) {lo g k:Nat} {e:TypeId} {xs:List Value} (cur:Array Value) (h:lo≤w.heap.size) (hm:k≤maxLen) (hg:w.heap.size=g) (hk:cur.size=k) (hx:cur.toList=xs):
  (w.alloc (.cells cur e)).ownsRow lo e 1 (.slice (some ⟨g,0,none⟩) k k) k xs:=by
 subst hg hk hx
 exact ownsRow_lit w cur h hm
theorem ayu (k:Int) (s:ByteArray) (A A':Option Addr) (n n' c c':Nat):∀ u ∈ [Value.int .i64 k,Value.string s,Value.slice A n c,Value.slice A' n' c'],u.oneCell'=true:=by
 intro u hu
 simp only[List.mem_cons,List.not_mem_nil,or_false] at hu
 rcases hu with rfl|rfl|rfl|rfl<;>rfl
theorem aqr {w:World} {base sz n:Nat} {e:TypeId} {v:Value} {xs:List Value} (h:w.ownsRow base e sz v n xs) {p:Addr} (hne:v.ownBlock≠some p.block) (u:Value):(w.setCell p u).ownsRow base e sz v n xs:=by
 obtain⟨h1,h2⟩:=h
 refine⟨h1,?_⟩
 rcases h2 with h2|⟨g,cap,cur,rfl,hbb,hh,hr⟩
 ·exact .inl h2
 ·exact .inr ⟨g,cap,cur,rfl,hbb,(Below.heap_setCell w p u g (fun e=>hne (by rw[← e];rfl))).trans hh,hr⟩
theorem avr {w w':World} {base sz n:Nat} {e:TypeId} {v:Value} {xs:List Value} {row:Option Nat} (h:w.ownsRow base e sz v n xs) (hg:w.grownBy w' row) (hne:∀ g,v.ownBlock=some g→row≠some g):w'.ownsRow base e sz v n xs:=by
 obtain⟨h1,h2⟩:=h
 refine⟨h1,?_⟩
 rcases h2 with h2|⟨g,cap,cur,rfl,hbb,hh,hr⟩
 ·exact .inl h2
 ·exact .inr ⟨g,cap,cur,rfl,hbb,by rw[hg.block g (Array.getElem?_eq_some_iff.1 hh).1 (fun e=>hne g rfl e.symm)];exact hh,hr⟩
theorem bec {w:World} {base n hi:Nat} {e:TypeId} {v:Value} {xs:List ByteArray} (h:w.ownsRow base e 1 v n (strs xs)) (hv:∀ g,v.ownBlock=some g→g < hi) (hh:hi≤w.heap.size):Lv w base hi (.row 1 (xs.flatMap qj)) v:=by
 obtain⟨A,n',c,rfl,hl,hnc,hcm,hg⟩:=Own.aj7 h
 have hlen:(xs.flatMap qj).length=n' * 1:=by
  rw[← hl,afw aaz]
  simp[strs]
 by_cases h0:0 < n'
 ·obtain⟨g,off,rfl,h1,h2,ho⟩:=hg h0
  exact⟨[g],by rw[Hold];exact⟨_,n',c,rfl,hlen,hnc,hcm,.inr ⟨h0,g,off,[],_,rfl,rfl,ho,a0u w xs⟩⟩,⟨by simp,fun b hb=>by rw[List.mem_singleton.1 hb];exact⟨h1,hv g rfl⟩⟩,hh⟩
 ·exact⟨[],by rw[Hold];exact⟨_,n',c,rfl,hlen,hnc,hcm,.inl ⟨by omega,rfl⟩⟩,In.nil _ _,hh⟩
set_option maxHeartbeats 12800000 in
theorem bj2 {kind:Int} {name:ByteArray} {labels:List ByteArray} {kids:List Ty} (ih:∀ t ∈ kids,ToC 125 (Ty.pd t)):ToC 125 (Ty.pd ⟨kind,name,labels,kids⟩):=by
 intro B cs w hB hsz h
 obtain⟨iw,qw,rfl,bf,gu⟩:=Ty.open_ h
 have pz:=zqd bf
 clear bf
 have qo:=zqd gu
 clear gu
 obtain⟨jo,ig,ji,rfl⟩:=pz.out.form
 obtain⟨A,n,c,rfl,hnl,hm,hat⟩:=ni Ty.jd (by decide) qo.out
 unfold maxLen at hm
 obtain⟨s0,hs,hsz0,hsz1,hsz2⟩:=info_parts amu
 obtain⟨i0,hi,hz0,hz1,hz2⟩:=info_parts au5
 simp only[Ty.aj,PD.szL] at hsz
 rw[ahw aaz (by decide),ahw Ty.jd (by decide)] at hsz
 have hll:labels.length≤1048576:=by omega
 have hnn:n≤1048576:=by omega
 have HN:=zqd hnl
 have HS:=zqd hsz
 have HI:=zqd ih
 have HAT:=zqd hat
 clear ih h hnl hsz hat
 go_enter Tryz.func125,Tryz.ntmps125
 go_wp2_with fail
 obtain⟨w0,hw0⟩:∃ w0,w0=(w.alloc (.cells #[.int .i64 kind,.string name,.slice jo ig ji,.slice A n c] 60)).alloc (.cells #[.int .i64 0,.string {data:=#[]},.slice none 0 0,.slice none 0 0] 60):=⟨_,rfl⟩
 rw[← hw0]
 have bP:Blk w0 w.heap.size 60 #[.int .i64 kind,.string name,.slice jo ig ji,.slice A n c]:=by rw[hw0];exact(Blk.new w _ _).alloc _
 have bR:Blk w0 (w.heap.size+1) 60 #[.int .i64 0,.string {data:=#[]},.slice none 0 0,.slice none 0 0]:=by rw[hw0];have:=Blk.new (w.alloc (.cells #[.int .i64 kind,.string name,.slice jo ig ji,.slice A n c] 60)) 60 #[.int .i64 0,.string {data:=#[]},.slice none 0 0,.slice none 0 0];simpa using this
 have hB0:Below w.heap.size w w0:=by rw[hw0];exact((zqf _ _).alloc (zql _) _).alloc (by simp) _
 have hs0:w0.heap.size=w.heap.size+2:=by rw[hw0];simp
 clear hw0
 have amh:Hid (∀ W,Below w0.heap.size w0 W→ate W (.slice jo ig ji) 1 labels.length (strs labels)):=fun W hW=>bco (pz.out.below ((hB0.trans (hW.mono hB0.size)).mono hB))
 go_cut [3] from 5 to 13 (fun v wx=>∃ (b:Nat) (lA:Option Addr) (lN lC:Nat),v=.pointer (some ⟨b,0,none⟩)∧w0.heap.size≤b∧b < wx.heap.size∧Blk wx b 60 #[.int .i64 kind,.string name,.slice lA lN lC,.slice none 0 0]∧wx.ownsRow w0.heap.size 9 1 (.slice lA lN lC) labels.length (strs labels)∧Hid ((Value.slice lA lN lC).ownBlock≠some b)∧Below w0.heap.size w0 wx)
 case first=>
  have hlP:=bP.lt
  have hb0:Below w0.heap.size w0 w0.drew:=(zqf _ _).drew
  have hbS:Below w0.heap.size w0 (w0.alloc (.cells #[] 9)).drew:=((zqf _ _).alloc (zql _) _).drew
  have hoS:(w0.alloc (.cells #[] 9)).drew.ownsRow w0.heap.size 9 1 (.slice (some ⟨w.heap.size+2,0,none⟩) 0 0) 0 []:=(apq w0 #[] (zql _) (by decide) hs0 rfl rfl).drew
  have a8r:Below w0.heap.size w0 ((w0.alloc (.cells #[.int .i64 0,.string {data:=#[]},.slice none 0 0,.slice none 0 0] 60)).alloc (.cells #[] 9)).drew:=(((zqf _ _).alloc (zql _) _).alloc (by simp) _).drew
  have a8s:Below w0.heap.size w0 ((w0.alloc (.cells #[] 9)).alloc (.cells #[.int .i64 0,.string {data:=#[]},.slice none 0 0,.slice none 0 0] 60)).drew:=(((zqf _ _).alloc (zql _) _).alloc (by simp) _).drew
  have hbZ:Below w0.heap.size w0 (w0.alloc (.cells #[.int .i64 0,.string {data:=#[]},.slice none 0 0,.slice none 0 0] 60)).drew:=((zqf _ _).alloc (zql _) _).drew
  have brq:((w0.alloc (.cells #[] 9)).alloc (.cells #[.int .i64 0,.string {data:=#[]},.slice none 0 0,.slice none 0 0] 60)).drew.ownsRow w0.heap.size 9 1 (.slice (some ⟨w.heap.size+2,0,none⟩) 0 0) 0 []:=((apq w0 #[] (zql _) (by decide) hs0 rfl rfl).alloc _).drew
  have bj3:((w0.alloc (.cells #[.int .i64 0,.string {data:=#[]},.slice none 0 0,.slice none 0 0] 60)).alloc (.cells #[] 9)).drew.ownsRow w0.heap.size 9 1 (.slice (some ⟨w.heap.size+3,0,none⟩) 0 0) 0 []:=(apq (w0.alloc (.cells #[.int .i64 0,.string {data:=#[]},.slice none 0 0,.slice none 0 0] 60)) #[] (by simp) (by decide) (by simp[hs0]) rfl rfl).drew
  have xA:Blk ((w0.alloc (.cells #[.int .i64 0,.string {data:=#[]},.slice none 0 0,.slice none 0 0] 60)).alloc (.cells #[] 9)).drew (w.heap.size+2) 60 #[.int .i64 0,.string {data:=#[]},.slice none 0 0,.slice none 0 0]:=by rw[← hs0];exact(Blk.new w0 _ _).alloc _
  have xB:Blk ((w0.alloc (.cells #[] 9)).alloc (.cells #[.int .i64 0,.string {data:=#[]},.slice none 0 0,.slice none 0 0] 60)).drew (w.heap.size+3) 60 #[.int .i64 0,.string {data:=#[]},.slice none 0 0,.slice none 0 0]:=by have:=(Blk.new (w0.alloc (.cells #[] 9)) 60 #[.int .i64 0,.string {data:=#[]},.slice none 0 0,.slice none 0 0]).drew;simpa [hs0] using this
  have bP0:=bP.below hb0 hlP
  have bPS:=bP.below hbS hlP
  have bPZ:=bP.below hbZ hlP
  have bj4:=bP.below a8r hlP
  have bj5:=bP.below a8s hlP
  have h23:w.heap.size+2≠w.heap.size+3:=by omega
  have h32:w.heap.size+3≠w.heap.size+2:=by omega
  have bvw:w.heap.size+2≠((w0.alloc (.cells #[.int .i64 0,.string {data:=#[]},.slice none 0 0,.slice none 0 0] 60)).alloc (.cells #[] 9)).drew.heap.size:=by have:=xA.lt;have:=(World.ownsRow.lt bj3) _ rfl;omega
  have bvx:w.heap.size+3≠((w0.alloc (.cells #[] 9)).alloc (.cells #[.int .i64 0,.string {data:=#[]},.slice none 0 0,.slice none 0 0] 60)).drew.heap.size:=by have:=xB.lt;omega
  refine wp_region_held_drew (S:=(fun w'=>w'.cell? ⟨w.heap.size,0,none⟩=some (.int .i64 kind)∧w'.cell? ⟨w.heap.size,1,none⟩=some (.string name)∧w'.cell? ⟨w.heap.size,2,none⟩=some (.slice jo ig ji))) (by kernel_rfl) ⟨bP0.cell 0,bP0.cell 1,bP0.cell 2⟩ (fun hHeld=>?_)
  refine zqt 0 ?_
  try simp only[Act.put,zs1,zs2,zs3]
  refine zqt 1 ?_
  try simp only[Act.put,zs1,zs2,zs3]
  refine zqt 2 ?_
  try simp only[Act.put,zs1,zs2,zs3]
  refine zqt 3 ?_
  try simp only[Act.put,zs1,zs2,zs3]
  refine zqt 5 ?_
  try simp only[Act.put,zs1,zs2,zs3]
  refine zqt 6 ?_
  try simp only[Act.put,zs1,zs2,zs3]
  refine zqs [4,9] ?_
  refine AllReadyH.cons (o:=?b3e) ?bvy (fun K hK=>?bvz) (AllReadyH.cons (o:=?b3f) ?bv0 (fun K hK=>?bv1) AllReadyH.nil)
  case bvy=>
   simp only[zg1,zg2,zg3];rfl
  case bv0=>
   simp only[zg1,zg2,zg3];rfl
  case bvz=>
   go_simp
   refine hK.out _ _ (by first|exact⟨bPS.cell 0,bPS.cell 1,bPS.cell 2⟩|go_keep) (fun hHeld=>?_)
   clear hK K
   try simp only[Act.put,zs1,zs2,zs3]
   refine zqs [7,9] ?_
   refine AllReadyH.cons (o:=?b3g) ?bv2 (fun K hK=>?bv3) (AllReadyH.cons (o:=?b3h) ?bv4 (fun K hK=>?bv5) AllReadyH.nil)
   case bv2=>
    simp only[zg1,zg2,zg3];rfl
   case bv4=>
    simp only[zg1,zg2,zg3];rfl
   case bv3=>
    refine aga (by rfl) _ _ 22 (by rfl) w0.heap.size 9 s0 (.string {data:=#[]}) 1 16 Tryz.underlying22 hs hsz0 hsz1 hsz2 rfl (by omega) (.slice (some ⟨w.heap.size+2,0,none⟩) 0 0) 0 [] (by rfl) hoS (.slice jo ig ji) labels.length (strs labels) (by rfl) (amh.out _ hbS) (amz _) (by simp only[maxLen];omega) (by omega) hbS.size ?_
    intro v' w3 hown' hgrow ahe
    obtain⟨lA,lN,lC,rfl,hl1,_⟩:=(Own.aj7 hown').form
    rw[Nat.zero_add,List.nil_append] at hown'
    have hb3:Below w0.heap.size w0 w3:=hbS.grown hgrow hbS.size (fun g hg=>(hoS.lt g hg).1)
    have bPd:=bP.below hb3 hlP
    refine hK.out _ _ (by first|exact⟨bPd.cell 0,bPd.cell 1,bPd.cell 2⟩|go_keep) (fun hHeld=>?_)
    clear hK K
    try simp only[Act.put,zs1,zs2,zs3]
    refine zqt 8 ?_
    try simp only[Act.put,zs1,zs2,zs3]
    refine zqr 9 fun K hK=>?_
    go_simp
    refine hK.out _ _ (by first|exact⟨(bPd.alloc _).cell 0,(bPd.alloc _).cell 1,(bPd.alloc _).cell 2⟩|go_keep) (fun hHeld=>?_)
    clear hK K
    try simp only[Act.put,zs1,zs2,zs3]
    refine zqr 10 fun K hK=>?_
    go_simp
    refine hK.out _ _ (by first|exact⟨(bPd.alloc _).cell 0,(bPd.alloc _).cell 1,(bPd.alloc _).cell 2⟩|go_keep) (fun hHeld=>?_)
    clear hK K
    try simp only[Act.put,zs1,zs2,zs3]
    refine wpAnyH_done (by kernel_rfl) ?_ _
    go_wp2_with fail
    go_meet
    exact⟨w3.heap.size,lA,lN,lC,rfl,hb3.size,by simp,Blk.new w3 _ _,hown'.alloc _,zqd (fun e=>by have:=(hown'.lt _ e).2;omega),hb3.alloc hb3.size _⟩
   case bv5=>
    go_simp
    refine hK.out _ _ (by first|exact⟨bj5.cell 0,bj5.cell 1,bj5.cell 2⟩|go_keep) (fun hHeld=>?_)
    clear hK K
    try simp only[Act.put,zs1,zs2,zs3]
    refine zqr 7 fun K hK=>?_
    refine aga (by rfl) _ _ 22 (by rfl) w0.heap.size 9 s0 (.string {data:=#[]}) 1 16 Tryz.underlying22 hs hsz0 hsz1 hsz2 rfl (by omega) (.slice (some ⟨w.heap.size+2,0,none⟩) 0 0) 0 [] (by rfl) brq (.slice jo ig ji) labels.length (strs labels) (by rfl) (amh.out _ a8s) (amz _) (by simp only[maxLen];omega) (by omega) a8s.size ?_
    intro v' w3 hown' hgrow ahe
    obtain⟨lA,lN,lC,rfl,hl1,_⟩:=(Own.aj7 hown').form
    rw[Nat.zero_add,List.nil_append] at hown'
    have hb3:Below w0.heap.size w0 w3:=a8s.grown hgrow a8s.size (fun g hg=>(brq.lt g hg).1)
    have bPd:=bP.below hb3 hlP
    have oA:Blk w3 (w.heap.size+3) 60 #[.int .i64 0,.string {data:=#[]},.slice none 0 0,.slice none 0 0]:=(hgrow.block (w.heap.size+3) xB.lt (fun e=>h32 (Option.some.inj e))).trans xB
    have neA:(Value.slice lA lN lC).ownBlock≠some (w.heap.size+3):=fun e=>ahe.elim (fun h=>h32 (Option.some.inj (e.symm.trans h))) (fun h=>bvx (Option.some.inj (e.symm.trans h)))
    have fA0:=oA.frozen 0
    have fA1:=oA.frozen 1
    have fA2:=oA.frozen 2
    have fA3:=oA.frozen 3
    obtain⟨cA0,cA1,cA2,cA3⟩:=zc4 oA
    refine hK.out _ _ (by first|exact⟨bPd.cell 0,bPd.cell 1,bPd.cell 2⟩|go_keep) (fun hHeld=>?_)
    clear hK K
    try simp only[Act.put,zs1,zs2,zs3]
    refine zqt 8 ?_
    try simp only[Act.put,zs1,zs2,zs3]
    refine zqr 10 fun K hK=>?_
    go_simp
    refine hK.out _ _ (by first|exact⟨((((bPd.far (by first|(simp;done)|(simp;omega)) _).far (by first|(simp;done)|(simp;omega)) _).far (by first|(simp;done)|(simp;omega)) _).far (by first|(simp;done)|(simp;omega)) _).cell 0,((((bPd.far (by first|(simp;done)|(simp;omega)) _).far (by first|(simp;done)|(simp;omega)) _).far (by first|(simp;done)|(simp;omega)) _).far (by first|(simp;done)|(simp;omega)) _).cell 1,((((bPd.far (by first|(simp;done)|(simp;omega)) _).far (by first|(simp;done)|(simp;omega)) _).far (by first|(simp;done)|(simp;omega)) _).far (by first|(simp;done)|(simp;omega)) _).cell 2⟩|go_keep) (fun hHeld=>?_)
    clear hK K
    try simp only[Act.put,zs1,zs2,zs3]
    refine wpAnyH_done (by kernel_rfl) ?_ _
    go_wp2_with fail
    go_meet
    refine⟨w.heap.size+3,lA,lN,lC,rfl,by omega,by have:=oA.lt;first|omega|(simp[World.setCell];omega)|simpa [World.setCell] using this,?_,?_,zqd neA,?_⟩
    ·have:=(((oA.aam 0 (.int .i64 kind)).aam 1 (.string name)).aam 2 (.slice lA lN lC)).aam 3 (.slice none 0 0)
     simpa using this
    ·iterate 4 (refine aqr ?_ neA _)
     exact hown'
    ·iterate 4 (refine Below.setCell ?_ (by simp;omega) _)
     exact hb3
  case bv1=>
   go_simp
   refine hK.out _ _ (by first|exact⟨bPZ.cell 0,bPZ.cell 1,bPZ.cell 2⟩|go_keep) (fun hHeld=>?_)
   clear hK K
   try simp only[Act.put,zs1,zs2,zs3]
   refine zqr 4 fun K hK=>?_
   go_simp
   refine hK.out _ _ (by first|exact⟨bj4.cell 0,bj4.cell 1,bj4.cell 2⟩|go_keep) (fun hHeld=>?_)
   clear hK K
   try simp only[Act.put,zs1,zs2,zs3]
   refine zqr 7 fun K hK=>?_
   refine aga (by rfl) _ _ 22 (by rfl) w0.heap.size 9 s0 (.string {data:=#[]}) 1 16 Tryz.underlying22 hs hsz0 hsz1 hsz2 rfl (by omega) (.slice (some ⟨w.heap.size+3,0,none⟩) 0 0) 0 [] (by rfl) bj3 (.slice jo ig ji) labels.length (strs labels) (by rfl) (amh.out _ a8r) (amz _) (by simp only[maxLen];omega) (by omega) a8r.size ?_
   intro v' w3 hown' hgrow ahe
   obtain⟨lA,lN,lC,rfl,hl1,_⟩:=(Own.aj7 hown').form
   rw[Nat.zero_add,List.nil_append] at hown'
   have hb3:Below w0.heap.size w0 w3:=a8r.grown hgrow a8r.size (fun g hg=>(bj3.lt g hg).1)
   have bPd:=bP.below hb3 hlP
   have oA:Blk w3 (w.heap.size+2) 60 #[.int .i64 0,.string {data:=#[]},.slice none 0 0,.slice none 0 0]:=(hgrow.block (w.heap.size+2) xA.lt (fun e=>h23 (Option.some.inj e))).trans xA
   have neA:(Value.slice lA lN lC).ownBlock≠some (w.heap.size+2):=fun e=>ahe.elim (fun h=>h23 (Option.some.inj (e.symm.trans h))) (fun h=>bvw (Option.some.inj (e.symm.trans h)))
   have fA0:=oA.frozen 0
   have fA1:=oA.frozen 1
   have fA2:=oA.frozen 2
   have fA3:=oA.frozen 3
   obtain⟨cA0,cA1,cA2,cA3⟩:=zc4 oA
   refine hK.out _ _ (by first|exact⟨bPd.cell 0,bPd.cell 1,bPd.cell 2⟩|go_keep) (fun hHeld=>?_)
   clear hK K
   try simp only[Act.put,zs1,zs2,zs3]
   refine zqt 8 ?_
   try simp only[Act.put,zs1,zs2,zs3]
   refine zqr 10 fun K hK=>?_
   go_simp
   refine hK.out _ _ (by first|exact⟨((((bPd.far (by first|(simp;done)|(simp;omega)) _).far (by first|(simp;done)|(simp;omega)) _).far (by first|(simp;done)|(simp;omega)) _).far (by first|(simp;done)|(simp;omega)) _).cell 0,((((bPd.far (by first|(simp;done)|(simp;omega)) _).far (by first|(simp;done)|(simp;omega)) _).far (by first|(simp;done)|(simp;omega)) _).far (by first|(simp;done)|(simp;omega)) _).cell 1,((((bPd.far (by first|(simp;done)|(simp;omega)) _).far (by first|(simp;done)|(simp;omega)) _).far (by first|(simp;done)|(simp;omega)) _).far (by first|(simp;done)|(simp;omega)) _).cell 2⟩|go_keep) (fun hHeld=>?_)
   clear hK K
   try simp only[Act.put,zs1,zs2,zs3]
   refine wpAnyH_done (by kernel_rfl) ?_ _
   go_wp2_with fail
   go_meet
   refine⟨w.heap.size+2,lA,lN,lC,rfl,by omega,by have:=oA.lt;first|omega|(simp[World.setCell];omega)|simpa [World.setCell] using this,?_,?_,zqd neA,?_⟩
   ·have:=(((oA.aam 0 (.int .i64 kind)).aam 1 (.string name)).aam 2 (.slice lA lN lC)).aam 3 (.slice none 0 0)
    simpa using this
   ·iterate 4 (refine aqr ?_ neA _)
    exact hown'
   ·iterate 4 (refine Below.setCell ?_ (by simp;omega) _)
    exact hb3
 case rest=>
  obtain⟨b,lA,lN,lC,rfl,hb1,hb2,bO,hL,HNE,hBx⟩:=hcut
  have hlP:=bP.lt
  have hlR:=bR.lt
  have bP1:=bP.below hBx hlP
  have bR1:=bR.below hBx hlR
  have hBc:=hB0.trans (hBx.mono hB0.size)
  have HLT:Hid (∀ g,(Value.slice lA lN lC).ownBlock=some g→w0.heap.size≤g∧g < wc.heap.size):=fun g hg=>hL.lt g hg
  have hwc:=hBx.size
  clear bP bR amh hs hsz0 hsz1 hsz2 hBx
  go_wp2_with fail
  go_loopw [4] (fun i wr=>∃ (k:Nat) (u:Value) (cs:List Value) (F:List Nat),k≤n∧i=.int .i64 k∧Grow w wr wc.heap.size 60 4 k u ((kids.take k).flatMap Ty.pd) cs F∧Blk wr b 60 #[.int .i64 kind,.string name,.slice lA lN lC,u]∧Blk wr w.heap.size 60 #[.int .i64 kind,.string name,.slice jo ig ji,.slice A n c]∧Blk wr (w.heap.size+1) 60 #[.int .i64 0,.string {data:=#[]},.slice none 0 0,.slice none 0 0]∧wr.ownsRow w0.heap.size 9 1 (.slice lA lN lC) labels.length (strs labels)) (fun i _=>n - (intOf i).toNat)
  case atStart=>exact⟨0,.slice none 0 0,[],[],Nat.zero_le _,rfl,Grow.none_ hBc,bO,bP1,bR1,hL⟩
  case round=>
   clear bO bP1 bR1 hL
   obtain⟨k,u,cs,F,hk,rfl,hG,bO,bP,bR,hL⟩:=hrel
   obtain⟨uA,uN,uC,rfl,_⟩:=(Own.aj7 hG.1).form
   have hbr:=hG.2.2.2.2.1
   have hlo:=hG.2.2.2.2.2.2
   have hsz:=hbr.size
   by_cases hlt:k < n
   ·have hat:=HAT.out
    obtain⟨g,off,rfl,hg2,hcell2⟩:=hat (by omega)
    obtain⟨t2,hx2,ab1⟩:=um HN.out hlt
    obtain⟨kind2,name2,zu,abv⟩:=t2
    have aiw:wr.cell? ⟨g,off+k * 4,none⟩=some (.int .i64 kind2):=bg hbr (by omega) (hcell2 k 0 _ _ hx2 (by rw[Ty.aj];rfl))
    have ad5:wr.cell? ⟨g,off+k * 4+1,none⟩=some (.string name2):=bg hbr (by omega) (hcell2 k 1 _ _ hx2 (by rw[Ty.aj];rfl))
    obtain⟨adg,ahq,ace⟩:∃ u,wr.cell? ⟨g,off+k * 4+2,none⟩=some u∧Rep wr B (.row 1 (zu.flatMap qj)) u:=jc hbr (by omega) hB (hcell2 k 2 _ _ hx2 (by rw[Ty.aj];rfl))
    have adi:=zqd ace
    clear ace
    obtain⟨aez,ajc,ad6⟩:∃ u,wr.cell? ⟨g,off+k * 4+3,none⟩=some u∧Rep wr B (.row 4 (abv.flatMap Ty.pd)) u:=jc hbr (by omega) hB (hcell2 k 3 _ _ hx2 (by rw[Ty.aj];rfl))
    have aew:=zqd ad6
    clear ad6
    obtain⟨ae0,ae1,ae2,rfl⟩:=adi.out.form
    obtain⟨agh,agi,agj,rfl⟩:=aew.out.form
    have HX2:=zqd hx2
    have HM2:=zqd ab1
    clear hx2 ab1
    clear hcell2
    have HL2:=zqd (ahf (f:=Ty.pd) HX2.out)
    clear hat HAT
    have hcall:=fun(W:World) (hW:Below wr.heap.size wr W)=>HI.out _ HM2.out B [.int .i64 kind2,.string name2,.slice ae0 ae1 ae2,.slice agh agi agj] W (Nat.le_trans hB (Nat.le_trans hbr.size hW.size)) (by have:=HS.out;have:=HL2.out;omega) (Ty.close_ (adi.out.below (hW.mono (Nat.le_trans hB hbr.size))) (aew.out.below (hW.mono (Nat.le_trans hB hbr.size))))
    have HC:=zqd hcall
    clear hcall
    have hgB:g < w.heap.size:=by omega
    have KC:Hid (∀ W:World,(∀ i,i < w.heap.size+2→W.heap[i]?=wr.heap[i]?)→W.cell? ⟨w.heap.size,3,none⟩=some (.slice (some ⟨g,off,none⟩) n c)∧W.cell? ⟨g,off+k * 4,none⟩=some (.int .i64 kind2)∧W.cell? ⟨g,off+k * 4+1,none⟩=some (.string name2)∧W.cell? ⟨g,off+k * 4+2,none⟩=some (.slice ae0 ae1 ae2)∧W.cell? ⟨g,off+k * 4+3,none⟩=some (.slice agh agi agj)):=fun W hW=>⟨(World.cell?_of_block (hW w.heap.size (by omega))).trans (bP.cell 3),(World.cell?_of_block (hW g (by omega))).trans aiw,(World.cell?_of_block (hW g (by omega))).trans ad5,(World.cell?_of_block (hW g (by omega))).trans ahq,(World.cell?_of_block (hW g (by omega))).trans ajc⟩
    have hbD:Below wr.heap.size wr wr.drew:=(zqf _ _).drew
    have eD:∀ i,i < w.heap.size+2→wr.drew.heap[i]?=wr.heap[i]?:=fun i hi=>rfl
    have o3:wr.drew.cell? ⟨b,3,none⟩=some (.slice uA uN uC):=bO.drew.cell 3
    have o3':wr.cell? ⟨b,3,none⟩=some (.slice uA uN uC):=bO.cell 3
    have p3:wr.cell? ⟨w.heap.size,3,none⟩=some (.slice (some ⟨g,off,none⟩) n c):=bP.cell 3
    have hk0:(0:Int)≤(k:Int):=by omega
    have hkn:(k:Int) < (n:Int):=by omega
    have HG:=zqd hG
    have HB4:=zqd bP
    have HB5:=zqd bR
    have HLL:=zqd hL
    clear hG bP bR hL aiw ad5 ahq ajc
    go_wp2_with fail
    refine wp_region_held_drew (S:=(fun w'=>w'.cell? ⟨w.heap.size,3,none⟩=some (.slice (some ⟨g,off,none⟩) n c)∧w'.cell? ⟨g,off+k * 4,none⟩=some (.int .i64 kind2)∧w'.cell? ⟨g,off+k * 4+1,none⟩=some (.string name2)∧w'.cell? ⟨g,off+k * 4+2,none⟩=some (.slice ae0 ae1 ae2)∧w'.cell? ⟨g,off+k * 4+3,none⟩=some (.slice agh agi agj))) (by kernel_rfl) (KC.out _ eD) (fun hHeld=>?_)
    refine zqt 0 ?_
    try simp only[Act.put,zs1,zs2,zs3]
    refine zqt 2 ?_
    try simp only[Act.put,zs1,zs2,zs3]
    refine zqt 3 ?_
    try simp only[Act.put,zs1,zs2,zs3]
    refine zqt 4 ?_
    try simp only[Act.put,zs1,zs2,zs3]
    refine zqt 5 ?_
    try simp only[Act.put,zs1,zs2,zs3]
    refine zqt 6 ?_
    try simp only[Act.put,zs1,zs2,zs3]
    refine zqs [1,7] ?_
    refine AllReadyH.cons (o:=?b2e) ?bta (fun K hK=>?btb) (AllReadyH.cons (o:=?b2f) ?btc (fun K hK=>?btd) AllReadyH.nil)
    case bta=>
     simp only[zg1,zg2,zg3];rfl
    case btc=>
     simp only[zg1,zg2,zg3];rfl
    case btb=>
     go_simp
     refine hK.out _ _ (by first|exact(KC.out _ eD)|go_keep) (fun hHeld=>?_)
     clear hK K
     try simp only[Act.put,zs1,zs2,zs3]
     refine zqr 7 fun K hK=>?_
     go_simp
     go_at_call 125
     refine(HC.out _ hbD).mono ?_
     rintro e wq ⟨us,rfl,hl,apr⟩
     obtain⟨lA2,lN2,lC2,kA2,kN2,kC2,rfl⟩:=Ty.afv hl
     obtain⟨F2,hh,hi2,_⟩:=hl
     have hi3:In F2 wr.heap.size wq.heap.size:=hi2
     have HH:=zqd hh
     have hbq:Below wr.heap.size wr wq:=hbD.trans apr
     have eQ:∀ i,i < w.heap.size+2→wq.heap[i]?=wr.heap[i]?:=fun i hi=>hbq.block i (by omega)
     have oQ:=bO.step hbq
     have o3q:wq.cell? ⟨b,3,none⟩=some (.slice uA uN uC):=oQ.cell 3
     have oA:=oQ.alloc (.cells #[.int .i64 kind2,.string name2,.slice lA2 lN2 lC2,.slice kA2 kN2 kC2] 60)
     have o3a:(wq.alloc (.cells #[.int .i64 kind2,.string name2,.slice lA2 lN2 lC2,.slice kA2 kN2 kC2] 60)).cell? ⟨b,3,none⟩=some (.slice uA uN uC):=oA.cell 3
     have eA:∀ i,i < w.heap.size+2→(wq.alloc (.cells #[.int .i64 kind2,.string name2,.slice lA2 lN2 lC2,.slice kA2 kN2 kC2] 60)).heap[i]?=wr.heap[i]?:=fun i hi=>(Below.heap_alloc wq _ i (by have:=hbq.size;omega)).trans (eQ i hi)
     clear hh hi2
     try go_wp2_with fail
     refine hK.out _ _ (by first|exact(KC.out _ eQ)|go_keep) (fun hHeld=>?_)
     clear hK K
     try simp only[Act.put,zs1,zs2,zs3]
     refine zqr 8 fun K hK=>?_
     go_simp
     refine hK.out _ _ (by first|exact(KC.out _ eA)|go_keep) (fun hHeld=>?_)
     clear hK K
     try simp only[Act.put,zs1,zs2,zs3]
     refine zqr 9 fun K hK=>?_
     refine aga (by rfl) _ _ 58 (by rfl) wc.heap.size 60 i0 (.agg #[.int .i64 0,.string {data:=#[]},.slice none 0 0,.slice none 0 0]) 4 72 Tryz.underlying58 hi hz0 hz1 hz2 rfl (by decide) (.slice uA uN uC) k cs (by rfl) (((HG.out.step hbq).1).alloc _) (.slice (some ⟨wq.heap.size,0,none⟩) 1 1) 1 [.int .i64 kind2,.string name2,.slice lA2 lN2 lC2,.slice kA2 kN2 kC2] (by rfl) (.inr ⟨⟨wq.heap.size,0,none⟩,1,rfl,rfl,World.news_of_block (heap_alloc_new wq _)⟩) (ayu _ _ _ _ _ _ _ _) (by simp only[maxLen];omega) (by omega) (by have:=hbq.size;simp;omega) ?_
     intro v' w3 hown' hgrow ahe
     obtain⟨vA,vN,vC,rfl,_⟩:=(Own.aj7 hown').form
     have HG2:=zqd (HG.out.next hbq HH.out hi3 ((zqf _ _).alloc (zql _) _) hown' hgrow ahe)
     have hrow:∀ i,i < wc.heap.size→some i≠(Value.slice uA uN uC).ownBlock:=fun i hi e=>by have:=(HG.out.1.lt _ e.symm).1;omega
     have oW:Blk w3 b 60 #[.int .i64 kind,.string name,.slice lA lN lC,.slice uA uN uC]:=(hgrow.block b oA.lt (hrow b hb2)).trans oA
     have e3:∀ i,i < w.heap.size+2→w3.heap[i]?=wr.heap[i]?:=fun i hi=>(hgrow.block i (by have:=hbq.size;simp;omega) (hrow i (by omega))).trans (eA i hi)
     have hL3:=zqd (avr ((agw HLL.out hbq).alloc (.cells #[.int .i64 kind2,.string name2,.slice lA2 lN2 lC2,.slice kA2 kN2 kC2] 60)) hgrow (fun g' hg' e=>hrow g' (HLT.out g' hg').2 e.symm))
     have eS:∀ i,i < w.heap.size+2→(w3.setCell ⟨b,3,none⟩ (.slice vA vN vC)).heap[i]?=wr.heap[i]?:=fun i hi=>(Below.heap_setCell w3 ⟨b,3,none⟩ (.slice vA vN vC) i (by show i≠b;omega)).trans (e3 i hi)
     have fO:=oW.frozen 3
     have cO:w3.cell? ⟨b,3,none⟩=some (.slice uA uN uC):=oW.cell 3
     clear hown' hgrow ahe hrow
     refine hK.out _ _ (by first|exact(KC.out _ e3)|go_keep) (fun hHeld=>?_)
     clear hK K
     try simp only[Act.put,zs1,zs2,zs3]
     refine zqt 10 ?_
     try simp only[Act.put,zs1,zs2,zs3]
     refine zqr 11 fun K hK=>?_
     go_simp
     refine hK.out _ _ (by first|exact(KC.out _ eS)|go_keep) (fun hHeld=>?_)
     clear hK K
     try simp only[Act.put,zs1,zs2,zs3]
     refine wpAnyH_done (by kernel_rfl) ?_ _
     go_wp2_with fail
     go_roundw
     case rel=>exact⟨k+1,.slice vA vN vC,_,_,by omega,by go_num,by rw[List.take_add_one,HX2.out,List.flatMap_append,aiy];exact HG2.out.set (p:=⟨b,3,none⟩) hb2 (by show w.heap.size≤b;omega) _,by have:=oW.aam 3 (.slice vA vN vC);simpa using this,(eS w.heap.size (by omega)).trans HB4.out,(eS (w.heap.size+1) (by omega)).trans HB5.out,aqr hL3.out (p:=⟨b,3,none⟩) HNE.out _⟩
     case measure=>simp[intOf];omega
    case btd=>
     go_simp
     go_at_call 125
     refine(HC.out _ hbD).mono ?_
     rintro e wq ⟨us,rfl,hl,apr⟩
     obtain⟨lA2,lN2,lC2,kA2,kN2,kC2,rfl⟩:=Ty.afv hl
     obtain⟨F2,hh,hi2,_⟩:=hl
     have hi3:In F2 wr.heap.size wq.heap.size:=hi2
     have HH:=zqd hh
     have hbq:Below wr.heap.size wr wq:=hbD.trans apr
     have eQ:∀ i,i < w.heap.size+2→wq.heap[i]?=wr.heap[i]?:=fun i hi=>hbq.block i (by omega)
     have oQ:=bO.step hbq
     have o3q:wq.cell? ⟨b,3,none⟩=some (.slice uA uN uC):=oQ.cell 3
     have oA:=oQ.alloc (.cells #[.int .i64 kind2,.string name2,.slice lA2 lN2 lC2,.slice kA2 kN2 kC2] 60)
     have o3a:(wq.alloc (.cells #[.int .i64 kind2,.string name2,.slice lA2 lN2 lC2,.slice kA2 kN2 kC2] 60)).cell? ⟨b,3,none⟩=some (.slice uA uN uC):=oA.cell 3
     have eA:∀ i,i < w.heap.size+2→(wq.alloc (.cells #[.int .i64 kind2,.string name2,.slice lA2 lN2 lC2,.slice kA2 kN2 kC2] 60)).heap[i]?=wr.heap[i]?:=fun i hi=>(Below.heap_alloc wq _ i (by have:=hbq.size;omega)).trans (eQ i hi)
     clear hh hi2
     try go_wp2_with fail
     refine hK.out _ _ (by first|exact(KC.out _ eQ)|go_keep) (fun hHeld=>?_)
     clear hK K
     try simp only[Act.put,zs1,zs2,zs3]
     refine zqs [1,8] ?_
     refine AllReadyH.cons (o:=?b2g) ?bte (fun K hK=>?btf) (AllReadyH.cons (o:=?b2h) ?btg (fun K hK=>?bth) AllReadyH.nil)
     case bte=>
      simp only[zg1,zg2,zg3];rfl
     case btg=>
      simp only[zg1,zg2,zg3];rfl
     case btf=>
      go_simp
      refine hK.out _ _ (by first|exact(KC.out _ eQ)|go_keep) (fun hHeld=>?_)
      clear hK K
      try simp only[Act.put,zs1,zs2,zs3]
      refine zqr 8 fun K hK=>?_
      go_simp
      refine hK.out _ _ (by first|exact(KC.out _ eA)|go_keep) (fun hHeld=>?_)
      clear hK K
      try simp only[Act.put,zs1,zs2,zs3]
      refine zqr 9 fun K hK=>?_
      refine aga (by rfl) _ _ 58 (by rfl) wc.heap.size 60 i0 (.agg #[.int .i64 0,.string {data:=#[]},.slice none 0 0,.slice none 0 0]) 4 72 Tryz.underlying58 hi hz0 hz1 hz2 rfl (by decide) (.slice uA uN uC) k cs (by rfl) (((HG.out.step hbq).1).alloc _) (.slice (some ⟨wq.heap.size,0,none⟩) 1 1) 1 [.int .i64 kind2,.string name2,.slice lA2 lN2 lC2,.slice kA2 kN2 kC2] (by rfl) (.inr ⟨⟨wq.heap.size,0,none⟩,1,rfl,rfl,World.news_of_block (heap_alloc_new wq _)⟩) (ayu _ _ _ _ _ _ _ _) (by simp only[maxLen];omega) (by omega) (by have:=hbq.size;simp;omega) ?_
      intro v' w3 hown' hgrow ahe
      obtain⟨vA,vN,vC,rfl,_⟩:=(Own.aj7 hown').form
      have HG2:=zqd (HG.out.next hbq HH.out hi3 ((zqf _ _).alloc (zql _) _) hown' hgrow ahe)
      have hrow:∀ i,i < wc.heap.size→some i≠(Value.slice uA uN uC).ownBlock:=fun i hi e=>by have:=(HG.out.1.lt _ e.symm).1;omega
      have oW:Blk w3 b 60 #[.int .i64 kind,.string name,.slice lA lN lC,.slice uA uN uC]:=(hgrow.block b oA.lt (hrow b hb2)).trans oA
      have e3:∀ i,i < w.heap.size+2→w3.heap[i]?=wr.heap[i]?:=fun i hi=>(hgrow.block i (by have:=hbq.size;simp;omega) (hrow i (by omega))).trans (eA i hi)
      have hL3:=zqd (avr ((agw HLL.out hbq).alloc (.cells #[.int .i64 kind2,.string name2,.slice lA2 lN2 lC2,.slice kA2 kN2 kC2] 60)) hgrow (fun g' hg' e=>hrow g' (HLT.out g' hg').2 e.symm))
      have eS:∀ i,i < w.heap.size+2→(w3.setCell ⟨b,3,none⟩ (.slice vA vN vC)).heap[i]?=wr.heap[i]?:=fun i hi=>(Below.heap_setCell w3 ⟨b,3,none⟩ (.slice vA vN vC) i (by show i≠b;omega)).trans (e3 i hi)
      have fO:=oW.frozen 3
      have cO:w3.cell? ⟨b,3,none⟩=some (.slice uA uN uC):=oW.cell 3
      clear hown' hgrow ahe hrow
      refine hK.out _ _ (by first|exact(KC.out _ e3)|go_keep) (fun hHeld=>?_)
      clear hK K
      try simp only[Act.put,zs1,zs2,zs3]
      refine zqt 10 ?_
      try simp only[Act.put,zs1,zs2,zs3]
      refine zqr 11 fun K hK=>?_
      go_simp
      refine hK.out _ _ (by first|exact(KC.out _ eS)|go_keep) (fun hHeld=>?_)
      clear hK K
      try simp only[Act.put,zs1,zs2,zs3]
      refine wpAnyH_done (by kernel_rfl) ?_ _
      go_wp2_with fail
      go_roundw
      case rel=>exact⟨k+1,.slice vA vN vC,_,_,by omega,by go_num,by rw[List.take_add_one,HX2.out,List.flatMap_append,aiy];exact HG2.out.set (p:=⟨b,3,none⟩) hb2 (by show w.heap.size≤b;omega) _,by have:=oW.aam 3 (.slice vA vN vC);simpa using this,(eS w.heap.size (by omega)).trans HB4.out,(eS (w.heap.size+1) (by omega)).trans HB5.out,aqr hL3.out (p:=⟨b,3,none⟩) HNE.out _⟩
      case measure=>simp[intOf];omega
     case bth=>
      go_simp
      refine hK.out _ _ (by first|exact(KC.out _ eA)|go_keep) (fun hHeld=>?_)
      clear hK K
      try simp only[Act.put,zs1,zs2,zs3]
      refine zqr 1 fun K hK=>?_
      go_simp
      refine hK.out _ _ (by first|exact(KC.out _ eA)|go_keep) (fun hHeld=>?_)
      clear hK K
      try simp only[Act.put,zs1,zs2,zs3]
      refine zqr 9 fun K hK=>?_
      refine aga (by rfl) _ _ 58 (by rfl) wc.heap.size 60 i0 (.agg #[.int .i64 0,.string {data:=#[]},.slice none 0 0,.slice none 0 0]) 4 72 Tryz.underlying58 hi hz0 hz1 hz2 rfl (by decide) (.slice uA uN uC) k cs (by rfl) (((HG.out.step hbq).1).alloc _) (.slice (some ⟨wq.heap.size,0,none⟩) 1 1) 1 [.int .i64 kind2,.string name2,.slice lA2 lN2 lC2,.slice kA2 kN2 kC2] (by rfl) (.inr ⟨⟨wq.heap.size,0,none⟩,1,rfl,rfl,World.news_of_block (heap_alloc_new wq _)⟩) (ayu _ _ _ _ _ _ _ _) (by simp only[maxLen];omega) (by omega) (by have:=hbq.size;simp;omega) ?_
      intro v' w3 hown' hgrow ahe
      obtain⟨vA,vN,vC,rfl,_⟩:=(Own.aj7 hown').form
      have HG2:=zqd (HG.out.next hbq HH.out hi3 ((zqf _ _).alloc (zql _) _) hown' hgrow ahe)
      have hrow:∀ i,i < wc.heap.size→some i≠(Value.slice uA uN uC).ownBlock:=fun i hi e=>by have:=(HG.out.1.lt _ e.symm).1;omega
      have oW:Blk w3 b 60 #[.int .i64 kind,.string name,.slice lA lN lC,.slice uA uN uC]:=(hgrow.block b oA.lt (hrow b hb2)).trans oA
      have e3:∀ i,i < w.heap.size+2→w3.heap[i]?=wr.heap[i]?:=fun i hi=>(hgrow.block i (by have:=hbq.size;simp;omega) (hrow i (by omega))).trans (eA i hi)
      have hL3:=zqd (avr ((agw HLL.out hbq).alloc (.cells #[.int .i64 kind2,.string name2,.slice lA2 lN2 lC2,.slice kA2 kN2 kC2] 60)) hgrow (fun g' hg' e=>hrow g' (HLT.out g' hg').2 e.symm))
      have eS:∀ i,i < w.heap.size+2→(w3.setCell ⟨b,3,none⟩ (.slice vA vN vC)).heap[i]?=wr.heap[i]?:=fun i hi=>(Below.heap_setCell w3 ⟨b,3,none⟩ (.slice vA vN vC) i (by show i≠b;omega)).trans (e3 i hi)
      have fO:=oW.frozen 3
      have cO:w3.cell? ⟨b,3,none⟩=some (.slice uA uN uC):=oW.cell 3
      clear hown' hgrow ahe hrow
      refine hK.out _ _ (by first|exact(KC.out _ e3)|go_keep) (fun hHeld=>?_)
      clear hK K
      try simp only[Act.put,zs1,zs2,zs3]
      refine zqt 10 ?_
      try simp only[Act.put,zs1,zs2,zs3]
      refine zqr 11 fun K hK=>?_
      go_simp
      refine hK.out _ _ (by first|exact(KC.out _ eS)|go_keep) (fun hHeld=>?_)
      clear hK K
      try simp only[Act.put,zs1,zs2,zs3]
      refine wpAnyH_done (by kernel_rfl) ?_ _
      go_wp2_with fail
      go_roundw
      case rel=>exact⟨k+1,.slice vA vN vC,_,_,by omega,by go_num,by rw[List.take_add_one,HX2.out,List.flatMap_append,aiy];exact HG2.out.set (p:=⟨b,3,none⟩) hb2 (by show w.heap.size≤b;omega) _,by have:=oW.aam 3 (.slice vA vN vC);simpa using this,(eS w.heap.size (by omega)).trans HB4.out,(eS (w.heap.size+1) (by omega)).trans HB5.out,aqr hL3.out (p:=⟨b,3,none⟩) HNE.out _⟩
      case measure=>simp[intOf];omega
   ·have hkn:k=n:=by omega
    have HT:Hid (kids.take k=kids):=List.take_of_length_le (by have:=HN.out;omega)
    have hfin:=hG.done
    rw[HT.out] at hfin
    have LK:=zqd hfin
    have LL:=zqd (bec hL (hi:=wc.heap.size) (fun g hg=>(HLT.out g hg).2) hlo)
    obtain⟨cO0,cO1,cO2,cO3⟩:=zc4 bO
    have p3:wr.cell? ⟨w.heap.size,3,none⟩=some (.slice A n c):=bP.cell 3
    have fR0:=bR.frozen 0
    have fR1:=bR.frozen 1
    have fR2:=bR.frozen 2
    have fR3:=bR.frozen 3
    obtain⟨cR0,cR1,cR2,cR3⟩:=zc4 bR
    clear hG hfin hL HAT bO bP
    go_wp2_with fail
    refine bodyPost_ret (v:=.agg #[.int .i64 kind,.string name,.slice lA lN lC,.slice uA uN uC]) (by simp[results,Tryz.results125,go_sem,cR0,cR1,cR2,cR3]) rfl ⟨[.int .i64 kind,.string name,.slice lA lN lC,.slice uA uN uC],rfl,?_,?_⟩
    ·have base:=LvC.lit (LvC.lit (LvC.bs9 (lo:=w0.heap.size) (hi:=wr.heap.size) LL.out LK.out (.inl (zql _)) (zql _) (by omega) (by omega) (zql _) (zql _)) (.string name)) (.int .i64 kind)
     rw[Ty.aj]
     refine LvC.low (lo2:=w0.heap.size) ?_ (by omega)
     refine LvC.more (hi:=wr.heap.size) ?_ (zql _) (by simp[World.setCell]) (zql _)
     iterate 4 (refine LvC.setCell ?_ (.inl (by show w.heap.size+1 < w0.heap.size;omega)) _)
     exact base
    ·iterate 4 (refine Below.setCell ?_ (by simp;try omega) _)
     exact hbr
mutual
theorem a2i:∀ t:Ty,ToC 125 (Ty.pd t)
 | .mk kind name labels kids=>bj2 (bcp kids)
theorem bcp:∀ ts:List Ty,∀ t ∈ ts,ToC 125 (Ty.pd t)
 | [],x,hx=>absurd hx (by simp)
 | t ::r,x,hx=>(List.mem_cons.1 hx).elim (fun e=>e ▸ a2i t) (fun h=>bcp r x h)
end
end Go.Proofs.YtbafphecjijdmaaGreatDoor
