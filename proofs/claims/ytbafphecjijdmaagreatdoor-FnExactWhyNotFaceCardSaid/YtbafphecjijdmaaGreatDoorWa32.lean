/-
  Types are copied (the reference: l03Own; by program: gen_owns.py).
-/
import Derived.Test.YtbafphecjijdmaaGreatDoorWa31
import Derived.Test.YtbafphecjijdmaaGreatDoorWa07
import Derived.Test.YtbafphecjijdmaaGreatDoorWa16
import Derived.Deep.RegionHeld3
import Derived.Deep.AppendLies
import Derived.Deep.Cut
import Derived.Deep.CutRange
import Derived.Deep.RegionLaw
namespace Go.Proofs.YtbafphecjijdmaaGreatDoor
open Go.RowKit
set_option linter.unusedVariables false
set_option linter.unusedSimpArgs false
set_option linter.unnecessarySimpa false
set_option maxRecDepth 16000
theorem ownsRow_lit (w:World) {lo:Nat} {e:TypeId} (cur:Array Value) (h:lo≤w.heap.size) (hm:cur.size≤maxLen):(w.alloc (.cells cur e)).ownsRow lo e 1 (.slice (some ⟨w.heap.size,0,none⟩) cur.size cur.size) cur.size cur.toList:=
 ⟨by simp,.inr ⟨w.heap.size,cur.size,cur,rfl,h,heap_alloc_new w _,Nat.le_refl _,hm,by simp,by rw[Nat.mul_one];exact List.take_of_length_le (by simp)⟩⟩
theorem aod (w:World) {lo g k:Nat} {e:TypeId} {xs:List Value} (cur:Array Value) (h:lo≤w.heap.size) (hm:k≤maxLen) (hg:w.heap.size=g) (hk:cur.size=k) (hx:cur.toList=xs):
  (w.alloc (.cells cur e)).ownsRow lo e 1 (.slice (some ⟨g,0,none⟩) k k) k xs:=by
 subst hg hk hx
 exact ownsRow_lit w cur h hm
theorem av3 (k:Int) (s:ByteArray) (A A':Option Addr) (n n' c c':Nat):∀ u ∈ [Value.int .i64 k,Value.string s,Value.slice A n c,Value.slice A' n' c'],u.oneCell'=true:=by
 intro u hu
 simp only[List.mem_cons,List.not_mem_nil,or_false] at hu
 rcases hu with rfl|rfl|rfl|rfl<;>rfl
theorem ao4 {w:World} {base sz n:Nat} {e:TypeId} {v:Value} {xs:List Value} (h:w.ownsRow base e sz v n xs) {p:Addr} (hne:v.ownBlock≠some p.block) (u:Value):(w.setCell p u).ownsRow base e sz v n xs:=by
 obtain⟨h1,h2⟩:=h
 refine⟨h1,?_⟩
 rcases h2 with h2|⟨g,cap,cur,rfl,hbb,hh,hr⟩
 ·exact .inl h2
 ·exact .inr ⟨g,cap,cur,rfl,hbb,(Below.heap_setCell w p u g (fun e=>hne (by rw[← e];rfl))).trans hh,hr⟩
theorem atf {w w':World} {base sz n:Nat} {e:TypeId} {v:Value} {xs:List Value} {row:Option Nat} (h:w.ownsRow base e sz v n xs) (hg:w.grownBy w' row) (hne:∀ g,v.ownBlock=some g→row≠some g):w'.ownsRow base e sz v n xs:=by
 obtain⟨h1,h2⟩:=h
 refine⟨h1,?_⟩
 rcases h2 with h2|⟨g,cap,cur,rfl,hbb,hh,hr⟩
 ·exact .inl h2
 ·exact .inr ⟨g,cap,cur,rfl,hbb,by rw[hg.block g (Array.getElem?_eq_some_iff.1 hh).1 (fun e=>hne g rfl e.symm)];exact hh,hr⟩
theorem a8k {w:World} {base n hi:Nat} {e:TypeId} {v:Value} {xs:List ByteArray} (h:w.ownsRow base e 1 v n (strs xs)) (hv:∀ g,v.ownBlock=some g→g < hi) (hh:hi≤w.heap.size):Lv w base hi (.row 1 (xs.flatMap tu)) v:=by
 obtain⟨A,n',c,rfl,hl,hnc,hcm,hg⟩:=Own.ai7 h
 have hlen:(xs.flatMap tu).length=n' * 1:=by
  rw[← hl,afz aat]
  simp[strs]
 by_cases h0:0 < n'
 ·obtain⟨g,off,rfl,h1,h2,ho⟩:=hg h0
  exact⟨[g],by rw[Hold];exact⟨_,n',c,rfl,hlen,hnc,hcm,.inr ⟨h0,g,off,[],_,rfl,rfl,ho,axh w xs⟩⟩,⟨by simp,fun b hb=>by rw[List.mem_singleton.1 hb];exact⟨h1,hv g rfl⟩⟩,hh⟩
 ·exact⟨[],by rw[Hold];exact⟨_,n',c,rfl,hlen,hnc,hcm,.inl ⟨by omega,rfl⟩⟩,In.nil _ _,hh⟩
set_option maxHeartbeats 12800000 in
theorem bdw {kind:Int} {name:ByteArray} {labels:List ByteArray} {kids:List Ty} (ih:∀ t ∈ kids,ToC 125 (Ty.pd t)):ToC 125 (Ty.pd ⟨kind,name,labels,kids⟩):=by
 intro B cs w hB hsz h
 obtain⟨iq,qp,rfl,bf,eu⟩:=Ty.open_ h
 have pq:=Lib.hid bf
 clear bf
 have qm:=Lib.hid eu
 clear eu
 obtain⟨jk,gy,je,rfl⟩:=pq.out.form
 obtain⟨A,n,c,rfl,hnl,hm,hat⟩:=ny Ty.jw (by decide) qm.out
 unfold maxLen at hm
 obtain⟨s0,hs,hsz0,hsz1,hsz2⟩:=info_parts alu
 obtain⟨i0,hi,hz0,hz1,hz2⟩:=info_parts asw
 simp only[Ty.ay,PD.szL] at hsz
 rw[aic aat (by decide),aic Ty.jw (by decide)] at hsz
 have hll:labels.length≤1048576:=by omega
 have hnn:n≤1048576:=by omega
 have HN:=Lib.hid hnl
 have HS:=Lib.hid hsz
 have HI:=Lib.hid ih
 have HAT:=Lib.hid hat
 clear ih h hnl hsz hat
 go_enter Tryz.func125,Tryz.ntmps125
 go_wp2_with fail
 obtain⟨w0,hw0⟩:∃ w0,w0=(w.alloc (.cells #[.int .i64 kind,.string name,.slice jk gy je,.slice A n c] 60)).alloc (.cells #[.int .i64 0,.string {data:=#[]},.slice none 0 0,.slice none 0 0] 60):=⟨_,rfl⟩
 rw[← hw0]
 have bP:Blk w0 w.heap.size 60 #[.int .i64 kind,.string name,.slice jk gy je,.slice A n c]:=by rw[hw0];exact(Blk.new w _ _).alloc _
 have bR:Blk w0 (w.heap.size+1) 60 #[.int .i64 0,.string {data:=#[]},.slice none 0 0,.slice none 0 0]:=by rw[hw0];have:=Blk.new (w.alloc (.cells #[.int .i64 kind,.string name,.slice jk gy je,.slice A n c] 60)) 60 #[.int .i64 0,.string {data:=#[]},.slice none 0 0,.slice none 0 0];simpa using this
 have hB0:Below w.heap.size w w0:=by rw[hw0];exact((Below.refl _ _).alloc (Nat.le_refl _) _).alloc (by simp) _
 have hs0:w0.heap.size=w.heap.size+2:=by rw[hw0];simp
 clear hw0
 have alf:Hid (∀ W,Below w0.heap.size w0 W→aq9 W (.slice jk gy je) 1 labels.length (strs labels)):=fun W hW=>a6k (pq.out.below ((hB0.trans (hW.mono hB0.size)).mono hB))
 go_cut [3] from 5 to 13 (fun v wx=>∃ (b:Nat) (lA:Option Addr) (lN lC:Nat),v=.pointer (some ⟨b,0,none⟩)∧w0.heap.size≤b∧b < wx.heap.size∧Blk wx b 60 #[.int .i64 kind,.string name,.slice lA lN lC,.slice none 0 0]∧wx.ownsRow w0.heap.size 9 1 (.slice lA lN lC) labels.length (strs labels)∧Hid ((Value.slice lA lN lC).ownBlock≠some b)∧Below w0.heap.size w0 wx)
 case first=>
  have hlP:=bP.lt
  have hb0:Below w0.heap.size w0 w0.drew:=(Below.refl _ _).drew
  have hbS:Below w0.heap.size w0 (w0.alloc (.cells #[] 9)).drew:=((Below.refl _ _).alloc (Nat.le_refl _) _).drew
  have hoS:(w0.alloc (.cells #[] 9)).drew.ownsRow w0.heap.size 9 1 (.slice (some ⟨w.heap.size+2,0,none⟩) 0 0) 0 []:=(aod w0 #[] (Nat.le_refl _) (by decide) hs0 rfl rfl).drew
  have a2u:Below w0.heap.size w0 ((w0.alloc (.cells #[.int .i64 0,.string {data:=#[]},.slice none 0 0,.slice none 0 0] 60)).alloc (.cells #[] 9)).drew:=(((Below.refl _ _).alloc (Nat.le_refl _) _).alloc (by simp) _).drew
  have a2v:Below w0.heap.size w0 ((w0.alloc (.cells #[] 9)).alloc (.cells #[.int .i64 0,.string {data:=#[]},.slice none 0 0,.slice none 0 0] 60)).drew:=(((Below.refl _ _).alloc (Nat.le_refl _) _).alloc (by simp) _).drew
  have hbZ:Below w0.heap.size w0 (w0.alloc (.cells #[.int .i64 0,.string {data:=#[]},.slice none 0 0,.slice none 0 0] 60)).drew:=((Below.refl _ _).alloc (Nat.le_refl _) _).drew
  have bli:((w0.alloc (.cells #[] 9)).alloc (.cells #[.int .i64 0,.string {data:=#[]},.slice none 0 0,.slice none 0 0] 60)).drew.ownsRow w0.heap.size 9 1 (.slice (some ⟨w.heap.size+2,0,none⟩) 0 0) 0 []:=((aod w0 #[] (Nat.le_refl _) (by decide) hs0 rfl rfl).alloc _).drew
  have bdx:((w0.alloc (.cells #[.int .i64 0,.string {data:=#[]},.slice none 0 0,.slice none 0 0] 60)).alloc (.cells #[] 9)).drew.ownsRow w0.heap.size 9 1 (.slice (some ⟨w.heap.size+3,0,none⟩) 0 0) 0 []:=(aod (w0.alloc (.cells #[.int .i64 0,.string {data:=#[]},.slice none 0 0,.slice none 0 0] 60)) #[] (by simp) (by decide) (by simp[hs0]) rfl rfl).drew
  have xA:Blk ((w0.alloc (.cells #[.int .i64 0,.string {data:=#[]},.slice none 0 0,.slice none 0 0] 60)).alloc (.cells #[] 9)).drew (w.heap.size+2) 60 #[.int .i64 0,.string {data:=#[]},.slice none 0 0,.slice none 0 0]:=by rw[← hs0];exact(Blk.new w0 _ _).alloc _
  have xB:Blk ((w0.alloc (.cells #[] 9)).alloc (.cells #[.int .i64 0,.string {data:=#[]},.slice none 0 0,.slice none 0 0] 60)).drew (w.heap.size+3) 60 #[.int .i64 0,.string {data:=#[]},.slice none 0 0,.slice none 0 0]:=by have:=(Blk.new (w0.alloc (.cells #[] 9)) 60 #[.int .i64 0,.string {data:=#[]},.slice none 0 0,.slice none 0 0]).drew;simpa [hs0] using this
  have bP0:=bP.below hb0 hlP
  have bPS:=bP.below hbS hlP
  have bPZ:=bP.below hbZ hlP
  have bdy:=bP.below a2u hlP
  have bdz:=bP.below a2v hlP
  have h23:w.heap.size+2≠w.heap.size+3:=by omega
  have h32:w.heap.size+3≠w.heap.size+2:=by omega
  have bpb:w.heap.size+2≠((w0.alloc (.cells #[.int .i64 0,.string {data:=#[]},.slice none 0 0,.slice none 0 0] 60)).alloc (.cells #[] 9)).drew.heap.size:=by have:=xA.lt;have:=(World.ownsRow.lt bdx) _ rfl;omega
  have bpc:w.heap.size+3≠((w0.alloc (.cells #[] 9)).alloc (.cells #[.int .i64 0,.string {data:=#[]},.slice none 0 0,.slice none 0 0] 60)).drew.heap.size:=by have:=xB.lt;omega
  refine wp_region_held_drew (S:=(fun w'=>w'.cell? ⟨w.heap.size,0,none⟩=some (.int .i64 kind)∧w'.cell? ⟨w.heap.size,1,none⟩=some (.string name)∧w'.cell? ⟨w.heap.size,2,none⟩=some (.slice jk gy je))) (by kernel_rfl) ⟨bP0.cell 0,bP0.cell 1,bP0.cell 2⟩ (fun hHeld=>?_)
  refine wpAnyH_take (i:=0) (oi:=_) (v:=_) (by simp only[List.getElem?_toArray,List.getElem?_cons_succ,List.getElem?_cons_zero];rfl) (by kernel_rfl) (by kernel_rfl) (by kernel_rfl) (by exact fun _ _ _ h=>h) (Or.inl ⟨by rfl,by intro w hSw;(try dsimp only at hSw);go_simp;try with_reducible rfl⟩) (by assumption) ?_
  try simp only[Act.put,List.setIfInBounds_toArray,List.set_cons_zero,List.set_cons_succ]
  refine wpAnyH_take (i:=1) (oi:=_) (v:=_) (by simp only[List.getElem?_toArray,List.getElem?_cons_succ,List.getElem?_cons_zero];rfl) (by kernel_rfl) (by kernel_rfl) (by kernel_rfl) (by exact fun _ _ _ h=>h) (Or.inl ⟨by rfl,by intro w hSw;(try dsimp only at hSw);go_simp;try with_reducible rfl⟩) (by assumption) ?_
  try simp only[Act.put,List.setIfInBounds_toArray,List.set_cons_zero,List.set_cons_succ]
  refine wpAnyH_take (i:=2) (oi:=_) (v:=_) (by simp only[List.getElem?_toArray,List.getElem?_cons_succ,List.getElem?_cons_zero];rfl) (by kernel_rfl) (by kernel_rfl) (by kernel_rfl) (by exact fun _ _ _ h=>h) (Or.inl ⟨by rfl,by intro w hSw;(try dsimp only at hSw);go_simp;try with_reducible rfl⟩) (by assumption) ?_
  try simp only[Act.put,List.setIfInBounds_toArray,List.set_cons_zero,List.set_cons_succ]
  refine wpAnyH_take (i:=3) (oi:=_) (v:=_) (by simp only[List.getElem?_toArray,List.getElem?_cons_succ,List.getElem?_cons_zero];rfl) (by kernel_rfl) (by kernel_rfl) (by kernel_rfl) (by exact fun _ _ _ h=>h) (Or.inl ⟨by rfl,by intro w hSw;(try dsimp only at hSw);go_simp;try with_reducible rfl⟩) (by assumption) ?_
  try simp only[Act.put,List.setIfInBounds_toArray,List.set_cons_zero,List.set_cons_succ]
  refine wpAnyH_take (i:=5) (oi:=_) (v:=_) (by simp only[List.getElem?_toArray,List.getElem?_cons_succ,List.getElem?_cons_zero];rfl) (by kernel_rfl) (by kernel_rfl) (by kernel_rfl) (by exact fun _ _ _ h=>h) (Or.inl ⟨by rfl,by intro w hSw;(try dsimp only at hSw);go_simp;try with_reducible rfl⟩) (by assumption) ?_
  try simp only[Act.put,List.setIfInBounds_toArray,List.set_cons_zero,List.set_cons_succ]
  refine wpAnyH_take (i:=6) (oi:=_) (v:=_) (by simp only[List.getElem?_toArray,List.getElem?_cons_succ,List.getElem?_cons_zero];rfl) (by kernel_rfl) (by kernel_rfl) (by kernel_rfl) (by exact fun _ _ _ h=>h) (Or.inl ⟨by rfl,by intro w hSw;(try dsimp only at hSw);go_simp;try with_reducible rfl⟩) (by assumption) ?_
  try simp only[Act.put,List.setIfInBounds_toArray,List.set_cons_zero,List.set_cons_succ]
  refine wpAnyH_ready (rs:=[4,9]) (by kernel_rfl) (by simp) ?_
  refine AllReadyH.cons (o:=?bvu) ?bpd (fun K hK=>?bpe) (AllReadyH.cons (o:=?bvv) ?bpf (fun K hK=>?bpg) AllReadyH.nil)
  case bpd=>
   simp only[List.getElem?_toArray,List.getElem?_cons_succ,List.getElem?_cons_zero];rfl
  case bpf=>
   simp only[List.getElem?_toArray,List.getElem?_cons_succ,List.getElem?_cons_zero];rfl
  case bpe=>
   go_simp
   refine hK.out _ _ (by first|exact⟨bPS.cell 0,bPS.cell 1,bPS.cell 2⟩|go_keep) (fun hHeld=>?_)
   clear hK K
   try simp only[Act.put,List.setIfInBounds_toArray,List.set_cons_zero,List.set_cons_succ]
   refine wpAnyH_ready (rs:=[7,9]) (by kernel_rfl) (by simp) ?_
   refine AllReadyH.cons (o:=?bvw) ?bph (fun K hK=>?bpi) (AllReadyH.cons (o:=?bvx) ?bpj (fun K hK=>?bpk) AllReadyH.nil)
   case bph=>
    simp only[List.getElem?_toArray,List.getElem?_cons_succ,List.getElem?_cons_zero];rfl
   case bpj=>
    simp only[List.getElem?_toArray,List.getElem?_cons_succ,List.getElem?_cons_zero];rfl
   case bpi=>
    refine afn (by rfl) _ _ 22 (by rfl) w0.heap.size 9 s0 (.string {data:=#[]}) 1 16 Tryz.underlying22 hs hsz0 hsz1 hsz2 rfl (by omega) (.slice (some ⟨w.heap.size+2,0,none⟩) 0 0) 0 [] (by rfl) hoS (.slice jk gy je) labels.length (strs labels) (by rfl) (alf.out _ hbS) (alx _) (by simp only[maxLen];omega) (by omega) hbS.size ?_
    intro v' w3 hown' hgrow agq
    obtain⟨lA,lN,lC,rfl,hl1,_⟩:=(Own.ai7 hown').form
    rw[Nat.zero_add,List.nil_append] at hown'
    have hb3:Below w0.heap.size w0 w3:=hbS.grown hgrow hbS.size (fun g hg=>(hoS.lt g hg).1)
    have bPd:=bP.below hb3 hlP
    refine hK.out _ _ (by first|exact⟨bPd.cell 0,bPd.cell 1,bPd.cell 2⟩|go_keep) (fun hHeld=>?_)
    clear hK K
    try simp only[Act.put,List.setIfInBounds_toArray,List.set_cons_zero,List.set_cons_succ]
    refine wpAnyH_take (i:=8) (oi:=_) (v:=_) (by simp only[List.getElem?_toArray,List.getElem?_cons_succ,List.getElem?_cons_zero];rfl) (by kernel_rfl) (by kernel_rfl) (by kernel_rfl) (by exact fun _ _ _ h=>h) (Or.inl ⟨by rfl,by intro w hSw;(try dsimp only at hSw);go_simp;try with_reducible rfl⟩) (by assumption) ?_
    try simp only[Act.put,List.setIfInBounds_toArray,List.set_cons_zero,List.set_cons_succ]
    refine wpAnyH_ready (rs:=[9]) (by kernel_rfl) (by simp) ?_
    refine AllReadyH.cons (o:=?o3) ?h3 (fun K hK=>?k3) AllReadyH.nil
    case h3=>
     simp only[List.getElem?_toArray,List.getElem?_cons_succ,List.getElem?_cons_zero];rfl
    go_simp
    refine hK.out _ _ (by first|exact⟨(bPd.alloc _).cell 0,(bPd.alloc _).cell 1,(bPd.alloc _).cell 2⟩|go_keep) (fun hHeld=>?_)
    clear hK K
    try simp only[Act.put,List.setIfInBounds_toArray,List.set_cons_zero,List.set_cons_succ]
    refine wpAnyH_ready (rs:=[10]) (by kernel_rfl) (by simp) ?_
    refine AllReadyH.cons (o:=?o4) ?h4 (fun K hK=>?k4) AllReadyH.nil
    case h4=>
     simp only[List.getElem?_toArray,List.getElem?_cons_succ,List.getElem?_cons_zero];rfl
    go_simp
    refine hK.out _ _ (by first|exact⟨(bPd.alloc _).cell 0,(bPd.alloc _).cell 1,(bPd.alloc _).cell 2⟩|go_keep) (fun hHeld=>?_)
    clear hK K
    try simp only[Act.put,List.setIfInBounds_toArray,List.set_cons_zero,List.set_cons_succ]
    refine wpAnyH_done (by kernel_rfl) ?_ _
    go_wp2_with fail
    go_meet
    exact⟨w3.heap.size,lA,lN,lC,rfl,hb3.size,by simp,Blk.new w3 _ _,hown'.alloc _,Lib.hid (fun e=>by have:=(hown'.lt _ e).2;omega),hb3.alloc hb3.size _⟩
   case bpk=>
    go_simp
    refine hK.out _ _ (by first|exact⟨bdz.cell 0,bdz.cell 1,bdz.cell 2⟩|go_keep) (fun hHeld=>?_)
    clear hK K
    try simp only[Act.put,List.setIfInBounds_toArray,List.set_cons_zero,List.set_cons_succ]
    refine wpAnyH_ready (rs:=[7]) (by kernel_rfl) (by simp) ?_
    refine AllReadyH.cons (o:=?o5) ?h5 (fun K hK=>?k5) AllReadyH.nil
    case h5=>
     simp only[List.getElem?_toArray,List.getElem?_cons_succ,List.getElem?_cons_zero];rfl
    refine afn (by rfl) _ _ 22 (by rfl) w0.heap.size 9 s0 (.string {data:=#[]}) 1 16 Tryz.underlying22 hs hsz0 hsz1 hsz2 rfl (by omega) (.slice (some ⟨w.heap.size+2,0,none⟩) 0 0) 0 [] (by rfl) bli (.slice jk gy je) labels.length (strs labels) (by rfl) (alf.out _ a2v) (alx _) (by simp only[maxLen];omega) (by omega) a2v.size ?_
    intro v' w3 hown' hgrow agq
    obtain⟨lA,lN,lC,rfl,hl1,_⟩:=(Own.ai7 hown').form
    rw[Nat.zero_add,List.nil_append] at hown'
    have hb3:Below w0.heap.size w0 w3:=a2v.grown hgrow a2v.size (fun g hg=>(bli.lt g hg).1)
    have bPd:=bP.below hb3 hlP
    have oA:Blk w3 (w.heap.size+3) 60 #[.int .i64 0,.string {data:=#[]},.slice none 0 0,.slice none 0 0]:=(hgrow.block (w.heap.size+3) xB.lt (fun e=>h32 (Option.some.inj e))).trans xB
    have neA:(Value.slice lA lN lC).ownBlock≠some (w.heap.size+3):=fun e=>agq.elim (fun h=>h32 (Option.some.inj (e.symm.trans h))) (fun h=>bpc (Option.some.inj (e.symm.trans h)))
    have fA0:=oA.frozen 0
    have fA1:=oA.frozen 1
    have fA2:=oA.frozen 2
    have fA3:=oA.frozen 3
    have cA0:w3.cell? ⟨w.heap.size+3,0,none⟩=some (.int .i64 0):=oA.cell 0
    have cA1:w3.cell? ⟨w.heap.size+3,1,none⟩=some (.string {data:=#[]}):=oA.cell 1
    have cA2:w3.cell? ⟨w.heap.size+3,2,none⟩=some (.slice none 0 0):=oA.cell 2
    have cA3:w3.cell? ⟨w.heap.size+3,3,none⟩=some (.slice none 0 0):=oA.cell 3
    refine hK.out _ _ (by first|exact⟨bPd.cell 0,bPd.cell 1,bPd.cell 2⟩|go_keep) (fun hHeld=>?_)
    clear hK K
    try simp only[Act.put,List.setIfInBounds_toArray,List.set_cons_zero,List.set_cons_succ]
    refine wpAnyH_take (i:=8) (oi:=_) (v:=_) (by simp only[List.getElem?_toArray,List.getElem?_cons_succ,List.getElem?_cons_zero];rfl) (by kernel_rfl) (by kernel_rfl) (by kernel_rfl) (by exact fun _ _ _ h=>h) (Or.inl ⟨by rfl,by intro w hSw;(try dsimp only at hSw);go_simp;try with_reducible rfl⟩) (by assumption) ?_
    try simp only[Act.put,List.setIfInBounds_toArray,List.set_cons_zero,List.set_cons_succ]
    refine wpAnyH_ready (rs:=[10]) (by kernel_rfl) (by simp) ?_
    refine AllReadyH.cons (o:=?o6) ?h6 (fun K hK=>?k6) AllReadyH.nil
    case h6=>
     simp only[List.getElem?_toArray,List.getElem?_cons_succ,List.getElem?_cons_zero];rfl
    go_simp
    refine hK.out _ _ (by first|exact⟨((((bPd.far (by first|(simp;done)|(simp;omega)) _).far (by first|(simp;done)|(simp;omega)) _).far (by first|(simp;done)|(simp;omega)) _).far (by first|(simp;done)|(simp;omega)) _).cell 0,((((bPd.far (by first|(simp;done)|(simp;omega)) _).far (by first|(simp;done)|(simp;omega)) _).far (by first|(simp;done)|(simp;omega)) _).far (by first|(simp;done)|(simp;omega)) _).cell 1,((((bPd.far (by first|(simp;done)|(simp;omega)) _).far (by first|(simp;done)|(simp;omega)) _).far (by first|(simp;done)|(simp;omega)) _).far (by first|(simp;done)|(simp;omega)) _).cell 2⟩|go_keep) (fun hHeld=>?_)
    clear hK K
    try simp only[Act.put,List.setIfInBounds_toArray,List.set_cons_zero,List.set_cons_succ]
    refine wpAnyH_done (by kernel_rfl) ?_ _
    go_wp2_with fail
    go_meet
    refine⟨w.heap.size+3,lA,lN,lC,rfl,by omega,by have:=oA.lt;first|omega|(simp[World.setCell];omega)|simpa [World.setCell] using this,?_,?_,Lib.hid neA,?_⟩
    ·have:=(((oA.abf 0 (.int .i64 kind)).abf 1 (.string name)).abf 2 (.slice lA lN lC)).abf 3 (.slice none 0 0)
     simpa using this
    ·iterate 4 (refine ao4 ?_ neA _)
     exact hown'
    ·iterate 4 (refine Below.setCell ?_ (by simp;omega) _)
     exact hb3
  case bpg=>
   go_simp
   refine hK.out _ _ (by first|exact⟨bPZ.cell 0,bPZ.cell 1,bPZ.cell 2⟩|go_keep) (fun hHeld=>?_)
   clear hK K
   try simp only[Act.put,List.setIfInBounds_toArray,List.set_cons_zero,List.set_cons_succ]
   refine wpAnyH_ready (rs:=[4]) (by kernel_rfl) (by simp) ?_
   refine AllReadyH.cons (o:=?o7) ?h7 (fun K hK=>?k7) AllReadyH.nil
   case h7=>
    simp only[List.getElem?_toArray,List.getElem?_cons_succ,List.getElem?_cons_zero];rfl
   go_simp
   refine hK.out _ _ (by first|exact⟨bdy.cell 0,bdy.cell 1,bdy.cell 2⟩|go_keep) (fun hHeld=>?_)
   clear hK K
   try simp only[Act.put,List.setIfInBounds_toArray,List.set_cons_zero,List.set_cons_succ]
   refine wpAnyH_ready (rs:=[7]) (by kernel_rfl) (by simp) ?_
   refine AllReadyH.cons (o:=?o8) ?h8 (fun K hK=>?k8) AllReadyH.nil
   case h8=>
    simp only[List.getElem?_toArray,List.getElem?_cons_succ,List.getElem?_cons_zero];rfl
   refine afn (by rfl) _ _ 22 (by rfl) w0.heap.size 9 s0 (.string {data:=#[]}) 1 16 Tryz.underlying22 hs hsz0 hsz1 hsz2 rfl (by omega) (.slice (some ⟨w.heap.size+3,0,none⟩) 0 0) 0 [] (by rfl) bdx (.slice jk gy je) labels.length (strs labels) (by rfl) (alf.out _ a2u) (alx _) (by simp only[maxLen];omega) (by omega) a2u.size ?_
   intro v' w3 hown' hgrow agq
   obtain⟨lA,lN,lC,rfl,hl1,_⟩:=(Own.ai7 hown').form
   rw[Nat.zero_add,List.nil_append] at hown'
   have hb3:Below w0.heap.size w0 w3:=a2u.grown hgrow a2u.size (fun g hg=>(bdx.lt g hg).1)
   have bPd:=bP.below hb3 hlP
   have oA:Blk w3 (w.heap.size+2) 60 #[.int .i64 0,.string {data:=#[]},.slice none 0 0,.slice none 0 0]:=(hgrow.block (w.heap.size+2) xA.lt (fun e=>h23 (Option.some.inj e))).trans xA
   have neA:(Value.slice lA lN lC).ownBlock≠some (w.heap.size+2):=fun e=>agq.elim (fun h=>h23 (Option.some.inj (e.symm.trans h))) (fun h=>bpb (Option.some.inj (e.symm.trans h)))
   have fA0:=oA.frozen 0
   have fA1:=oA.frozen 1
   have fA2:=oA.frozen 2
   have fA3:=oA.frozen 3
   have cA0:w3.cell? ⟨w.heap.size+2,0,none⟩=some (.int .i64 0):=oA.cell 0
   have cA1:w3.cell? ⟨w.heap.size+2,1,none⟩=some (.string {data:=#[]}):=oA.cell 1
   have cA2:w3.cell? ⟨w.heap.size+2,2,none⟩=some (.slice none 0 0):=oA.cell 2
   have cA3:w3.cell? ⟨w.heap.size+2,3,none⟩=some (.slice none 0 0):=oA.cell 3
   refine hK.out _ _ (by first|exact⟨bPd.cell 0,bPd.cell 1,bPd.cell 2⟩|go_keep) (fun hHeld=>?_)
   clear hK K
   try simp only[Act.put,List.setIfInBounds_toArray,List.set_cons_zero,List.set_cons_succ]
   refine wpAnyH_take (i:=8) (oi:=_) (v:=_) (by simp only[List.getElem?_toArray,List.getElem?_cons_succ,List.getElem?_cons_zero];rfl) (by kernel_rfl) (by kernel_rfl) (by kernel_rfl) (by exact fun _ _ _ h=>h) (Or.inl ⟨by rfl,by intro w hSw;(try dsimp only at hSw);go_simp;try with_reducible rfl⟩) (by assumption) ?_
   try simp only[Act.put,List.setIfInBounds_toArray,List.set_cons_zero,List.set_cons_succ]
   refine wpAnyH_ready (rs:=[10]) (by kernel_rfl) (by simp) ?_
   refine AllReadyH.cons (o:=?o9) ?h9 (fun K hK=>?k9) AllReadyH.nil
   case h9=>
    simp only[List.getElem?_toArray,List.getElem?_cons_succ,List.getElem?_cons_zero];rfl
   go_simp
   refine hK.out _ _ (by first|exact⟨((((bPd.far (by first|(simp;done)|(simp;omega)) _).far (by first|(simp;done)|(simp;omega)) _).far (by first|(simp;done)|(simp;omega)) _).far (by first|(simp;done)|(simp;omega)) _).cell 0,((((bPd.far (by first|(simp;done)|(simp;omega)) _).far (by first|(simp;done)|(simp;omega)) _).far (by first|(simp;done)|(simp;omega)) _).far (by first|(simp;done)|(simp;omega)) _).cell 1,((((bPd.far (by first|(simp;done)|(simp;omega)) _).far (by first|(simp;done)|(simp;omega)) _).far (by first|(simp;done)|(simp;omega)) _).far (by first|(simp;done)|(simp;omega)) _).cell 2⟩|go_keep) (fun hHeld=>?_)
   clear hK K
   try simp only[Act.put,List.setIfInBounds_toArray,List.set_cons_zero,List.set_cons_succ]
   refine wpAnyH_done (by kernel_rfl) ?_ _
   go_wp2_with fail
   go_meet
   refine⟨w.heap.size+2,lA,lN,lC,rfl,by omega,by have:=oA.lt;first|omega|(simp[World.setCell];omega)|simpa [World.setCell] using this,?_,?_,Lib.hid neA,?_⟩
   ·have:=(((oA.abf 0 (.int .i64 kind)).abf 1 (.string name)).abf 2 (.slice lA lN lC)).abf 3 (.slice none 0 0)
    simpa using this
   ·iterate 4 (refine ao4 ?_ neA _)
    exact hown'
   ·iterate 4 (refine Below.setCell ?_ (by simp;omega) _)
    exact hb3
 case rest=>
  obtain⟨b,lA,lN,lC,rfl,hb1,hb2,bO,hL,HNE,hBx⟩:=hcut
  have hlP:=bP.lt
  have hlR:=bR.lt
  have bP1:=bP.below hBx hlP
  have bR1:=bR.below hBx hlR
  have hBc:=hB0.trans (hBx.mono hB0.size)
  have HLT:Hid (∀ g,(Value.slice lA lN lC).ownBlock=some g→w0.heap.size≤g∧g < wc.heap.size):=fun g hg=>hL.lt g hg
  have hwc:=hBx.size
  clear bP bR alf hs hsz0 hsz1 hsz2 hBx
  go_wp2_with fail
  go_loopw [4] (fun i wr=>∃ (k:Nat) (u:Value) (cs:List Value) (F:List Nat),k≤n∧i=.int .i64 k∧Grow w wr wc.heap.size 60 4 k u ((kids.take k).flatMap Ty.pd) cs F∧Blk wr b 60 #[.int .i64 kind,.string name,.slice lA lN lC,u]∧Blk wr w.heap.size 60 #[.int .i64 kind,.string name,.slice jk gy je,.slice A n c]∧Blk wr (w.heap.size+1) 60 #[.int .i64 0,.string {data:=#[]},.slice none 0 0,.slice none 0 0]∧wr.ownsRow w0.heap.size 9 1 (.slice lA lN lC) labels.length (strs labels)) (fun i _=>n - (intOf i).toNat)
  case atStart=>exact⟨0,.slice none 0 0,[],[],Nat.zero_le _,rfl,Grow.none_ hBc,bO,bP1,bR1,hL⟩
  case round=>
   clear bO bP1 bR1 hL
   obtain⟨k,u,cs,F,hk,rfl,hG,bO,bP,bR,hL⟩:=hrel
   obtain⟨uA,uN,uC,rfl,_⟩:=(Own.ai7 hG.1).form
   have hbr:=hG.2.2.2.2.1
   have hlo:=hG.2.2.2.2.2.2
   have hsz:=hbr.size
   by_cases hlt:k < n
   ·have hat:=HAT.out
    obtain⟨g,off,rfl,hg2,hcell2⟩:=hat (by omega)
    obtain⟨t2,hx2,ac9⟩:=xg HN.out hlt
    obtain⟨kind2,name2,zh,abl⟩:=t2
    have aht:wr.cell? ⟨g,off+k * 4,none⟩=some (.int .i64 kind2):=gq hbr (by omega) (hcell2 k 0 _ _ hx2 (by rw[Ty.ay];rfl))
    have afe:wr.cell? ⟨g,off+k * 4+1,none⟩=some (.string name2):=gq hbr (by omega) (hcell2 k 1 _ _ hx2 (by rw[Ty.ay];rfl))
    obtain⟨ac0,ag3,ab2⟩:∃ u,wr.cell? ⟨g,off+k * 4+2,none⟩=some u∧Rep wr B (.row 1 (zh.flatMap tu)) u:=ku hbr (by omega) hB (hcell2 k 2 _ _ hx2 (by rw[Ty.ay];rfl))
    have ac2:=Lib.hid ab2
    clear ab2
    obtain⟨aeh,ah9,adr⟩:∃ u,wr.cell? ⟨g,off+k * 4+3,none⟩=some u∧Rep wr B (.row 4 (abl.flatMap Ty.pd)) u:=ku hbr (by omega) hB (hcell2 k 3 _ _ hx2 (by rw[Ty.ay];rfl))
    have aee:=Lib.hid adr
    clear adr
    obtain⟨aei,aej,aek,rfl⟩:=ac2.out.form
    obtain⟨aft,afu,afv,rfl⟩:=aee.out.form
    have HX2:=Lib.hid hx2
    have HM2:=Lib.hid ac9
    clear hx2 ac9
    clear hcell2
    have HL2:=Lib.hid (ahr (f:=Ty.pd) HX2.out)
    clear hat HAT
    have hcall:=fun(W:World) (hW:Below wr.heap.size wr W)=>HI.out _ HM2.out B [.int .i64 kind2,.string name2,.slice aei aej aek,.slice aft afu afv] W (Nat.le_trans hB (Nat.le_trans hbr.size hW.size)) (by have:=HS.out;have:=HL2.out;omega) (Ty.close_ (ac2.out.below (hW.mono (Nat.le_trans hB hbr.size))) (aee.out.below (hW.mono (Nat.le_trans hB hbr.size))))
    have HC:=Lib.hid hcall
    clear hcall
    have hgB:g < w.heap.size:=by omega
    have KC:Hid (∀ W:World,(∀ i,i < w.heap.size+2→W.heap[i]?=wr.heap[i]?)→W.cell? ⟨w.heap.size,3,none⟩=some (.slice (some ⟨g,off,none⟩) n c)∧W.cell? ⟨g,off+k * 4,none⟩=some (.int .i64 kind2)∧W.cell? ⟨g,off+k * 4+1,none⟩=some (.string name2)∧W.cell? ⟨g,off+k * 4+2,none⟩=some (.slice aei aej aek)∧W.cell? ⟨g,off+k * 4+3,none⟩=some (.slice aft afu afv)):=fun W hW=>⟨(World.cell?_of_block (hW w.heap.size (by omega))).trans (bP.cell 3),(World.cell?_of_block (hW g (by omega))).trans aht,(World.cell?_of_block (hW g (by omega))).trans afe,(World.cell?_of_block (hW g (by omega))).trans ag3,(World.cell?_of_block (hW g (by omega))).trans ah9⟩
    have hbD:Below wr.heap.size wr wr.drew:=(Below.refl _ _).drew
    have eD:∀ i,i < w.heap.size+2→wr.drew.heap[i]?=wr.heap[i]?:=fun i hi=>rfl
    have o3:wr.drew.cell? ⟨b,3,none⟩=some (.slice uA uN uC):=bO.drew.cell 3
    have o3':wr.cell? ⟨b,3,none⟩=some (.slice uA uN uC):=bO.cell 3
    have p3:wr.cell? ⟨w.heap.size,3,none⟩=some (.slice (some ⟨g,off,none⟩) n c):=bP.cell 3
    have hk0:(0:Int)≤(k:Int):=by omega
    have hkn:(k:Int) < (n:Int):=by omega
    have HG:=Lib.hid hG
    have HB4:=Lib.hid bP
    have HB5:=Lib.hid bR
    have HLL:=Lib.hid hL
    clear hG bP bR hL aht afe ag3 ah9
    go_wp2_with fail
    refine wp_region_held_drew (S:=(fun w'=>w'.cell? ⟨w.heap.size,3,none⟩=some (.slice (some ⟨g,off,none⟩) n c)∧w'.cell? ⟨g,off+k * 4,none⟩=some (.int .i64 kind2)∧w'.cell? ⟨g,off+k * 4+1,none⟩=some (.string name2)∧w'.cell? ⟨g,off+k * 4+2,none⟩=some (.slice aei aej aek)∧w'.cell? ⟨g,off+k * 4+3,none⟩=some (.slice aft afu afv))) (by kernel_rfl) (KC.out _ eD) (fun hHeld=>?_)
    refine wpAnyH_take (i:=0) (oi:=_) (v:=_) (by simp only[List.getElem?_toArray,List.getElem?_cons_succ,List.getElem?_cons_zero];rfl) (by kernel_rfl) (by kernel_rfl) (by kernel_rfl) (by exact fun _ _ _ h=>h) (Or.inl ⟨by rfl,by intro w hSw;(try dsimp only at hSw);go_simp;try with_reducible rfl⟩) (by assumption) ?_
    try simp only[Act.put,List.setIfInBounds_toArray,List.set_cons_zero,List.set_cons_succ]
    refine wpAnyH_take (i:=2) (oi:=_) (v:=_) (by simp only[List.getElem?_toArray,List.getElem?_cons_succ,List.getElem?_cons_zero];rfl) (by kernel_rfl) (by kernel_rfl) (by kernel_rfl) (by exact fun _ _ _ h=>h) (Or.inl ⟨by rfl,by intro w hSw;(try dsimp only at hSw);go_simp;try with_reducible rfl⟩) (by assumption) ?_
    try simp only[Act.put,List.setIfInBounds_toArray,List.set_cons_zero,List.set_cons_succ]
    refine wpAnyH_take (i:=3) (oi:=_) (v:=_) (by simp only[List.getElem?_toArray,List.getElem?_cons_succ,List.getElem?_cons_zero];rfl) (by kernel_rfl) (by kernel_rfl) (by kernel_rfl) (by exact fun _ _ _ h=>h) (Or.inl ⟨by rfl,by intro w hSw;(try dsimp only at hSw);go_simp;try with_reducible rfl⟩) (by assumption) ?_
    try simp only[Act.put,List.setIfInBounds_toArray,List.set_cons_zero,List.set_cons_succ]
    refine wpAnyH_take (i:=4) (oi:=_) (v:=_) (by simp only[List.getElem?_toArray,List.getElem?_cons_succ,List.getElem?_cons_zero];rfl) (by kernel_rfl) (by kernel_rfl) (by kernel_rfl) (by exact fun _ _ _ h=>h) (Or.inl ⟨by rfl,by intro w hSw;(try dsimp only at hSw);go_simp;try with_reducible rfl⟩) (by assumption) ?_
    try simp only[Act.put,List.setIfInBounds_toArray,List.set_cons_zero,List.set_cons_succ]
    refine wpAnyH_take (i:=5) (oi:=_) (v:=_) (by simp only[List.getElem?_toArray,List.getElem?_cons_succ,List.getElem?_cons_zero];rfl) (by kernel_rfl) (by kernel_rfl) (by kernel_rfl) (by exact fun _ _ _ h=>h) (Or.inl ⟨by rfl,by intro w hSw;(try dsimp only at hSw);go_simp;try with_reducible rfl⟩) (by assumption) ?_
    try simp only[Act.put,List.setIfInBounds_toArray,List.set_cons_zero,List.set_cons_succ]
    refine wpAnyH_take (i:=6) (oi:=_) (v:=_) (by simp only[List.getElem?_toArray,List.getElem?_cons_succ,List.getElem?_cons_zero];rfl) (by kernel_rfl) (by kernel_rfl) (by kernel_rfl) (by exact fun _ _ _ h=>h) (Or.inl ⟨by rfl,by intro w hSw;(try dsimp only at hSw);go_simp;try with_reducible rfl⟩) (by assumption) ?_
    try simp only[Act.put,List.setIfInBounds_toArray,List.set_cons_zero,List.set_cons_succ]
    refine wpAnyH_ready (rs:=[1,7]) (by kernel_rfl) (by simp) ?_
    refine AllReadyH.cons (o:=?buz) ?bmw (fun K hK=>?bmx) (AllReadyH.cons (o:=?bu0) ?bmy (fun K hK=>?bmz) AllReadyH.nil)
    case bmw=>
     simp only[List.getElem?_toArray,List.getElem?_cons_succ,List.getElem?_cons_zero];rfl
    case bmy=>
     simp only[List.getElem?_toArray,List.getElem?_cons_succ,List.getElem?_cons_zero];rfl
    case bmx=>
     go_simp
     refine hK.out _ _ (by first|exact(KC.out _ eD)|go_keep) (fun hHeld=>?_)
     clear hK K
     try simp only[Act.put,List.setIfInBounds_toArray,List.set_cons_zero,List.set_cons_succ]
     refine wpAnyH_ready (rs:=[7]) (by kernel_rfl) (by simp) ?_
     refine AllReadyH.cons (o:=?o11) ?h11 (fun K hK=>?k11) AllReadyH.nil
     case h11=>
      simp only[List.getElem?_toArray,List.getElem?_cons_succ,List.getElem?_cons_zero];rfl
     go_simp
     go_at_call 125
     refine(HC.out _ hbD).mono ?_
     rintro e wq ⟨us,rfl,hl,aoe⟩
     obtain⟨lA2,lN2,lC2,kA2,kN2,kC2,rfl⟩:=Ty.afp hl
     obtain⟨F2,hh,hi2,_⟩:=hl
     have hi3:In F2 wr.heap.size wq.heap.size:=hi2
     have HH:=Lib.hid hh
     have hbq:Below wr.heap.size wr wq:=hbD.trans aoe
     have eQ:∀ i,i < w.heap.size+2→wq.heap[i]?=wr.heap[i]?:=fun i hi=>hbq.block i (by omega)
     have oQ:=bO.step hbq
     have o3q:wq.cell? ⟨b,3,none⟩=some (.slice uA uN uC):=oQ.cell 3
     have oA:=oQ.alloc (.cells #[.int .i64 kind2,.string name2,.slice lA2 lN2 lC2,.slice kA2 kN2 kC2] 60)
     have o3a:(wq.alloc (.cells #[.int .i64 kind2,.string name2,.slice lA2 lN2 lC2,.slice kA2 kN2 kC2] 60)).cell? ⟨b,3,none⟩=some (.slice uA uN uC):=oA.cell 3
     have eA:∀ i,i < w.heap.size+2→(wq.alloc (.cells #[.int .i64 kind2,.string name2,.slice lA2 lN2 lC2,.slice kA2 kN2 kC2] 60)).heap[i]?=wr.heap[i]?:=fun i hi=>(Below.heap_alloc wq _ i (by have:=hbq.size;omega)).trans (eQ i hi)
     clear hh hi2
     try go_wp2_with fail
     refine hK.out _ _ (by first|exact(KC.out _ eQ)|go_keep) (fun hHeld=>?_)
     clear hK K
     try simp only[Act.put,List.setIfInBounds_toArray,List.set_cons_zero,List.set_cons_succ]
     refine wpAnyH_ready (rs:=[8]) (by kernel_rfl) (by simp) ?_
     refine AllReadyH.cons (o:=?o12) ?h12 (fun K hK=>?k12) AllReadyH.nil
     case h12=>
      simp only[List.getElem?_toArray,List.getElem?_cons_succ,List.getElem?_cons_zero];rfl
     go_simp
     refine hK.out _ _ (by first|exact(KC.out _ eA)|go_keep) (fun hHeld=>?_)
     clear hK K
     try simp only[Act.put,List.setIfInBounds_toArray,List.set_cons_zero,List.set_cons_succ]
     refine wpAnyH_ready (rs:=[9]) (by kernel_rfl) (by simp) ?_
     refine AllReadyH.cons (o:=?o13) ?h13 (fun K hK=>?k13) AllReadyH.nil
     case h13=>
      simp only[List.getElem?_toArray,List.getElem?_cons_succ,List.getElem?_cons_zero];rfl
     refine afn (by rfl) _ _ 58 (by rfl) wc.heap.size 60 i0 (.agg #[.int .i64 0,.string {data:=#[]},.slice none 0 0,.slice none 0 0]) 4 72 Tryz.underlying58 hi hz0 hz1 hz2 rfl (by decide) (.slice uA uN uC) k cs (by rfl) (((HG.out.step hbq).1).alloc _) (.slice (some ⟨wq.heap.size,0,none⟩) 1 1) 1 [.int .i64 kind2,.string name2,.slice lA2 lN2 lC2,.slice kA2 kN2 kC2] (by rfl) (.inr ⟨⟨wq.heap.size,0,none⟩,1,rfl,rfl,World.news_of_block (heap_alloc_new wq _)⟩) (av3 _ _ _ _ _ _ _ _) (by simp only[maxLen];omega) (by omega) (by have:=hbq.size;simp;omega) ?_
     intro v' w3 hown' hgrow agq
     obtain⟨vA,vN,vC,rfl,_⟩:=(Own.ai7 hown').form
     have HG2:=Lib.hid (HG.out.next hbq HH.out hi3 ((Below.refl _ _).alloc (Nat.le_refl _) _) hown' hgrow agq)
     have hrow:∀ i,i < wc.heap.size→some i≠(Value.slice uA uN uC).ownBlock:=fun i hi e=>by have:=(HG.out.1.lt _ e.symm).1;omega
     have oW:Blk w3 b 60 #[.int .i64 kind,.string name,.slice lA lN lC,.slice uA uN uC]:=(hgrow.block b oA.lt (hrow b hb2)).trans oA
     have e3:∀ i,i < w.heap.size+2→w3.heap[i]?=wr.heap[i]?:=fun i hi=>(hgrow.block i (by have:=hbq.size;simp;omega) (hrow i (by omega))).trans (eA i hi)
     have hL3:=Lib.hid (atf ((af8 HLL.out hbq).alloc (.cells #[.int .i64 kind2,.string name2,.slice lA2 lN2 lC2,.slice kA2 kN2 kC2] 60)) hgrow (fun g' hg' e=>hrow g' (HLT.out g' hg').2 e.symm))
     have eS:∀ i,i < w.heap.size+2→(w3.setCell ⟨b,3,none⟩ (.slice vA vN vC)).heap[i]?=wr.heap[i]?:=fun i hi=>(Below.heap_setCell w3 ⟨b,3,none⟩ (.slice vA vN vC) i (by show i≠b;omega)).trans (e3 i hi)
     have fO:=oW.frozen 3
     have cO:w3.cell? ⟨b,3,none⟩=some (.slice uA uN uC):=oW.cell 3
     clear hown' hgrow agq hrow
     refine hK.out _ _ (by first|exact(KC.out _ e3)|go_keep) (fun hHeld=>?_)
     clear hK K
     try simp only[Act.put,List.setIfInBounds_toArray,List.set_cons_zero,List.set_cons_succ]
     refine wpAnyH_take (i:=10) (oi:=_) (v:=_) (by simp only[List.getElem?_toArray,List.getElem?_cons_succ,List.getElem?_cons_zero];rfl) (by kernel_rfl) (by kernel_rfl) (by kernel_rfl) (by exact fun _ _ _ h=>h) (Or.inl ⟨by rfl,by intro w hSw;(try dsimp only at hSw);go_simp;try with_reducible rfl⟩) (by assumption) ?_
     try simp only[Act.put,List.setIfInBounds_toArray,List.set_cons_zero,List.set_cons_succ]
     refine wpAnyH_ready (rs:=[11]) (by kernel_rfl) (by simp) ?_
     refine AllReadyH.cons (o:=?o14) ?h14 (fun K hK=>?k14) AllReadyH.nil
     case h14=>
      simp only[List.getElem?_toArray,List.getElem?_cons_succ,List.getElem?_cons_zero];rfl
     go_simp
     refine hK.out _ _ (by first|exact(KC.out _ eS)|go_keep) (fun hHeld=>?_)
     clear hK K
     try simp only[Act.put,List.setIfInBounds_toArray,List.set_cons_zero,List.set_cons_succ]
     refine wpAnyH_done (by kernel_rfl) ?_ _
     go_wp2_with fail
     go_roundw
     case rel=>exact⟨k+1,.slice vA vN vC,_,_,by omega,by go_num,by rw[List.take_add_one,HX2.out,List.flatMap_append,ais];exact HG2.out.set (p:=⟨b,3,none⟩) hb2 (by show w.heap.size≤b;omega) _,by have:=oW.abf 3 (.slice vA vN vC);simpa using this,(eS w.heap.size (by omega)).trans HB4.out,(eS (w.heap.size+1) (by omega)).trans HB5.out,ao4 hL3.out (p:=⟨b,3,none⟩) HNE.out _⟩
     case measure=>simp[intOf];omega
    case bmz=>
     go_simp
     go_at_call 125
     refine(HC.out _ hbD).mono ?_
     rintro e wq ⟨us,rfl,hl,aoe⟩
     obtain⟨lA2,lN2,lC2,kA2,kN2,kC2,rfl⟩:=Ty.afp hl
     obtain⟨F2,hh,hi2,_⟩:=hl
     have hi3:In F2 wr.heap.size wq.heap.size:=hi2
     have HH:=Lib.hid hh
     have hbq:Below wr.heap.size wr wq:=hbD.trans aoe
     have eQ:∀ i,i < w.heap.size+2→wq.heap[i]?=wr.heap[i]?:=fun i hi=>hbq.block i (by omega)
     have oQ:=bO.step hbq
     have o3q:wq.cell? ⟨b,3,none⟩=some (.slice uA uN uC):=oQ.cell 3
     have oA:=oQ.alloc (.cells #[.int .i64 kind2,.string name2,.slice lA2 lN2 lC2,.slice kA2 kN2 kC2] 60)
     have o3a:(wq.alloc (.cells #[.int .i64 kind2,.string name2,.slice lA2 lN2 lC2,.slice kA2 kN2 kC2] 60)).cell? ⟨b,3,none⟩=some (.slice uA uN uC):=oA.cell 3
     have eA:∀ i,i < w.heap.size+2→(wq.alloc (.cells #[.int .i64 kind2,.string name2,.slice lA2 lN2 lC2,.slice kA2 kN2 kC2] 60)).heap[i]?=wr.heap[i]?:=fun i hi=>(Below.heap_alloc wq _ i (by have:=hbq.size;omega)).trans (eQ i hi)
     clear hh hi2
     try go_wp2_with fail
     refine hK.out _ _ (by first|exact(KC.out _ eQ)|go_keep) (fun hHeld=>?_)
     clear hK K
     try simp only[Act.put,List.setIfInBounds_toArray,List.set_cons_zero,List.set_cons_succ]
     refine wpAnyH_ready (rs:=[1,8]) (by kernel_rfl) (by simp) ?_
     refine AllReadyH.cons (o:=?bu1) ?bm0 (fun K hK=>?bm1) (AllReadyH.cons (o:=?bu2) ?bm2 (fun K hK=>?bm3) AllReadyH.nil)
     case bm0=>
      simp only[List.getElem?_toArray,List.getElem?_cons_succ,List.getElem?_cons_zero];rfl
     case bm2=>
      simp only[List.getElem?_toArray,List.getElem?_cons_succ,List.getElem?_cons_zero];rfl
     case bm1=>
      go_simp
      refine hK.out _ _ (by first|exact(KC.out _ eQ)|go_keep) (fun hHeld=>?_)
      clear hK K
      try simp only[Act.put,List.setIfInBounds_toArray,List.set_cons_zero,List.set_cons_succ]
      refine wpAnyH_ready (rs:=[8]) (by kernel_rfl) (by simp) ?_
      refine AllReadyH.cons (o:=?o16) ?h16 (fun K hK=>?k16) AllReadyH.nil
      case h16=>
       simp only[List.getElem?_toArray,List.getElem?_cons_succ,List.getElem?_cons_zero];rfl
      go_simp
      refine hK.out _ _ (by first|exact(KC.out _ eA)|go_keep) (fun hHeld=>?_)
      clear hK K
      try simp only[Act.put,List.setIfInBounds_toArray,List.set_cons_zero,List.set_cons_succ]
      refine wpAnyH_ready (rs:=[9]) (by kernel_rfl) (by simp) ?_
      refine AllReadyH.cons (o:=?o17) ?h17 (fun K hK=>?k17) AllReadyH.nil
      case h17=>
       simp only[List.getElem?_toArray,List.getElem?_cons_succ,List.getElem?_cons_zero];rfl
      refine afn (by rfl) _ _ 58 (by rfl) wc.heap.size 60 i0 (.agg #[.int .i64 0,.string {data:=#[]},.slice none 0 0,.slice none 0 0]) 4 72 Tryz.underlying58 hi hz0 hz1 hz2 rfl (by decide) (.slice uA uN uC) k cs (by rfl) (((HG.out.step hbq).1).alloc _) (.slice (some ⟨wq.heap.size,0,none⟩) 1 1) 1 [.int .i64 kind2,.string name2,.slice lA2 lN2 lC2,.slice kA2 kN2 kC2] (by rfl) (.inr ⟨⟨wq.heap.size,0,none⟩,1,rfl,rfl,World.news_of_block (heap_alloc_new wq _)⟩) (av3 _ _ _ _ _ _ _ _) (by simp only[maxLen];omega) (by omega) (by have:=hbq.size;simp;omega) ?_
      intro v' w3 hown' hgrow agq
      obtain⟨vA,vN,vC,rfl,_⟩:=(Own.ai7 hown').form
      have HG2:=Lib.hid (HG.out.next hbq HH.out hi3 ((Below.refl _ _).alloc (Nat.le_refl _) _) hown' hgrow agq)
      have hrow:∀ i,i < wc.heap.size→some i≠(Value.slice uA uN uC).ownBlock:=fun i hi e=>by have:=(HG.out.1.lt _ e.symm).1;omega
      have oW:Blk w3 b 60 #[.int .i64 kind,.string name,.slice lA lN lC,.slice uA uN uC]:=(hgrow.block b oA.lt (hrow b hb2)).trans oA
      have e3:∀ i,i < w.heap.size+2→w3.heap[i]?=wr.heap[i]?:=fun i hi=>(hgrow.block i (by have:=hbq.size;simp;omega) (hrow i (by omega))).trans (eA i hi)
      have hL3:=Lib.hid (atf ((af8 HLL.out hbq).alloc (.cells #[.int .i64 kind2,.string name2,.slice lA2 lN2 lC2,.slice kA2 kN2 kC2] 60)) hgrow (fun g' hg' e=>hrow g' (HLT.out g' hg').2 e.symm))
      have eS:∀ i,i < w.heap.size+2→(w3.setCell ⟨b,3,none⟩ (.slice vA vN vC)).heap[i]?=wr.heap[i]?:=fun i hi=>(Below.heap_setCell w3 ⟨b,3,none⟩ (.slice vA vN vC) i (by show i≠b;omega)).trans (e3 i hi)
      have fO:=oW.frozen 3
      have cO:w3.cell? ⟨b,3,none⟩=some (.slice uA uN uC):=oW.cell 3
      clear hown' hgrow agq hrow
      refine hK.out _ _ (by first|exact(KC.out _ e3)|go_keep) (fun hHeld=>?_)
      clear hK K
      try simp only[Act.put,List.setIfInBounds_toArray,List.set_cons_zero,List.set_cons_succ]
      refine wpAnyH_take (i:=10) (oi:=_) (v:=_) (by simp only[List.getElem?_toArray,List.getElem?_cons_succ,List.getElem?_cons_zero];rfl) (by kernel_rfl) (by kernel_rfl) (by kernel_rfl) (by exact fun _ _ _ h=>h) (Or.inl ⟨by rfl,by intro w hSw;(try dsimp only at hSw);go_simp;try with_reducible rfl⟩) (by assumption) ?_
      try simp only[Act.put,List.setIfInBounds_toArray,List.set_cons_zero,List.set_cons_succ]
      refine wpAnyH_ready (rs:=[11]) (by kernel_rfl) (by simp) ?_
      refine AllReadyH.cons (o:=?o18) ?h18 (fun K hK=>?k18) AllReadyH.nil
      case h18=>
       simp only[List.getElem?_toArray,List.getElem?_cons_succ,List.getElem?_cons_zero];rfl
      go_simp
      refine hK.out _ _ (by first|exact(KC.out _ eS)|go_keep) (fun hHeld=>?_)
      clear hK K
      try simp only[Act.put,List.setIfInBounds_toArray,List.set_cons_zero,List.set_cons_succ]
      refine wpAnyH_done (by kernel_rfl) ?_ _
      go_wp2_with fail
      go_roundw
      case rel=>exact⟨k+1,.slice vA vN vC,_,_,by omega,by go_num,by rw[List.take_add_one,HX2.out,List.flatMap_append,ais];exact HG2.out.set (p:=⟨b,3,none⟩) hb2 (by show w.heap.size≤b;omega) _,by have:=oW.abf 3 (.slice vA vN vC);simpa using this,(eS w.heap.size (by omega)).trans HB4.out,(eS (w.heap.size+1) (by omega)).trans HB5.out,ao4 hL3.out (p:=⟨b,3,none⟩) HNE.out _⟩
      case measure=>simp[intOf];omega
     case bm3=>
      go_simp
      refine hK.out _ _ (by first|exact(KC.out _ eA)|go_keep) (fun hHeld=>?_)
      clear hK K
      try simp only[Act.put,List.setIfInBounds_toArray,List.set_cons_zero,List.set_cons_succ]
      refine wpAnyH_ready (rs:=[1]) (by kernel_rfl) (by simp) ?_
      refine AllReadyH.cons (o:=?o19) ?h19 (fun K hK=>?k19) AllReadyH.nil
      case h19=>
       simp only[List.getElem?_toArray,List.getElem?_cons_succ,List.getElem?_cons_zero];rfl
      go_simp
      refine hK.out _ _ (by first|exact(KC.out _ eA)|go_keep) (fun hHeld=>?_)
      clear hK K
      try simp only[Act.put,List.setIfInBounds_toArray,List.set_cons_zero,List.set_cons_succ]
      refine wpAnyH_ready (rs:=[9]) (by kernel_rfl) (by simp) ?_
      refine AllReadyH.cons (o:=?o20) ?h20 (fun K hK=>?k20) AllReadyH.nil
      case h20=>
       simp only[List.getElem?_toArray,List.getElem?_cons_succ,List.getElem?_cons_zero];rfl
      refine afn (by rfl) _ _ 58 (by rfl) wc.heap.size 60 i0 (.agg #[.int .i64 0,.string {data:=#[]},.slice none 0 0,.slice none 0 0]) 4 72 Tryz.underlying58 hi hz0 hz1 hz2 rfl (by decide) (.slice uA uN uC) k cs (by rfl) (((HG.out.step hbq).1).alloc _) (.slice (some ⟨wq.heap.size,0,none⟩) 1 1) 1 [.int .i64 kind2,.string name2,.slice lA2 lN2 lC2,.slice kA2 kN2 kC2] (by rfl) (.inr ⟨⟨wq.heap.size,0,none⟩,1,rfl,rfl,World.news_of_block (heap_alloc_new wq _)⟩) (av3 _ _ _ _ _ _ _ _) (by simp only[maxLen];omega) (by omega) (by have:=hbq.size;simp;omega) ?_
      intro v' w3 hown' hgrow agq
      obtain⟨vA,vN,vC,rfl,_⟩:=(Own.ai7 hown').form
      have HG2:=Lib.hid (HG.out.next hbq HH.out hi3 ((Below.refl _ _).alloc (Nat.le_refl _) _) hown' hgrow agq)
      have hrow:∀ i,i < wc.heap.size→some i≠(Value.slice uA uN uC).ownBlock:=fun i hi e=>by have:=(HG.out.1.lt _ e.symm).1;omega
      have oW:Blk w3 b 60 #[.int .i64 kind,.string name,.slice lA lN lC,.slice uA uN uC]:=(hgrow.block b oA.lt (hrow b hb2)).trans oA
      have e3:∀ i,i < w.heap.size+2→w3.heap[i]?=wr.heap[i]?:=fun i hi=>(hgrow.block i (by have:=hbq.size;simp;omega) (hrow i (by omega))).trans (eA i hi)
      have hL3:=Lib.hid (atf ((af8 HLL.out hbq).alloc (.cells #[.int .i64 kind2,.string name2,.slice lA2 lN2 lC2,.slice kA2 kN2 kC2] 60)) hgrow (fun g' hg' e=>hrow g' (HLT.out g' hg').2 e.symm))
      have eS:∀ i,i < w.heap.size+2→(w3.setCell ⟨b,3,none⟩ (.slice vA vN vC)).heap[i]?=wr.heap[i]?:=fun i hi=>(Below.heap_setCell w3 ⟨b,3,none⟩ (.slice vA vN vC) i (by show i≠b;omega)).trans (e3 i hi)
      have fO:=oW.frozen 3
      have cO:w3.cell? ⟨b,3,none⟩=some (.slice uA uN uC):=oW.cell 3
      clear hown' hgrow agq hrow
      refine hK.out _ _ (by first|exact(KC.out _ e3)|go_keep) (fun hHeld=>?_)
      clear hK K
      try simp only[Act.put,List.setIfInBounds_toArray,List.set_cons_zero,List.set_cons_succ]
      refine wpAnyH_take (i:=10) (oi:=_) (v:=_) (by simp only[List.getElem?_toArray,List.getElem?_cons_succ,List.getElem?_cons_zero];rfl) (by kernel_rfl) (by kernel_rfl) (by kernel_rfl) (by exact fun _ _ _ h=>h) (Or.inl ⟨by rfl,by intro w hSw;(try dsimp only at hSw);go_simp;try with_reducible rfl⟩) (by assumption) ?_
      try simp only[Act.put,List.setIfInBounds_toArray,List.set_cons_zero,List.set_cons_succ]
      refine wpAnyH_ready (rs:=[11]) (by kernel_rfl) (by simp) ?_
      refine AllReadyH.cons (o:=?o21) ?h21 (fun K hK=>?k21) AllReadyH.nil
      case h21=>
       simp only[List.getElem?_toArray,List.getElem?_cons_succ,List.getElem?_cons_zero];rfl
      go_simp
      refine hK.out _ _ (by first|exact(KC.out _ eS)|go_keep) (fun hHeld=>?_)
      clear hK K
      try simp only[Act.put,List.setIfInBounds_toArray,List.set_cons_zero,List.set_cons_succ]
      refine wpAnyH_done (by kernel_rfl) ?_ _
      go_wp2_with fail
      go_roundw
      case rel=>exact⟨k+1,.slice vA vN vC,_,_,by omega,by go_num,by rw[List.take_add_one,HX2.out,List.flatMap_append,ais];exact HG2.out.set (p:=⟨b,3,none⟩) hb2 (by show w.heap.size≤b;omega) _,by have:=oW.abf 3 (.slice vA vN vC);simpa using this,(eS w.heap.size (by omega)).trans HB4.out,(eS (w.heap.size+1) (by omega)).trans HB5.out,ao4 hL3.out (p:=⟨b,3,none⟩) HNE.out _⟩
      case measure=>simp[intOf];omega
   ·have hkn:k=n:=by omega
    have HT:Hid (kids.take k=kids):=List.take_of_length_le (by have:=HN.out;omega)
    have hfin:=hG.done
    rw[HT.out] at hfin
    have LK:=Lib.hid hfin
    have LL:=Lib.hid (a8k hL (hi:=wc.heap.size) (fun g hg=>(HLT.out g hg).2) hlo)
    have cO0:wr.cell? ⟨b,0,none⟩=some (.int .i64 kind):=bO.cell 0
    have cO1:wr.cell? ⟨b,1,none⟩=some (.string name):=bO.cell 1
    have cO2:wr.cell? ⟨b,2,none⟩=some (.slice lA lN lC):=bO.cell 2
    have cO3:wr.cell? ⟨b,3,none⟩=some (.slice uA uN uC):=bO.cell 3
    have p3:wr.cell? ⟨w.heap.size,3,none⟩=some (.slice A n c):=bP.cell 3
    have fR0:=bR.frozen 0
    have fR1:=bR.frozen 1
    have fR2:=bR.frozen 2
    have fR3:=bR.frozen 3
    have cR0:wr.cell? ⟨w.heap.size+1,0,none⟩=some (.int .i64 0):=bR.cell 0
    have cR1:wr.cell? ⟨w.heap.size+1,1,none⟩=some (.string {data:=#[]}):=bR.cell 1
    have cR2:wr.cell? ⟨w.heap.size+1,2,none⟩=some (.slice none 0 0):=bR.cell 2
    have cR3:wr.cell? ⟨w.heap.size+1,3,none⟩=some (.slice none 0 0):=bR.cell 3
    clear hG hfin hL HAT bO bP
    go_wp2_with fail
    refine bodyPost_ret (v:=.agg #[.int .i64 kind,.string name,.slice lA lN lC,.slice uA uN uC]) (by simp[results,Tryz.results125,go_sem,cR0,cR1,cR2,cR3]) rfl ⟨[.int .i64 kind,.string name,.slice lA lN lC,.slice uA uN uC],rfl,?_,?_⟩
    ·have base:=LvC.lit (LvC.lit (LvC.bmv (lo:=w0.heap.size) (hi:=wr.heap.size) LL.out LK.out (.inl (Nat.le_refl _)) (Nat.le_refl _) (by omega) (by omega) (Nat.le_refl _) (Nat.le_refl _)) (.string name)) (.int .i64 kind)
     rw[Ty.ay]
     refine LvC.low (lo2:=w0.heap.size) ?_ (by omega)
     refine LvC.more (hi:=wr.heap.size) ?_ (Nat.le_refl _) (by simp[World.setCell]) (Nat.le_refl _)
     iterate 4 (refine LvC.setCell ?_ (.inl (by show w.heap.size+1 < w0.heap.size;omega)) _)
     exact base
    ·iterate 4 (refine Below.setCell ?_ (by simp;try omega) _)
     exact hbr
mutual
theorem ays:∀ t:Ty,ToC 125 (Ty.pd t)
 | .mk kind name labels kids=>bdw (a6l kids)
theorem a6l:∀ ts:List Ty,∀ t ∈ ts,ToC 125 (Ty.pd t)
 | [],x,hx=>absurd hx (by simp)
 | t ::r,x,hx=>(List.mem_cons.1 hx).elim (fun e=>e ▸ ays t) (fun h=>a6l r x h)
end
end Go.Proofs.YtbafphecjijdmaaGreatDoor
