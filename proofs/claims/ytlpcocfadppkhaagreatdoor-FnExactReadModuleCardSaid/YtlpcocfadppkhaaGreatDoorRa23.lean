/-
  slices.Sorted(slices.Values(names)) at []string: a new slice that holds the names, sorted. impl.distinct.
  The program's well-formed modules: coreOk, wordsOk.
-/
import Derived.Test.YtlpcocfadppkhaaGreatDoorRa22
import Derived.RangeFuncBox
import Derived.RangeFuncIn
import Derived.DefersIn
import Derived.RangeFuncLeaves
import Derived.RangeFuncWrites
import Derived.RangeFuncFrom
import Derived.RangeFuncKeeps
import Derived.Shelf.Abstract
import Derived.WalkKit
import Derived.OwnWalkIn
import Derived.TacticsInMore
import Derived.LoopNIn
import Derived.LoopIn
import Derived.Shelf.SortM.Plain
import Derived.Shelf.SortM.SortNone
import Derived.Sort.OwnSorted
import Derived.Shelf.Slices.CompactS
import Derived.Test.YtlpcocfadppkhaaGreatDoorRa08
import Derived.Test.YtlpcocfadppkhaaGreatDoorRa13
import Derived.Test.YtlpcocfadppkhaaGreatDoorRa10
namespace Go.Proofs.YtlpcocfadppkhaaGreatDoor
open Go.RowKit Go.Shelf Go.Sort
set_option linter.unusedVariables false
set_option linter.unusedSimpArgs false
set_option linter.unnecessarySimpa false
attribute [local go_sem] Oper.semAt_some
set_option maxRecDepth 100000 in
set_option maxHeartbeats 2000000 in
theorem auc (n:Nat) (hn:1≤n) (l Bs n₀ b off len cap:Nat) (zs:List ByteArray) (hlen:len=zs.length) (hm:len≤9223372036854775807) (hb:b < n₀) (J Jx:List ByteArray→World→Prop)
  (hY:∀ pre x W,J pre W→pre.length < len→YieldAt Fence.wide (n - 1) Tryz.prog l #[.string x] W fun e W'=>
   (e=.returned (.bool true)∧J (pre ++[x]) W'∧Below n₀ W W')∨(e=.returned (.bool false)∧Jx (pre ++[x]) W'))
  (W:World) (hBs:W.cell? ⟨Bs,0,none⟩=some (.slice (some ⟨b,off,none⟩) len cap)) (hc:∀ j x,zs[j]?=some x→W.cell? ⟨b,off+j,none⟩=some (.string x)) (h0:J [] W):
  CallsIn Fence.wide n Tryz.prog 126 #[.func (.yield l) #[] #[],.pointer (some ⟨Bs,0,none⟩)] W fun e W'=>(∃ v,e=.returned v)∧
   ((∃ ys,ys=zs∧J ys W')∨(∃ pre,pre <+:zs∧Jx pre W')):=by
 have HL:=Lib.hid hlen
 have HC:=Lib.hid hc
 clear hlen hc
 refine callsIn_of_wp Tryz.func126 rfl trivial ?_ rfl
 simp only[Tryz.ntmps126,List.size_toArray,List.length_cons,List.length_nil,Nat.reduceAdd,Nat.reduceSub,Array.replicate_succ,Array.replicate_zero,List.push_toArray,List.append_toArray,List.nil_append,List.cons_append]
 gi_wp2
 gi_loopw [7] (fun i wr=>∃ k:Nat,k≤len∧i=.int .i64 k∧J (zs.take k) wr∧Below n₀ W wr) (fun i _=>len - (intOf i).toNat)
 case atStart=>exact⟨0,Nat.zero_le _,rfl,h0,Below.refl _ _⟩
 case round=>
  obtain⟨k,hk,rfl,hJs,hnx⟩:=hrel
  by_cases hlt:k < len
  ·obtain⟨x,hx,_⟩:=l7 HL.out hlt
   have hcx:wr.cell? ⟨b,off+k,none⟩=some (.string x):=(hnx.cell (p:=⟨b,off+k,none⟩) hb).trans (HC.out k x hx)
   obtain⟨fn,tmps,assign,body,hy,hR⟩:=hY _ x wr hJs (by rw[List.length_take];omega)
   have HX:Hid (zs.take (k+1)=zs.take k ++[x]):=by show _=_;rw[List.take_add_one,hx];rfl
   have HXX:=Lib.hid hx
   clear hx
   gi_wp2
   refine hR.mono ?_
   rintro e W3 (⟨rfl,hJ3,hk3⟩|⟨rfl,hJx3⟩)
   ·gi_wp2
    go_roundw
    case rel=>exact⟨k+1,by omega,by go_num,by rw[HX.out];exact hJ3,hnx.trans hk3⟩
    case measure=>simp[intOf];omega
   ·gi_wp2
    refine bodyPost_ret (results_none rfl _ _ _) rfl ?_
    exact⟨⟨_,rfl⟩,.inr ⟨_,by rw[← HX.out];exact List.take_prefix _ _,hJx3⟩⟩
  ·have hkn:k=len:=by omega
   have HT:Hid (zs.take k=zs):=List.take_of_length_le (by have:=HL.out;omega)
   subst hkn
   gi_wp2
   go_end0
   exact⟨⟨_,rfl⟩,.inl ⟨_,rfl,by rw[HT.out] at hJs;exact hJs⟩⟩
set_option maxRecDepth 100000 in
set_option maxHeartbeats 1000000 in
theorem an1 (n:Nat) (l Bs cap:Nat) (A:Option Addr) (J:List ByteArray→World→Prop) (W:World) (hBs:W.cell? ⟨Bs,0,none⟩=some (.slice A 0 cap)) (h0:J [] W):
  CallsIn Fence.wide n Tryz.prog 126 #[.func (.yield l) #[] #[],.pointer (some ⟨Bs,0,none⟩)] W fun e W'=>(∃ v,e=.returned v)∧J [] W':=by
 refine callsIn_of_wp Tryz.func126 rfl trivial ?_ rfl
 simp only[Tryz.ntmps126,List.size_toArray,List.length_cons,List.length_nil,Nat.reduceAdd,Nat.reduceSub,Array.replicate_succ,Array.replicate_zero,List.push_toArray,List.append_toArray,List.nil_append,List.cons_append]
 gi_wp2
 gi_loopw [7] (fun i wr=>i=.int .i64 0∧J [] wr) (fun _ _=>0)
 case atStart=>exact⟨rfl,h0⟩
 case round=>
  obtain⟨rfl,hJs⟩:=hrel
  gi_wp2
  go_end0
  exact⟨⟨_,rfl⟩,hJs⟩
theorem aqk (n:Nat) (hn:1≤n) (Bs n₀:Nat) {v:Value} {zs:List ByteArray} (w:World) (hBs:Bs < w.heap.size) (hn₀:n₀≤w.heap.size)
  (hc:w.cell? ⟨Bs,0,none⟩=some v) (h:Rep w n₀ (.row 1 (zs.flatMap aa3)) v):
  SeqStopsK Fence.wide n Tryz.prog 126 #[.pointer (some ⟨Bs,0,none⟩)] (fun x:ByteArray=>#[Value.string x]) (Below n₀) (fun ys=>ys=zs) (fun pre=>pre <+:zs) zs.length w:=fun l J Jx W hW _ _ hY h0=>by
 have hc':=(hW.cell (p:=⟨Bs,0,none⟩) hBs).trans hc
 obtain⟨A,m,c,rfl,hnl,hm,hat⟩:=jr aaz (by decide) (h.below (hW.mono hn₀))
 unfold maxLen at hm
 by_cases h0':0 < m
 ·obtain⟨g,off,rfl,hg,hcell⟩:=hat h0'
  have:=auc n hn l Bs n₀ g off m c zs hnl (by omega) hg J Jx (by rw[hnl];exact hY) W hc' (fun j x hx=>by
   obtain⟨u,hu,hr⟩:=hcell j 0 x _ hx rfl
   rw[hr.uo] at hu
   simpa using hu) h0
  exact this
 ·have hm0:m=0:=by omega
  subst hm0
  have hz:zs=[]:=List.eq_nil_of_length_eq_zero hnl.symm
  refine(an1 n l Bs c A J W hc' h0).mono ?_
  rintro e W' ⟨he,hj⟩
  exact⟨he,.inl ⟨[],hz.symm,hj⟩⟩
theorem an2:(Tryz.prog.info? 9).map (fun i=>(i.zero,i.size,i.bytes))=some (some (.string {data:=#[]}),1,16):=by kernel_rfl
theorem cell_new1 (W:World) (v:Value) (t:TypeId) (j:Nat) (u:Value) (h:[v][j]?=some u):(W.alloc (.cells #[v] t)).cell? ((⟨W.heap.size,0,none⟩:Addr).add j)=some u:=by
 cases j with
 | zero=>
  simp at h
  subst h
  exact(Blk.new W t #[v]).cell 0
 | succ j=>simp at h
def ApI (w:World) (pre:List ByteArray) (W:World):Prop:=(∃ v,W.heap[w.heap.size]?=some (.cells #[v] 32 (0,0))∧W.ownsRow w.heap.size 9 1 v pre.length (strs pre))∧Below w.heap.size w W
theorem av7 (w:World) {B:Nat} (hB:w.heap.size≤B):OwnFrom B (ApI w):=by
 rintro s W W' row ⟨⟨v,hv,hrow⟩,hb⟩ hg hr
 have ne:∀ j,W.heap[j]?=some (.cells #[v] 32 (0,0))→some j≠row:=fun j hj e=>by
  obtain⟨_,o,ho,hno⟩:=hr j e.symm
  rw[hj] at ho
  injection ho with ho
  subst ho
  simp[Obj.isCells] at hno
 refine⟨⟨v,(hg.block _ (Array.getElem?_eq_some_iff.1 hv).1 (ne _ hv)).trans hv,hrow.kept hg ?_⟩,hb.grown hg hb.size fun k e=>Nat.le_trans hB (hr k e).1⟩
 rcases hrow.2 with ⟨rfl,_⟩|⟨g,cap,cur,rfl,_,hgb,_⟩
 ·exact .inl rfl
 ·refine .inr fun e'=>?_
  have e2:some g=row:=by simpa [Value.ownBlock] using e'
  obtain⟨_,o,ho,hno⟩:=hr g e2.symm
  rw[hgb] at ho
  injection ho with ho
  subst ho
  simp[Obj.isCells] at hno
set_option maxRecDepth 100000 in
set_option maxHeartbeats 2000000 in
theorem aql (n : Nat) (hn : 3 ≤ n) (Bs : Nat) {v : Value} {zs : List ByteArray} (w : World) (hBs : Bs < w.heap.size) (hz : zs.length ≤ 1048576)
    (hc : w.cell? ⟨Bs, 0, none⟩ = some v) (h : Rep w w.heap.size (.row 1 (zs.flatMap aa3)) v) :
    CallsIn Fence.wide n Tryz.prog 136 #[.slice none 0 0, .func (.func 126) #[] #[.pointer (some ⟨Bs, 0, none⟩)]] w
      fun e W' => ∃ u, e = .returned u ∧ W'.ownsRow w.heap.size 9 1 u zs.length (strs zs) ∧ Below w.heap.size w W' := by
  have h1 : 1 ≤ n := by omega
  obtain ⟨i0, hi, hz0, hz1, hz2⟩ := info_parts an2
  refine callsIn_of_wp_marks Tryz.func136 rfl trivial ?_ rfl
  simp only [Tryz.ntmps136, List.size_toArray, List.length_cons, List.length_nil, Nat.reduceAdd, Nat.reduceSub, Array.replicate_succ, Array.replicate_zero, List.push_toArray, List.append_toArray, List.nil_append, List.cons_append]
  gi_wp2
  obtain ⟨w0, hw0⟩ : ∃ W, W = w.alloc (.cells #[.slice none 0 0] 32) := ⟨_, rfl⟩
  rw [← hw0]
  have bA : Blk w0 w.heap.size 32 #[.slice none 0 0] := by rw [hw0]; exact Blk.new w _ _
  have hB0 : Below w.heap.size w w0 := by rw [hw0]; exact (Below.refl _ _).alloc (Nat.le_refl _) _
  have hs0 : w0.heap.size = w.heap.size + 1 := by rw [hw0]; simp
  clear hw0
  have hseq := aqk (n - 1) (by omega) Bs w.heap.size (v := v) (zs := zs) w0 (by omega) (by omega) ((hB0.cell (p := ⟨Bs, 0, none⟩) hBs).trans hc) (h.below hB0)
  refine wpIn_rangeFunc_ownG rfl h1 (gf := 126) (lb := #[.pointer (some ⟨Bs, 0, none⟩)]) rfl trivial (enters_of Tryz.func126 (by kernel_rfl) rfl)
    hseq belowK_t (belowK_b (by omega)) (Below.refl _ _) (fun _ => rfl) (ApI w) (fun _ _ _ => False) (av7 w (by omega)) (fun _ _ _ _ _ hs _ _ => hs) ⟨⟨_, bA, ⟨rfl, .inl ⟨rfl, rfl⟩⟩⟩, hB0⟩
    (fun x => { tmps := #[.slice none 0 0, .func (.func 126) #[] #[.pointer (some ⟨Bs, 0, none⟩)], .pointer (some ⟨w.heap.size, 0, none⟩), undef, .slice none 0 0, .string x, .func (.func 126) #[] #[.pointer (some ⟨Bs, 0, none⟩)], .string x, undef, undef, undef, undef, undef], defers := [] }) ?assign ?body ?done ?stop
  case assign =>
    intro l x W K hK
    gi_wp2
    exact hK
  case body =>
    rintro l pre x W ⟨⟨u, hu, hrow⟩, hB⟩ hlen
    have hblk : Blk W w.heap.size 32 #[u] := hu
    have hc0 := hblk.cell 0
    have hf0 := hblk.frozen 0
    have hsz := hB.size
    have hlt := hblk.lt
    have hno : some w.heap.size ≠ u.ownBlock := fun e => by
      rcases hrow.2 with ⟨rfl, _⟩ | ⟨g, cap, cur, rfl, _, hgb, _⟩
      · simp [Value.ownBlock] at e
      · have e2 : w.heap.size = g := by simpa [Value.ownBlock] using e
        rw [← e2, hu] at hgb
        injection hgb with hgb
        injection hgb with _ hgb _
        exact absurd hgb (by decide)
    have hu2 := hu
    have hsz2 : pre.length ≤ 1048576 := by omega
    clear hu
    gi_wp2_with (first
      | (gi_at_builtin; refine wpListIn_append_own _ rfl _ _ 32 rfl w.heap.size 9 i0 (.string { data := #[] }) 1 16 Tryz.underlying32 hi hz0 hz1 hz2 rfl (by decide) _ _ _ rfl (hrow.alloc _) ⟨W.heap.size, 0, none⟩ 1 1 [.string x] rfl rfl (cell_new1 _ _ _) (by simp [Value.oneCell']) (by unfold maxLen; omega) (by omega) (by simp; omega) ?_; intro v' w3 hown' hg3 hnil3
         replace hg3 : (W.alloc (.cells #[.string x] 9)).grownBy w3 u.ownBlock := hg3
         have hk3 : Blk w3 w.heap.size 32 #[u] := (hg3.block _ (by simp; omega) hno).trans (hblk.alloc _)
         have hc3 := hk3.cell 0
         have hf3 := hk3.frozen 0
         obtain ⟨g', cap', rfl⟩ : ∃ g' cap', v' = .slice (some ⟨g', 0, none⟩) (pre.length + 1) cap' := by
           rcases hown'.2 with ⟨_, h0⟩ | ⟨g', cap', _, e, _⟩
           · exact absurd h0 (by omega)
           · exact ⟨g', cap', e⟩
         go_frame))
    have hB3 : Below w.heap.size w w3 := (hB.alloc hsz _).grown hg3 (by simp; omega) fun k e => (hrow.lt k e).1
    have hgw : W.heap.size ≤ w3.heap.size := by have := hg3.size; simp at this; omega
    have hko : KeepsOthers W w3 := (KeepsOthers.alloc W _).trans (KeepsOthers.of_grownBy hg3 fun j o hj ho => by
      obtain ⟨o', ho', hcc⟩ : ∃ o', (W.alloc (.cells #[.string x] 9)).heap[j]? = some o' ∧ o'.isCells = true := by
        rcases (hrow.alloc (.cells #[.string x] 9)).2 with ⟨rfl, _⟩ | ⟨g, cap, cur, rfl, _, hgb, _⟩
        · simp [Value.ownBlock] at hj
        · have e2 : g = j := by simpa [Value.ownBlock] using hj
          subst e2
          exact ⟨_, hgb, rfl⟩
      rw [ho] at ho'
      injection ho' with ho'
      rw [ho']
      exact hcc)
    have hbl : Below w.heap.size W w3 := ((Below.refl w.heap.size W).alloc hsz _).grown hg3 (by simp; omega) fun k e => (hrow.lt k e).1
    refine ⟨(hko.trans (KeepsOthers.setCell _ _ _)).from _, hbl.setCell (Nat.le_refl _) _, ⟨⟨_, hk3.dh 0 _, ?_⟩, hB3.setCell (Nat.le_refl _) _⟩⟩
    have hk := hown'.kept (w' := w3.setCell ⟨w.heap.size, 0, none⟩ (.slice (some ⟨g', 0, none⟩) (pre.length + 1) cap')) (row := some w.heap.size) ?_ ?_
    · simpa [strs] using hk
    · exact ⟨rfl, rfl, rfl, by simp [World.setCell], fun k _ hk => Below.heap_setCell _ _ _ _ (fun e => hk (by rw [e]))⟩
    · refine .inr fun e => ?_
      have e2 : g' = w.heap.size := by simpa [Value.ownBlock] using e
      rcases hown'.2 with ⟨e3, _⟩ | ⟨g, cap, cur, e3, _, hgb, _⟩
      · cases e3
      · injection e3 with e3 _ _
        injection e3 with e3
        injection e3 with e3 _ _
        rw [← e3, e2] at hgb
        have := hgb.symm.trans hk3
        injection this with this
        injection this with _ this _
        exact absurd this (by decide)
  case done =>
    rintro D ys W hD rfl ⟨⟨u, hu, hrow⟩, hB⟩ hK
    have hblk : Blk W w.heap.size 32 #[u] := hu
    have hc0 := hblk.cell 0
    have HR := Lib.hid hrow
    have HU := Lib.hid hu
    clear hu hrow
    gi_wp2
    refine ⟨by simp, .inl ⟨_, _, rfl, run_takeDeferred hK, ?_⟩⟩
    refine ⟨_, results_tmp rfl _ _ _, u, rfl, ?_, hB.trans (belowK_b (w := w) (Nat.le_refl _) W D _ _ (by omega) hK rfl rfl)⟩
    refine HR.out.kept (grownBy_putObj' W D _) ?_
    rcases HR.out.2 with ⟨rfl, _⟩ | ⟨g, cap, cur, rfl, _, hgb, _⟩
    · exact .inl rfl
    · refine .inr fun e => ?_
      have e2 : g = D := by simpa [Value.ownBlock] using e
      rw [e2, hK] at hgb
      cases hgb
  case stop =>
    rintro D c pre W _ _ h _
    exact h.elim
def bytesOf (s:ByteArray):List UInt8:=s.data.toList
theorem ar1 (s:ByteArray):encStr (bytesOf s)=.string s:=rfl
theorem aue (zs:List ByteArray):strs zs=(zs.map bytesOf).map encStr:=by
 rw[strs,List.map_map]
 exact List.map_congr_left fun s _=>(ar1 s).symm
theorem aoq {s t:ByteArray} (h:bytesOf s=bytesOf t):s=t:=by
 cases s;cases t;congr;exact Array.toList_inj.1 h
def leB (x y:List UInt8):Bool:=decide (x≤y)
theorem aqm (l:List (List UInt8)):List.Pairwise (fun a b=>leB a b=true) (l.mergeSort leB):=
 List.pairwise_mergeSort (fun a b c h1 h2=>by
  simp only[leB,decide_eq_true_eq] at *
  exact List.le_trans h1 h2) (fun a b=>by
  simp only[leB,Bool.or_eq_true,decide_eq_true_eq]
  exact List.le_total a b) l
theorem ak8 (l:List (List UInt8)) (h:List.Pairwise (fun a b=>leB a b=true) l):(Lib.compact l).length=l.length↔l.Nodup:=by
 have hlen:(Lib.compact l).length=l.length↔∀ j,j < l.length→Lib.keeps l.toArray j=true:=by
  rw[Lib.compact,Lib.compactUpTo,List.length_map]
  constructor
  ·intro e j hj
   have:(List.range l.length).filter (Lib.keeps l.toArray)=List.range l.length:=List.filter_sublist.eq_of_length (by rw[e,List.length_range])
   have hm:j ∈ (List.range l.length).filter (Lib.keeps l.toArray):=by rw[this];exact List.mem_range.2 hj
   exact(List.mem_filter.1 hm).2
  ·intro e
   rw[List.filter_eq_self.2 fun x hx=>e x (List.mem_range.1 hx),List.length_range]
 have hget:∀ j,j < l.length→l.toArray[j]! = l[j]! :=fun j hj=>by simp
 rw[hlen]
 constructor
 ·intro hk
  rw[List.nodup_iff_pairwise_ne,List.pairwise_iff_getElem]
  intro i j hi hj hij e
  have h1:=List.pairwise_iff_getElem.1 h
  have hi1:i+1 < l.length:=by omega
  have a1:l[i]≤l[i+1]:=by have:=h1 i (i+1) hi hi1 (by omega);simpa [leB] using this
  have a2:l[i+1]≤l[j]:=by
   by_cases e2:i+1=j
   ·subst e2
    exact List.le_refl _
   ·have:=h1 (i+1) j hi1 hj (by omega)
    simpa [leB] using this
  rw[← e] at a2
  have a3:=List.le_antisymm a1 a2
  have hk1:=hk (i+1) hi1
  simp only[Lib.keeps,decide_eq_true_eq,Nat.add_sub_cancel] at hk1
  rcases hk1 with h0|h0
  ·omega
  ·apply h0
   rw[hget _ hi1,hget _ hi,getElem!_pos l (i+1) hi1,getElem!_pos l i hi]
   exact a3.symm
 ·intro hn j hj
  simp only[Lib.keeps,decide_eq_true_eq]
  by_cases h0:j=0
  ·exact .inl h0
  ·refine .inr fun e=>?_
   have hj1:j - 1 < l.length:=by omega
   rw[hget _ hj,hget _ hj1,getElem!_pos l j hj,getElem!_pos l (j - 1) hj1] at e
   exact List.pairwise_iff_getElem.1 (List.nodup_iff_pairwise_ne.1 hn) (j - 1) j hj1 hj (by omega) e.symm
theorem an3 (zs:List ByteArray):(Lib.compact ((zs.map bytesOf).mergeSort leB)).length=zs.length↔zs.Nodup:=by
 have hl:((zs.map bytesOf).mergeSort leB).length=zs.length:=by simp
 rw[← hl,ak8 _ (aqm _),(List.mergeSort_perm _ _).nodup_iff]
 rw[List.nodup_iff_pairwise_ne,List.nodup_iff_pairwise_ne,List.pairwise_map]
 exact⟨fun h=>h.imp fun hne e=>hne (by rw[e]),fun h=>h.imp fun hne e=>hne (aoq e)⟩
def ay5:Go.Shelf.Ren:=⟨fun|194=>101|n=>n,fun|0=>0|3=>3|4=>4|9=>9|31=>32|n=>n,fun n=>n⟩
set_option maxRecDepth 100000 in
theorem apl:Lays.n194 Tryz.prog ay5:=
 {mixed:=by kernel_rfl
  f194:=Tryz.func101.trans (congrArg some (by kernel_rfl))
  t0:=by kernel_rfl
  a0:=fun _=>by kernel_rfl
  z0:=fun _=>by kernel_rfl
  v0:=fun _=>by kernel_rfl
  t3:=by kernel_rfl
  a3:=fun _=>by kernel_rfl
  z3:=fun _=>by kernel_rfl
  v3:=fun _=>by kernel_rfl
  t4:=by kernel_rfl
  a4:=fun _=>by kernel_rfl
  z4:=fun _=>by kernel_rfl
  v4:=fun _=>by kernel_rfl
  t9:=by kernel_rfl
  a9:=fun _=>by kernel_rfl
  z9:=fun _=>by kernel_rfl
  v9:=fun _=>by kernel_rfl
  t31:=by kernel_rfl
  a31:=fun _=>by kernel_rfl
  z31:=fun _=>by kernel_rfl
  v31:=fun _=>by kernel_rfl}
theorem an4 (Bs:Nat) {v:Value} {zs:List ByteArray} (w:World) (hBs:Bs < w.heap.size) (hz:zs.length≤1048576)
  (hc:w.cell? ⟨Bs,0,none⟩=some v) (h:Rep w w.heap.size (.row 1 (zs.flatMap aa3)) v):
  Calls Tryz.prog 124 #[.func (.func 126) #[] #[.pointer (some ⟨Bs,0,none⟩)]] w
   fun e W'=>∃ u,e=.returned u∧W'.ownsRow w.heap.size 9 1 u zs.length (strs zs)∧Below w.heap.size w W':=by
 have hA:=callsIn_wide.1 (aql 3 (by omega) Bs w hBs hz hc h)
 have HA:=Lib.hid hA
 clear hA hc h
 go_enter Tryz.func124,Tryz.ntmps124
 go_wp2_with fail
 refine HA.out.mono ?_
 rintro e w1 ⟨u,rfl,hrow,hb⟩
 have HR:=Lib.hid hrow
 clear hrow
 go_wp2_with fail
 go_ret
 exact⟨u,rfl,HR.out,hb⟩
set_option maxHeartbeats 1000000 in
theorem aor (Bs:Nat) {v:Value} {zs:List ByteArray} (w:World) (hBs:Bs < w.heap.size) (hz:zs.length≤1048576)
  (hc:w.cell? ⟨Bs,0,none⟩=some v) (h:Rep w w.heap.size (.row 1 (zs.flatMap aa3)) v):
  Calls Tryz.prog 102 #[.func (.func 126) #[] #[.pointer (some ⟨Bs,0,none⟩)]] w
   fun e W'=>∃ u,e=.returned u∧W'.ownsRow w.heap.size 9 1 u zs.length (((zs.map bytesOf).mergeSort leB).map encStr)∧Below w.heap.size w W':=by
 have HA:=Lib.hid (an4 Bs w hBs hz hc h)
 clear hc h
 go_enter Tryz.func102,Tryz.ntmps102
 go_wp2_with fail
 refine HA.out.mono ?_
 rintro e w1 ⟨u,rfl,hrow,hb⟩
 rw[aue] at hrow
 rcases hrow.2 with ⟨rfl,h0⟩|⟨g,cap,cur,rfl,hbase,hgb,r1,r2,r3,r4⟩
 ·have hz0:zs=[]:=List.eq_nil_of_length_eq_zero h0
  have cS:Calls Tryz.prog 125 #[.slice none 0 0] w1 fun e w'=>e=.returned (.tuple #[])∧w'=w1:=AnyM.slices_Sort_string_none apj none 0 w1
  have HS:=Lib.hid cS
  have HR:=Lib.hid hrow
  have HZ:=Lib.hid hz0
  clear cS hrow h0 hz0
  go_wp2_with fail
  refine HS.out.mono ?_
  rintro e w2 ⟨rfl,rfl⟩
  go_wp2_with fail
  go_ret
  refine⟨_,rfl,?_,hb⟩
  have:=HR.out
  rw[HZ.out] at this ⊢
  simpa using this
 ·have hH:Holds encStr w1 g 0 (zs.map bytesOf).toArray:=holds_of_block hgb (by simpa using r4)
  have hgl:g < w1.heap.size:=(Array.getElem?_eq_some_iff.1 hgb).1
  have cS:Calls Tryz.prog 125 #[.slice (some ⟨g,0,none⟩) (zs.map bytesOf).length cap] w1 fun e w'=>e=.returned (.tuple #[])∧∃ k os,w'=grow (putRow encStr (Sort.ahead w1 k) g 0 ((zs.map bytesOf).mergeSort fun x y=>decide (x≤y)).toArray) os:=
   AnyM.slices_Sort_string apj g 0 cap (zs.map bytesOf) w1 hH hgl (by simp;omega)
  rw[List.length_map] at cS
  have HS:=Lib.hid cS
  have HG:=Lib.hid (And.intro hgb (And.intro r1 (And.intro r2 r3)))
  clear cS hrow r1 r2 r3 r4 hH hgb
  go_wp2_with fail
  refine HS.out.mono ?_
  rintro e w2 ⟨rfl,k,os,rfl⟩
  obtain⟨hgb,r1,r2,r3⟩:=HG.out
  have ho:=ownsRow_sorted (w:=w1) (base:=w.heap.size) (n:=k) (os:=os) (ss:=zs.map bytesOf) (ts:=(zs.map bytesOf).mergeSort leB) (by simp) hbase hgb (by simpa using r1) r2 r3
  rw[List.length_map] at ho
  have hB2:=hb.grown (grownBy_sorted (w:=w1) (g:=g) (n:=k) (os:=os) ((zs.map bytesOf).mergeSort leB).toArray) hb.size (fun j hj=>by cases hj;exact hbase)
  have HO:=Lib.hid ho
  have HB:=Lib.hid hB2
  clear ho hB2 hgb r1 r2 r3
  go_wp2_with fail
  go_ret
  exact⟨_,rfl,HO.out,HB.out⟩
theorem aos (A:Option Addr) (n c:Nat) (w:World):
  Calls Tryz.prog 103 #[.slice A n c] w fun e w'=>e=.returned (.func (.func 126) #[] #[.pointer (some ⟨w.heap.size,0,none⟩)])∧w'=w.alloc (.cells #[.slice A n c] 32):=by
 go_enter Tryz.func103,Tryz.ntmps103
 go_wp2_with fail
 go_ret
 exact⟨rfl,rfl⟩
set_option maxHeartbeats 1000000 in
theorem distinct_any {B:Nat} {v:Value} {zs:List ByteArray} {w:World} (hB:B≤w.heap.size) (hz:zs.length≤1048576) (h:Rep w B (.row 1 (zs.flatMap aa3)) v):
  Calls Tryz.prog 81 #[v] w fun e w'=>e=.returned (.bool (decide zs.Nodup))∧Below w.heap.size w w':=by
 obtain⟨A,n,c,rfl,hnl,hm,_⟩:=jr aaz (by decide) h
 unfold maxLen at hm
 have HN:=Lib.hid hnl
 have HR:=Lib.hid h
 have HD:=Lib.hid (an3 zs)
 clear h hnl
 go_enter Tryz.func81,Tryz.ntmps81
 go_wp2_with fail
 refine(aos _ _ _ _).mono ?_
 rintro e w0 ⟨rfl,hw0⟩
 have bA:Blk w0 w.heap.size 32 #[.slice A n c]:=by rw[hw0];exact Blk.new w _ _
 have hB0:Below w.heap.size w w0:=by rw[hw0];exact(Below.refl _ _).alloc (Nat.le_refl _) _
 clear hw0
 have HS:=Lib.hid (aor w.heap.size (zs:=zs) w0 bA.lt hz (bA.cell 0) ((HR.out.below (hB0.mono hB)).more (by have:=hB0.size;omega)))
 go_wp2_with fail
 refine HS.out.mono ?_
 rintro e w1 ⟨u,rfl,hrow,hb1⟩
 have hB1:=hB0.trans (hb1.mono hB0.size)
 have hl:((zs.map bytesOf).mergeSort leB).length=zs.length:=by simp
 rcases hrow.2 with ⟨rfl,h0⟩|⟨g,cap,cur,rfl,hbase,hgb,r1,r2,r3,r4⟩
 ·have hz0:zs=[]:=List.eq_nil_of_length_eq_zero h0
  have cC:Calls Tryz.prog 101 #[.slice none 0 0] w1 fun e w'=>e=.returned (.slice none 0 0)∧w'=w1:=Any.slices_Compact_string_empty apl none 0 w1
  have HC:=Lib.hid cC
  have HZ:=Lib.hid hz0
  have hn0:n=0:=by have:=HN.out;omega
  subst hn0
  clear cC hrow h0 hz0 hl
  go_wp2_with fail
  refine HC.out.mono ?_
  rintro e w2 ⟨rfl,rfl⟩
  go_wp2_with fail
  go_ret
  exact⟨dn (by rw[HZ.out];rfl),hB1⟩
 ·have hH:Holds encStr w1 g 0 ((zs.map bytesOf).mergeSort leB).toArray:=holds_of_block hgb (by rw[hl];simpa using r4)
  have cC:Calls Tryz.prog 101 #[.slice (some ⟨g,0,none⟩) ((zs.map bytesOf).mergeSort leB).length cap] w1 fun e w'=>e=.returned (.slice (some ⟨g,0,none⟩) (Lib.compact ((zs.map bytesOf).mergeSort leB)).length cap)∧
    ∃ q,w'=putRow encStr (Sort.ahead w1 q) g 0 (Lib.compact ((zs.map bytesOf).mergeSort leB) ++List.replicate (((zs.map bytesOf).mergeSort leB).length - (Lib.compact ((zs.map bytesOf).mergeSort leB)).length) []).toArray:=
   Any.slices_Compact_string apl g 0 cap _ w1 hH (by rw[hl];omega) (by rw[hl];exact r1)
  rw[hl] at cC
  obtain⟨m,hm2⟩:∃ m,m=(Lib.compact ((zs.map bytesOf).mergeSort leB)).length:=⟨_,rfl⟩
  have hmd:=HD.out
  rw[← hm2] at cC hmd
  have a7r:m≤1048576:=by
   rw[hm2,Lib.compact,Lib.compactUpTo,List.length_map]
   have h1:=List.length_filter_le (Lib.keeps ((zs.map bytesOf).mergeSort leB).toArray) (List.range ((zs.map bytesOf).mergeSort leB).length)
   rw[List.length_range] at h1
   exact Nat.le_trans h1 (by rw[hl];exact hz)
  rw[← HN.out] at cC hmd
  have HC:=Lib.hid cC
  have HM:=Lib.hid hmd
  have hbs:=Lib.hid hbase
  rw[← HN.out]
  clear cC hrow r1 r2 r3 r4 hgb hH hl hmd hm2
  go_wp2_with fail
  refine HC.out.mono ?_
  rintro e w2 ⟨rfl,q,hw2⟩
  have hB2:Below w.heap.size w w2:=by
   rw[hw2]
   have:=hB1.grown (grownBy_sorted (w:=w1) (g:=g) (n:=q) (os:=#[]) (Lib.compact ((zs.map bytesOf).mergeSort leB) ++List.replicate (n - m) []).toArray) hB1.size (fun j hj=>by cases hj;have:=hB0.size;have:=hbs.out;omega)
   rwa[grow_empty] at this
  clear hw2
  by_cases hmn:m=n
  ·have hd:((m:Int) ==(n:Int))=true:=by rw[beq_iff_eq];omega
   have HF:Hid (decide zs.Nodup=true):=by show _=_;rw[decide_eq_true_iff];exact HM.out.1 hmn
   clear hmn
   go_wp2_with fail
   go_ret
   exact⟨dn HF.out.symm,hB2⟩
  ·have hd:((m:Int) ==(n:Int))=false:=by simp;omega
   have HF:Hid (decide zs.Nodup=false):=by show _=_;rw[decide_eq_false_iff_not];exact fun hx=>hmn (HM.out.2 hx)
   clear hmn
   go_wp2_with fail
   go_ret
   exact⟨dn HF.out.symm,hB2⟩
end Go.Proofs.YtlpcocfadppkhaaGreatDoor
namespace Go.Proofs.YtlpcocfadppkhaaGreatDoor
open Go.RowKit
set_option linter.unusedVariables false
set_option linter.unusedSimpArgs false
set_option linter.unnecessarySimpa false
theorem amc (a:Array Value) (W:World):Sem.run Tryz.prog (callFunc 80 a) W=.ok (.enter 80 a) W:=by kernel_rfl
theorem aot (t:Ins) {B:Nat} {cs:List Value} {w:World} (h:jd w B (Ins.pd t) cs):
  Calls Tryz.prog 80 (#[.agg cs.toArray] ++#[]) w fun e w'=>e=.returned (.bool (!af0 t))∧Below w.heap.size w w':=by
 obtain⟨op,a⟩:=t
 obtain rfl:=Ins.open_ h
 clear h
 obtain⟨R,hR⟩:∃ R:Bool,R=af0 ⟨op,a⟩:=⟨_,rfl⟩
 rw[← hR]
 have HR:Hid (gy op a=R):=hR.symm
 clear hR
 go_enter Tryz.func80,Tryz.ntmps80
 go_wp2_with fail
 obtain⟨w0,hw0⟩:∃ W,W=w.alloc (.cells #[.int .i64 op,.int .i64 a] 54):=⟨_,rfl⟩
 rw[← hw0]
 have hB0:Below w.heap.size w w0:=by rw[hw0];exact(Below.refl _ _).alloc (Nat.le_refl _) _
 clear hw0
 refine(agw op a _).mono ?_
 rintro e w1 ⟨rfl,hb1⟩
 rw[HR.out]
 go_wp2_with fail
 go_ret
 exact⟨rfl,hB0.trans (hb1.mono hB0.size)⟩
theorem ak9 (a:Array Value) (W:World):Sem.run Tryz.prog (callFunc 83 a) W=.ok (.enter 83 a) W:=by kernel_rfl
theorem an5 (s:ByteArray) (hs:s.size≤maxLen) (w:World):
  Calls Tryz.prog 83 (#[.string s] ++#[]) w fun e w'=>e=.returned (.bool (!jv s))∧Below w.heap.size w w':=by
 go_enter Tryz.func83,Tryz.ntmps83
 go_wp2_with fail
 refine(aks s hs _).mono ?_
 rintro e w1 ⟨rfl,rfl⟩
 go_wp2_with fail
 go_ret
 exact⟨rfl,Below.refl _ _⟩
set_option maxHeartbeats 1600000 in
theorem aie {B:Nat} {v:Value} {zs:List ByteArray} {w:World} (hB:B≤w.heap.size) (hz:zs.length≤1048576) (hs:∀ s ∈ zs,s.size≤maxLen) (h:Rep w B (.row 1 (zs.flatMap aa3)) v):
  Calls Tryz.prog 63 #[v] w fun e w'=>e=.returned (.bool (oq zs))∧Below w.heap.size w w':=by
 obtain⟨A,n,c,rfl⟩:=h.form
 have HR:=Lib.hid h
 have HS:=Lib.hid hs
 clear h hs
 obtain⟨R,hR⟩:∃ R:Bool,R=oq zs:=⟨_,rfl⟩
 rw[← hR]
 have HV:Hid (R=(decide zs.Nodup && !zs.any fun n=>!jv n)):=hR
 clear hR
 go_enter Tryz.func63,Tryz.ntmps63
 go_wp2_with fail
 refine(distinct_any hB hz HR.out).mono ?_
 rintro e w1 ⟨rfl,hb1⟩
 cases hd:decide zs.Nodup
 ·have HF:Hid (R=false):=by show _=_;rw[HV.out,hd];rfl
  go_wp2_with fail
  go_ret
  exact⟨dn HF.out.symm,hb1⟩
 ·have HF:Hid (R=!zs.any fun n=>!jv n):=by show _=_;rw[HV.out,hd];rfl
  clear hd
  go_wp2_with fail
  refine(ak1 83 #[] (fun t=>!jv t) (Nat.le_trans hB hb1.size) (HR.out.below (hb1.mono hB)) ak9 (fun t ht W hW=>an5 t (HS.out t ht) W)).mono ?_
  rintro e w2 ⟨rfl,hb2⟩
  go_wp2_with fail
  go_ret
  exact⟨dn HF.out.symm,hb1.trans (hb2.mono hb1.size)⟩
set_option maxHeartbeats 1600000 in
theorem an6 (t:Core) {B:Nat} {cs:List Value} {w:World} (hB:B≤w.heap.size) (h:jd w B (Core.pd t) cs):
  Calls Tryz.prog 62 #[.agg cs.toArray] w fun e w'=>e=.returned (.bool (yt t))∧Below w.heap.size w w':=by
 obtain⟨name,params,locals,result,code⟩:=t
 obtain⟨R,hR⟩:∃ R:Bool,R=yt ⟨name,params,locals,result,code⟩:=⟨_,rfl⟩
 have hR':=hR
 rw[yt] at hR'
 simp only at hR'
 rw[← hR]
 have HR:=Lib.hid hR'
 clear hR hR'
 obtain⟨yj,rfl,qy⟩:=Core.open_ h
 have yu:=Lib.hid qy
 clear qy
 obtain⟨A,n,c,rfl,hnl,hm,hat⟩:=jr Ins.au (by decide) yu.out
 unfold maxLen at hm
 have HN:=Lib.hid hnl
 clear h hnl hat
 go_enter Tryz.func62,Tryz.ntmps62
 go_wp2_with fail
 obtain⟨w0,hw0⟩:∃ W,W=w.alloc (.cells #[.string name,.int .i64 params,.int .i64 locals,.bool result,.slice A n c] 36):=⟨_,rfl⟩
 rw[← hw0]
 have bA:Blk w0 w.heap.size 36 #[.string name,.int .i64 params,.int .i64 locals,.bool result,.slice A n c]:=by rw[hw0];exact Blk.new w _ _
 have hB0:Below w.heap.size w w0:=by rw[hw0];exact(Below.refl _ _).alloc (Nat.le_refl _) _
 clear hw0
 have ana:w0.cell? ⟨w.heap.size,0,none⟩=some (.string name):=bA.cell 0
 have anb:w0.cell? ⟨w.heap.size,1,none⟩=some (.int .i64 params):=bA.cell 1
 have akn:w0.cell? ⟨w.heap.size,2,none⟩=some (.int .i64 locals):=bA.cell 2
 have a0w:w0.cell? ⟨w.heap.size,4,none⟩=some (.slice A n c):=bA.cell 4
 try go_wp2_with fail
 refine(abp _ _ _ _).mono ?_
 rintro e w1 ⟨rfl,rfl⟩
 cases hp:inB params 0 8
 ·have HF:Hid (R=false):=by show _=_;rw[HR.out,hp];rfl
  go_wp2_with fail
  go_ret
  exact⟨dn HF.out.symm,hB0⟩
 go_wp2_with fail
 refine(abp _ _ _ _).mono ?_
 rintro e w1 ⟨rfl,rfl⟩
 cases hl:inB locals 0 8
 ·have HF:Hid (R=false):=by show _=_;rw[HR.out,hp,hl];rfl
  go_wp2_with fail
  go_ret
  exact⟨dn HF.out.symm,hB0⟩
 by_cases hn:n≤120
 case neg=>
  have HF:Hid (R=false):=by show _=_;rw[HR.out,hp,hl,decide_eq_false (by have:=HN.out;omega)];rfl
  go_wp2_with fail
  go_ret
  exact⟨dn HF.out.symm,hB0⟩
 have HF:Hid (R=!code.any fun i=>!af0 i):=by show _=_;rw[HR.out,hp,hl,decide_eq_true (by have:=HN.out;omega)];rfl
 clear hp hl HR
 go_wp2_with fail
 refine(aoj 80 #[] (fun i=>!af0 i) (Nat.le_trans hB hB0.size) (yu.out.below (hB0.mono hB)) amc (fun t ht cs W hW hr=>aot t hr)).mono ?_
 rintro e w2 ⟨rfl,hb2⟩
 go_wp2_with fail
 go_ret
 exact⟨dn HF.out.symm,hB0.trans (hb2.mono hB0.size)⟩
end Go.Proofs.YtlpcocfadppkhaaGreatDoor
