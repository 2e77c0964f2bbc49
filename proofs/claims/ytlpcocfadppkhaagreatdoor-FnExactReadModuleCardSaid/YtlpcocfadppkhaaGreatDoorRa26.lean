/-
  A module's text, read: impl.ReadModule (by program: gen_ri.py) (by program: gen_why.py).
  ReadModule of both packages, as the law's walk wants them.
-/
import Derived.Test.YtlpcocfadppkhaaGreatDoorRa17
import Derived.Test.YtlpcocfadppkhaaGreatDoorRa21
import Derived.Test.YtlpcocfadppkhaaGreatDoorRa22
import Derived.Test.YtlpcocfadppkhaaGreatDoorRa25
namespace Go.Proofs.YtlpcocfadppkhaaGreatDoor
open Go.RowKit
set_option linter.unusedVariables false
set_option linter.unusedSimpArgs false
set_option linter.unnecessarySimpa false
set_option maxRecDepth 16000
theorem lines_any (s:ByteArray) (w:World):Calls Tryz.prog 14 #[.string s] w fun e w'=>e=.returned (.func (.func 34) #[] #[.pointer (some ⟨w.heap.size,0,none⟩)])∧w'=w.alloc (.cells #[.string s] 9):=by
 go_enter Tryz.func14,Tryz.ntmps14
 go_wp2_with fail
 go_ret
 exact⟨rfl,rfl⟩
theorem amd (s:ByteArray):(jw s).length≤s.size+1:=by
 have h:=congrArg List.length (ahr s)
 rw[List.length_map] at h
 rw[h,ac2]
 have:=agm 10 s
 split
 ·rw[List.length_dropLast];omega
 ·exact this
theorem aki {s l:ByteArray} (h:l ∈ ac2 s):l ∈ bn 10 s:=by
 rw[ac2] at h
 split at h
 ·exact List.dropLast_subset _ h
 ·exact h
theorem aox (x:ByteArray):x.size≤(aac x).size+1:=by
 have h:x.size=(byt x).length:=(ru x).symm
 rw[aac,strOfNums_size,h,ac6]
 split
 ·rw[List.length_dropLast];omega
 ·omega
theorem aqn {s x:ByteArray} (hs:s.size≤30000) (h:x ∈ jw s):x.size≤1048576∧(aac x).size≤1048576:=by
 have h1:aac x ∈ ac2 s:=by rw[← ahr];exact List.mem_map_of_mem h
 have h2:=afs (aki h1)
 have h3:=aox x
 omega
def abv (pre:List ByteArray):Mod:=(pre.map aac).foldl aan jk
theorem agv (pre:List ByteArray) (x:ByteArray):abv (pre ++[x])=aan (abv pre) (aac x):=by simp[abv]
theorem ar2 (s:ByteArray):abv (jw s)=aau s:=by rw[abv,ahr,aau]
theorem akj:∀ (n:Nat) (pre:List ByteArray),pre.length=n→aao (abv pre) n
 | 0,pre,h=>by
  have e:=List.eq_nil_of_length_eq_zero h
  subst e
  exact⟨Nat.le_refl _,Nat.le_refl _,fun c hc=>by simp[abv,jk] at hc⟩
 | n+1,pre,h=>by
  rcases List.eq_nil_or_concat pre with rfl|⟨L,x,e⟩
  ·cases h
  ·have e:pre=L ++[x]:=by simpa using e
   subst e
   rw[agv]
   exact arq (akj n L (by simpa using h)) _
theorem ar4 (pre:List ByteArray):aao (abv pre) pre.length:=akj _ pre rfl
theorem aui {s:ByteArray} (hs:s.size≤1048576):ab2 (aau s):=anh (fun _ _ hl h=>av3 hl h) _ _ (fun l hl=>Nat.le_trans (afs (aki hl)) hs) ark
theorem ale {s:ByteArray} (h:¬ 30000 < s.size):tq s=if uy (aau s)=true∧aak (aau s)=s then (aau s,0)else (jk,6):=by
 rw[tq,if_neg h,← as1,amg]
 by_cases k:uy (aau s)=true∧aak (aau s)=s
 ·rw[if_pos k,if_pos k]
 ·rw[if_neg k,if_neg k]
theorem av8 (m:Mod):¬ aak m=⟨#[]⟩:=by
 intro h
 rw[aj1,ahy,List.map_cons] at h
 have h1:=congrArg ByteArray.size h
 rw[jo,nl,hdN,ByteArray.size_append,ByteArray.size_append,ByteArray.size_append] at h1
 have h2:aju.size=7:=by rfl
 have h3:(⟨#[]⟩:ByteArray).size=0:=by rfl
 omega
def RmL (lo:Nat) (w:World) (pre:List ByteArray) (W:World):Prop:=
 (∃ vi vc vs,GM lo W (abv pre) vi vc vs∧Blk W (w.heap.size+1) 25 #[.int .i64 (abv pre).pages,vi,vc])∧Below w.heap.size w W∧Blk W w.heap.size 25 #[.int .i64 0,.slice none 0 0,.slice none 0 0]∧lo≤W.heap.size
theorem RmL.stay {lo:Nat} {w:World} {pre:List ByteArray} {A B:World} (hlo:lo=w.heap.size+1+1+1) (h:RmL lo w pre A) (hs:ady lo (w.heap.size+1+1) A B):RmL lo w pre B:=by
 obtain⟨⟨vi,vc,vs,hG,hM⟩,hB,hR,hl⟩:=h
 refine⟨⟨vi,vc,vs,hG.kept fun k o hk ho hc=>hs.block k o (by omega) ho (.inr hc),hs.block _ _ (by omega) hM (.inl (by omega))⟩,⟨hs.os.trans hB.os,hs.tape.trans hB.tape,hs.output.trans hB.output,Nat.le_trans hB.size hs.size,fun k hk=>?_⟩,hs.block _ _ (by omega) hR (.inl (by omega)),Nat.le_trans hl hs.size⟩
 have h1:=hB.block k hk
 rw[← h1]
 have h2:A.heap[k]?=some A.heap[k]:=Array.getElem?_eq_getElem (by have:=hB.size;omega)
 rw[h2]
 exact hs.block k _ (by omega) h2 (.inl (by omega))
theorem RmL.line {lo:Nat} {w:World} {pre:List ByteArray} {x:ByteArray} {W W2:World} {vi vc:Value} {vs:List Value} (hlo:lo=w.heap.size+1+1+1) (h:RmL lo w pre W) (hG:GM lo W2 (aan (abv pre) (aac x)) vi vc vs) (hM:Blk W2 (w.heap.size+1) 25 #[.int .i64 (aan (abv pre) (aac x)).pages,vi,vc]) (hL:Lk lo (w.heap.size+1) W W2):RmL lo w (pre ++[x]) W2:=by
 obtain⟨_,hB,hR,hl⟩:=h
 refine⟨⟨vi,vc,vs,by rw[agv];exact hG,by rw[agv];exact hM⟩,⟨hL.os.trans hB.os,hL.tape.trans hB.tape,hL.output.trans hB.output,Nat.le_trans hB.size hL.size,fun k hk=>(hL.block k (by omega) (by omega)).trans (hB.block k hk)⟩,(hL.block _ (by omega) (by omega)).trans hR,Nat.le_trans hl hL.size⟩
attribute [local go_sem] Oper.semAt_some
set_option maxHeartbeats 6400000 in
theorem aob {s:ByteArray} (hs:s.size≤1048576) (n:Nat) (hn:3≤n) (w:World) (hT:aa1 w):CallsIn Fence.wide n Tryz.prog 5 #[.string s] w fun e w'=>anx s w e w':=by
 have h1:1≤n:=by omega
 refine callsIn_of_wp_marks Tryz.func5 rfl trivial ?_ rfl
 simp only[Tryz.ntmps5,List.size_toArray,List.length_cons,List.length_nil,Nat.reduceAdd,Nat.reduceSub,Array.replicate_succ,Array.replicate_zero,List.push_toArray,List.append_toArray,List.nil_append,List.cons_append]
 obtain⟨w0,hw0⟩:∃ V,V=w.alloc (.cells #[.int .i64 0,.slice none 0 0,.slice none 0 0] 25):=⟨_,rfl⟩
 have bR0:Blk w0 (w.heap.size) 25 #[.int .i64 0,.slice none 0 0,.slice none 0 0]:=by rw[hw0];exact Blk.new w _ _
 have hB0:Below w.heap.size w w0:=by rw[hw0];exact(Below.refl _ _).alloc (Nat.le_refl _) _
 have hs0:w0.heap.size=w.heap.size+1:=by rw[hw0];simp
 have HW0:=Lib.hid hw0
 have HTT:=Lib.hid hT
 clear hw0 hT
 by_cases h3:30000 < s.size
 case pos=>
  have n0:(30000:Int) < (s.size:Int):=by omega
  gi_wp2
  rw[← HW0.out]
  have m0:=bR0.cell 0
  have m1:=bR0.cell 1
  have m2:=bR0.cell 2
  refine⟨.tuple #[.agg #[.int .i64 0,.slice none 0 0,.slice none 0 0],.int .i64 4],by simp[results,Tryz.results5,go_sem,m0,m1,m2],?_⟩
  exact⟨_,by rw[ac5 h3],by rw[ac5 h3];exact abe _,hB0⟩
 case neg=>
  have n0:¬ (30000:Int) < (s.size:Int):=by omega
  gi_wp2_with (refine⟨trivial,?_⟩;gi_at_call 14;refine(callsIn_wide.2 (lines_any s _)).mono ?_;rintro e wl ⟨rfl,rfl⟩)
  rw[← HW0.out]
  clear HW0
  obtain⟨wl,hwl⟩:∃ V,V=(w0.alloc (.cells #[.int .i64 0,.slice none 0 0,.slice none 0 0] 25)).alloc (.cells #[.string s] 9):=⟨_,rfl⟩
  rw[← hwl]
  have bMl:Blk wl (w.heap.size+1) 25 #[.int .i64 0,.slice none 0 0,.slice none 0 0]:=by rw[hwl,← hs0];exact(Blk.new w0 _ _).alloc _
  have bLl:Blk wl (w.heap.size+1+1) 9 #[.string s]:=by rw[hwl,show w.heap.size+1+1=(w0.alloc (.cells #[.int .i64 0,.slice none 0 0,.slice none 0 0] 25)).heap.size by simp[hs0]];exact Blk.new _ _ _
  have auj:Below w0.heap.size w0 wl:=by rw[hwl];exact((Below.refl _ _).alloc (Nat.le_refl _) _).alloc (by simp) _
  have bRl:=bR0.step auj
  have hBl:=hB0.trans (auj.mono hB0.size)
  have hsl:wl.heap.size=w.heap.size+1+1+1:=by rw[hwl];simp[hs0]
  clear hwl auj bR0 hB0
  have hsq:=aqj (n - 1) (by omega) (w.heap.size+1+1) s hs wl (by omega) (bLl.cell 0) (bLl.frozen 0)
  obtain⟨lo,hlo⟩:∃ l,l=wl.heap.size:=⟨_,rfl⟩
  have hlo3:lo=w.heap.size+1+1+1:=by rw[hlo,hsl]
  have hI0:RmL wl.heap.size w [] wl:=⟨⟨_,_,[],GM.new _ _ 0,bMl⟩,hBl,bRl,Nat.le_refl _⟩
  clear bMl bRl hBl bLl
  refine ax0 rfl (fun _=>h1) (gf:=34) (lb:=#[.pointer (some ⟨w.heap.size+1+1,0,none⟩)]) rfl trivial (enters_of Tryz.func34 (by kernel_rfl) rfl) (encs:=fun x=>#[.string x]) (fun _=>rfl) (xs:=jw s) (b:=w.heap.size+1+1) (by omega) hsq (RmL wl.heap.size w) (fun pre A B h hst=>h.stay hsl hst) hI0 (fun x=>{tmps:=#[.string s,undef,.pointer (some ⟨w.heap.size,0,none⟩),.int .i64 0,.pointer (some ⟨w.heap.size+1,0,none⟩),.string x,.string s,.int .i64 (s.size:Int),.bool false,undef,.agg #[.int .i64 0,.slice none 0 0,.slice none 0 0],.string s,.func (.func 34) #[] #[.pointer (some ⟨w.heap.size+1+1,0,none⟩)],.string x,undef,undef,undef,undef,undef,undef,undef,undef,undef,undef,undef,undef,undef],defers:=[]}) ?assign ?body ?done
  case assign=>
   intro l x W K hK
   gi_wp2
   exact hK
  case body=>
   rintro l pre x W hI hpre
   have hxm:x ∈ jw s:=hpre.subset (by simp)
   have hpl:pre.length+1≤(jw s).length:=by have:=hpre.length_le;simpa using this
   have hll:=amd s
   have hx:=aqn (by omega) hxm
   have HI:=Lib.hid hI
   obtain⟨⟨vi,vc,vs,hG,hM⟩,hB,hR,hl⟩:=hI
   have hlen:aao (abv pre) 30001:=by
    obtain⟨k1,k2,k3⟩:=ar4 pre
    exact⟨by omega,by omega,fun c hc=>by have:=k3 c hc;omega⟩
   have HT:=Lib.hid (ak7 x hx.1 W)
   have HLn:=Lib.hid (anj (line:=aac x) hx.2 hlen (HTT.out.below hB) (by omega) hl hG hM)
   clear hG hM hB hR hxm hpl hll hlen hsq hI0 hpre
   have hd:1≤n - 1 - 1:=by omega
   gi_wp2
   refine⟨trivial,?_⟩
   refine((callsIn_wide.2 HT.out).inRound l).mono ?_
   rintro e w' ⟨rfl,rfl⟩
   gi_wp2
   refine⟨trivial,?_⟩
   refine((callsIn_wide.2 HLn.out).inRound l).mono ?_
   rintro e W2 ⟨⟨v,rfl⟩,vi2,vc2,vs2,hG2,hM2,hL2⟩
   gi_wp2
   exact⟨⟨hL2.size,fun k o _ ho hc=>hL2.same k o ho hc⟩,hL2.block _ (by omega) (by omega),HI.out.line hsl hG2 hM2 hL2⟩
  case done=>
   rintro D W hD ⟨⟨vi,vc,vs,hG,hM⟩,hB,hR,hl⟩ hK
   rw[ar2] at hG hM
   clear hsq hI0
   obtain⟨m,hm⟩:∃ m,m=aau s:=⟨_,rfl⟩
   rw[← hm] at hG hM
   have HMM:=Lib.hid hm
   clear hm
   obtain⟨p,is,cs⟩:=m
   obtain⟨iA,iC,rfl,hvi⟩:=zl hG.aby
   obtain⟨cA,cC,rfl,hvc⟩:=zl hG.pq
   clear hvi hvc
   have HG:=Lib.hid hG
   have HK:=Lib.hid hK
   clear hG hK
   have bM:Blk W (w.heap.size+1) 25 #[.int .i64 p,.slice iA is.length iC,.slice cA cs.length cC]:=hM
   have bR:Blk W (w.heap.size) 25 #[.int .i64 0,.slice none 0 0,.slice none 0 0]:=hR
   clear hM hR
   have z0:W.cell? ⟨w.heap.size+1,0,none⟩=some (.int .i64 p):=bM.cell 0
   have z1:W.cell? ⟨w.heap.size+1,1,none⟩=some (.slice iA is.length iC):=bM.cell 1
   have z2:W.cell? ⟨w.heap.size+1,2,none⟩=some (.slice cA cs.length cC):=bM.cell 2
   have y0:W.cell? ⟨w.heap.size,0,none⟩=some (.int .i64 0):=bR.cell 0
   have f0:=bR.frozen 0
   have y1:W.cell? ⟨w.heap.size,1,none⟩=some (.slice none 0 0):=bR.cell 1
   have f1:=bR.frozen 1
   have y2:W.cell? ⟨w.heap.size,2,none⟩=some (.slice none 0 0):=bR.cell 2
   have f2:=bR.frozen 2
   by_cases hz:s=⟨#[]⟩
   case pos=>
    have heq:tq s=(jk,6):=by rw[ale h3,if_neg (fun h=>av8 _ (h.2.trans hz))]
    have t0:(s.toList ==[])=true:=(yw _ _).trans (decide_eq_true hz)
    have HZ:=Lib.hid hz
    clear hz
    gi_wp2
    refine⟨trivial,?_⟩
    gi_wp2
    have hDR:D≠w.heap.size:=by omega
    have bN:Blk (((W.setCell ⟨w.heap.size,0,none⟩ (.int .i64 0)).setCell ⟨w.heap.size,1,none⟩ (.slice none 0 0)).setCell ⟨w.heap.size,2,none⟩ (.slice none 0 0)) (w.heap.size) 25 #[.int .i64 0,.slice none 0 0,.slice none 0 0]:=by
     have:=(((bR.dh 0 (.int .i64 0)).dh 1 (.slice none 0 0)).dh 2 (.slice none 0 0))
     simpa using this
    have hKF:(((W.setCell ⟨w.heap.size,0,none⟩ (.int .i64 0)).setCell ⟨w.heap.size,1,none⟩ (.slice none 0 0)).setCell ⟨w.heap.size,2,none⟩ (.slice none 0 0)).heap[D]?=some (.deferred (some [])):=by
     rw[Below.heap_setCell _ _ _ _ hDR,Below.heap_setCell _ _ _ _ hDR,Below.heap_setCell _ _ _ _ hDR]
     exact HK.out
    have k1:Below w.heap.size w (((W.setCell ⟨w.heap.size,0,none⟩ (.int .i64 0)).setCell ⟨w.heap.size,1,none⟩ (.slice none 0 0)).setCell ⟨w.heap.size,2,none⟩ (.slice none 0 0)):=by
     iterate 3 (refine Below.setCell ?_ (by simp) _)
     exact hB
    have bP:Blk ((((W.setCell ⟨w.heap.size,0,none⟩ (.int .i64 0)).setCell ⟨w.heap.size,1,none⟩ (.slice none 0 0)).setCell ⟨w.heap.size,2,none⟩ (.slice none 0 0)).putObj D (.deferred none)) (w.heap.size) 25 #[.int .i64 0,.slice none 0 0,.slice none 0 0]:=(World.putObj_heap_other (by omega)).trans bN
    have k2:Below w.heap.size w ((((W.setCell ⟨w.heap.size,0,none⟩ (.int .i64 0)).setCell ⟨w.heap.size,1,none⟩ (.slice none 0 0)).setCell ⟨w.heap.size,2,none⟩ (.slice none 0 0)).putObj D (.deferred none)):=⟨k1.os,k1.tape,k1.output,by simpa using k1.size,fun k hk=>(World.putObj_heap_other (by omega)).trans (k1.block k hk)⟩
    have m0:=bP.cell 0
    have m1:=bP.cell 1
    have m2:=bP.cell 2
    have hlv:LvC ((((W.setCell ⟨w.heap.size,0,none⟩ (.int .i64 0)).setCell ⟨w.heap.size,1,none⟩ (.slice none 0 0)).setCell ⟨w.heap.size,2,none⟩ (.slice none 0 0)).putObj D (.deferred none)) w.heap.size (((((W.setCell ⟨w.heap.size,0,none⟩ (.int .i64 0)).setCell ⟨w.heap.size,1,none⟩ (.slice none 0 0)).setCell ⟨w.heap.size,2,none⟩ (.slice none 0 0)).putObj D (.deferred none))).heap.size (Mod.pd jk) [.int .i64 0,.slice none 0 0,.slice none 0 0]:=abe _
    refine⟨by simp,.inl ⟨_,_,rfl,run_takeDeferred hKF,?_⟩⟩
    refine⟨.tuple #[.agg #[.int .i64 0,.slice none 0 0,.slice none 0 0],.int .i64 6],by simp[results,Tryz.results5,go_sem,m0,m1,m2],?_⟩
    exact⟨_,by rw[heq],by rw[heq];exact hlv,k2⟩
   case neg=>
    have t0:(s.toList ==[])=false:=(yw _ _).trans (decide_eq_false hz)
    have hwf:PD.wfL (Mod.pd ⟨p,is,cs⟩):=by rw[HMM.out];exact(aui hs).wf
    have HMX:=Lib.hid (aht ⟨p,is,cs⟩ hwf _ _ W (Nat.le_refl _) (HTT.out.below hB).1 HG.out.cap HG.out.done.is)
    clear hwf
    obtain⟨tx,htx⟩:∃ t,t=ajw ⟨p,is,cs⟩:=⟨_,rfl⟩
    rw[← htx] at HMX
    have HTX:=Lib.hid htx
    clear htx
    gi_wp2
    refine⟨trivial,?_⟩
    refine(callsIn_wide.2 HMX.out).mono ?_
    rintro e W2 ⟨rfl,hb2⟩
    have bM2:=bM.step hb2
    have bR2:=bR.step hb2
    have hB2:=hB.trans (hb2.mono hB.size)
    have HK2:=Lib.hid ((hb2.block D (Array.getElem?_eq_some_iff.1 HK.out).1).trans HK.out)
    clear HMX
    have x0:W2.cell? ⟨w.heap.size+1,0,none⟩=some (.int .i64 p):=bM2.cell 0
    have x1:W2.cell? ⟨w.heap.size+1,1,none⟩=some (.slice iA is.length iC):=bM2.cell 1
    have x2:W2.cell? ⟨w.heap.size+1,2,none⟩=some (.slice cA cs.length cC):=bM2.cell 2
    have u0:W2.cell? ⟨w.heap.size,0,none⟩=some (.int .i64 0):=bR2.cell 0
    have g0:=bR2.frozen 0
    have u1:W2.cell? ⟨w.heap.size,1,none⟩=some (.slice none 0 0):=bR2.cell 1
    have g1:=bR2.frozen 1
    have u2:W2.cell? ⟨w.heap.size,2,none⟩=some (.slice none 0 0):=bR2.cell 2
    have g2:=bR2.frozen 2
    by_cases ht:tx=s
    case neg=>
     have t1:(tx.toList ==s.toList)=false:=(acn _ _).trans (decide_eq_false ht)
     have heq:tq s=(jk,6):=by
      rw[ale h3,if_neg]
      rintro⟨h1,h2⟩
      rw[← HMM.out] at h1 h2
      exact ht (by rw[HTX.out,aha h1,h2])
     gi_wp2
     have hDR:D≠w.heap.size:=by omega
     have bN:Blk (((W2.setCell ⟨w.heap.size,0,none⟩ (.int .i64 0)).setCell ⟨w.heap.size,1,none⟩ (.slice none 0 0)).setCell ⟨w.heap.size,2,none⟩ (.slice none 0 0)) (w.heap.size) 25 #[.int .i64 0,.slice none 0 0,.slice none 0 0]:=by
      have:=(((bR2.dh 0 (.int .i64 0)).dh 1 (.slice none 0 0)).dh 2 (.slice none 0 0))
      simpa using this
     have hKF:(((W2.setCell ⟨w.heap.size,0,none⟩ (.int .i64 0)).setCell ⟨w.heap.size,1,none⟩ (.slice none 0 0)).setCell ⟨w.heap.size,2,none⟩ (.slice none 0 0)).heap[D]?=some (.deferred (some [])):=by
      rw[Below.heap_setCell _ _ _ _ hDR,Below.heap_setCell _ _ _ _ hDR,Below.heap_setCell _ _ _ _ hDR]
      exact HK2.out
     have k1:Below w.heap.size w (((W2.setCell ⟨w.heap.size,0,none⟩ (.int .i64 0)).setCell ⟨w.heap.size,1,none⟩ (.slice none 0 0)).setCell ⟨w.heap.size,2,none⟩ (.slice none 0 0)):=by
      iterate 3 (refine Below.setCell ?_ (by simp) _)
      exact hB2
     have bP:Blk ((((W2.setCell ⟨w.heap.size,0,none⟩ (.int .i64 0)).setCell ⟨w.heap.size,1,none⟩ (.slice none 0 0)).setCell ⟨w.heap.size,2,none⟩ (.slice none 0 0)).putObj D (.deferred none)) (w.heap.size) 25 #[.int .i64 0,.slice none 0 0,.slice none 0 0]:=(World.putObj_heap_other (by omega)).trans bN
     have k2:Below w.heap.size w ((((W2.setCell ⟨w.heap.size,0,none⟩ (.int .i64 0)).setCell ⟨w.heap.size,1,none⟩ (.slice none 0 0)).setCell ⟨w.heap.size,2,none⟩ (.slice none 0 0)).putObj D (.deferred none)):=⟨k1.os,k1.tape,k1.output,by simpa using k1.size,fun k hk=>(World.putObj_heap_other (by omega)).trans (k1.block k hk)⟩
     have m0:=bP.cell 0
     have m1:=bP.cell 1
     have m2:=bP.cell 2
     have hlv:LvC ((((W2.setCell ⟨w.heap.size,0,none⟩ (.int .i64 0)).setCell ⟨w.heap.size,1,none⟩ (.slice none 0 0)).setCell ⟨w.heap.size,2,none⟩ (.slice none 0 0)).putObj D (.deferred none)) w.heap.size (((((W2.setCell ⟨w.heap.size,0,none⟩ (.int .i64 0)).setCell ⟨w.heap.size,1,none⟩ (.slice none 0 0)).setCell ⟨w.heap.size,2,none⟩ (.slice none 0 0)).putObj D (.deferred none))).heap.size (Mod.pd jk) [.int .i64 0,.slice none 0 0,.slice none 0 0]:=abe _
     refine⟨by simp,.inl ⟨_,_,rfl,run_takeDeferred hKF,?_⟩⟩
     refine⟨.tuple #[.agg #[.int .i64 0,.slice none 0 0,.slice none 0 0],.int .i64 6],by simp[results,Tryz.results5,go_sem,m0,m1,m2],?_⟩
     exact⟨_,by rw[heq],by rw[heq];exact hlv,k2⟩
    case pos=>
     have t1:(tx.toList ==s.toList)=true:=(acn _ _).trans (decide_eq_true ht)
     have heq:tq s=(⟨p,is,cs⟩,0):=by
      have hb:uy ⟨p,is,cs⟩=true:=by
       cases hb:uy ⟨p,is,cs⟩with
       | true=>rfl
       | false=>exact absurd (by rw[← ht,HTX.out,ams hb]) hz
      rw[ale h3,← HMM.out,if_pos ⟨hb,by rw[← ht,HTX.out,aha hb]⟩]
     gi_wp2
     have hDR:D≠w.heap.size:=by omega
     have bN:Blk (((W2.setCell ⟨w.heap.size,0,none⟩ (.int .i64 p)).setCell ⟨w.heap.size,1,none⟩ (.slice iA is.length iC)).setCell ⟨w.heap.size,2,none⟩ (.slice cA cs.length cC)) (w.heap.size) 25 #[.int .i64 p,.slice iA is.length iC,.slice cA cs.length cC]:=by
      have:=(((bR2.dh 0 (.int .i64 p)).dh 1 (.slice iA is.length iC)).dh 2 (.slice cA cs.length cC))
      simpa using this
     have hKF:(((W2.setCell ⟨w.heap.size,0,none⟩ (.int .i64 p)).setCell ⟨w.heap.size,1,none⟩ (.slice iA is.length iC)).setCell ⟨w.heap.size,2,none⟩ (.slice cA cs.length cC)).heap[D]?=some (.deferred (some [])):=by
      rw[Below.heap_setCell _ _ _ _ hDR,Below.heap_setCell _ _ _ _ hDR,Below.heap_setCell _ _ _ _ hDR]
      exact HK2.out
     have k1:Below w.heap.size w (((W2.setCell ⟨w.heap.size,0,none⟩ (.int .i64 p)).setCell ⟨w.heap.size,1,none⟩ (.slice iA is.length iC)).setCell ⟨w.heap.size,2,none⟩ (.slice cA cs.length cC)):=by
      iterate 3 (refine Below.setCell ?_ (by simp) _)
      exact hB2
     have bP:Blk ((((W2.setCell ⟨w.heap.size,0,none⟩ (.int .i64 p)).setCell ⟨w.heap.size,1,none⟩ (.slice iA is.length iC)).setCell ⟨w.heap.size,2,none⟩ (.slice cA cs.length cC)).putObj D (.deferred none)) (w.heap.size) 25 #[.int .i64 p,.slice iA is.length iC,.slice cA cs.length cC]:=(World.putObj_heap_other (by omega)).trans bN
     have k2:Below w.heap.size w ((((W2.setCell ⟨w.heap.size,0,none⟩ (.int .i64 p)).setCell ⟨w.heap.size,1,none⟩ (.slice iA is.length iC)).setCell ⟨w.heap.size,2,none⟩ (.slice cA cs.length cC)).putObj D (.deferred none)):=⟨k1.os,k1.tape,k1.output,by simpa using k1.size,fun k hk=>(World.putObj_heap_other (by omega)).trans (k1.block k hk)⟩
     have m0:=bP.cell 0
     have m1:=bP.cell 1
     have m2:=bP.cell 2
     have hGP:GM wl.heap.size ((((W2.setCell ⟨w.heap.size,0,none⟩ (.int .i64 p)).setCell ⟨w.heap.size,1,none⟩ (.slice iA is.length iC)).setCell ⟨w.heap.size,2,none⟩ (.slice cA cs.length cC)).putObj D (.deferred none)) ⟨p,is,cs⟩ (.slice iA is.length iC) (.slice cA cs.length cC) vs:=by
      refine GM.kept (W:=(((W2.setCell ⟨w.heap.size,0,none⟩ (.int .i64 p)).setCell ⟨w.heap.size,1,none⟩ (.slice iA is.length iC)).setCell ⟨w.heap.size,2,none⟩ (.slice cA cs.length cC))) ?_ fun k o hk ho hc=>(World.putObj_heap_other fun e=>?_).trans ho
      ·iterate 3 (refine GM.far ?_ (by simp only;omega) _)
       exact HG.out.step hb2
      ·rw[e,hKF] at ho;cases ho;cases hc
     have hlv:LvC ((((W2.setCell ⟨w.heap.size,0,none⟩ (.int .i64 p)).setCell ⟨w.heap.size,1,none⟩ (.slice iA is.length iC)).setCell ⟨w.heap.size,2,none⟩ (.slice cA cs.length cC)).putObj D (.deferred none)) w.heap.size (((((W2.setCell ⟨w.heap.size,0,none⟩ (.int .i64 p)).setCell ⟨w.heap.size,1,none⟩ (.slice iA is.length iC)).setCell ⟨w.heap.size,2,none⟩ (.slice cA cs.length cC)).putObj D (.deferred none))).heap.size (Mod.pd ⟨p,is,cs⟩) [.int .i64 p,.slice iA is.length iC,.slice cA cs.length cC]:=hGP.done.low (by omega)
     refine⟨by simp,.inl ⟨_,_,rfl,run_takeDeferred hKF,?_⟩⟩
     refine⟨.tuple #[.agg #[.int .i64 p,.slice iA is.length iC,.slice cA cs.length cC],.int .i64 0],by simp[results,Tryz.results5,go_sem,m0,m1,m2],?_⟩
     exact⟨_,by rw[heq],by rw[heq];exact hlv,k2⟩
end Go.Proofs.YtlpcocfadppkhaaGreatDoor
namespace Go.Proofs.YtlpcocfadppkhaaGreatDoor
open Go.RowKit
set_option linter.unusedVariables false
set_option linter.unusedSimpArgs false
set_option linter.unnecessarySimpa false
theorem ah3 (s:ByteArray) (hs:s.size≤1048576):∀ (B:Nat) (w:World),B≤w.heap.size→aa1 w→
  Calls Tryz.prog 4 #[.string s] w fun e w'=>∃ us,e=.returned (.tuple #[.agg us.toArray,.int .i64 (tq s).2])∧LvC w' w.heap.size w'.heap.size (Mod.pd (tq s).1) us∧Below w.heap.size w w':=
 fun _ w _ _=>amb hs w
theorem ah4 (s:ByteArray) (hs:s.size≤1048576):∀ (B:Nat) (w:World),B≤w.heap.size→aa1 w→
  Calls Tryz.prog 5 #[.string s] w fun e w'=>∃ us,e=.returned (.tuple #[.agg us.toArray,.int .i64 (tq s).2])∧LvC w' w.heap.size w'.heap.size (Mod.pd (tq s).1) us∧Below w.heap.size w w':=
 fun _ w _ hT=>callsIn_wide.1 (aob hs 3 (by omega) w hT)
theorem adq {α:Type} {f:α→List PD} {K:Nat}:∀ {L:List α},(∀ v ∈ L,PD.bf (f v)≤K)→PD.bf (L.flatMap f)≤L.length * K
 | [],_=>by simp[PD.bf]
 | v ::L,h=>by
  have h1:=h v (by simp)
  have h2:=adq (L:=L) fun x hx=>h x (by simp[hx])
  rw[List.flatMap_cons,adp,List.length_cons,Nat.succ_mul]
  omega
theorem alf {m:Mod} (h:aao m 30001):PD.bf (Mod.pd m)≤1800360016+30001 * 8:=by
 obtain⟨p,is,cs⟩:=m
 obtain⟨h1,h2,h3⟩:=h
 have k1:PD.bf (is.flatMap Imp.pd)≤is.length * 3:=adq fun x _=>by obtain⟨a,b,c⟩:=x;rw[Imp.aj];simp[PD.bf,PD.cnt]
 have k2:PD.bf (cs.flatMap Core.pd)≤cs.length * 60006:=adq fun c hc=>by
  have hc:=h3 c hc
  obtain⟨a,b,d,e,code⟩:=c
  have k3:PD.bf (code.flatMap Ins.pd)≤code.length * 2:=adq fun i _=>by obtain⟨x,y⟩:=i;rw[Ins.aj];simp[PD.bf,PD.cnt]
  rw[Core.aj]
  have hc:code.length≤30001:=hc
  simp[PD.bf,PD.cnt]
  omega
 have h1:is.length≤30001:=h1
 have h2:cs.length≤30001:=h2
 rw[Mod.aj]
 simp[PD.bf,PD.cnt]
 have:=Nat.mul_le_mul_right 60006 h2
 omega
theorem ar5 (s:ByteArray):PD.bf (Mod.pd (tq s).1)≤1800360016+30001 * 8:=by
 by_cases h:30000 < s.size
 ·rw[ac5 h];exact alf ⟨Nat.zero_le _,Nat.zero_le _,fun c hc=>by simp[jk] at hc⟩
 ·rw[tq,if_neg h,afc]
  split
  ·rename_i m hm
   split at hm
   ·cases hm
    exact alf (agl (abu (Nat.le_trans (agm 10 s) (by omega))))
   ·cases hm
  ·exact alf ⟨Nat.zero_le _,Nat.zero_le _,fun c hc=>by simp[jk] at hc⟩
theorem ajh:∀ ds:List PD,qh ds≤PD.bf ds
 | []=>by simp[qh,PD.bf]
 | .lit _ ::r=>by have:=ajh r;simp[qh,PD.bf,PD.cnt];omega
 | .row _ xs ::r=>by have:=ajh r;simp[qh,PD.bf,PD.cnt];omega
theorem aqo (s:ByteArray):qh (Mod.pd (tq s).1)≤1099511627775:=by
 have h1:=ar5 s
 have h2:=ajh (Mod.pd (tq s).1)
 omega
end Go.Proofs.YtlpcocfadppkhaaGreatDoor
