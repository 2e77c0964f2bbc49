/-
  The reading of a module's lines: spec.l15Guess (by program: gen_gs.py) (by program: gen_why.py).
-/
import Derived.Test.YtlpcocfadppkhaaGreatDoorRa14
import Derived.Test.YtlpcocfadppkhaaGreatDoorRa09
import Derived.Test.YtlpcocfadppkhaaGreatDoorRa12
namespace Go.Proofs.YtlpcocfadppkhaaGreatDoor
open Go.RowKit
set_option linter.unusedVariables false
set_option linter.unusedSimpArgs false
set_option linter.unnecessarySimpa false
set_option maxRecDepth 16000
theorem ai5:(Tryz.prog.info? 52).map (fun i=>(i.zero,i.size,i.bytes))=some (some (.agg #[.string {data:=#[]},.int .i64 0,.bool false]),3,32):=by kernel_rfl
theorem ahh:(Tryz.prog.info? 36).map (fun i=>(i.zero,i.size,i.bytes))=some (some (.agg #[.string {data:=#[]},.int .i64 0,.int .i64 0,.bool false,.slice none 0 0]),5,64):=by kernel_rfl
theorem ai6:(Tryz.prog.info? 54).map (fun i=>(i.zero,i.size,i.bytes))=some (some (.agg #[.int .i64 0,.int .i64 0]),2,16):=by kernel_rfl
theorem adi (s:ByteArray) (n:Int) (b:Bool):∀ u ∈ [Value.string s,Value.int .i64 n,Value.bool b],u.oneCell'=true:=by
 intro u hu
 simp only[List.mem_cons,List.not_mem_nil,or_false] at hu
 rcases hu with rfl|rfl|rfl<;>rfl
theorem abo (s:ByteArray) (n k:Int) (b:Bool) (A:Option Addr) (m c:Nat):∀ u ∈ [Value.string s,Value.int .i64 n,Value.int .i64 k,Value.bool b,Value.slice A m c],u.oneCell'=true:=by
 intro u hu
 simp only[List.mem_cons,List.not_mem_nil,or_false] at hu
 rcases hu with rfl|rfl|rfl|rfl|rfl<;>rfl
theorem abt (n k:Int):∀ u ∈ [Value.int .i64 n,Value.int .i64 k],u.oneCell'=true:=by
 intro u hu
 simp only[List.mem_cons,List.not_mem_nil,or_false] at hu
 rcases hu with rfl|rfl<;>rfl
theorem yw (s:ByteArray) (l:List UInt8):(s.toList ==l)=decide (s=⟨l.toArray⟩):=by
 rw[ByteArray.toList_eq]
 by_cases h:s=⟨l.toArray⟩
 ·subst h;simp
 ·rw[decide_eq_false h]
  cases hb:(s.data.toList ==l)
  ·rfl
  ·exfalso
   apply h
   have h2:s.data.toList=l:=by simpa using hb
   exact ByteArray.ext (by rw[← h2,Array.toArray_toList])
theorem avx {ws:List ByteArray} (h:0 < ws.length) {i:Nat} (hi:i≤4):(strs ws ++strs [⟨#[]⟩,⟨#[]⟩,⟨#[]⟩,⟨#[]⟩])[i]?=some (.string (wAt ws i)):=by
 rw[strs,strs,← List.map_append,List.getElem?_map]
 by_cases hl:i < ws.length
 ·rw[List.getElem?_append_left hl,wAt,List.getElem?_eq_getElem hl];rfl
 ·have hn:ws[i]?=none:=List.getElem?_eq_none (by omega)
  rw[List.getElem?_append_right (by omega),wAt,hn]
  obtain⟨j,hj⟩:∃ j,i - ws.length=j:=⟨_,rfl⟩
  have hj4:j < 4:=by omega
  rw[hj]
  clear hj
  match j,hj4 with
  | 0,_=>rfl
  | 1,_=>rfl
  | 2,_=>rfl
  | 3,_=>rfl
theorem ab1 (s:ByteArray) (i:Nat):(wAt (bn 32 s) i).size≤s.size:=by
 rw[wAt]
 cases h:(bn 32 s)[i]? with
 | none=>exact Nat.zero_le _
 | some p=>exact afs (List.mem_of_getElem? h)
theorem as2 {W:World} {lo:Nat} {v:Value} {ws:List ByteArray} (h:W.ownsRow lo 9 1 v (ws.length+4) (strs ws ++strs [⟨#[]⟩,⟨#[]⟩,⟨#[]⟩,⟨#[]⟩])) (hp:0 < ws.length):
  ∃ g N cap,v=.slice (some ⟨g,0,none⟩) N cap∧5≤N∧lo≤g∧g < W.heap.size∧∀ i,i≤4→W.cell? ⟨g,i,none⟩=some (.string (wAt ws i)):=by
 have h0:=h
 rcases h.2 with ⟨_,h2⟩|⟨g,cap,cur,rfl,hb,hh,_⟩
 ·omega
 ·refine⟨g,_,cap,rfl,by omega,hb,(Array.getElem?_eq_some_iff.1 hh).1,fun i hi=>?_⟩
  rw[h0.cellAt i (by omega)]
  exact avx hp hi
theorem zl {W:World} {lo sz n:Nat} {t:TypeId} {v:Value} {cs:List Value} (h:W.ownsRow lo t sz v n cs):∃ A c,v=.slice A n c∧(0 < n→∃ g,A=some ⟨g,0,none⟩∧lo≤g∧g < W.heap.size∧∀ j,j < n * sz→W.cell? ⟨g,j,none⟩=cs[j]?∧W.frozen? ⟨g,j,none⟩=false):=by
 have h0:=h
 rcases h.2 with ⟨rfl,rfl⟩|⟨g,cap,cur,rfl,hb,hh,_⟩
 ·exact⟨none,0,rfl,fun h=>absurd h (by omega)⟩
 ·exact⟨_,cap,rfl,fun _=>⟨g,rfl,hb,(Array.getElem?_eq_some_iff.1 hh).1,fun j hj=>⟨h0.cellAt j hj,h0.frozenAt j⟩⟩⟩
def aao (m:Mod) (k:Nat):Prop:=m.imports.length≤k∧m.cores.length≤k∧∀ c ∈ m.cores,c.code.length≤k
theorem aic {cs:List Core} {i:Ins} {k:Nat} (h1:cs.length≤k) (h2:∀ c ∈ cs,c.code.length≤k):(xg i cs).length≤k∧∀ c ∈ xg i cs,c.code.length≤k+1:=by
 rcases List.eq_nil_or_concat cs with rfl|⟨L,b,e⟩
 ·exact⟨Nat.zero_le _,fun c hc=>by simp[xg] at hc⟩
 ·have e:cs=L ++[b]:=by simpa using e
  subst e
  rw[qc]
  refine⟨by simpa using h1,fun c hc=>?_⟩
  rcases List.mem_append.1 hc with hc|hc
  ·have:=h2 c (by simp[hc]);omega
  ·have:=h2 b (by simp)
   simp at hc
   subst hc
   simp
   omega
theorem arj {m:Mod} {k:Nat} (h:aao m k) (l:ByteArray):aao (lineS m l) (k+1):=by
 obtain⟨h1,h2,h3⟩:=h
 have h4:∀ c ∈ m.cores,c.code.length≤k+1:=fun c hc=>by have:=h3 c hc;omega
 rw[lineS]
 split
 ·exact⟨by simp only;omega,by simp only;omega,h4⟩
 split
 ·exact⟨by simp only[List.length_append,List.length_singleton];omega,by simp only;omega,h4⟩
 split
 ·refine⟨by simp only;omega,by simp only[List.length_append,List.length_singleton];omega,fun c hc=>?_⟩
  rcases List.mem_append.1 hc with hc|hc
  ·exact h4 c hc
  ·simp at hc;subst hc;simp
 ·have:=aic (i:=⟨(rdS l).1,(rdS l).2.1⟩) h2 h3
  exact⟨by simp only;omega,by simp only;omega,this.2⟩
theorem ahi (ls:List ByteArray):∀ k,aao ((ls.take k).foldl lineS jk) k
 | 0=>⟨Nat.le_refl _,Nat.le_refl _,fun c hc=>by simp[jk] at hc⟩
 | k+1=>by
  have ih:=ahi ls k
  rw[List.take_add_one,List.foldl_append]
  cases hl:ls[k]? with
  | none=>exact⟨by have:=ih.1;simp;omega,by have:=ih.2.1;simp;omega,fun c hc=>by have:=ih.2.2 c (by simpa using hc);omega⟩
  | some l=>exact arj ih l
theorem aeo {cs:List Core} {us:List Value} {c:Core} {v:Value} (h:us.length=cs.length):(jf (cs ++[c]) (us ++[v]))[cs.length * 5+4]?=some v:=by
 rw[aai c v h,List.getElem?_append_right (by rw[aad h];omega),aad h,show cs.length * 5+4 - cs.length * 5=4 by omega]
 rfl
theorem GM.mid {lo:Nat} {W W':World} {p:Int} {is:List Imp} {cs:List Core} {c:Core} {vi vc v v':Value} {vs:List Value} {n:Nat} {xs:List Value} (h:GM lo W ⟨p,is,cs ++[c]⟩ vi vc (vs ++[v])) (hr:W'.ownsRow lo 54 2 v' n xs) (hg:W.grownBy W' v.ownBlock) (hat:v'.ownBlock=v.ownBlock∨v'.ownBlock=some W.heap.size):
  W'.ownsRow lo 36 5 vc (cs ++[c]).length (jf (cs ++[c]) (vs ++[v])):=by
 have hl:vs.length=cs.length:=by have:=h.1;simpa using this
 have h0:jl lo W ((abw is vi ::aa7 (cs ++[c]) (vs ++[v]) vc ::jq cs vs) ++aav c v ::[]):=by
  have:=h.2
  rw[vk c v hl] at this
  simpa using this
 exact(jl.grow (r':=⟨54,2,v',n,xs⟩) h0 hg hr hat).get (r:=aa7 (cs ++[c]) (vs ++[v]) vc) (by simp)
def anf (m:Mod) (w:World) (e:Ending) (w':World):Prop:=∃ vi vc vs,e=.returned (.agg #[.int .i64 m.pages,vi,vc])∧GM (w.heap.size+1+1) w' m vi vc vs∧Below w.heap.size w w'
set_option maxHeartbeats 12800000 in
theorem ang (lines:List ByteArray) (hn:lines.length≤30001) (hsz:∀ l ∈ lines,l.size≤1048576) {B:Nat} {v:Value} {w:World} (hB:B≤w.heap.size) (hr:Rep w B (.row 1 (lines.flatMap aa3)) v):
  Calls Tryz.prog 9 #[v] w fun e w'=>anf (lines.foldl lineS jk) w e w':=by
 obtain⟨A,n,c,rfl,hnl,hm,hat⟩:=jr aaz (by decide) hr
 have HN:=Lib.hid hnl
 have HAT:=Lib.hid hat
 have HSZ:=Lib.hid hsz
 have hn3:n≤30001:=by omega
 unfold maxLen at hm
 clear hr hat hsz
 obtain⟨G,hG⟩:∃ f:Nat→Mod,f=fun k=>(lines.take k).foldl lineS jk:=⟨_,rfl⟩
 have HG0:Hid (G 0=jk):=by show _=_;rw[hG];rfl
 have HGS:Hid (∀ k l,lines[k]?=some l→G (k+1)=lineS (G k) l):=Lib.hid fun k l hl=>by rw[hG];simp only;rw[List.take_add_one,hl,List.foldl_append];rfl
 have HGE:Hid (lines.foldl lineS jk=G n):=by show _=_;rw[hG,hnl];simp only;rw[List.take_length]
 have HGL:Hid (∀ k,aao (G k) k):=Lib.hid fun k=>by rw[hG];exact ahi lines k
 clear hG hnl hn
 obtain⟨w0,hw0⟩:∃ V,V=(w.alloc (.cells #[.int .i64 0,.slice none 0 0,.slice none 0 0] 25)).alloc (.cells #[.int .i64 0,.slice none 0 0,.slice none 0 0] 25):=⟨_,rfl⟩
 have bR0:Blk w0 (w.heap.size) 25 #[.int .i64 0,.slice none 0 0,.slice none 0 0]:=by rw[hw0];exact(Blk.new w _ _).alloc _
 have bM0:Blk w0 (w.heap.size+1) 25 #[.int .i64 0,.slice none 0 0,.slice none 0 0]:=by rw[hw0];have:=Blk.new (w.alloc (.cells #[.int .i64 0,.slice none 0 0,.slice none 0 0] 25)) 25 #[.int .i64 0,.slice none 0 0,.slice none 0 0];simpa using this
 have hB0:Below w.heap.size w w0:=by rw[hw0];exact((Below.refl _ _).alloc (Nat.le_refl _) _).alloc (by simp) _
 have hs0:w0.heap.size=w.heap.size+1+1:=by rw[hw0];simp
 have HW0:=Lib.hid hw0
 clear hw0
 obtain⟨lo,hlo⟩:∃ l,l=w.heap.size+1+1:=⟨_,rfl⟩
 have HLO:=Lib.hid hlo
 have hlo1:w.heap.size+1 < lo:=by omega
 have hlo2:lo≤w0.heap.size:=by omega
 unfold anf
 rw[HGE.out,← hlo]
 clear hlo
 go_enter Tryz.func9,Tryz.ntmps9
 go_wp2_with fail
 rw[← HW0.out]
 clear HW0
 go_loopw [4] (fun i wr=>∃ (k:Nat) (vi vc:Value) (vs:List Value),k≤n∧i=.int .i64 k∧Hid (GM lo wr (G k) vi vc vs)∧Hid (Below w.heap.size w wr)∧lo≤wr.heap.size∧Hid (Blk wr (w.heap.size) 25 #[.int .i64 0,.slice none 0 0,.slice none 0 0])∧Hid (Blk wr (w.heap.size+1) 25 #[.int .i64 (G k).pages,vi,vc])) (fun i _=>n - (intOf i).toNat)
 case atStart=>exact⟨0,.slice none 0 0,.slice none 0 0,[],Nat.zero_le _,rfl,Lib.hid (by rw[HG0.out];exact GM.new _ _ _),Lib.hid hB0,hlo2,Lib.hid bR0,Lib.hid (by rw[HG0.out];exact bM0)⟩
 case round=>
  clear bR0 bM0
  obtain⟨k,vi,vc,vs,hkn,rfl,HGM,HB,hlor,HR,HM⟩:=hrel
  obtain⟨m,hm0⟩:∃ m,m=G k:=⟨_,rfl⟩
  have HLK:=Lib.hid (HGL.out k)
  rw[← hm0] at HGM HM HLK
  have HMK:=Lib.hid hm0
  clear hm0
  obtain⟨p,is,cs⟩:=m
  obtain⟨iA,iC,rfl,hvi⟩:=zl HGM.out.aby
  obtain⟨cA,cC,rfl,hvc⟩:=zl HGM.out.pq
  obtain⟨iN,hiN⟩:∃ N,N=is.length:=⟨_,rfl⟩
  obtain⟨cN,hcN⟩:∃ N,N=cs.length:=⟨_,rfl⟩
  rw[← hiN,← hcN] at HGM HM
  rw[← hcN] at hvc
  have HIN:=Lib.hid hiN
  have HCN:=Lib.hid hcN
  have HVC:=Lib.hid hvc
  have hik:iN≤k:=by rw[hiN];exact HLK.out.1
  have hck:cN≤k:=by rw[hcN];exact HLK.out.2.1
  clear hiN hcN hvi hvc
  have hBr:=HB.out
  have bRr:=HR.out
  have bMr:=HM.out
  have HGr:=HGM
  have ax1:=hBr.size
  by_cases hlt:k < n
  case pos=>
   obtain⟨g,off,rfl,hg,hcell⟩:=HAT.out (by omega)
   obtain⟨l,hl,hlm⟩:=l7 HN.out hlt
   obtain⟨q,h1,h2⟩:=hcell k 0 l _ hl rfl
   rw[h2.uo] at h1
   have cl:wr.cell? ⟨g,off+k,none⟩=some (.string l):=(hBr.cell (p:=⟨g,off+k,none⟩) (by simp only;omega)).trans (by simpa using h1)
   have HCC:=Lib.hid (show w.cell? ⟨g,off+k,none⟩=some (.string l) by simpa using h1)
   clear h1 h2 hcell
   have hls:l.size≤1048576:=HSZ.out l hlm
   clear hlm
   obtain⟨ws,hws⟩:∃ L,bn 32 l=L:=⟨_,rfl⟩
   have hwp:0 < ws.length:=by rw[← hws];exact aix 32 l
   have HWL:Hid (ws.length≤1048577):=by
    show _≤_
    rw[← hws,bn,List.length_map]
    have h1:=ais 32 (byt l)
    have h2:(byt l).length=l.size:=ru l
    omega
   have HCL:Hid (∀ V,Below w.heap.size w V→V.cell? ⟨g,off+k,none⟩=some (.string l)):=Lib.hid fun V hV=>(hV.cell (p:=⟨g,off+k,none⟩) (by simp only;omega)).trans HCC.out
   obtain⟨x0,hx0⟩:∃ x,wAt ws 0=x:=⟨_,rfl⟩
   have a6y:x0.size≤1048576:=by rw[← hx0,← hws];exact Nat.le_trans (ab1 l 0) hls
   obtain⟨x1,hx1⟩:∃ x,wAt ws 1=x:=⟨_,rfl⟩
   have a0x:x1.size≤1048576:=by rw[← hx1,← hws];exact Nat.le_trans (ab1 l 1) hls
   obtain⟨x2,hx2⟩:∃ x,wAt ws 2=x:=⟨_,rfl⟩
   have a0y:x2.size≤1048576:=by rw[← hx2,← hws];exact Nat.le_trans (ab1 l 2) hls
   obtain⟨x3,hx3⟩:∃ x,wAt ws 3=x:=⟨_,rfl⟩
   have a0z:x3.size≤1048576:=by rw[← hx3,← hws];exact Nat.le_trans (ab1 l 3) hls
   obtain⟨x4,hx4⟩:∃ x,wAt ws 4=x:=⟨_,rfl⟩
   have a6z:x4.size≤1048576:=by rw[← hx4,← hws];exact Nat.le_trans (ab1 l 4) hls
   have HL1:=Lib.hid (fun V=>abx x1 a0x V)
   obtain⟨na,hna⟩:∃ z,(l9 x1).1=z:=⟨_,rfl⟩
   obtain⟨nab,ax2⟩:∃ z,(l9 x1).2=z:=⟨_,rfl⟩
   rw[hna,ax2] at HL1
   clear ax2
   have HL2:=Lib.hid (fun V=>abx x2 a0y V)
   obtain⟨nb,hnb⟩:∃ z,(l9 x2).1=z:=⟨_,rfl⟩
   obtain⟨nbb,ax3⟩:∃ z,(l9 x2).2=z:=⟨_,rfl⟩
   rw[hnb,ax3] at HL2
   clear ax3
   have HL3:=Lib.hid (fun V=>abx x3 a0z V)
   obtain⟨nc,hnc⟩:∃ z,(l9 x3).1=z:=⟨_,rfl⟩
   obtain⟨ncb,ax4⟩:∃ z,(l9 x3).2=z:=⟨_,rfl⟩
   rw[hnc,ax4] at HL3
   clear ax4
   obtain⟨b3,hb3⟩:∃ b,decide (x3=one1)=b:=⟨_,rfl⟩
   have e3:(x3.toList ==[49])=b3:=(yw _ _).trans hb3
   obtain⟨b4,hb4⟩:∃ b,decide (x4=one1)=b:=⟨_,rfl⟩
   have e4:(x4.toList ==[49])=b4:=(yw _ _).trans hb4
   obtain⟨xo,hxo⟩:∃ z,(rdS l).1=z:=⟨_,rfl⟩
   obtain⟨xa,hxa⟩:∃ z,(rdS l).2.1=z:=⟨_,rfl⟩
   obtain⟨xb,hxb⟩:∃ z,(rdS l).2.2=z:=⟨_,rfl⟩
   have HRD:=Lib.hid (fun V=>aoh hls V)
   unfold ap5 at HRD
   rw[hxo,hxa,hxb] at HRD
   have HLS:Hid (G (k+1)=if x0=abg then ⟨na,is,cs⟩else if x0=aat then ⟨p,is ++[⟨x1,nb,b3⟩],cs⟩else if x0=zx then ⟨p,is,cs ++[⟨x1,nb,nc,b4,[]⟩]⟩else ⟨p,is,xg ⟨xo,xa⟩ cs⟩):=by
    show _=_
    rw[HGS.out k l hl,← HMK.out,lineS,hws,hx0,hx1,hx2,hx3,hx4,hna,hnb,hnc,hb3,hb4,hxo,hxa]
   have HCU:=Lib.hid (ahc hls wr)
   unfold am0 at HCU
   rw[hws] at HCU
   clear hb3 hb4 hna hnb hnc hxo hxa hxb hl hws
   have HX:=Lib.hid (show wAt ws 0=x0∧wAt ws 1=x1∧wAt ws 2=x2∧wAt ws 3=x3∧wAt ws 4=x4 from⟨hx0,hx1,hx2,hx3,hx4⟩)
   clear hx0 hx1 hx2 hx3 hx4
   obtain⟨i0,hi,hz0,hz1,hz2⟩:=info_parts alo
   go_wp2_with fail
   refine HCU.out.mono ?_
   rintro e wa ⟨u,rfl,hu,hba⟩
   obtain⟨uA,uN,uC,rfl,-⟩:=(Own.lu hu).form
   have hBa:=hBr.trans (hba.mono hBr.size)
   have bMa:=bMr.step hba
   have bRa:=bRr.step hba
   have HGa:=Lib.hid (HGr.out.step hba)
   have hsa:=hba.size
   have HOW:Hid ((wa.alloc (.cells #[.string {data:=#[]},.string {data:=#[]},.string {data:=#[]},.string {data:=#[]}] 9)).ownsRow wr.heap.size 9 1 (.slice uA uN uC) ws.length (strs ws)):=Lib.hid (hu.alloc _)
   have HSC:Hid (uw (wa.alloc (.cells #[.string {data:=#[]},.string {data:=#[]},.string {data:=#[]},.string {data:=#[]}] 9)) (.slice (some ⟨wa.heap.size,0,none⟩) 4 4) 1 4 (strs [⟨#[]⟩,⟨#[]⟩,⟨#[]⟩,⟨#[]⟩])):=.inr ⟨⟨wa.heap.size,0,none⟩,4,rfl,rfl,World.news_of_block (heap_alloc_new wa _)⟩
   have HBA:Hid (Below wa.heap.size wa (wa.alloc (.cells #[.string {data:=#[]},.string {data:=#[]},.string {data:=#[]},.string {data:=#[]}] 9))):=Lib.hid ((Below.refl _ _).alloc (Nat.le_refl _) _)
   have hbase:wr.heap.size≤(wa.alloc (.cells #[.string {data:=#[]},.string {data:=#[]},.string {data:=#[]},.string {data:=#[]}] 9)).heap.size:=by simp;omega
   clear hu cl
   go_wp2_with (at_builtin;refine aae rfl _ _ 32 rfl wr.heap.size 9 i0 (.string {data:=#[]}) 1 16 Tryz.underlying32 hi hz0 hz1 hz2 rfl (by decide) _ _ _ rfl HOW.out _ _ _ rfl HSC.out (ait _) (by have:=HWL.out;simp only[maxLen];omega) (by have:=HWL.out;omega) hbase ?_;intro v' wb hown' hgrow _;obtain⟨gw,N,cw,rfl,hN5,hgw1,a00,hcw⟩:=as2 hown' hwp;have q1:wb.cell? ⟨gw,1,none⟩=some (.string x1):=(hcw 1 (by omega)).trans (by rw[HX.out.2.1]);have ax5:=Lib.hid hcw;clear hcw)
   have hbb:Below wr.heap.size wr wb:=(hba.trans ((HBA.out).mono hba.size)).grown hgrow hbase (fun j hj=>(HOW.out.lt j hj).1)
   have hBb:=hBr.trans (hbb.mono hBr.size)
   have bMb:=bMr.step hbb
   have bRb:=bRr.step hbb
   have HGb:=Lib.hid (HGr.out.step hbb)
   have hsb:=hbb.size
   have HCW:Hid (∀ V:World,V.heap[gw]?=wb.heap[gw]?→V.cell? ⟨gw,0,none⟩=some (.string x0)∧V.cell? ⟨gw,1,none⟩=some (.string x1)∧V.cell? ⟨gw,2,none⟩=some (.string x2)∧V.cell? ⟨gw,3,none⟩=some (.string x3)∧V.cell? ⟨gw,4,none⟩=some (.string x4)):=Lib.hid fun V hV=>by
    have key:∀ i,i≤4→V.cell? ⟨gw,i,none⟩=some (.string (wAt ws i)):=fun i hi=>(World.cell?_of_block (a:=⟨gw,i,none⟩) hV).trans (ax5.out i hi)
    obtain⟨y0,y1,y2,y3,y4⟩:=HX.out
    exact⟨y0 ▸ key 0 (by omega),y1 ▸ key 1 (by omega),y2 ▸ key 2 (by omega),y3 ▸ key 3 (by omega),y4 ▸ key 4 (by omega)⟩
   clear ax5 hown' hgrow q1 HOW HSC HBA HCU
   refine(HL1.out wb).mono ?_
   rintro e wc ⟨rfl,hbc⟩
   have hBc:=hBb.trans (hbc.mono hBb.size)
   have bMc:=bMb.step hbc
   have bRc:=bRb.step hbc
   have HGc:=Lib.hid (HGb.out.step hbc)
   have hsc:=hbc.size
   have hgc:wc.heap[gw]?=wb.heap[gw]?:=hbc.block gw a00
   have q2:=(HCW.out wc hgc).2.2.1
   go_wp2_with fail
   clear q2
   refine(HL2.out wc).mono ?_
   rintro e wd ⟨rfl,hbd⟩
   have hBd:=hBc.trans (hbd.mono hBc.size)
   have bMd:=bMc.step hbd
   have bRd:=bRc.step hbd
   have HGd:=Lib.hid (HGc.out.step hbd)
   have hsd:=hbd.size
   have hgd:wd.heap[gw]?=wb.heap[gw]?:=(hbd.block gw (by omega)).trans hgc
   have q3:=(HCW.out wd hgd).2.2.2.1
   go_wp2_with fail
   clear q3
   refine(HL3.out wd).mono ?_
   rintro e we ⟨rfl,hbe⟩
   have hBe:=hBd.trans (hbe.mono hBd.size)
   have bMe:=bMd.step hbe
   have bRe:=bRd.step hbe
   have HGe:=Lib.hid (HGd.out.step hbe)
   have hse:=hbe.size
   have hge:we.heap[gw]?=wb.heap[gw]?:=(hbe.block gw (by omega)).trans hgd
   clear bRa bMa HGa hBa bRb bMb HGb bRc bMc HGc bRd bMd HGd bRr bMr HGr
   have q0:=(HCW.out we hge).1
   have n0:(0:Int) < (N:Int):=by omega
   have n1:(1:Int) < (N:Int):=by omega
   have n2:(2:Int) < (N:Int):=by omega
   have n3:(3:Int) < (N:Int):=by omega
   have n4:(4:Int) < (N:Int):=by omega
   have z0:we.cell? ⟨w.heap.size+1,0,none⟩=some (.int .i64 p):=bMe.cell 0
   have f0:=bMe.frozen 0
   have z1:we.cell? ⟨w.heap.size+1,1,none⟩=some (.slice iA iN iC):=bMe.cell 1
   have f1:=bMe.frozen 1
   have z2:we.cell? ⟨w.heap.size+1,2,none⟩=some (.slice cA cN cC):=bMe.cell 2
   have f2:=bMe.frozen 2
   by_cases c0:x0=abg
   case pos=>
    have t0:(x0.toList ==[109,111,100,117,108,101])=true:=(yw _ _).trans (decide_eq_true c0)
    have HF:Hid (G (k+1)=⟨na,is,cs⟩):=by show _=_;rw[HLS.out,if_pos c0]
    clear HLS c0
    go_wp2_with fail
    go_roundw
    case rel=>exact⟨k+1,_,_,vs,by omega,by go_num,Lib.hid (by rw[HF.out];exact(HGe.out.page na).far (p:=⟨w.heap.size+1,0,none⟩) hlo1 _),Lib.hid (hBe.setCell (p:=⟨w.heap.size+1,0,none⟩) (by simp) _),by simp[World.setCell];omega,Lib.hid (bRe.far (p:=⟨w.heap.size+1,0,none⟩) (by simp) _),Lib.hid (by rw[HF.out];have:=bMe.dh 0 (.int .i64 na);simpa using this)⟩
    case measure=>simp[intOf];omega
   have t0:(x0.toList ==[109,111,100,117,108,101])=false:=(yw _ _).trans (decide_eq_false c0)
   by_cases c1:x0=aat
   case pos=>
    have t1:(x0.toList ==[105,109,112,111,114,116])=true:=(yw _ _).trans (decide_eq_true c1)
    have HF:Hid (G (k+1)=⟨p,is ++[⟨x1,nb,b3⟩],cs⟩):=by show _=_;rw[HLS.out,if_neg c0,if_pos c1]
    clear HLS c0 c1
    have ai7:(we.drew.alloc (.cells #[.string x1,.int .i64 nb,.bool b3] 52)).heap[gw]?=wb.heap[gw]?:=(Below.heap_alloc we.drew _ gw (by show gw < we.heap.size;omega)).trans hge
    have HOWN:=Lib.hid (World.ownsRow.alloc (w:=we.drew) (show we.drew.ownsRow lo 52 3 (.slice iA iN iC) iN (is.flatMap zk)from by have q:=(HGe.out.step (Below.refl _ _).drew).aby;rw[← HIN.out] at q;exact q) (.cells #[.string x1,.int .i64 nb,.bool b3] 52))
    have ni:Hid (uw (we.drew.alloc (.cells #[.string x1,.int .i64 nb,.bool b3] 52)) (.slice (some ⟨we.heap.size,0,none⟩) 1 1) 3 1 [.string x1,.int .i64 nb,.bool b3]):=.inr ⟨_,1,rfl,rfl,World.news_of_block (heap_alloc_new we.drew _)⟩
    have hLQ:lo≤(we.drew.alloc (.cells #[.string x1,.int .i64 nb,.bool b3] 52)).heap.size:=by show lo≤(we.drew.heap.push _).size;rw[Array.size_push];show lo≤we.heap.size+1;omega
    have HVB:Hid (∀ j,Value.ownBlock (.slice iA iN iC)=some j→lo≤j∧j < wr.heap.size):=Lib.hid fun j hj=>(HGM.out.aby).lt j hj
    have HBM:Hid (∀ V:World,World.grownBy (we.drew.alloc (.cells #[.string x1,.int .i64 nb,.bool b3] 52)) V (Value.ownBlock (.slice iA iN iC))→Blk V (w.heap.size+1) 25 #[.int .i64 p,.slice iA iN iC,.slice cA cN cC]):=Lib.hid fun V hV=>(hV.block (w.heap.size+1) (by have:=bMe.lt;simp;omega) (fun hne=>by have:=HVB.out _ hne.symm;omega)).trans ((bMe.step (Below.refl _ _).drew).alloc _)
    have HBR:Hid (∀ V:World,World.grownBy (we.drew.alloc (.cells #[.string x1,.int .i64 nb,.bool b3] 52)) V (Value.ownBlock (.slice iA iN iC))→Blk V (w.heap.size) 25 #[.int .i64 0,.slice none 0 0,.slice none 0 0]):=Lib.hid fun V hV=>(hV.block w.heap.size (by have:=bRe.lt;simp;omega) (fun hne=>by have:=HVB.out _ hne.symm;omega)).trans ((bRe.step (Below.refl _ _).drew).alloc _)
    have HBB:Hid (∀ V:World,World.grownBy (we.drew.alloc (.cells #[.string x1,.int .i64 nb,.bool b3] 52)) V (Value.ownBlock (.slice iA iN iC))→Below w.heap.size w V):=Lib.hid fun V hV=>(hBe.drew.alloc hBe.size _).grown hV (by simp;have:=hBe.size;omega) (fun j hj=>by have:=HVB.out j hj;omega)
    have HGQ:Hid (GM lo (we.drew.alloc (.cells #[.string x1,.int .i64 nb,.bool b3] 52)) ⟨p,is,cs⟩ (.slice iA iN iC) (.slice cA cN cC) vs):=Lib.hid ((HGe.out.step (Below.refl _ _).drew).step ((Below.refl _ _).alloc (Nat.le_refl _) _))
    obtain⟨i1,hi1,hy0,hy1,hy2⟩:=info_parts ai5
    have zC1:(we.drew.alloc (.cells #[.string x1,.int .i64 nb,.bool b3] 52)).cell? ⟨w.heap.size+1,1,none⟩=some (.slice iA iN iC):=(((bMe.step (Below.refl _ _).drew)).alloc _).cell 1
    have zC2:(we.alloc (.cells #[.string x1,.int .i64 nb,.bool b3] 52)).drew.cell? ⟨w.heap.size+1,1,none⟩=some (.slice iA iN iC):=zC1
    have zD:we.drew.cell? ⟨w.heap.size+1,1,none⟩=some (.slice iA iN iC):=z1
    go_wp2_with fail
    refine wp_region_held_drew (S:=(fun w'=>w'.cell? ⟨gw,0,none⟩=some (.string x0)∧w'.cell? ⟨gw,1,none⟩=some (.string x1)∧w'.cell? ⟨gw,2,none⟩=some (.string x2)∧w'.cell? ⟨gw,3,none⟩=some (.string x3)∧w'.cell? ⟨gw,4,none⟩=some (.string x4))) (by kernel_rfl) (HCW.out we.drew hge) (fun hHeld=>?_)
    refine wpAnyH_take (i:=0) (oi:=_) (v:=_) (by simp only[List.getElem?_toArray,List.getElem?_cons_succ,List.getElem?_cons_zero];rfl) (by kernel_rfl) (by kernel_rfl) (by kernel_rfl) (by exact fun _ _ _ h=>h) (Or.inl ⟨by rfl,by intro w hSw;(try dsimp only at hSw);go_simp;try with_reducible rfl⟩) (by assumption) ?_
    try simp only[Act.put,List.setIfInBounds_toArray,List.set_cons_zero,List.set_cons_succ]
    refine wpAnyH_take (i:=2) (oi:=_) (v:=_) (by simp only[List.getElem?_toArray,List.getElem?_cons_succ,List.getElem?_cons_zero];rfl) (by kernel_rfl) (by kernel_rfl) (by kernel_rfl) (by exact fun _ _ _ h=>h) (Or.inl ⟨by rfl,by intro w hSw;(try dsimp only at hSw);go_simp;try with_reducible rfl⟩) (by assumption) ?_
    try simp only[Act.put,List.setIfInBounds_toArray,List.set_cons_zero,List.set_cons_succ]
    refine wpAnyH_take (i:=3) (oi:=_) (v:=_) (by simp only[List.getElem?_toArray,List.getElem?_cons_succ,List.getElem?_cons_zero];rfl) (by kernel_rfl) (by kernel_rfl) (by kernel_rfl) (by exact fun _ _ _ h=>h) (Or.inl ⟨by rfl,by intro w hSw;(try dsimp only at hSw);go_simp;try with_reducible rfl⟩) (by assumption) ?_
    try simp only[Act.put,List.setIfInBounds_toArray,List.set_cons_zero,List.set_cons_succ]
    refine wpAnyH_take (i:=4) (oi:=_) (v:=_) (by simp only[List.getElem?_toArray,List.getElem?_cons_succ,List.getElem?_cons_zero];rfl) (by kernel_rfl) (by kernel_rfl) (by kernel_rfl) (by exact fun _ _ _ h=>h) (Or.inl ⟨by rfl,by intro w hSw;(try dsimp only at hSw);go_simp;try with_reducible rfl⟩) (by assumption) ?_
    try simp only[Act.put,List.setIfInBounds_toArray,List.set_cons_zero,List.set_cons_succ]
    refine wpAnyH_take (i:=5) (oi:=_) (v:=_) (by simp only[List.getElem?_toArray,List.getElem?_cons_succ,List.getElem?_cons_zero];rfl) (by kernel_rfl) (by kernel_rfl) (by kernel_rfl) (by exact fun _ _ _ h=>h) (Or.inl ⟨by rfl,by intro w hSw;(try dsimp only at hSw);go_simp;try with_reducible rfl⟩) (by assumption) ?_
    try simp only[Act.put,List.setIfInBounds_toArray,List.set_cons_zero,List.set_cons_succ]
    refine wpAnyH_take (i:=6) (oi:=_) (v:=_) (by simp only[List.getElem?_toArray,List.getElem?_cons_succ,List.getElem?_cons_zero];rfl) (by kernel_rfl) (by kernel_rfl) (by kernel_rfl) (by exact fun _ _ _ h=>h) (Or.inl ⟨by rfl,by intro w hSw;(try dsimp only at hSw);go_simp;try with_reducible rfl⟩) (by assumption) ?_
    try simp only[Act.put,List.setIfInBounds_toArray,List.set_cons_zero,List.set_cons_succ]
    refine wpAnyH_take (i:=7) (oi:=_) (v:=_) (by simp only[List.getElem?_toArray,List.getElem?_cons_succ,List.getElem?_cons_zero];rfl) (by kernel_rfl) (by kernel_rfl) (by kernel_rfl) (by exact fun _ _ _ h=>h) (Or.inl ⟨by rfl,by intro w hSw;(try dsimp only at hSw);go_simp;try with_reducible rfl⟩) (by assumption) ?_
    try simp only[Act.put,List.setIfInBounds_toArray,List.set_cons_zero,List.set_cons_succ]
    refine wpAnyH_take (i:=8) (oi:=_) (v:=_) (by simp only[List.getElem?_toArray,List.getElem?_cons_succ,List.getElem?_cons_zero];rfl) (by kernel_rfl) (by kernel_rfl) (by kernel_rfl) (by exact fun _ _ _ h=>h) (Or.inl ⟨by rfl,by intro w hSw;(try dsimp only at hSw);go_simp;try with_reducible rfl⟩) (by assumption) ?_
    try simp only[Act.put,List.setIfInBounds_toArray,List.set_cons_zero,List.set_cons_succ]
    refine wpAnyH_take (i:=9) (oi:=_) (v:=_) (by simp only[List.getElem?_toArray,List.getElem?_cons_succ,List.getElem?_cons_zero];rfl) (by kernel_rfl) (by kernel_rfl) (by kernel_rfl) (by exact fun _ _ _ h=>h) (Or.inl ⟨by rfl,by intro w hSw;(try dsimp only at hSw);go_simp;try with_reducible rfl⟩) (by assumption) ?_
    try simp only[Act.put,List.setIfInBounds_toArray,List.set_cons_zero,List.set_cons_succ]
    refine wpAnyH_take (i:=10) (oi:=_) (v:=_) (by simp only[List.getElem?_toArray,List.getElem?_cons_succ,List.getElem?_cons_zero];rfl) (by kernel_rfl) (by kernel_rfl) (by kernel_rfl) (by exact fun _ _ _ h=>h) (Or.inl ⟨by rfl,by intro w hSw;(try dsimp only at hSw);go_simp;try with_reducible rfl⟩) (by assumption) ?_
    try simp only[Act.put,List.setIfInBounds_toArray,List.set_cons_zero,List.set_cons_succ]
    refine wpAnyH_ready (rs:=[1,11]) (by kernel_rfl) (by simp) ?_
    refine AllReadyH.cons (o:=?a7a) ?a01 (fun K hK=>?a02) (AllReadyH.cons (o:=?a6k) ?azn (fun K hK=>?azo) AllReadyH.nil)
    case a01=>
     simp only[List.getElem?_toArray,List.getElem?_cons_succ,List.getElem?_cons_zero];rfl
    case azn=>
     simp only[List.getElem?_toArray,List.getElem?_cons_succ,List.getElem?_cons_zero];rfl
    case a02=>
     go_simp
     refine hK.out _ _ (by first|exact(HCW.out we.drew hge)|go_keep) (fun hHeld=>?_)
     clear hK K
     try simp only[Act.put,List.setIfInBounds_toArray,List.set_cons_zero,List.set_cons_succ]
     refine wpAnyH_ready (rs:=[11]) (by kernel_rfl) (by simp) ?_
     refine AllReadyH.cons (o:=?o2) ?h2 (fun K hK=>?k2) AllReadyH.nil
     case h2=>
      simp only[List.getElem?_toArray,List.getElem?_cons_succ,List.getElem?_cons_zero];rfl
     go_simp
     refine hK.out _ _ (by first|exact(HCW.out _ ai7)|go_keep) (fun hHeld=>?_)
     clear hK K
     try simp only[Act.put,List.setIfInBounds_toArray,List.set_cons_zero,List.set_cons_succ]
     refine wpAnyH_ready (rs:=[12]) (by kernel_rfl) (by simp) ?_
     refine AllReadyH.cons (o:=?o3) ?h3 (fun K hK=>?k3) AllReadyH.nil
     case h3=>
      simp only[List.getElem?_toArray,List.getElem?_cons_succ,List.getElem?_cons_zero];rfl
     refine cu (by rfl) _ _ 22 (by rfl) lo 52 i1 (.agg #[.string {data:=#[]},.int .i64 0,.bool false]) 3 32 Tryz.underlying22 hi1 hy0 hy1 hy2 rfl (by decide) (.slice iA iN iC) iN (is.flatMap zk) (by rfl) HOWN.out (.slice (some ⟨we.heap.size,0,none⟩) 1 1) 1 [.string x1,.int .i64 nb,.bool b3] (by rfl) ni.out (adi _ _ _) (by simp only[maxLen];omega) (by omega) hLQ ?_
     intro v' w3 hown' hgrow ig
     obtain⟨vA',vN',vC',rfl,-⟩:=(Own.lu hown').form
     have aep:w3.heap[gw]?=wb.heap[gw]?:=(hgrow.block gw (by simp;omega) (fun hne=>by have:=HVB.out gw hne.symm;omega)).trans ((Below.heap_alloc we.drew _ gw (by show gw < we.heap.size;omega)).trans hge)
     have bM3:=HBM.out w3 hgrow
     have bR3:=HBR.out w3 hgrow
     have hB3:=HBB.out w3 hgrow
     have z3:w3.cell? ⟨w.heap.size+1,1,none⟩=some (.slice iA iN iC):=bM3.cell 1
     have f3:=bM3.frozen 1
     have HG3:=Lib.hid (HGQ.out.imp ⟨x1,nb,b3⟩ (by rw[← HIN.out];exact hown') hgrow ig)
     refine hK.out _ _ (by first|exact(HCW.out _ aep)|go_keep) (fun hHeld=>?_)
     clear hK K
     try simp only[Act.put,List.setIfInBounds_toArray,List.set_cons_zero,List.set_cons_succ]
     refine wpAnyH_take (i:=13) (oi:=_) (v:=_) (by simp only[List.getElem?_toArray,List.getElem?_cons_succ,List.getElem?_cons_zero];rfl) (by kernel_rfl) (by kernel_rfl) (by kernel_rfl) (by exact fun _ _ _ h=>h) (Or.inl ⟨by rfl,by intro w hSw;(try dsimp only at hSw);go_simp;try with_reducible rfl⟩) (by assumption) ?_
     try simp only[Act.put,List.setIfInBounds_toArray,List.set_cons_zero,List.set_cons_succ]
     refine wpAnyH_ready (rs:=[14]) (by kernel_rfl) (by simp) ?_
     refine AllReadyH.cons (o:=?o4) ?h4 (fun K hK=>?k4) AllReadyH.nil
     case h4=>
      simp only[List.getElem?_toArray,List.getElem?_cons_succ,List.getElem?_cons_zero];rfl
     go_simp
     have ai8:(w3.setCell ⟨w.heap.size+1,1,none⟩ (.slice vA' vN' vC')).heap[gw]?=wb.heap[gw]?:=(Below.heap_setCell w3 _ _ gw (by simp only;omega)).trans aep
     refine hK.out _ _ (by first|exact(HCW.out _ ai8)|go_keep) (fun hHeld=>?_)
     clear hK K
     try simp only[Act.put,List.setIfInBounds_toArray,List.set_cons_zero,List.set_cons_succ]
     refine wpAnyH_done (by kernel_rfl) ?_ _
     go_wp2_with fail
     go_roundw
     case rel=>exact⟨k+1,_,_,_,by omega,by go_num,Lib.hid (by rw[HF.out];exact HG3.out.far (p:=⟨w.heap.size+1,1,none⟩) hlo1 _),Lib.hid (hB3.setCell (p:=⟨w.heap.size+1,1,none⟩) (by simp) _),by simp[World.setCell];have:=hgrow.size;simp at this;omega,Lib.hid (bR3.far (p:=⟨w.heap.size+1,1,none⟩) (by simp) _),Lib.hid (by rw[HF.out];have:=bM3.dh 1 (.slice vA' vN' vC');simpa using this)⟩
     case measure=>simp[intOf];omega
    case azo=>
     go_simp
     refine hK.out _ _ (by first|exact(HCW.out _ ai7)|go_keep) (fun hHeld=>?_)
     clear hK K
     try simp only[Act.put,List.setIfInBounds_toArray,List.set_cons_zero,List.set_cons_succ]
     refine wpAnyH_ready (rs:=[1]) (by kernel_rfl) (by simp) ?_
     refine AllReadyH.cons (o:=?o5) ?h5 (fun K hK=>?k5) AllReadyH.nil
     case h5=>
      simp only[List.getElem?_toArray,List.getElem?_cons_succ,List.getElem?_cons_zero];rfl
     go_simp
     refine hK.out _ _ (by first|exact(HCW.out _ ai7)|go_keep) (fun hHeld=>?_)
     clear hK K
     try simp only[Act.put,List.setIfInBounds_toArray,List.set_cons_zero,List.set_cons_succ]
     refine wpAnyH_ready (rs:=[12]) (by kernel_rfl) (by simp) ?_
     refine AllReadyH.cons (o:=?o6) ?h6 (fun K hK=>?k6) AllReadyH.nil
     case h6=>
      simp only[List.getElem?_toArray,List.getElem?_cons_succ,List.getElem?_cons_zero];rfl
     refine cu (by rfl) _ _ 22 (by rfl) lo 52 i1 (.agg #[.string {data:=#[]},.int .i64 0,.bool false]) 3 32 Tryz.underlying22 hi1 hy0 hy1 hy2 rfl (by decide) (.slice iA iN iC) iN (is.flatMap zk) (by rfl) HOWN.out (.slice (some ⟨we.heap.size,0,none⟩) 1 1) 1 [.string x1,.int .i64 nb,.bool b3] (by rfl) ni.out (adi _ _ _) (by simp only[maxLen];omega) (by omega) hLQ ?_
     intro v' w3 hown' hgrow ig
     obtain⟨vA',vN',vC',rfl,-⟩:=(Own.lu hown').form
     have aep:w3.heap[gw]?=wb.heap[gw]?:=(hgrow.block gw (by simp;omega) (fun hne=>by have:=HVB.out gw hne.symm;omega)).trans ((Below.heap_alloc we.drew _ gw (by show gw < we.heap.size;omega)).trans hge)
     have bM3:=HBM.out w3 hgrow
     have bR3:=HBR.out w3 hgrow
     have hB3:=HBB.out w3 hgrow
     have z3:w3.cell? ⟨w.heap.size+1,1,none⟩=some (.slice iA iN iC):=bM3.cell 1
     have f3:=bM3.frozen 1
     have HG3:=Lib.hid (HGQ.out.imp ⟨x1,nb,b3⟩ (by rw[← HIN.out];exact hown') hgrow ig)
     refine hK.out _ _ (by first|exact(HCW.out _ aep)|go_keep) (fun hHeld=>?_)
     clear hK K
     try simp only[Act.put,List.setIfInBounds_toArray,List.set_cons_zero,List.set_cons_succ]
     refine wpAnyH_take (i:=13) (oi:=_) (v:=_) (by simp only[List.getElem?_toArray,List.getElem?_cons_succ,List.getElem?_cons_zero];rfl) (by kernel_rfl) (by kernel_rfl) (by kernel_rfl) (by exact fun _ _ _ h=>h) (Or.inl ⟨by rfl,by intro w hSw;(try dsimp only at hSw);go_simp;try with_reducible rfl⟩) (by assumption) ?_
     try simp only[Act.put,List.setIfInBounds_toArray,List.set_cons_zero,List.set_cons_succ]
     refine wpAnyH_ready (rs:=[14]) (by kernel_rfl) (by simp) ?_
     refine AllReadyH.cons (o:=?o7) ?h7 (fun K hK=>?k7) AllReadyH.nil
     case h7=>
      simp only[List.getElem?_toArray,List.getElem?_cons_succ,List.getElem?_cons_zero];rfl
     go_simp
     have ai8:(w3.setCell ⟨w.heap.size+1,1,none⟩ (.slice vA' vN' vC')).heap[gw]?=wb.heap[gw]?:=(Below.heap_setCell w3 _ _ gw (by simp only;omega)).trans aep
     refine hK.out _ _ (by first|exact(HCW.out _ ai8)|go_keep) (fun hHeld=>?_)
     clear hK K
     try simp only[Act.put,List.setIfInBounds_toArray,List.set_cons_zero,List.set_cons_succ]
     refine wpAnyH_done (by kernel_rfl) ?_ _
     go_wp2_with fail
     go_roundw
     case rel=>exact⟨k+1,_,_,_,by omega,by go_num,Lib.hid (by rw[HF.out];exact HG3.out.far (p:=⟨w.heap.size+1,1,none⟩) hlo1 _),Lib.hid (hB3.setCell (p:=⟨w.heap.size+1,1,none⟩) (by simp) _),by simp[World.setCell];have:=hgrow.size;simp at this;omega,Lib.hid (bR3.far (p:=⟨w.heap.size+1,1,none⟩) (by simp) _),Lib.hid (by rw[HF.out];have:=bM3.dh 1 (.slice vA' vN' vC');simpa using this)⟩
     case measure=>simp[intOf];omega
   have t1:(x0.toList ==[105,109,112,111,114,116])=false:=(yw _ _).trans (decide_eq_false c1)
   by_cases c2:x0=zx
   case pos=>
    have t2:(x0.toList ==[99,111,114,101])=true:=(yw _ _).trans (decide_eq_true c2)
    have HF:Hid (G (k+1)=⟨p,is,cs ++[⟨x1,nb,nc,b4,[]⟩]⟩):=by show _=_;rw[HLS.out,if_neg c0,if_neg c1,if_pos c2]
    clear HLS c0 c1 c2
    have ai7:(we.drew.alloc (.cells #[.string x1,.int .i64 nb,.int .i64 nc,.bool b4,.slice none 0 0] 36)).heap[gw]?=wb.heap[gw]?:=(Below.heap_alloc we.drew _ gw (by show gw < we.heap.size;omega)).trans hge
    have HOWN:=Lib.hid (World.ownsRow.alloc (w:=we.drew) (show we.drew.ownsRow lo 36 5 (.slice cA cN cC) cN (jf cs vs)from by have q:=(HGe.out.step (Below.refl _ _).drew).pq;rw[← HCN.out] at q;exact q) (.cells #[.string x1,.int .i64 nb,.int .i64 nc,.bool b4,.slice none 0 0] 36))
    have ni:Hid (uw (we.drew.alloc (.cells #[.string x1,.int .i64 nb,.int .i64 nc,.bool b4,.slice none 0 0] 36)) (.slice (some ⟨we.heap.size,0,none⟩) 1 1) 5 1 [.string x1,.int .i64 nb,.int .i64 nc,.bool b4,.slice none 0 0]):=.inr ⟨_,1,rfl,rfl,World.news_of_block (heap_alloc_new we.drew _)⟩
    have hLQ:lo≤(we.drew.alloc (.cells #[.string x1,.int .i64 nb,.int .i64 nc,.bool b4,.slice none 0 0] 36)).heap.size:=by show lo≤(we.drew.heap.push _).size;rw[Array.size_push];show lo≤we.heap.size+1;omega
    have HVB:Hid (∀ j,Value.ownBlock (.slice cA cN cC)=some j→lo≤j∧j < wr.heap.size):=Lib.hid fun j hj=>(HGM.out.pq).lt j hj
    have HBM:Hid (∀ V:World,World.grownBy (we.drew.alloc (.cells #[.string x1,.int .i64 nb,.int .i64 nc,.bool b4,.slice none 0 0] 36)) V (Value.ownBlock (.slice cA cN cC))→Blk V (w.heap.size+1) 25 #[.int .i64 p,.slice iA iN iC,.slice cA cN cC]):=Lib.hid fun V hV=>(hV.block (w.heap.size+1) (by have:=bMe.lt;simp;omega) (fun hne=>by have:=HVB.out _ hne.symm;omega)).trans ((bMe.step (Below.refl _ _).drew).alloc _)
    have HBR:Hid (∀ V:World,World.grownBy (we.drew.alloc (.cells #[.string x1,.int .i64 nb,.int .i64 nc,.bool b4,.slice none 0 0] 36)) V (Value.ownBlock (.slice cA cN cC))→Blk V (w.heap.size) 25 #[.int .i64 0,.slice none 0 0,.slice none 0 0]):=Lib.hid fun V hV=>(hV.block w.heap.size (by have:=bRe.lt;simp;omega) (fun hne=>by have:=HVB.out _ hne.symm;omega)).trans ((bRe.step (Below.refl _ _).drew).alloc _)
    have HBB:Hid (∀ V:World,World.grownBy (we.drew.alloc (.cells #[.string x1,.int .i64 nb,.int .i64 nc,.bool b4,.slice none 0 0] 36)) V (Value.ownBlock (.slice cA cN cC))→Below w.heap.size w V):=Lib.hid fun V hV=>(hBe.drew.alloc hBe.size _).grown hV (by simp;have:=hBe.size;omega) (fun j hj=>by have:=HVB.out j hj;omega)
    have HGQ:Hid (GM lo (we.drew.alloc (.cells #[.string x1,.int .i64 nb,.int .i64 nc,.bool b4,.slice none 0 0] 36)) ⟨p,is,cs⟩ (.slice iA iN iC) (.slice cA cN cC) vs):=Lib.hid ((HGe.out.step (Below.refl _ _).drew).step ((Below.refl _ _).alloc (Nat.le_refl _) _))
    obtain⟨i1,hi1,hy0,hy1,hy2⟩:=info_parts ahh
    have zC1:(we.drew.alloc (.cells #[.string x1,.int .i64 nb,.int .i64 nc,.bool b4,.slice none 0 0] 36)).cell? ⟨w.heap.size+1,2,none⟩=some (.slice cA cN cC):=(((bMe.step (Below.refl _ _).drew)).alloc _).cell 2
    have zC2:(we.alloc (.cells #[.string x1,.int .i64 nb,.int .i64 nc,.bool b4,.slice none 0 0] 36)).drew.cell? ⟨w.heap.size+1,2,none⟩=some (.slice cA cN cC):=zC1
    have zD:we.drew.cell? ⟨w.heap.size+1,2,none⟩=some (.slice cA cN cC):=z2
    go_wp2_with fail
    refine wp_region_held_drew (S:=(fun w'=>w'.cell? ⟨gw,0,none⟩=some (.string x0)∧w'.cell? ⟨gw,1,none⟩=some (.string x1)∧w'.cell? ⟨gw,2,none⟩=some (.string x2)∧w'.cell? ⟨gw,3,none⟩=some (.string x3)∧w'.cell? ⟨gw,4,none⟩=some (.string x4))) (by kernel_rfl) (HCW.out we.drew hge) (fun hHeld=>?_)
    refine wpAnyH_take (i:=0) (oi:=_) (v:=_) (by simp only[List.getElem?_toArray,List.getElem?_cons_succ,List.getElem?_cons_zero];rfl) (by kernel_rfl) (by kernel_rfl) (by kernel_rfl) (by exact fun _ _ _ h=>h) (Or.inl ⟨by rfl,by intro w hSw;(try dsimp only at hSw);go_simp;try with_reducible rfl⟩) (by assumption) ?_
    try simp only[Act.put,List.setIfInBounds_toArray,List.set_cons_zero,List.set_cons_succ]
    refine wpAnyH_take (i:=2) (oi:=_) (v:=_) (by simp only[List.getElem?_toArray,List.getElem?_cons_succ,List.getElem?_cons_zero];rfl) (by kernel_rfl) (by kernel_rfl) (by kernel_rfl) (by exact fun _ _ _ h=>h) (Or.inl ⟨by rfl,by intro w hSw;(try dsimp only at hSw);go_simp;try with_reducible rfl⟩) (by assumption) ?_
    try simp only[Act.put,List.setIfInBounds_toArray,List.set_cons_zero,List.set_cons_succ]
    refine wpAnyH_take (i:=3) (oi:=_) (v:=_) (by simp only[List.getElem?_toArray,List.getElem?_cons_succ,List.getElem?_cons_zero];rfl) (by kernel_rfl) (by kernel_rfl) (by kernel_rfl) (by exact fun _ _ _ h=>h) (Or.inl ⟨by rfl,by intro w hSw;(try dsimp only at hSw);go_simp;try with_reducible rfl⟩) (by assumption) ?_
    try simp only[Act.put,List.setIfInBounds_toArray,List.set_cons_zero,List.set_cons_succ]
    refine wpAnyH_take (i:=4) (oi:=_) (v:=_) (by simp only[List.getElem?_toArray,List.getElem?_cons_succ,List.getElem?_cons_zero];rfl) (by kernel_rfl) (by kernel_rfl) (by kernel_rfl) (by exact fun _ _ _ h=>h) (Or.inl ⟨by rfl,by intro w hSw;(try dsimp only at hSw);go_simp;try with_reducible rfl⟩) (by assumption) ?_
    try simp only[Act.put,List.setIfInBounds_toArray,List.set_cons_zero,List.set_cons_succ]
    refine wpAnyH_take (i:=5) (oi:=_) (v:=_) (by simp only[List.getElem?_toArray,List.getElem?_cons_succ,List.getElem?_cons_zero];rfl) (by kernel_rfl) (by kernel_rfl) (by kernel_rfl) (by exact fun _ _ _ h=>h) (Or.inl ⟨by rfl,by intro w hSw;(try dsimp only at hSw);go_simp;try with_reducible rfl⟩) (by assumption) ?_
    try simp only[Act.put,List.setIfInBounds_toArray,List.set_cons_zero,List.set_cons_succ]
    refine wpAnyH_take (i:=6) (oi:=_) (v:=_) (by simp only[List.getElem?_toArray,List.getElem?_cons_succ,List.getElem?_cons_zero];rfl) (by kernel_rfl) (by kernel_rfl) (by kernel_rfl) (by exact fun _ _ _ h=>h) (Or.inl ⟨by rfl,by intro w hSw;(try dsimp only at hSw);go_simp;try with_reducible rfl⟩) (by assumption) ?_
    try simp only[Act.put,List.setIfInBounds_toArray,List.set_cons_zero,List.set_cons_succ]
    refine wpAnyH_take (i:=7) (oi:=_) (v:=_) (by simp only[List.getElem?_toArray,List.getElem?_cons_succ,List.getElem?_cons_zero];rfl) (by kernel_rfl) (by kernel_rfl) (by kernel_rfl) (by exact fun _ _ _ h=>h) (Or.inl ⟨by rfl,by intro w hSw;(try dsimp only at hSw);go_simp;try with_reducible rfl⟩) (by assumption) ?_
    try simp only[Act.put,List.setIfInBounds_toArray,List.set_cons_zero,List.set_cons_succ]
    refine wpAnyH_take (i:=8) (oi:=_) (v:=_) (by simp only[List.getElem?_toArray,List.getElem?_cons_succ,List.getElem?_cons_zero];rfl) (by kernel_rfl) (by kernel_rfl) (by kernel_rfl) (by exact fun _ _ _ h=>h) (Or.inl ⟨by rfl,by intro w hSw;(try dsimp only at hSw);go_simp;try with_reducible rfl⟩) (by assumption) ?_
    try simp only[Act.put,List.setIfInBounds_toArray,List.set_cons_zero,List.set_cons_succ]
    refine wpAnyH_take (i:=9) (oi:=_) (v:=_) (by simp only[List.getElem?_toArray,List.getElem?_cons_succ,List.getElem?_cons_zero];rfl) (by kernel_rfl) (by kernel_rfl) (by kernel_rfl) (by exact fun _ _ _ h=>h) (Or.inl ⟨by rfl,by intro w hSw;(try dsimp only at hSw);go_simp;try with_reducible rfl⟩) (by assumption) ?_
    try simp only[Act.put,List.setIfInBounds_toArray,List.set_cons_zero,List.set_cons_succ]
    refine wpAnyH_take (i:=10) (oi:=_) (v:=_) (by simp only[List.getElem?_toArray,List.getElem?_cons_succ,List.getElem?_cons_zero];rfl) (by kernel_rfl) (by kernel_rfl) (by kernel_rfl) (by exact fun _ _ _ h=>h) (Or.inl ⟨by rfl,by intro w hSw;(try dsimp only at hSw);go_simp;try with_reducible rfl⟩) (by assumption) ?_
    try simp only[Act.put,List.setIfInBounds_toArray,List.set_cons_zero,List.set_cons_succ]
    refine wpAnyH_take (i:=11) (oi:=_) (v:=_) (by simp only[List.getElem?_toArray,List.getElem?_cons_succ,List.getElem?_cons_zero];rfl) (by kernel_rfl) (by kernel_rfl) (by kernel_rfl) (by exact fun _ _ _ h=>h) (Or.inl ⟨by rfl,by intro w hSw;(try dsimp only at hSw);go_simp;try with_reducible rfl⟩) (by assumption) ?_
    try simp only[Act.put,List.setIfInBounds_toArray,List.set_cons_zero,List.set_cons_succ]
    refine wpAnyH_ready (rs:=[1,12]) (by kernel_rfl) (by simp) ?_
    refine AllReadyH.cons (o:=?a7b) ?a03 (fun K hK=>?a04) (AllReadyH.cons (o:=?a6l) ?azp (fun K hK=>?azq) AllReadyH.nil)
    case a03=>
     simp only[List.getElem?_toArray,List.getElem?_cons_succ,List.getElem?_cons_zero];rfl
    case azp=>
     simp only[List.getElem?_toArray,List.getElem?_cons_succ,List.getElem?_cons_zero];rfl
    case a04=>
     go_simp
     refine hK.out _ _ (by first|exact(HCW.out we.drew hge)|go_keep) (fun hHeld=>?_)
     clear hK K
     try simp only[Act.put,List.setIfInBounds_toArray,List.set_cons_zero,List.set_cons_succ]
     refine wpAnyH_ready (rs:=[12]) (by kernel_rfl) (by simp) ?_
     refine AllReadyH.cons (o:=?o9) ?h9 (fun K hK=>?k9) AllReadyH.nil
     case h9=>
      simp only[List.getElem?_toArray,List.getElem?_cons_succ,List.getElem?_cons_zero];rfl
     go_simp
     refine hK.out _ _ (by first|exact(HCW.out _ ai7)|go_keep) (fun hHeld=>?_)
     clear hK K
     try simp only[Act.put,List.setIfInBounds_toArray,List.set_cons_zero,List.set_cons_succ]
     refine wpAnyH_ready (rs:=[13]) (by kernel_rfl) (by simp) ?_
     refine AllReadyH.cons (o:=?o10) ?h10 (fun K hK=>?k10) AllReadyH.nil
     case h10=>
      simp only[List.getElem?_toArray,List.getElem?_cons_succ,List.getElem?_cons_zero];rfl
     refine cu (by rfl) _ _ 23 (by rfl) lo 36 i1 (.agg #[.string {data:=#[]},.int .i64 0,.int .i64 0,.bool false,.slice none 0 0]) 5 64 Tryz.underlying23 hi1 hy0 hy1 hy2 rfl (by decide) (.slice cA cN cC) cN (jf cs vs) (by rfl) HOWN.out (.slice (some ⟨we.heap.size,0,none⟩) 1 1) 1 [.string x1,.int .i64 nb,.int .i64 nc,.bool b4,.slice none 0 0] (by rfl) ni.out (abo _ _ _ _ _ _ _) (by simp only[maxLen];omega) (by omega) hLQ ?_
     intro v' w3 hown' hgrow ig
     obtain⟨vA',vN',vC',rfl,-⟩:=(Own.lu hown').form
     have aep:w3.heap[gw]?=wb.heap[gw]?:=(hgrow.block gw (by simp;omega) (fun hne=>by have:=HVB.out gw hne.symm;omega)).trans ((Below.heap_alloc we.drew _ gw (by show gw < we.heap.size;omega)).trans hge)
     have bM3:=HBM.out w3 hgrow
     have bR3:=HBR.out w3 hgrow
     have hB3:=HBB.out w3 hgrow
     have z3:w3.cell? ⟨w.heap.size+1,2,none⟩=some (.slice cA cN cC):=bM3.cell 2
     have f3:=bM3.frozen 2
     have HG3:=Lib.hid (HGQ.out.cor (by rw[← HCN.out];exact hown') hgrow ig)
     refine hK.out _ _ (by first|exact(HCW.out _ aep)|go_keep) (fun hHeld=>?_)
     clear hK K
     try simp only[Act.put,List.setIfInBounds_toArray,List.set_cons_zero,List.set_cons_succ]
     refine wpAnyH_take (i:=14) (oi:=_) (v:=_) (by simp only[List.getElem?_toArray,List.getElem?_cons_succ,List.getElem?_cons_zero];rfl) (by kernel_rfl) (by kernel_rfl) (by kernel_rfl) (by exact fun _ _ _ h=>h) (Or.inl ⟨by rfl,by intro w hSw;(try dsimp only at hSw);go_simp;try with_reducible rfl⟩) (by assumption) ?_
     try simp only[Act.put,List.setIfInBounds_toArray,List.set_cons_zero,List.set_cons_succ]
     refine wpAnyH_ready (rs:=[15]) (by kernel_rfl) (by simp) ?_
     refine AllReadyH.cons (o:=?o11) ?h11 (fun K hK=>?k11) AllReadyH.nil
     case h11=>
      simp only[List.getElem?_toArray,List.getElem?_cons_succ,List.getElem?_cons_zero];rfl
     go_simp
     have ai8:(w3.setCell ⟨w.heap.size+1,2,none⟩ (.slice vA' vN' vC')).heap[gw]?=wb.heap[gw]?:=(Below.heap_setCell w3 _ _ gw (by simp only;omega)).trans aep
     refine hK.out _ _ (by first|exact(HCW.out _ ai8)|go_keep) (fun hHeld=>?_)
     clear hK K
     try simp only[Act.put,List.setIfInBounds_toArray,List.set_cons_zero,List.set_cons_succ]
     refine wpAnyH_done (by kernel_rfl) ?_ _
     go_wp2_with fail
     go_roundw
     case rel=>exact⟨k+1,_,_,_,by omega,by go_num,Lib.hid (by rw[HF.out];exact HG3.out.far (p:=⟨w.heap.size+1,2,none⟩) hlo1 _),Lib.hid (hB3.setCell (p:=⟨w.heap.size+1,2,none⟩) (by simp) _),by simp[World.setCell];have:=hgrow.size;simp at this;omega,Lib.hid (bR3.far (p:=⟨w.heap.size+1,2,none⟩) (by simp) _),Lib.hid (by rw[HF.out];have:=bM3.dh 2 (.slice vA' vN' vC');simpa using this)⟩
     case measure=>simp[intOf];omega
    case azq=>
     go_simp
     refine hK.out _ _ (by first|exact(HCW.out _ ai7)|go_keep) (fun hHeld=>?_)
     clear hK K
     try simp only[Act.put,List.setIfInBounds_toArray,List.set_cons_zero,List.set_cons_succ]
     refine wpAnyH_ready (rs:=[1]) (by kernel_rfl) (by simp) ?_
     refine AllReadyH.cons (o:=?o12) ?h12 (fun K hK=>?k12) AllReadyH.nil
     case h12=>
      simp only[List.getElem?_toArray,List.getElem?_cons_succ,List.getElem?_cons_zero];rfl
     go_simp
     refine hK.out _ _ (by first|exact(HCW.out _ ai7)|go_keep) (fun hHeld=>?_)
     clear hK K
     try simp only[Act.put,List.setIfInBounds_toArray,List.set_cons_zero,List.set_cons_succ]
     refine wpAnyH_ready (rs:=[13]) (by kernel_rfl) (by simp) ?_
     refine AllReadyH.cons (o:=?o13) ?h13 (fun K hK=>?k13) AllReadyH.nil
     case h13=>
      simp only[List.getElem?_toArray,List.getElem?_cons_succ,List.getElem?_cons_zero];rfl
     refine cu (by rfl) _ _ 23 (by rfl) lo 36 i1 (.agg #[.string {data:=#[]},.int .i64 0,.int .i64 0,.bool false,.slice none 0 0]) 5 64 Tryz.underlying23 hi1 hy0 hy1 hy2 rfl (by decide) (.slice cA cN cC) cN (jf cs vs) (by rfl) HOWN.out (.slice (some ⟨we.heap.size,0,none⟩) 1 1) 1 [.string x1,.int .i64 nb,.int .i64 nc,.bool b4,.slice none 0 0] (by rfl) ni.out (abo _ _ _ _ _ _ _) (by simp only[maxLen];omega) (by omega) hLQ ?_
     intro v' w3 hown' hgrow ig
     obtain⟨vA',vN',vC',rfl,-⟩:=(Own.lu hown').form
     have aep:w3.heap[gw]?=wb.heap[gw]?:=(hgrow.block gw (by simp;omega) (fun hne=>by have:=HVB.out gw hne.symm;omega)).trans ((Below.heap_alloc we.drew _ gw (by show gw < we.heap.size;omega)).trans hge)
     have bM3:=HBM.out w3 hgrow
     have bR3:=HBR.out w3 hgrow
     have hB3:=HBB.out w3 hgrow
     have z3:w3.cell? ⟨w.heap.size+1,2,none⟩=some (.slice cA cN cC):=bM3.cell 2
     have f3:=bM3.frozen 2
     have HG3:=Lib.hid (HGQ.out.cor (by rw[← HCN.out];exact hown') hgrow ig)
     refine hK.out _ _ (by first|exact(HCW.out _ aep)|go_keep) (fun hHeld=>?_)
     clear hK K
     try simp only[Act.put,List.setIfInBounds_toArray,List.set_cons_zero,List.set_cons_succ]
     refine wpAnyH_take (i:=14) (oi:=_) (v:=_) (by simp only[List.getElem?_toArray,List.getElem?_cons_succ,List.getElem?_cons_zero];rfl) (by kernel_rfl) (by kernel_rfl) (by kernel_rfl) (by exact fun _ _ _ h=>h) (Or.inl ⟨by rfl,by intro w hSw;(try dsimp only at hSw);go_simp;try with_reducible rfl⟩) (by assumption) ?_
     try simp only[Act.put,List.setIfInBounds_toArray,List.set_cons_zero,List.set_cons_succ]
     refine wpAnyH_ready (rs:=[15]) (by kernel_rfl) (by simp) ?_
     refine AllReadyH.cons (o:=?o14) ?h14 (fun K hK=>?k14) AllReadyH.nil
     case h14=>
      simp only[List.getElem?_toArray,List.getElem?_cons_succ,List.getElem?_cons_zero];rfl
     go_simp
     have ai8:(w3.setCell ⟨w.heap.size+1,2,none⟩ (.slice vA' vN' vC')).heap[gw]?=wb.heap[gw]?:=(Below.heap_setCell w3 _ _ gw (by simp only;omega)).trans aep
     refine hK.out _ _ (by first|exact(HCW.out _ ai8)|go_keep) (fun hHeld=>?_)
     clear hK K
     try simp only[Act.put,List.setIfInBounds_toArray,List.set_cons_zero,List.set_cons_succ]
     refine wpAnyH_done (by kernel_rfl) ?_ _
     go_wp2_with fail
     go_roundw
     case rel=>exact⟨k+1,_,_,_,by omega,by go_num,Lib.hid (by rw[HF.out];exact HG3.out.far (p:=⟨w.heap.size+1,2,none⟩) hlo1 _),Lib.hid (hB3.setCell (p:=⟨w.heap.size+1,2,none⟩) (by simp) _),by simp[World.setCell];have:=hgrow.size;simp at this;omega,Lib.hid (bR3.far (p:=⟨w.heap.size+1,2,none⟩) (by simp) _),Lib.hid (by rw[HF.out];have:=bM3.dh 2 (.slice vA' vN' vC');simpa using this)⟩
     case measure=>simp[intOf];omega
   have t2:(x0.toList ==[99,111,114,101])=false:=(yw _ _).trans (decide_eq_false c2)
   have HF:Hid (G (k+1)=⟨p,is,xg ⟨xo,xa⟩ cs⟩):=by show _=_;rw[HLS.out,if_neg c0,if_neg c1,if_neg c2]
   clear HLS c0 c1 c2
   by_cases h0:cN=0
   case pos=>
    have HF2:Hid (G (k+1)=⟨p,is,cs⟩):=by show _=_;rw[HF.out,List.eq_nil_of_length_eq_zero (show cs.length=0 by rw[← HCN.out];exact h0)];rfl
    go_wp2_with fail
    go_roundw
    case rel=>exact⟨k+1,_,_,vs,by omega,by go_num,Lib.hid (by rw[HF2.out];exact HGe.out),Lib.hid hBe,by omega,Lib.hid bRe,Lib.hid (by rw[HF2.out];exact bMe)⟩
    case measure=>simp[intOf];omega
   have hcs0:¬ cs=[]:=fun e=>h0 (by rw[HCN.out,e];rfl)
   obtain⟨cs0,c0,us,v0,h1,h2,hul⟩:=agi (m:=⟨p,is,cs⟩) HGe.out.1 hcs0
   replace h1:cs=cs0 ++[c0]:=h1
   subst h1 h2
   obtain⟨oname,jg,jh,ji,jc⟩:=c0
   obtain⟨d,hd⟩:∃ d,d=cs0.length:=⟨_,rfl⟩
   have hcd:cN=d+1:=by have:=HCN.out;simp at this;omega
   subst hcd
   have HD:=Lib.hid hd
   have HUL:=Lib.hid hul
   clear hd hul hcs0 h0
   obtain⟨oA,oC,rfl,hov⟩:=zl HGe.out.gy
   obtain⟨oN,hoN⟩:∃ N,N=jc.length:=⟨_,rfl⟩
   have hok:oN≤k:=by rw[hoN];exact HLK.out.2.2 (Core.mk oname jg jh ji jc) (by simp)
   rw[show(Core.mk oname jg jh ji jc).code.length=oN from hoN.symm] at HGe
   have HON:=Lib.hid hoN
   clear hoN hov
   have hcl:=HCL.out we hBe
   have as3:IntKind.i64.wrap (((d+1:Nat):Int) - 1)=(d:Int):=by rw[IntWalk.i64_in _ (by omega)];omega
   have hcw2:IntKind.i64.wrap ((d:Int)+1 - 1)=(d:Int):=by rw[IntWalk.i64_in _ (by omega)];omega
   have hpos:(0:Int) < ((d+1:Nat):Int):=by omega
   have auo:(0:Int) < (d:Int)+1:=by omega
   go_wp2_with fail
   refine(HRD.out we).mono ?_
   rintro e wf ⟨rfl,hbf⟩
   have hBf:=hBe.trans (hbf.mono hBe.size)
   have bMf:=bMe.step hbf
   have bRf:=bRe.step hbf
   have HGf:=Lib.hid (HGe.out.step hbf)
   have hsf:=hbf.size
   clear bRe bMe z0 z1 z2 f0 f1 f2 q0 hcl
   obtain⟨wg,hwg⟩:∃ V,V=wf.alloc (.cells #[.int .i64 xo,.int .i64 xa] 54):=⟨_,rfl⟩
   have hbg:Below wf.heap.size wf wg:=by rw[hwg];exact(Below.refl _ _).alloc (Nat.le_refl _) _
   have bXg:Blk wg wf.heap.size 54 #[.int .i64 xo,.int .i64 xa]:=by rw[hwg];exact Blk.new wf _ _
   have aer:wf.heap.size < wg.heap.size:=bXg.lt
   have hBg:=hBf.trans (hbg.mono hBf.size)
   have bMg:=bMf.step hbg
   have bRg:=bRf.step hbg
   have HGg:=Lib.hid (HGf.out.step hbg)
   have hsg:=hbg.size
   have ax6:wf.alloc (.cells #[.int .i64 xo,.int .i64 xa] 54)=wg:=hwg.symm
   have zf2:wf.cell? ⟨w.heap.size+1,2,none⟩=some (.slice cA (d+1) cC):=bMf.cell 2
   have zg2:(wf.alloc (.cells #[.int .i64 xo,.int .i64 xa] 54)).cell? ⟨w.heap.size+1,2,none⟩=some (.slice cA (d+1) cC):=by rw[ax6];exact bMg.cell 2
   have HWG:=Lib.hid hwg
   clear hwg ax6 bRf bMf
   go_wp2_with fail
   rw[← HWG.out]
   clear zf2 zg2
   obtain⟨A',n',h3,h4⟩:=zl HGg.out.pq
   obtain⟨gc,hgc,as4,ax7,aqc⟩:=h4 (by simp)
   rw[hgc] at h3
   injection h3 with e1 e2 e3
   subst e1 e3
   clear hgc e2
   have as5:gc < wf.heap.size:=(HGf.out.pq.lt gc rfl).2
   have HS:Hid (∀ V:World,Blk V (w.heap.size+1) 25 #[.int .i64 p,.slice iA iN iC,.slice (some ⟨gc,0,none⟩) (d+1) cC]→Blk V wf.heap.size 54 #[.int .i64 xo,.int .i64 xa]→V.cell? ⟨w.heap.size+1,2,none⟩=some (.slice (some ⟨gc,0,none⟩) (d+1) cC)∧V.cell? ⟨wf.heap.size,0,none⟩=some (.int .i64 xo)∧V.cell? ⟨wf.heap.size,1,none⟩=some (.int .i64 xa)):=Lib.hid fun V h1 h2=>⟨h1.cell 2,h2.cell 0,h2.cell 1⟩
   have hdr:Below wg.heap.size wg wg.drew:=(Below.refl _ _).drew
   have hda:Below wg.heap.size wg (wg.drew.alloc (.cells #[.int .i64 xo,.int .i64 xa] 54)):=hdr.alloc (Nat.le_refl _) _
   have k0:=HS.out _ (bMg.step hdr) (bXg.step hdr)
   have k1:=HS.out _ (bMg.step hda) (bXg.step hda)
   have HGQ:=Lib.hid (HGg.out.step hda)
   have HCO:Hid (∀ V:World,V.ownsRow lo 36 5 (.slice (some ⟨gc,0,none⟩) (d+1) cC) (cs0 ++[Core.mk oname jg jh ji jc]).length (jf (cs0 ++[Core.mk oname jg jh ji jc]) (us ++[.slice oA oN oC]))→V.cell? ⟨gc,d * 5+4,none⟩=some (.slice oA oN oC)∧V.frozen? ⟨gc,d * 5+4,none⟩=false):=Lib.hid fun V hV=>by
    have hlen:(cs0 ++[Core.mk oname jg jh ji jc]).length=d+1:=by rw[HD.out];simp
    rw[hlen] at hV
    refine⟨(hV.cellAt (d * 5+4) (by omega)).trans ?_,hV.frozenAt _⟩
    rw[HD.out]
    exact aeo HUL.out
   have ld:=(HCO.out wg HGg.out.pq).1
   have ldd:wg.drew.cell? ⟨gc,d * 5+4,none⟩=some (.slice oA oN oC):=ld
   have ld1:=(HCO.out _ HGQ.out.pq).1
   have ld2:(wg.alloc (.cells #[.int .i64 xo,.int .i64 xa] 54)).drew.cell? ⟨gc,d * 5+4,none⟩=some (.slice oA oN oC):=ld1
   have HOWN:=Lib.hid (HGQ.out.gy)
   rw[show(Core.mk oname jg jh ji jc).code.length=oN from HON.out.symm] at HOWN
   have ni:Hid (uw (wg.drew.alloc (.cells #[.int .i64 xo,.int .i64 xa] 54)) (.slice (some ⟨wg.heap.size,0,none⟩) 1 1) 2 1 [.int .i64 xo,.int .i64 xa]):=.inr ⟨_,1,rfl,rfl,World.news_of_block (heap_alloc_new wg.drew _)⟩
   have hLQ:lo≤(wg.drew.alloc (.cells #[.int .i64 xo,.int .i64 xa] 54)).heap.size:=by have:=hda.size;omega
   have hdi:(d:Int) < ((d+1:Nat):Int):=by omega
   have as6:(d:Int) < (d:Int)+1:=by omega
   have hd0:(0:Int)≤(d:Int):=by omega
   obtain⟨i1,hi1,hy0,hy1,hy2⟩:=info_parts ai6
   refine wp_region_held_drew (S:=(fun w'=>w'.cell? ⟨w.heap.size+1,2,none⟩=some (.slice (some ⟨gc,0,none⟩) (d+1) cC)∧w'.cell? ⟨wf.heap.size,0,none⟩=some (.int .i64 xo)∧w'.cell? ⟨wf.heap.size,1,none⟩=some (.int .i64 xa))) (by kernel_rfl) k0 (fun hHeld=>?_)
   refine wpAnyH_take (i:=0) (oi:=_) (v:=_) (by simp only[List.getElem?_toArray,List.getElem?_cons_succ,List.getElem?_cons_zero];rfl) (by kernel_rfl) (by kernel_rfl) (by kernel_rfl) (by exact fun _ _ _ h=>h) (Or.inl ⟨by rfl,by intro w hSw;(try dsimp only at hSw);go_simp;try with_reducible rfl⟩) (by assumption) ?_
   try simp only[Act.put,List.setIfInBounds_toArray,List.set_cons_zero,List.set_cons_succ]
   refine wpAnyH_take (i:=1) (oi:=_) (v:=_) (by simp only[List.getElem?_toArray,List.getElem?_cons_succ,List.getElem?_cons_zero];rfl) (by kernel_rfl) (by kernel_rfl) (by kernel_rfl) (by exact fun _ _ _ h=>h) (Or.inl ⟨by rfl,by intro w hSw;(try dsimp only at hSw);go_simp;try with_reducible rfl⟩) (by assumption) ?_
   try simp only[Act.put,List.setIfInBounds_toArray,List.set_cons_zero,List.set_cons_succ]
   refine wpAnyH_take (i:=2) (oi:=_) (v:=_) (by simp only[List.getElem?_toArray,List.getElem?_cons_succ,List.getElem?_cons_zero];rfl) (by kernel_rfl) (by kernel_rfl) (by kernel_rfl) (by exact fun _ _ _ h=>h) (Or.inl ⟨by rfl,by intro w hSw;(try dsimp only at hSw);go_simp;try with_reducible rfl⟩) (by assumption) ?_
   try simp only[Act.put,List.setIfInBounds_toArray,List.set_cons_zero,List.set_cons_succ]
   refine wpAnyH_take (i:=3) (oi:=_) (v:=_) (by simp only[List.getElem?_toArray,List.getElem?_cons_succ,List.getElem?_cons_zero];rfl) (by kernel_rfl) (by kernel_rfl) (by kernel_rfl) (by exact fun _ _ _ h=>h) (Or.inl ⟨by rfl,by intro w hSw;(try dsimp only at hSw);go_simp;try with_reducible rfl⟩) (by assumption) ?_
   try simp only[Act.put,List.setIfInBounds_toArray,List.set_cons_zero,List.set_cons_succ]
   refine wpAnyH_take (i:=4) (oi:=_) (v:=_) (by simp only[List.getElem?_toArray,List.getElem?_cons_succ,List.getElem?_cons_zero];rfl) (by kernel_rfl) (by kernel_rfl) (by kernel_rfl) (by exact fun _ _ _ h=>h) (Or.inl ⟨by rfl,by intro w hSw;(try dsimp only at hSw);go_simp;try with_reducible rfl⟩) (by assumption) ?_
   try simp only[Act.put,List.setIfInBounds_toArray,List.set_cons_zero,List.set_cons_succ]
   refine wpAnyH_take (i:=5) (oi:=_) (v:=_) (by simp only[List.getElem?_toArray,List.getElem?_cons_succ,List.getElem?_cons_zero];rfl) (by kernel_rfl) (by kernel_rfl) (by kernel_rfl) (by exact fun _ _ _ h=>h) (Or.inl ⟨by rfl,by intro w hSw;(try dsimp only at hSw);go_simp;try with_reducible rfl⟩) (by assumption) ?_
   try simp only[Act.put,List.setIfInBounds_toArray,List.set_cons_zero,List.set_cons_succ]
   refine wpAnyH_take (i:=6) (oi:=_) (v:=_) (by simp only[List.getElem?_toArray,List.getElem?_cons_succ,List.getElem?_cons_zero];rfl) (by kernel_rfl) (by kernel_rfl) (by kernel_rfl) (by exact fun _ _ _ h=>h) (Or.inl ⟨by rfl,by intro w hSw;(try dsimp only at hSw);go_simp;try with_reducible rfl⟩) (by assumption) ?_
   try simp only[Act.put,List.setIfInBounds_toArray,List.set_cons_zero,List.set_cons_succ]
   refine wpAnyH_take (i:=7) (oi:=_) (v:=_) (by simp only[List.getElem?_toArray,List.getElem?_cons_succ,List.getElem?_cons_zero];rfl) (by kernel_rfl) (by kernel_rfl) (by kernel_rfl) (by exact fun _ _ _ h=>h) (Or.inl ⟨by rfl,by intro w hSw;(try dsimp only at hSw);go_simp;try with_reducible rfl⟩) (by assumption) ?_
   try simp only[Act.put,List.setIfInBounds_toArray,List.set_cons_zero,List.set_cons_succ]
   refine wpAnyH_take (i:=9) (oi:=_) (v:=_) (by simp only[List.getElem?_toArray,List.getElem?_cons_succ,List.getElem?_cons_zero];rfl) (by kernel_rfl) (by kernel_rfl) (by kernel_rfl) (by exact fun _ _ _ h=>h) (Or.inl ⟨by rfl,by intro w hSw;(try dsimp only at hSw);go_simp;try with_reducible rfl⟩) (by assumption) ?_
   try simp only[Act.put,List.setIfInBounds_toArray,List.set_cons_zero,List.set_cons_succ]
   refine wpAnyH_ready (rs:=[8,10]) (by kernel_rfl) (by simp) ?_
   refine AllReadyH.cons (o:=?a6m) ?azr (fun K hK=>?azs) (AllReadyH.cons (o:=?a5l) ?ax8 (fun K hK=>?ax9) AllReadyH.nil)
   case azr=>
    simp only[List.getElem?_toArray,List.getElem?_cons_succ,List.getElem?_cons_zero];rfl
   case ax8=>
    simp only[List.getElem?_toArray,List.getElem?_cons_succ,List.getElem?_cons_zero];rfl
   case azs=>
    go_simp
    refine hK.out _ _ (by first|exact k0|go_keep) (fun hHeld=>?_)
    clear hK K
    try simp only[Act.put,List.setIfInBounds_toArray,List.set_cons_zero,List.set_cons_succ]
    refine wpAnyH_ready (rs:=[10]) (by kernel_rfl) (by simp) ?_
    refine AllReadyH.cons (o:=?o16) ?h16 (fun K hK=>?k16) AllReadyH.nil
    case h16=>
     simp only[List.getElem?_toArray,List.getElem?_cons_succ,List.getElem?_cons_zero];rfl
    go_simp
    refine hK.out _ _ (by first|exact k1|go_keep) (fun hHeld=>?_)
    clear hK K
    try simp only[Act.put,List.setIfInBounds_toArray,List.set_cons_zero,List.set_cons_succ]
    refine wpAnyH_ready (rs:=[11]) (by kernel_rfl) (by simp) ?_
    refine AllReadyH.cons (o:=?o17) ?h17 (fun K hK=>?k17) AllReadyH.nil
    case h17=>
     simp only[List.getElem?_toArray,List.getElem?_cons_succ,List.getElem?_cons_zero];rfl
    refine cu (by rfl) _ _ 34 (by rfl) lo 54 i1 (.agg #[.int .i64 0,.int .i64 0]) 2 16 Tryz.underlying34 hi1 hy0 hy1 hy2 rfl (by decide) (.slice oA oN oC) oN (jc.flatMap zi) (by rfl) HOWN.out (.slice (some ⟨wg.heap.size,0,none⟩) 1 1) 1 [.int .i64 xo,.int .i64 xa] (by rfl) ni.out (abt _ _) (by simp only[maxLen];omega) (by omega) hLQ ?_
    intro v' w3 hown' hgrow ig
    obtain⟨vA',vN',vC',rfl,-⟩:=(Own.lu hown').form
    have hrb:∀ b,b < lo→w3.heap[b]?=(wg.drew.alloc (.cells #[.int .i64 xo,.int .i64 xa] 54)).heap[b]?:=fun b hb=>hgrow.block b (Nat.lt_of_lt_of_le hb hLQ) (fun hne=>by have:=(HOWN.out.lt b hne.symm).1;omega)
    have hxb:w3.heap[wf.heap.size]?=(wg.drew.alloc (.cells #[.int .i64 xo,.int .i64 xa] 54)).heap[wf.heap.size]?:=hgrow.block _ (Nat.lt_of_lt_of_le aer hda.size) (fun hne=>by have h5:=(HGe.out.gy.lt _ hne.symm).2;omega)
    have bM3:Blk w3 (w.heap.size+1) 25 #[.int .i64 p,.slice iA iN iC,.slice (some ⟨gc,0,none⟩) (d+1) cC]:=(hrb _ hlo1).trans (bMg.step hda)
    have bR3:Blk w3 (w.heap.size) 25 #[.int .i64 0,.slice none 0 0,.slice none 0 0]:=(hrb _ (by omega)).trans (bRg.step hda)
    have bX3:Blk w3 wf.heap.size 54 #[.int .i64 xo,.int .i64 xa]:=hxb.trans (bXg.step hda)
    have hB3:Below w.heap.size w w3:=(hBg.trans (hda.mono hBg.size)).grown hgrow (by have:=hda.size;have:=hBg.size;omega) (fun j hj=>by have:=(HOWN.out.lt j hj).1;omega)
    have hmid:=HCO.out w3 (HGQ.out.mid hown' hgrow ig)
    have z3:=hmid.1
    have f3:=hmid.2
    have HG4:=Lib.hid (HGQ.out.ins ⟨xo,xa⟩ (by rw[show(Core.mk oname jg jh ji jc).code.length=oN from HON.out.symm];exact hown') hgrow ig rfl)
    have hS3:=HS.out w3 bM3 bX3
    have bM4:=bM3.far (p:=⟨gc,d * 5+4,none⟩) (by simp only;omega) (.slice vA' vN' vC')
    have bX4:=bX3.far (p:=⟨gc,d * 5+4,none⟩) (by simp only;omega) (.slice vA' vN' vC')
    have hS4:=HS.out _ bM4 bX4
    refine hK.out _ _ (by first|exact hS3|go_keep) (fun hHeld=>?_)
    clear hK K
    try simp only[Act.put,List.setIfInBounds_toArray,List.set_cons_zero,List.set_cons_succ]
    refine wpAnyH_take (i:=12) (oi:=_) (v:=_) (by simp only[List.getElem?_toArray,List.getElem?_cons_succ,List.getElem?_cons_zero];rfl) (by kernel_rfl) (by kernel_rfl) (by kernel_rfl) (by exact fun _ _ _ h=>h) (Or.inl ⟨by rfl,by intro w hSw;(try dsimp only at hSw);go_simp;try with_reducible rfl⟩) (by assumption) ?_
    try simp only[Act.put,List.setIfInBounds_toArray,List.set_cons_zero,List.set_cons_succ]
    refine wpAnyH_take (i:=13) (oi:=_) (v:=_) (by simp only[List.getElem?_toArray,List.getElem?_cons_succ,List.getElem?_cons_zero];rfl) (by kernel_rfl) (by kernel_rfl) (by kernel_rfl) (by exact fun _ _ _ h=>h) (Or.inl ⟨by rfl,by intro w hSw;(try dsimp only at hSw);go_simp;try with_reducible rfl⟩) (by assumption) ?_
    try simp only[Act.put,List.setIfInBounds_toArray,List.set_cons_zero,List.set_cons_succ]
    refine wpAnyH_ready (rs:=[14]) (by kernel_rfl) (by simp) ?_
    refine AllReadyH.cons (o:=?o18) ?h18 (fun K hK=>?k18) AllReadyH.nil
    case h18=>
     simp only[List.getElem?_toArray,List.getElem?_cons_succ,List.getElem?_cons_zero];rfl
    go_simp
    refine hK.out _ _ (by first|exact hS4|go_keep) (fun hHeld=>?_)
    clear hK K
    try simp only[Act.put,List.setIfInBounds_toArray,List.set_cons_zero,List.set_cons_succ]
    refine wpAnyH_done (by kernel_rfl) ?_ _
    go_wp2_with fail
    go_roundw
    case rel=>exact⟨k+1,_,_,us ++[.slice vA' vN' vC'],by omega,by go_num,Lib.hid (by rw[HF.out,qc,HD.out];exact HG4.out),Lib.hid (hB3.setCell (p:=⟨gc,d * 5+4,none⟩) (by simp only;omega) _),Nat.le_trans (Nat.le_trans hLQ hgrow.size) (by simp[World.setCell]),Lib.hid (bR3.far (p:=⟨gc,d * 5+4,none⟩) (by simp only;omega) _),Lib.hid (by rw[HF.out];exact bM4)⟩
    case measure=>simp[intOf];omega
   case ax9=>
    go_simp
    refine hK.out _ _ (by first|exact k1|go_keep) (fun hHeld=>?_)
    clear hK K
    try simp only[Act.put,List.setIfInBounds_toArray,List.set_cons_zero,List.set_cons_succ]
    refine wpAnyH_ready (rs:=[8]) (by kernel_rfl) (by simp) ?_
    refine AllReadyH.cons (o:=?o19) ?h19 (fun K hK=>?k19) AllReadyH.nil
    case h19=>
     simp only[List.getElem?_toArray,List.getElem?_cons_succ,List.getElem?_cons_zero];rfl
    go_simp
    refine hK.out _ _ (by first|exact k1|go_keep) (fun hHeld=>?_)
    clear hK K
    try simp only[Act.put,List.setIfInBounds_toArray,List.set_cons_zero,List.set_cons_succ]
    refine wpAnyH_ready (rs:=[11]) (by kernel_rfl) (by simp) ?_
    refine AllReadyH.cons (o:=?o20) ?h20 (fun K hK=>?k20) AllReadyH.nil
    case h20=>
     simp only[List.getElem?_toArray,List.getElem?_cons_succ,List.getElem?_cons_zero];rfl
    refine cu (by rfl) _ _ 34 (by rfl) lo 54 i1 (.agg #[.int .i64 0,.int .i64 0]) 2 16 Tryz.underlying34 hi1 hy0 hy1 hy2 rfl (by decide) (.slice oA oN oC) oN (jc.flatMap zi) (by rfl) HOWN.out (.slice (some ⟨wg.heap.size,0,none⟩) 1 1) 1 [.int .i64 xo,.int .i64 xa] (by rfl) ni.out (abt _ _) (by simp only[maxLen];omega) (by omega) hLQ ?_
    intro v' w3 hown' hgrow ig
    obtain⟨vA',vN',vC',rfl,-⟩:=(Own.lu hown').form
    have hrb:∀ b,b < lo→w3.heap[b]?=(wg.drew.alloc (.cells #[.int .i64 xo,.int .i64 xa] 54)).heap[b]?:=fun b hb=>hgrow.block b (Nat.lt_of_lt_of_le hb hLQ) (fun hne=>by have:=(HOWN.out.lt b hne.symm).1;omega)
    have hxb:w3.heap[wf.heap.size]?=(wg.drew.alloc (.cells #[.int .i64 xo,.int .i64 xa] 54)).heap[wf.heap.size]?:=hgrow.block _ (Nat.lt_of_lt_of_le aer hda.size) (fun hne=>by have h5:=(HGe.out.gy.lt _ hne.symm).2;omega)
    have bM3:Blk w3 (w.heap.size+1) 25 #[.int .i64 p,.slice iA iN iC,.slice (some ⟨gc,0,none⟩) (d+1) cC]:=(hrb _ hlo1).trans (bMg.step hda)
    have bR3:Blk w3 (w.heap.size) 25 #[.int .i64 0,.slice none 0 0,.slice none 0 0]:=(hrb _ (by omega)).trans (bRg.step hda)
    have bX3:Blk w3 wf.heap.size 54 #[.int .i64 xo,.int .i64 xa]:=hxb.trans (bXg.step hda)
    have hB3:Below w.heap.size w w3:=(hBg.trans (hda.mono hBg.size)).grown hgrow (by have:=hda.size;have:=hBg.size;omega) (fun j hj=>by have:=(HOWN.out.lt j hj).1;omega)
    have hmid:=HCO.out w3 (HGQ.out.mid hown' hgrow ig)
    have z3:=hmid.1
    have f3:=hmid.2
    have HG4:=Lib.hid (HGQ.out.ins ⟨xo,xa⟩ (by rw[show(Core.mk oname jg jh ji jc).code.length=oN from HON.out.symm];exact hown') hgrow ig rfl)
    have hS3:=HS.out w3 bM3 bX3
    have bM4:=bM3.far (p:=⟨gc,d * 5+4,none⟩) (by simp only;omega) (.slice vA' vN' vC')
    have bX4:=bX3.far (p:=⟨gc,d * 5+4,none⟩) (by simp only;omega) (.slice vA' vN' vC')
    have hS4:=HS.out _ bM4 bX4
    refine hK.out _ _ (by first|exact hS3|go_keep) (fun hHeld=>?_)
    clear hK K
    try simp only[Act.put,List.setIfInBounds_toArray,List.set_cons_zero,List.set_cons_succ]
    refine wpAnyH_take (i:=12) (oi:=_) (v:=_) (by simp only[List.getElem?_toArray,List.getElem?_cons_succ,List.getElem?_cons_zero];rfl) (by kernel_rfl) (by kernel_rfl) (by kernel_rfl) (by exact fun _ _ _ h=>h) (Or.inl ⟨by rfl,by intro w hSw;(try dsimp only at hSw);go_simp;try with_reducible rfl⟩) (by assumption) ?_
    try simp only[Act.put,List.setIfInBounds_toArray,List.set_cons_zero,List.set_cons_succ]
    refine wpAnyH_take (i:=13) (oi:=_) (v:=_) (by simp only[List.getElem?_toArray,List.getElem?_cons_succ,List.getElem?_cons_zero];rfl) (by kernel_rfl) (by kernel_rfl) (by kernel_rfl) (by exact fun _ _ _ h=>h) (Or.inl ⟨by rfl,by intro w hSw;(try dsimp only at hSw);go_simp;try with_reducible rfl⟩) (by assumption) ?_
    try simp only[Act.put,List.setIfInBounds_toArray,List.set_cons_zero,List.set_cons_succ]
    refine wpAnyH_ready (rs:=[14]) (by kernel_rfl) (by simp) ?_
    refine AllReadyH.cons (o:=?o21) ?h21 (fun K hK=>?k21) AllReadyH.nil
    case h21=>
     simp only[List.getElem?_toArray,List.getElem?_cons_succ,List.getElem?_cons_zero];rfl
    go_simp
    refine hK.out _ _ (by first|exact hS4|go_keep) (fun hHeld=>?_)
    clear hK K
    try simp only[Act.put,List.setIfInBounds_toArray,List.set_cons_zero,List.set_cons_succ]
    refine wpAnyH_done (by kernel_rfl) ?_ _
    go_wp2_with fail
    go_roundw
    case rel=>exact⟨k+1,_,_,us ++[.slice vA' vN' vC'],by omega,by go_num,Lib.hid (by rw[HF.out,qc,HD.out];exact HG4.out),Lib.hid (hB3.setCell (p:=⟨gc,d * 5+4,none⟩) (by simp only;omega) _),Nat.le_trans (Nat.le_trans hLQ hgrow.size) (by simp[World.setCell]),Lib.hid (bR3.far (p:=⟨gc,d * 5+4,none⟩) (by simp only;omega) _),Lib.hid (by rw[HF.out];exact bM4)⟩
    case measure=>simp[intOf];omega
  case neg=>
   obtain rfl:k=n:=by omega
   have z0:wr.cell? ⟨w.heap.size+1,0,none⟩=some (.int .i64 p):=bMr.cell 0
   have z1:wr.cell? ⟨w.heap.size+1,1,none⟩=some (.slice iA iN iC):=bMr.cell 1
   have z2:wr.cell? ⟨w.heap.size+1,2,none⟩=some (.slice cA cN cC):=bMr.cell 2
   have y0:wr.cell? ⟨w.heap.size,0,none⟩=some (.int .i64 0):=bRr.cell 0
   have f0:=bRr.frozen 0
   have y1:wr.cell? ⟨w.heap.size,1,none⟩=some (.slice none 0 0):=bRr.cell 1
   have f1:=bRr.frozen 1
   have y2:wr.cell? ⟨w.heap.size,2,none⟩=some (.slice none 0 0):=bRr.cell 2
   have f2:=bRr.frozen 2
   go_wp2_with fail
   have bN:Blk (((wr.setCell ⟨w.heap.size,0,none⟩ (.int .i64 p)).setCell ⟨w.heap.size,1,none⟩ (.slice iA iN iC)).setCell ⟨w.heap.size,2,none⟩ (.slice cA cN cC)) (w.heap.size) 25 #[.int .i64 p,.slice iA iN iC,.slice cA cN cC]:=by
    have:=(((bRr.dh 0 (.int .i64 p)).dh 1 (.slice iA iN iC)).dh 2 (.slice cA cN cC))
    simpa using this
   have m0:=bN.cell 0
   have m1:=bN.cell 1
   have m2:=bN.cell 2
   have k1:Below w.heap.size w (((wr.setCell ⟨w.heap.size,0,none⟩ (.int .i64 p)).setCell ⟨w.heap.size,1,none⟩ (.slice iA iN iC)).setCell ⟨w.heap.size,2,none⟩ (.slice cA cN cC)):=by
    iterate 3 (refine Below.setCell ?_ (by simp) _)
    exact hBr
   have k2:GM lo (((wr.setCell ⟨w.heap.size,0,none⟩ (.int .i64 p)).setCell ⟨w.heap.size,1,none⟩ (.slice iA iN iC)).setCell ⟨w.heap.size,2,none⟩ (.slice cA cN cC)) ⟨p,is,cs⟩ (.slice iA iN iC) (.slice cA cN cC) vs:=by
    iterate 3 (refine GM.far ?_ (by simp only;omega) _)
    exact HGr.out
   refine bodyPost_ret (v:=.agg #[.int .i64 p,.slice iA iN iC,.slice cA cN cC]) (by simp[results,Tryz.results9,go_sem,m0,m1,m2]) rfl ⟨_,_,by rw[← HMK.out],⟨vs,by rw[← HMK.out];exact k2⟩,k1⟩
end Go.Proofs.YtlpcocfadppkhaaGreatDoor
