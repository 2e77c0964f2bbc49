/-
  A line of a module's text, read: impl.Module.readLine (by program: gen_rl.py) (by program: gen_why.py).
-/
import Derived.Test.YtlpcocfadppkhaaGreatDoorRa16
namespace Go.Proofs.YtlpcocfadppkhaaGreatDoor
open Go.RowKit
set_option linter.unusedVariables false
set_option linter.unusedSimpArgs false
set_option linter.unnecessarySimpa false
set_option maxRecDepth 16000
structure Lk (lo bm:Nat) (W W':World):Prop where
 os:W'.os=W.os
 tape:W'.tape=W.tape
 output:W'.output=W.output
 size:W.heap.size≤W'.heap.size
 block:∀ k,k < lo→k≠bm→W'.heap[k]?=W.heap[k]?
 same:∀ (k:Nat) (o:Obj),W.heap[k]?=some o→o.isCells=false→W'.heap[k]?=some o
section
variable {lo bm:Nat} {X W W':World}
theorem Lk.trans (h:Lk lo bm X W) (k:Lk lo bm W W'):Lk lo bm X W':=
 ⟨k.os.trans h.os,k.tape.trans h.tape,k.output.trans h.output,Nat.le_trans h.size k.size,fun i hi hb=>(k.block i hi hb).trans (h.block i hi hb),fun i o ho hc=>k.same i o (h.same i o ho hc) hc⟩
theorem Lk.below (hl:lo≤W.heap.size) (h:Below W.heap.size W W'):Lk lo bm W W':=
 ⟨h.os,h.tape,h.output,h.size,fun k hk _=>h.block k (Nat.lt_of_lt_of_le hk hl),fun k o ho _=>(h.block k (Array.getElem?_eq_some_iff.1 ho).1).trans ho⟩
theorem Lk.grown {t sz n:Nat} {v:Value} {cs:List Value} (hl:lo≤W.heap.size) (hr:W.ownsRow lo t sz v n cs) (h:W.grownBy W' v.ownBlock):Lk lo bm W W':=by
 have hb:Below lo W W':=(Below.refl lo W).grown h hl (fun j hj=>(hr.lt j hj).1)
 refine⟨hb.os,hb.tape,hb.output,hb.size,fun k hk _=>hb.block k hk,fun k o ho hc=>?_⟩
 refine(h.block k (Array.getElem?_eq_some_iff.1 ho).1 fun e=>?_).trans ho
 rcases hr.2 with ⟨h0,_⟩|⟨g,cap,cur,hv,_,hh,_⟩
 ·rw[h0] at e;cases e
 ·rw[hv] at e
  have e:k=g:=Option.some.inj e
  subst e
  rw[hh] at ho
  cases ho
  cases hc
theorem Lk.setCell {g:Nat} {cur:Array Value} {t:TypeId} {z:Nat×Nat} (hg:W.heap[g]?=some (.cells cur t z)) (hb:g=bm∨lo≤g) (i:Nat) (u:Value):Lk lo bm W (W.setCell ⟨g,i,none⟩ u):=by
 refine⟨rfl,rfl,rfl,by simp[World.setCell],fun k hk hkb=>Below.heap_setCell W _ u k fun e=>?_,fun k o ho hc=>(Below.heap_setCell W _ u k fun e=>?_).trans ho⟩
 ·have e:k=g:=e
  omega
 ·have e:k=g:=e
  subst e
  rw[hg] at ho
  cases ho
  cases hc
end
theorem ad9 {W:World} {lo t sz m n c g:Nat} {cs:List Value} (h:W.ownsRow lo t sz (.slice (some ⟨g,0,none⟩) n c) m cs):∃ cur z,W.heap[g]?=some (.cells cur t z):=by
 rcases h.2 with ⟨h1,_⟩|⟨g2,cap,cur,hv,_,hh,_⟩
 ·cases h1
 ·injection hv with e1
  injection e1 with e1
  injection e1 with e1
  exact⟨cur,_,e1 ▸ hh⟩
def auq (lo bm:Nat) (M:Mod) (w:World) (e:Ending) (w':World):Prop:=(∃ v,e=.returned v)∧∃ vi vc vs,GM lo w' M vi vc vs∧Blk w' bm 25 #[.int .i64 M.pages,vi,vc]∧Lk lo bm w w'
theorem uf {lo bm:Nat} {M M2:Mod} {w w':World} {v vi vc:Value} {vs:List Value} (hM:M=M2) (h1:GM lo w' M2 vi vc vs) (h2:Blk w' bm 25 #[.int .i64 M2.pages,vi,vc]) (h3:Lk lo bm w w'):auq lo bm M w (.returned v) w':=by
 subst hM
 exact⟨⟨_,rfl⟩,vi,vc,vs,h1,h2,h3⟩
theorem as7 {ws:List ByteArray} {k:Nat} {x:ByteArray} (h:ws[k]?=some x):zy ws k=(uq x).1:=by rw[zy,h]
theorem as8 {ws:List ByteArray} {k:Nat} (h:ws[k]?=none):zy ws k=-1:=by rw[zy,h]
theorem aqe {ws:List ByteArray} {k b gw n c:Nat} {W:World} (hn:n=ws.length) (hn1:n≤1048577) (hsz:∀ x ∈ ws,x.size≤1048576) (hk:k≤16) (hT:aa1 W) (hb:W.cell? ⟨b,0,none⟩=some (.slice (some ⟨gw,0,none⟩) n c)) (hw:∀ j x,ws[j]?=some x→W.cell? ⟨gw,j,none⟩=some (.string x)):
  Calls Tryz.prog 37 #[.int .i64 (k:Int),.pointer (some ⟨b,0,none⟩)] W fun e w'=>e=.returned (.int .i64 (zy ws k))∧Below W.heap.size W w':=by
 by_cases h:k < n
 case pos=>
  obtain⟨x,hx,hxm⟩:=l7 hn h
  have hc:=hw k x hx
  have HR:=Lib.hid (afb x (hsz x hxm) W hT)
  obtain⟨z,hz⟩:∃ z,z=(uq x).1:=⟨_,rfl⟩
  obtain⟨y,hy⟩:∃ y,y=(uq x).2:=⟨_,rfl⟩
  rw[← hz,← hy] at HR
  rw[as7 hx,← hz]
  have n0:¬ (n:Int)≤(k:Int):=by omega
  have n1:(k:Int) < (n:Int):=by omega
  have n2:(0:Int)≤(k:Int):=by omega
  clear hz hy hx hxm hw hT hsz hn
  go_enter Tryz.func37,Tryz.ntmps37
  go_wp2_with fail
  refine HR.out.mono ?_
  rintro e wq ⟨rfl,hbq⟩
  go_wp2_with fail
  exact bodyPost_ret (v:=.int .i64 z) (by simp[results,Tryz.results37,go_sem]) rfl ⟨rfl,hbq⟩
 case neg=>
  rw[as8 (List.getElem?_eq_none (by omega))]
  have n0:(n:Int)≤(k:Int):=by omega
  clear hw hT hsz hn
  go_enter Tryz.func37,Tryz.ntmps37
  go_wp2_with fail
  exact bodyPost_ret (v:=.int .i64 (-1)) (by simp[results,Tryz.results37,go_sem]) rfl ⟨rfl,Below.refl _ _⟩
set_option maxHeartbeats 12800000 in
theorem anj {m:Mod} {line:ByteArray} (hls:line.size≤1048576) {lo bm:Nat} {vi vc:Value} {vs:List Value} {w:World} (hlen:aao m 30001) (hT:aa1 w) (hbm:bm < lo) (hlo:lo≤w.heap.size) (hgm:GM lo w m vi vc vs) (hM:Blk w bm 25 #[.int .i64 m.pages,vi,vc]):
  Calls Tryz.prog 15 #[.pointer (some ⟨bm,0,none⟩),.string line] w fun e w'=>auq lo bm (aan m line) w e w':=by
 obtain⟨p,is,cs⟩:=m
 obtain⟨iA,iC,rfl,hvi⟩:=zl hgm.aby
 obtain⟨cA,cC,rfl,hvc⟩:=zl hgm.pq
 have HVC:=Lib.hid hvc
 clear hvi hvc
 have hil:is.length≤30001:=hlen.1
 have hcl:cs.length≤30001:=hlen.2.1
 have HLEN:=Lib.hid hlen
 clear hlen
 obtain⟨M',hM'⟩:∃ M',M'=aan ⟨p,is,cs⟩ line:=⟨_,rfl⟩
 rw[← hM']
 have HLI:=Lib.hid hM'
 clear hM'
 obtain⟨ws,hws⟩:∃ ws,ws=bn 32 line:=⟨_,rfl⟩
 obtain⟨N,hN⟩:∃ N,N=ws.length:=⟨_,rfl⟩
 have hsp:=arp line ⟨#[32]⟩ hls (by decide) w hT.2.1
 rw[apg,aoo,← hws,← hN] at hsp
 have HSP:=Lib.hid hsp
 clear hsp
 have hNp:0 < N:=by rw[hN,hws];exact aix 32 line
 have hN1:N≤1048577:=by rw[hN,hws];exact Nat.le_trans (agm 32 line) (by omega)
 have HSZ:Hid (∀ x ∈ ws,x.size≤1048576):=Lib.hid (by rw[hws];exact ahk hls 32)
 obtain⟨x0,hx0,a07⟩:=l7 hN hNp
 have hw0:wAt ws 0=x0:=by rw[wAt,hx0];rfl
 have HN:=Lib.hid hN
 have HX0:=Lib.hid hx0
 clear hx0 hN a07
 have ahm:Hid (M'=if x0=abg then ⟨zy ws 1,is,cs⟩else if x0=aat∧1 < N then ⟨p,is ++[⟨wAt ws 1,zy ws 2,decide (zy ws 3=1)⟩],cs⟩else if x0=zx∧1 < N then ⟨p,is,cs ++[⟨wAt ws 1,zy ws 2,zy ws 3,decide (zy ws 4=1),[]⟩]⟩else ⟨p,is,xg ⟨(rdI line).1,(rdI line).2.1⟩ cs⟩):=by
  show _=_
  rw[HLI.out,aan,← hws,hw0,HN.out]
 clear HLI hw0
 have HRD:=Lib.hid (fun(V:World) (hV:Below w.heap.size w V)=>aj0 hls V (hT.below hV))
 clear hws
 have HTT:=Lib.hid hT
 have HGI:=Lib.hid hgm
 clear hT hgm
 go_enter Tryz.func15,Tryz.ntmps15
 go_wp2_with fail
 refine HSP.out.mono ?_
 rintro e wz ⟨rfl,hwz⟩
 clear HSP
 have hbz:Below w.heap.size w wz:=by rw[hwz];exact(Below.refl _ _).alloc (Nat.le_refl _) _
 have bZ:Blk wz w.heap.size 9 (ws.map Value.string).toArray:=by rw[hwz];exact Blk.new w _ _
 have HWZ:=Lib.hid hwz
 clear hwz
 go_upto_region 2 with fail
 obtain⟨wa,hwa⟩:∃ V,V=wz.alloc (.cells #[.slice (some ⟨w.heap.size,0,none⟩) N N] 32):=⟨_,rfl⟩
 rw[← hwa]
 obtain⟨bw,hbw⟩:∃ b,b=wz.heap.size:=⟨_,rfl⟩
 have bWa:Blk wa bw 32 #[.slice (some ⟨w.heap.size,0,none⟩) N N]:=by rw[hwa,hbw];exact Blk.new wz _ _
 have as9:Below wz.heap.size wz wa:=by rw[hwa];exact(Below.refl _ _).alloc (Nat.le_refl _) _
 rw[← hbw]
 have hba:=hbz.trans (as9.mono hbz.size)
 have bZa:=bZ.step as9
 have hga:w.heap.size < wa.heap.size:=bZa.lt
 have hgb:w.heap.size < bw:=by rw[hbw];exact bZ.lt
 have agp:bw < wa.heap.size:=bWa.lt
 have bMa:Blk wa (bm) 25 #[.int .i64 p,.slice iA is.length iC,.slice cA cs.length cC]:=hM.step hba
 have HGa:=Lib.hid (HGI.out.step hba)
 have HBa:=Lib.hid hba
 have hsa:wa.heap.size≤wa.heap.size:=Nat.le_refl _
 have a7c:wa.heap[w.heap.size]?=wa.heap[w.heap.size]?:=rfl
 have HCW:Hid (∀ V:World,V.heap[w.heap.size]?=wa.heap[w.heap.size]?→∀ j x,ws[j]?=some x→V.cell? ⟨w.heap.size,j,none⟩=some (.string x)):=Lib.hid fun V hV j x hx=>by
  refine((World.cell?_of_block (a:=⟨w.heap.size,j,none⟩) hV).trans (bZa.cell j)).trans ?_
  simp[hx]
 have HNU:Hid (∀ (k:Nat) (V:World),k≤16→Below wa.heap.size wa V→Calls Tryz.prog 37 #[.int .i64 (k:Int),.pointer (some ⟨bw,0,none⟩)] V fun e w'=>e=.returned (.int .i64 (zy ws k))∧Below V.heap.size V w'):=Lib.hid fun k V hk hV=>aqe HN.out hN1 HSZ.out hk ((HTT.out.below hba).below hV) ((bWa.step hV).cell 0) (HCW.out V (hV.block _ hga))
 clear hwa hbw bZ as9 hbz HWZ bZa hM hba
 have HBA:Hid (Below wa.heap.size wa wa):=Lib.hid (Below.refl _ _)
 have z2:wa.cell? ⟨bm,2,none⟩=some (.slice cA cs.length cC):=bMa.cell 2
 have zw:wa.cell? ⟨bw,0,none⟩=some (.slice (some ⟨w.heap.size,0,none⟩) N N):=bWa.cell 0
 have q0:=HCW.out wa rfl 0 x0 HX0.out
 have n0:(0:Int) < (N:Int):=by omega
 have hcw:IntKind.i64.wrap ((cs.length:Int) - 1)=(cs.length:Int) - 1:=IntWalk.i64_in _ (by omega)
 by_cases c0:x0=abg
 case pos=>
  have t0:(x0.toList ==[109,111,100,117,108,101])=true:=(yw _ _).trans (decide_eq_true c0)
  obtain⟨na,hna⟩:∃ z,z=zy ws 1:=⟨_,rfl⟩
  have HF:Hid (M'=⟨na,is,cs⟩):=by show _=_;rw[ahm.out,if_pos c0,hna]
  clear ahm c0
  go_wp2_with fail
  refine(HNU.out 1 wa (by omega) HBA.out).mono ?_
  rintro e wb ⟨rfl,hbb⟩
  rw[← hna]
  clear hna
  have bMb:=bMa.step hbb
  have hlb:lo≤wb.heap.size:=by have:=hbb.size;have:=hlo;omega
  have y0:wb.cell? ⟨bm,0,none⟩=some (.int .i64 p):=bMb.cell 0
  have f0:=bMb.frozen 0
  have y1:wb.cell? ⟨bm,1,none⟩=some (.slice iA is.length iC):=bMb.cell 1
  have f1:=bMb.frozen 1
  have y2:wb.cell? ⟨bm,2,none⟩=some (.slice cA cs.length cC):=bMb.cell 2
  have f2:=bMb.frozen 2
  go_wp2_with fail
  have bE:Blk (wb.setCell ⟨bm,0,none⟩ (.int .i64 na)) (bm) 25 #[.int .i64 na,.slice iA is.length iC,.slice cA cs.length cC]:=by
   have:=bMb.dh 0 (.int .i64 na)
   simpa using this
  have lk:=((Lk.below (bm:=bm) hlo HBa.out).trans (Lk.below (by omega) hbb)).trans (Lk.setCell bMb (.inl rfl) 0 (.int .i64 na))
  refine bodyPost_end (v:=.tuple #[]) (results_none Tryz.results15 _ _ _) rfl (uf HF.out (((HGa.out.step hbb).page na).far (p:=⟨bm,0,none⟩) hbm _) bE lk)
 case neg=>
  have t0:(x0.toList ==[109,111,100,117,108,101])=false:=(yw _ _).trans (decide_eq_false c0)
  by_cases c1:x0=aat∧1 < N
  case pos=>
   have t1:(x0.toList ==[105,109,112,111,114,116])=true:=(yw _ _).trans (decide_eq_true c1.1)
   have n1:(1:Int) < (N:Int):=by have:=c1.2;omega
   obtain⟨x1,hx1,ata⟩:=l7 HN.out c1.2
   have hw1:wAt ws 1=x1:=by rw[wAt,hx1];rfl
   have HX1:=Lib.hid hx1
   clear hx1 ata
   obtain⟨nb,hnb⟩:∃ z,z=zy ws 2:=⟨_,rfl⟩
   obtain⟨nc,hnc⟩:∃ z,z=zy ws 3:=⟨_,rfl⟩
   obtain⟨bb,hbb⟩:∃ b,b=decide (nc=1):=⟨_,rfl⟩
   have HF:Hid (M'=⟨p,is ++[⟨x1,nb,bb⟩],cs⟩):=by show _=_;rw[ahm.out,if_neg c0,if_pos c1,hw1,hbb,hnb,hnc]
   clear ahm c0 c1 hw1
   have HS:Hid (∀ V:World,Below wa.heap.size wa V→V.cell? ⟨bw,0,none⟩=some (.slice (some ⟨w.heap.size,0,none⟩) N N)∧V.cell? ⟨w.heap.size,1,none⟩=some (.string x1)):=Lib.hid fun V hV=>⟨(bWa.step hV).cell 0,HCW.out V (hV.block _ hga) 1 x1 HX1.out⟩
   have hdr:Below wa.heap.size wa wa.drew:=(Below.refl _ _).drew
   have k0:=HS.out _ hdr
   obtain⟨i1,hi1,hy0,hy1,hy2⟩:=info_parts ai5
   have HEQ:Hid ((nc ==(1:Int))=bb):=Lib.hid (by rw[hbb];rfl)
   have heq:=HEQ.out
   clear hbb
   have hld:wa.drew.cell? ⟨bm,1,none⟩=some (.slice iA is.length iC):=bMa.cell 1
   have HC2:=Lib.hid (fun V hV=>HNU.out 2 V (by omega) hV)
   rw[← hnb] at HC2
   have HC3:=Lib.hid (fun V hV=>HNU.out 3 V (by omega) hV)
   rw[← hnc] at HC3
   clear hnb hnc
   go_wp2_with fail
   have HS2:Hid (∀ V:World,V.heap[bw]?=wa.heap[bw]?→V.heap[w.heap.size]?=wa.heap[w.heap.size]?→V.cell? ⟨bw,0,none⟩=some (.slice (some ⟨w.heap.size,0,none⟩) N N)∧V.cell? ⟨w.heap.size,1,none⟩=some (.string x1)):=Lib.hid fun V h1 h2=>⟨(World.cell?_of_block (a:=⟨bw,0,none⟩) h1).trans (bWa.cell 0),HCW.out V h2 1 x1 HX1.out⟩
   have HBW:Hid (∀ j,Value.ownBlock (.slice iA is.length iC)=some j→lo≤j∧j < w.heap.size):=Lib.hid fun j hj=>HGI.out.aby.lt j hj
   refine wp_region_held_drew (S:=(fun w'=>w'.cell? ⟨bw,0,none⟩=some (.slice (some ⟨w.heap.size,0,none⟩) N N)∧w'.cell? ⟨w.heap.size,1,none⟩=some (.string x1))) (by kernel_rfl) k0 (fun hHeld=>?_)
   refine wpAnyH_take (i:=0) (oi:=_) (v:=_) (by simp only[List.getElem?_toArray,List.getElem?_cons_succ,List.getElem?_cons_zero];rfl) (by kernel_rfl) (by kernel_rfl) (by kernel_rfl) (by exact fun _ _ _ h=>h) (Or.inl ⟨by rfl,by intro w hSw;(try dsimp only at hSw);go_simp;try with_reducible rfl⟩) (by assumption) ?_
   try simp only[Act.put,List.setIfInBounds_toArray,List.set_cons_zero,List.set_cons_succ]
   refine wpAnyH_take (i:=1) (oi:=_) (v:=_) (by simp only[List.getElem?_toArray,List.getElem?_cons_succ,List.getElem?_cons_zero];rfl) (by kernel_rfl) (by kernel_rfl) (by kernel_rfl) (by exact fun _ _ _ h=>h) (Or.inl ⟨by rfl,by intro w hSw;(try dsimp only at hSw);go_simp;try with_reducible rfl⟩) (by assumption) ?_
   try simp only[Act.put,List.setIfInBounds_toArray,List.set_cons_zero,List.set_cons_succ]
   refine wpAnyH_take (i:=2) (oi:=_) (v:=_) (by simp only[List.getElem?_toArray,List.getElem?_cons_succ,List.getElem?_cons_zero];rfl) (by kernel_rfl) (by kernel_rfl) (by kernel_rfl) (by exact fun _ _ _ h=>h) (Or.inl ⟨by rfl,by intro w hSw;(try dsimp only at hSw);go_simp;try with_reducible rfl⟩) (by assumption) ?_
   try simp only[Act.put,List.setIfInBounds_toArray,List.set_cons_zero,List.set_cons_succ]
   refine wpAnyH_take (i:=3) (oi:=_) (v:=_) (by simp only[List.getElem?_toArray,List.getElem?_cons_succ,List.getElem?_cons_zero];rfl) (by kernel_rfl) (by kernel_rfl) (by kernel_rfl) (by exact fun _ _ _ h=>h) (Or.inl ⟨by rfl,by intro w hSw;(try dsimp only at hSw);go_simp;try with_reducible rfl⟩) (by assumption) ?_
   try simp only[Act.put,List.setIfInBounds_toArray,List.set_cons_zero,List.set_cons_succ]
   refine wpAnyH_take (i:=5) (oi:=_) (v:=_) (by simp only[List.getElem?_toArray,List.getElem?_cons_succ,List.getElem?_cons_zero];rfl) (by kernel_rfl) (by kernel_rfl) (by kernel_rfl) (by exact fun _ _ _ h=>h) (Or.inl ⟨by rfl,by intro w hSw;(try dsimp only at hSw);go_simp;try with_reducible rfl⟩) (by assumption) ?_
   try simp only[Act.put,List.setIfInBounds_toArray,List.set_cons_zero,List.set_cons_succ]
   refine wpAnyH_take (i:=6) (oi:=_) (v:=_) (by simp only[List.getElem?_toArray,List.getElem?_cons_succ,List.getElem?_cons_zero];rfl) (by kernel_rfl) (by kernel_rfl) (by kernel_rfl) (by exact fun _ _ _ h=>h) (Or.inl ⟨by rfl,by intro w hSw;(try dsimp only at hSw);go_simp;try with_reducible rfl⟩) (by assumption) ?_
   try simp only[Act.put,List.setIfInBounds_toArray,List.set_cons_zero,List.set_cons_succ]
   refine wpAnyH_take (i:=7) (oi:=_) (v:=_) (by simp only[List.getElem?_toArray,List.getElem?_cons_succ,List.getElem?_cons_zero];rfl) (by kernel_rfl) (by kernel_rfl) (by kernel_rfl) (by exact fun _ _ _ h=>h) (Or.inl ⟨by rfl,by intro w hSw;(try dsimp only at hSw);go_simp;try with_reducible rfl⟩) (by assumption) ?_
   try simp only[Act.put,List.setIfInBounds_toArray,List.set_cons_zero,List.set_cons_succ]
   refine wpAnyH_take (i:=8) (oi:=_) (v:=_) (by simp only[List.getElem?_toArray,List.getElem?_cons_succ,List.getElem?_cons_zero];rfl) (by kernel_rfl) (by kernel_rfl) (by kernel_rfl) (by exact fun _ _ _ h=>h) (Or.inl ⟨by rfl,by intro w hSw;(try dsimp only at hSw);go_simp;try with_reducible rfl⟩) (by assumption) ?_
   try simp only[Act.put,List.setIfInBounds_toArray,List.set_cons_zero,List.set_cons_succ]
   refine wpAnyH_take (i:=10) (oi:=_) (v:=_) (by simp only[List.getElem?_toArray,List.getElem?_cons_succ,List.getElem?_cons_zero];rfl) (by kernel_rfl) (by kernel_rfl) (by kernel_rfl) (by exact fun _ _ _ h=>h) (Or.inl ⟨by rfl,by intro w hSw;(try dsimp only at hSw);go_simp;try with_reducible rfl⟩) (by assumption) ?_
   try simp only[Act.put,List.setIfInBounds_toArray,List.set_cons_zero,List.set_cons_succ]
   refine wpAnyH_ready (rs:=[4,9]) (by kernel_rfl) (by simp) ?_
   refine AllReadyH.cons (o:=?a7d) ?a08 (fun K hK=>?a09) (AllReadyH.cons (o:=?a7e) ?a1a (fun K hK=>?a1b) AllReadyH.nil)
   case a08=>
    simp only[List.getElem?_toArray,List.getElem?_cons_succ,List.getElem?_cons_zero];rfl
   case a1a=>
    simp only[List.getElem?_toArray,List.getElem?_cons_succ,List.getElem?_cons_zero];rfl
   case a09=>
    go_simp
    refine hK.out _ _ (by first|exact k0|go_keep) (fun hHeld=>?_)
    clear hK K
    try simp only[Act.put,List.setIfInBounds_toArray,List.set_cons_zero,List.set_cons_succ]
    refine wpAnyH_ready (rs:=[9]) (by kernel_rfl) (by simp) ?_
    refine AllReadyH.cons (o:=?o2) ?h2 (fun K hK=>?k2) AllReadyH.nil
    case h2=>
     simp only[List.getElem?_toArray,List.getElem?_cons_succ,List.getElem?_cons_zero];rfl
    go_simp
    refine(HC2.out wa.drew hdr).mono ?_
    rintro e wb ⟨rfl,aja⟩
    have hwb:Below wa.heap.size wa wb:=hdr.trans (aja.mono hdr.size)
    have atb:wb.cell? ⟨bm,1,none⟩=some (.slice iA is.length iC):=(bMa.step hwb).cell 1
    have kwb:=HS.out _ hwb
    refine hK.out _ _ (by first|exact kwb|go_keep) (fun hHeld=>?_)
    clear hK K
    try simp only[Act.put,List.setIfInBounds_toArray,List.set_cons_zero,List.set_cons_succ]
    refine wpAnyH_ready (rs:=[11]) (by kernel_rfl) (by simp) ?_
    refine AllReadyH.cons (o:=?o3) ?h3 (fun K hK=>?k3) AllReadyH.nil
    case h3=>
     simp only[List.getElem?_toArray,List.getElem?_cons_succ,List.getElem?_cons_zero];rfl
    go_simp
    refine(HC3.out wb hwb).mono ?_
    rintro e wc ⟨rfl,aes⟩
    have hwc:Below wa.heap.size wa wc:=hwb.trans (aes.mono hwb.size)
    have ank:wc.cell? ⟨bm,1,none⟩=some (.slice iA is.length iC):=(bMa.step hwc).cell 1
    have kwc:=HS.out _ hwc
    refine hK.out _ _ (by first|exact kwc|go_keep) (fun hHeld=>?_)
    clear hK K
    try simp only[Act.put,List.setIfInBounds_toArray,List.set_cons_zero,List.set_cons_succ]
    refine wpAnyH_take (i:=12) (oi:=_) (v:=_) (by simp only[List.getElem?_toArray,List.getElem?_cons_succ,List.getElem?_cons_zero];rfl) (by kernel_rfl) (by kernel_rfl) (by kernel_rfl) (by exact fun _ _ _ h=>h) (Or.inl ⟨by rfl,by intro w hSw;(try dsimp only at hSw);go_simp;try with_reducible rfl⟩) (by assumption) ?_
    try simp only[Act.put,List.setIfInBounds_toArray,List.set_cons_zero,List.set_cons_succ]
    refine wpAnyH_take (i:=13) (oi:=_) (v:=_) (by simp only[List.getElem?_toArray,List.getElem?_cons_succ,List.getElem?_cons_zero];rfl) (by kernel_rfl) (by kernel_rfl) (by kernel_rfl) (by exact fun _ _ _ h=>h) (Or.inl ⟨by rfl,by intro w hSw;(try dsimp only at hSw);go_simp;try with_reducible rfl⟩) (by assumption) ?_
    try simp only[Act.put,List.setIfInBounds_toArray,List.set_cons_zero,List.set_cons_succ]
    refine wpAnyH_ready (rs:=[14]) (by kernel_rfl) (by simp) ?_
    refine AllReadyH.cons (o:=?o4) ?h4 (fun K hK=>?k4) AllReadyH.nil
    case h4=>
     simp only[List.getElem?_toArray,List.getElem?_cons_succ,List.getElem?_cons_zero];rfl
    go_simp
    have hq:Below wa.heap.size wa (wc.alloc (.cells #[.string x1,.int .i64 nb,.bool bb] 52)):=hwc.alloc hwc.size _
    have kq:=HS.out _ hq
    have hlq:(wc.alloc (.cells #[.string x1,.int .i64 nb,.bool bb] 52)).cell? ⟨bm,1,none⟩=some (.slice iA is.length iC):=(bMa.step hq).cell 1
    refine hK.out _ _ (by first|exact kq|go_keep) (fun hHeld=>?_)
    clear hK K
    try simp only[Act.put,List.setIfInBounds_toArray,List.set_cons_zero,List.set_cons_succ]
    refine wpAnyH_ready (rs:=[15]) (by kernel_rfl) (by simp) ?_
    refine AllReadyH.cons (o:=?o5) ?h5 (fun K hK=>?k5) AllReadyH.nil
    case h5=>
     simp only[List.getElem?_toArray,List.getElem?_cons_succ,List.getElem?_cons_zero];rfl
    have hLQ:lo≤(wc.alloc (.cells #[.string x1,.int .i64 nb,.bool bb] 52)).heap.size:=by have:=hq.size;have:=HBa.out.size;omega
    have HGQ:=Lib.hid (HGa.out.step hq)
    have HOWN:=Lib.hid HGQ.out.aby
    have ni:Hid (uw (wc.alloc (.cells #[.string x1,.int .i64 nb,.bool bb] 52)) (.slice (some ⟨wc.heap.size,0,none⟩) 1 1) 3 1 [.string x1,.int .i64 nb,.bool bb]):=.inr ⟨_,1,rfl,rfl,World.news_of_block (heap_alloc_new wc _)⟩
    refine cu (by rfl) _ _ 22 (by rfl) lo 52 i1 (.agg #[.string {data:=#[]},.int .i64 0,.bool false]) 3 32 Tryz.underlying22 hi1 hy0 hy1 hy2 rfl (by decide) (.slice iA is.length iC) (is.length) (is.flatMap zk) (by rfl) HOWN.out (.slice (some ⟨wc.heap.size,0,none⟩) 1 1) 1 [.string x1,.int .i64 nb,.bool bb] (by rfl) ni.out (adi _ _ _) (by simp only[maxLen];omega) (by omega) hLQ ?_
    intro v' w3 hown' hgrow ig
    obtain⟨vA',vN',vC',rfl,-⟩:=(Own.lu hown').form
    have lk3:Lk lo bm (wc.alloc (.cells #[.string x1,.int .i64 nb,.bool bb] 52)) w3:=Lk.grown hLQ HOWN.out hgrow
    have h3:Below lo wa w3:=(hq.mono (by have:=HBa.out.size;omega)).grown hgrow hLQ (fun j hj=>(HOWN.out.lt j hj).1)
    have bM3:=bMa.below h3 hbm
    have hw3:w3.heap[bw]?=wa.heap[bw]?∧w3.heap[w.heap.size]?=wa.heap[w.heap.size]?:=⟨(hgrow.block bw (by have:=hq.size;omega) (fun hne=>by have:=HBW.out bw hne.symm;omega)).trans (hq.block _ agp),(hgrow.block _ (by have:=hq.size;omega) (fun hne=>by have:=HBW.out _ hne.symm;omega)).trans (hq.block _ hga)⟩
    have k3:=HS2.out w3 hw3.1 hw3.2
    have z3:w3.cell? ⟨bm,1,none⟩=some (.slice iA is.length iC):=bM3.cell 1
    have f3:=bM3.frozen 1
    have HG3:=Lib.hid (HGQ.out.imp ⟨x1,nb,bb⟩ hown' hgrow ig)
    refine hK.out _ _ (by first|exact k3|go_keep) (fun hHeld=>?_)
    clear hK K
    try simp only[Act.put,List.setIfInBounds_toArray,List.set_cons_zero,List.set_cons_succ]
    refine wpAnyH_take (i:=16) (oi:=_) (v:=_) (by simp only[List.getElem?_toArray,List.getElem?_cons_succ,List.getElem?_cons_zero];rfl) (by kernel_rfl) (by kernel_rfl) (by kernel_rfl) (by exact fun _ _ _ h=>h) (Or.inl ⟨by rfl,by intro w hSw;(try dsimp only at hSw);go_simp;try with_reducible rfl⟩) (by assumption) ?_
    try simp only[Act.put,List.setIfInBounds_toArray,List.set_cons_zero,List.set_cons_succ]
    refine wpAnyH_take (i:=17) (oi:=_) (v:=_) (by simp only[List.getElem?_toArray,List.getElem?_cons_succ,List.getElem?_cons_zero];rfl) (by kernel_rfl) (by kernel_rfl) (by kernel_rfl) (by exact fun _ _ _ h=>h) (Or.inl ⟨by rfl,by intro w hSw;(try dsimp only at hSw);go_simp;try with_reducible rfl⟩) (by assumption) ?_
    try simp only[Act.put,List.setIfInBounds_toArray,List.set_cons_zero,List.set_cons_succ]
    refine wpAnyH_ready (rs:=[18]) (by kernel_rfl) (by simp) ?_
    refine AllReadyH.cons (o:=?o6) ?h6 (fun K hK=>?k6) AllReadyH.nil
    case h6=>
     simp only[List.getElem?_toArray,List.getElem?_cons_succ,List.getElem?_cons_zero];rfl
    go_simp
    have k4:=HS2.out (w3.setCell ⟨bm,1,none⟩ (.slice vA' vN' vC')) ((Below.heap_setCell w3 _ _ bw (by simp only;omega)).trans hw3.1) ((Below.heap_setCell w3 _ _ w.heap.size (by simp only;omega)).trans hw3.2)
    refine hK.out _ _ (by first|exact k4|go_keep) (fun hHeld=>?_)
    clear hK K
    try simp only[Act.put,List.setIfInBounds_toArray,List.set_cons_zero,List.set_cons_succ]
    refine wpAnyH_done (by kernel_rfl) ?_ _
    go_wp2_with fail
    have bE:Blk (w3.setCell ⟨bm,1,none⟩ (.slice vA' vN' vC')) (bm) 25 #[.int .i64 p,.slice vA' vN' vC',.slice cA cs.length cC]:=by
     have:=bM3.dh 1 (.slice vA' vN' vC')
     simpa using this
    have lk:=((Lk.below (bm:=bm) hlo (HBa.out.trans (hq.mono HBa.out.size))).trans lk3).trans (Lk.setCell bM3 (.inl rfl) 1 (.slice vA' vN' vC'))
    refine bodyPost_end (v:=.tuple #[]) (results_none Tryz.results15 _ _ _) rfl (uf HF.out (HG3.out.far (p:=⟨bm,1,none⟩) hbm _) bE lk)
   case a1b=>
    go_simp
    refine(HC2.out wa.drew hdr).mono ?_
    rintro e wb ⟨rfl,aja⟩
    have hwb:Below wa.heap.size wa wb:=hdr.trans (aja.mono hdr.size)
    have atb:wb.cell? ⟨bm,1,none⟩=some (.slice iA is.length iC):=(bMa.step hwb).cell 1
    have kwb:=HS.out _ hwb
    refine hK.out _ _ (by first|exact kwb|go_keep) (fun hHeld=>?_)
    clear hK K
    try simp only[Act.put,List.setIfInBounds_toArray,List.set_cons_zero,List.set_cons_succ]
    refine wpAnyH_ready (rs:=[4,11]) (by kernel_rfl) (by simp) ?_
    refine AllReadyH.cons (o:=?a7f) ?a1c (fun K hK=>?a1d) (AllReadyH.cons (o:=?a6n) ?azt (fun K hK=>?azu) AllReadyH.nil)
    case a1c=>
     simp only[List.getElem?_toArray,List.getElem?_cons_succ,List.getElem?_cons_zero];rfl
    case azt=>
     simp only[List.getElem?_toArray,List.getElem?_cons_succ,List.getElem?_cons_zero];rfl
    case a1d=>
     go_simp
     refine hK.out _ _ (by first|exact kwb|go_keep) (fun hHeld=>?_)
     clear hK K
     try simp only[Act.put,List.setIfInBounds_toArray,List.set_cons_zero,List.set_cons_succ]
     refine wpAnyH_ready (rs:=[11]) (by kernel_rfl) (by simp) ?_
     refine AllReadyH.cons (o:=?o8) ?h8 (fun K hK=>?k8) AllReadyH.nil
     case h8=>
      simp only[List.getElem?_toArray,List.getElem?_cons_succ,List.getElem?_cons_zero];rfl
     go_simp
     refine(HC3.out wb hwb).mono ?_
     rintro e wc ⟨rfl,aes⟩
     have hwc:Below wa.heap.size wa wc:=hwb.trans (aes.mono hwb.size)
     have ank:wc.cell? ⟨bm,1,none⟩=some (.slice iA is.length iC):=(bMa.step hwc).cell 1
     have kwc:=HS.out _ hwc
     refine hK.out _ _ (by first|exact kwc|go_keep) (fun hHeld=>?_)
     clear hK K
     try simp only[Act.put,List.setIfInBounds_toArray,List.set_cons_zero,List.set_cons_succ]
     refine wpAnyH_take (i:=12) (oi:=_) (v:=_) (by simp only[List.getElem?_toArray,List.getElem?_cons_succ,List.getElem?_cons_zero];rfl) (by kernel_rfl) (by kernel_rfl) (by kernel_rfl) (by exact fun _ _ _ h=>h) (Or.inl ⟨by rfl,by intro w hSw;(try dsimp only at hSw);go_simp;try with_reducible rfl⟩) (by assumption) ?_
     try simp only[Act.put,List.setIfInBounds_toArray,List.set_cons_zero,List.set_cons_succ]
     refine wpAnyH_take (i:=13) (oi:=_) (v:=_) (by simp only[List.getElem?_toArray,List.getElem?_cons_succ,List.getElem?_cons_zero];rfl) (by kernel_rfl) (by kernel_rfl) (by kernel_rfl) (by exact fun _ _ _ h=>h) (Or.inl ⟨by rfl,by intro w hSw;(try dsimp only at hSw);go_simp;try with_reducible rfl⟩) (by assumption) ?_
     try simp only[Act.put,List.setIfInBounds_toArray,List.set_cons_zero,List.set_cons_succ]
     refine wpAnyH_ready (rs:=[14]) (by kernel_rfl) (by simp) ?_
     refine AllReadyH.cons (o:=?o9) ?h9 (fun K hK=>?k9) AllReadyH.nil
     case h9=>
      simp only[List.getElem?_toArray,List.getElem?_cons_succ,List.getElem?_cons_zero];rfl
     go_simp
     have hq:Below wa.heap.size wa (wc.alloc (.cells #[.string x1,.int .i64 nb,.bool bb] 52)):=hwc.alloc hwc.size _
     have kq:=HS.out _ hq
     have hlq:(wc.alloc (.cells #[.string x1,.int .i64 nb,.bool bb] 52)).cell? ⟨bm,1,none⟩=some (.slice iA is.length iC):=(bMa.step hq).cell 1
     refine hK.out _ _ (by first|exact kq|go_keep) (fun hHeld=>?_)
     clear hK K
     try simp only[Act.put,List.setIfInBounds_toArray,List.set_cons_zero,List.set_cons_succ]
     refine wpAnyH_ready (rs:=[15]) (by kernel_rfl) (by simp) ?_
     refine AllReadyH.cons (o:=?o10) ?h10 (fun K hK=>?k10) AllReadyH.nil
     case h10=>
      simp only[List.getElem?_toArray,List.getElem?_cons_succ,List.getElem?_cons_zero];rfl
     have hLQ:lo≤(wc.alloc (.cells #[.string x1,.int .i64 nb,.bool bb] 52)).heap.size:=by have:=hq.size;have:=HBa.out.size;omega
     have HGQ:=Lib.hid (HGa.out.step hq)
     have HOWN:=Lib.hid HGQ.out.aby
     have ni:Hid (uw (wc.alloc (.cells #[.string x1,.int .i64 nb,.bool bb] 52)) (.slice (some ⟨wc.heap.size,0,none⟩) 1 1) 3 1 [.string x1,.int .i64 nb,.bool bb]):=.inr ⟨_,1,rfl,rfl,World.news_of_block (heap_alloc_new wc _)⟩
     refine cu (by rfl) _ _ 22 (by rfl) lo 52 i1 (.agg #[.string {data:=#[]},.int .i64 0,.bool false]) 3 32 Tryz.underlying22 hi1 hy0 hy1 hy2 rfl (by decide) (.slice iA is.length iC) (is.length) (is.flatMap zk) (by rfl) HOWN.out (.slice (some ⟨wc.heap.size,0,none⟩) 1 1) 1 [.string x1,.int .i64 nb,.bool bb] (by rfl) ni.out (adi _ _ _) (by simp only[maxLen];omega) (by omega) hLQ ?_
     intro v' w3 hown' hgrow ig
     obtain⟨vA',vN',vC',rfl,-⟩:=(Own.lu hown').form
     have lk3:Lk lo bm (wc.alloc (.cells #[.string x1,.int .i64 nb,.bool bb] 52)) w3:=Lk.grown hLQ HOWN.out hgrow
     have h3:Below lo wa w3:=(hq.mono (by have:=HBa.out.size;omega)).grown hgrow hLQ (fun j hj=>(HOWN.out.lt j hj).1)
     have bM3:=bMa.below h3 hbm
     have hw3:w3.heap[bw]?=wa.heap[bw]?∧w3.heap[w.heap.size]?=wa.heap[w.heap.size]?:=⟨(hgrow.block bw (by have:=hq.size;omega) (fun hne=>by have:=HBW.out bw hne.symm;omega)).trans (hq.block _ agp),(hgrow.block _ (by have:=hq.size;omega) (fun hne=>by have:=HBW.out _ hne.symm;omega)).trans (hq.block _ hga)⟩
     have k3:=HS2.out w3 hw3.1 hw3.2
     have z3:w3.cell? ⟨bm,1,none⟩=some (.slice iA is.length iC):=bM3.cell 1
     have f3:=bM3.frozen 1
     have HG3:=Lib.hid (HGQ.out.imp ⟨x1,nb,bb⟩ hown' hgrow ig)
     refine hK.out _ _ (by first|exact k3|go_keep) (fun hHeld=>?_)
     clear hK K
     try simp only[Act.put,List.setIfInBounds_toArray,List.set_cons_zero,List.set_cons_succ]
     refine wpAnyH_take (i:=16) (oi:=_) (v:=_) (by simp only[List.getElem?_toArray,List.getElem?_cons_succ,List.getElem?_cons_zero];rfl) (by kernel_rfl) (by kernel_rfl) (by kernel_rfl) (by exact fun _ _ _ h=>h) (Or.inl ⟨by rfl,by intro w hSw;(try dsimp only at hSw);go_simp;try with_reducible rfl⟩) (by assumption) ?_
     try simp only[Act.put,List.setIfInBounds_toArray,List.set_cons_zero,List.set_cons_succ]
     refine wpAnyH_take (i:=17) (oi:=_) (v:=_) (by simp only[List.getElem?_toArray,List.getElem?_cons_succ,List.getElem?_cons_zero];rfl) (by kernel_rfl) (by kernel_rfl) (by kernel_rfl) (by exact fun _ _ _ h=>h) (Or.inl ⟨by rfl,by intro w hSw;(try dsimp only at hSw);go_simp;try with_reducible rfl⟩) (by assumption) ?_
     try simp only[Act.put,List.setIfInBounds_toArray,List.set_cons_zero,List.set_cons_succ]
     refine wpAnyH_ready (rs:=[18]) (by kernel_rfl) (by simp) ?_
     refine AllReadyH.cons (o:=?o11) ?h11 (fun K hK=>?k11) AllReadyH.nil
     case h11=>
      simp only[List.getElem?_toArray,List.getElem?_cons_succ,List.getElem?_cons_zero];rfl
     go_simp
     have k4:=HS2.out (w3.setCell ⟨bm,1,none⟩ (.slice vA' vN' vC')) ((Below.heap_setCell w3 _ _ bw (by simp only;omega)).trans hw3.1) ((Below.heap_setCell w3 _ _ w.heap.size (by simp only;omega)).trans hw3.2)
     refine hK.out _ _ (by first|exact k4|go_keep) (fun hHeld=>?_)
     clear hK K
     try simp only[Act.put,List.setIfInBounds_toArray,List.set_cons_zero,List.set_cons_succ]
     refine wpAnyH_done (by kernel_rfl) ?_ _
     go_wp2_with fail
     have bE:Blk (w3.setCell ⟨bm,1,none⟩ (.slice vA' vN' vC')) (bm) 25 #[.int .i64 p,.slice vA' vN' vC',.slice cA cs.length cC]:=by
      have:=bM3.dh 1 (.slice vA' vN' vC')
      simpa using this
     have lk:=((Lk.below (bm:=bm) hlo (HBa.out.trans (hq.mono HBa.out.size))).trans lk3).trans (Lk.setCell bM3 (.inl rfl) 1 (.slice vA' vN' vC'))
     refine bodyPost_end (v:=.tuple #[]) (results_none Tryz.results15 _ _ _) rfl (uf HF.out (HG3.out.far (p:=⟨bm,1,none⟩) hbm _) bE lk)
    case azu=>
     go_simp
     refine(HC3.out wb hwb).mono ?_
     rintro e wc ⟨rfl,aes⟩
     have hwc:Below wa.heap.size wa wc:=hwb.trans (aes.mono hwb.size)
     have ank:wc.cell? ⟨bm,1,none⟩=some (.slice iA is.length iC):=(bMa.step hwc).cell 1
     have kwc:=HS.out _ hwc
     refine hK.out _ _ (by first|exact kwc|go_keep) (fun hHeld=>?_)
     clear hK K
     try simp only[Act.put,List.setIfInBounds_toArray,List.set_cons_zero,List.set_cons_succ]
     refine wpAnyH_take (i:=12) (oi:=_) (v:=_) (by simp only[List.getElem?_toArray,List.getElem?_cons_succ,List.getElem?_cons_zero];rfl) (by kernel_rfl) (by kernel_rfl) (by kernel_rfl) (by exact fun _ _ _ h=>h) (Or.inl ⟨by rfl,by intro w hSw;(try dsimp only at hSw);go_simp;try with_reducible rfl⟩) (by assumption) ?_
     try simp only[Act.put,List.setIfInBounds_toArray,List.set_cons_zero,List.set_cons_succ]
     refine wpAnyH_take (i:=13) (oi:=_) (v:=_) (by simp only[List.getElem?_toArray,List.getElem?_cons_succ,List.getElem?_cons_zero];rfl) (by kernel_rfl) (by kernel_rfl) (by kernel_rfl) (by exact fun _ _ _ h=>h) (Or.inl ⟨by rfl,by intro w hSw;(try dsimp only at hSw);go_simp;try with_reducible rfl⟩) (by assumption) ?_
     try simp only[Act.put,List.setIfInBounds_toArray,List.set_cons_zero,List.set_cons_succ]
     refine wpAnyH_ready (rs:=[4,14]) (by kernel_rfl) (by simp) ?_
     refine AllReadyH.cons (o:=?a6o) ?azv (fun K hK=>?azw) (AllReadyH.cons (o:=?a5r) ?ayf (fun K hK=>?ayg) AllReadyH.nil)
     case azv=>
      simp only[List.getElem?_toArray,List.getElem?_cons_succ,List.getElem?_cons_zero];rfl
     case ayf=>
      simp only[List.getElem?_toArray,List.getElem?_cons_succ,List.getElem?_cons_zero];rfl
     case azw=>
      go_simp
      refine hK.out _ _ (by first|exact kwc|go_keep) (fun hHeld=>?_)
      clear hK K
      try simp only[Act.put,List.setIfInBounds_toArray,List.set_cons_zero,List.set_cons_succ]
      refine wpAnyH_ready (rs:=[14]) (by kernel_rfl) (by simp) ?_
      refine AllReadyH.cons (o:=?o13) ?h13 (fun K hK=>?k13) AllReadyH.nil
      case h13=>
       simp only[List.getElem?_toArray,List.getElem?_cons_succ,List.getElem?_cons_zero];rfl
      go_simp
      have hq:Below wa.heap.size wa (wc.alloc (.cells #[.string x1,.int .i64 nb,.bool bb] 52)):=hwc.alloc hwc.size _
      have kq:=HS.out _ hq
      have hlq:(wc.alloc (.cells #[.string x1,.int .i64 nb,.bool bb] 52)).cell? ⟨bm,1,none⟩=some (.slice iA is.length iC):=(bMa.step hq).cell 1
      refine hK.out _ _ (by first|exact kq|go_keep) (fun hHeld=>?_)
      clear hK K
      try simp only[Act.put,List.setIfInBounds_toArray,List.set_cons_zero,List.set_cons_succ]
      refine wpAnyH_ready (rs:=[15]) (by kernel_rfl) (by simp) ?_
      refine AllReadyH.cons (o:=?o14) ?h14 (fun K hK=>?k14) AllReadyH.nil
      case h14=>
       simp only[List.getElem?_toArray,List.getElem?_cons_succ,List.getElem?_cons_zero];rfl
      have hLQ:lo≤(wc.alloc (.cells #[.string x1,.int .i64 nb,.bool bb] 52)).heap.size:=by have:=hq.size;have:=HBa.out.size;omega
      have HGQ:=Lib.hid (HGa.out.step hq)
      have HOWN:=Lib.hid HGQ.out.aby
      have ni:Hid (uw (wc.alloc (.cells #[.string x1,.int .i64 nb,.bool bb] 52)) (.slice (some ⟨wc.heap.size,0,none⟩) 1 1) 3 1 [.string x1,.int .i64 nb,.bool bb]):=.inr ⟨_,1,rfl,rfl,World.news_of_block (heap_alloc_new wc _)⟩
      refine cu (by rfl) _ _ 22 (by rfl) lo 52 i1 (.agg #[.string {data:=#[]},.int .i64 0,.bool false]) 3 32 Tryz.underlying22 hi1 hy0 hy1 hy2 rfl (by decide) (.slice iA is.length iC) (is.length) (is.flatMap zk) (by rfl) HOWN.out (.slice (some ⟨wc.heap.size,0,none⟩) 1 1) 1 [.string x1,.int .i64 nb,.bool bb] (by rfl) ni.out (adi _ _ _) (by simp only[maxLen];omega) (by omega) hLQ ?_
      intro v' w3 hown' hgrow ig
      obtain⟨vA',vN',vC',rfl,-⟩:=(Own.lu hown').form
      have lk3:Lk lo bm (wc.alloc (.cells #[.string x1,.int .i64 nb,.bool bb] 52)) w3:=Lk.grown hLQ HOWN.out hgrow
      have h3:Below lo wa w3:=(hq.mono (by have:=HBa.out.size;omega)).grown hgrow hLQ (fun j hj=>(HOWN.out.lt j hj).1)
      have bM3:=bMa.below h3 hbm
      have hw3:w3.heap[bw]?=wa.heap[bw]?∧w3.heap[w.heap.size]?=wa.heap[w.heap.size]?:=⟨(hgrow.block bw (by have:=hq.size;omega) (fun hne=>by have:=HBW.out bw hne.symm;omega)).trans (hq.block _ agp),(hgrow.block _ (by have:=hq.size;omega) (fun hne=>by have:=HBW.out _ hne.symm;omega)).trans (hq.block _ hga)⟩
      have k3:=HS2.out w3 hw3.1 hw3.2
      have z3:w3.cell? ⟨bm,1,none⟩=some (.slice iA is.length iC):=bM3.cell 1
      have f3:=bM3.frozen 1
      have HG3:=Lib.hid (HGQ.out.imp ⟨x1,nb,bb⟩ hown' hgrow ig)
      refine hK.out _ _ (by first|exact k3|go_keep) (fun hHeld=>?_)
      clear hK K
      try simp only[Act.put,List.setIfInBounds_toArray,List.set_cons_zero,List.set_cons_succ]
      refine wpAnyH_take (i:=16) (oi:=_) (v:=_) (by simp only[List.getElem?_toArray,List.getElem?_cons_succ,List.getElem?_cons_zero];rfl) (by kernel_rfl) (by kernel_rfl) (by kernel_rfl) (by exact fun _ _ _ h=>h) (Or.inl ⟨by rfl,by intro w hSw;(try dsimp only at hSw);go_simp;try with_reducible rfl⟩) (by assumption) ?_
      try simp only[Act.put,List.setIfInBounds_toArray,List.set_cons_zero,List.set_cons_succ]
      refine wpAnyH_take (i:=17) (oi:=_) (v:=_) (by simp only[List.getElem?_toArray,List.getElem?_cons_succ,List.getElem?_cons_zero];rfl) (by kernel_rfl) (by kernel_rfl) (by kernel_rfl) (by exact fun _ _ _ h=>h) (Or.inl ⟨by rfl,by intro w hSw;(try dsimp only at hSw);go_simp;try with_reducible rfl⟩) (by assumption) ?_
      try simp only[Act.put,List.setIfInBounds_toArray,List.set_cons_zero,List.set_cons_succ]
      refine wpAnyH_ready (rs:=[18]) (by kernel_rfl) (by simp) ?_
      refine AllReadyH.cons (o:=?o15) ?h15 (fun K hK=>?k15) AllReadyH.nil
      case h15=>
       simp only[List.getElem?_toArray,List.getElem?_cons_succ,List.getElem?_cons_zero];rfl
      go_simp
      have k4:=HS2.out (w3.setCell ⟨bm,1,none⟩ (.slice vA' vN' vC')) ((Below.heap_setCell w3 _ _ bw (by simp only;omega)).trans hw3.1) ((Below.heap_setCell w3 _ _ w.heap.size (by simp only;omega)).trans hw3.2)
      refine hK.out _ _ (by first|exact k4|go_keep) (fun hHeld=>?_)
      clear hK K
      try simp only[Act.put,List.setIfInBounds_toArray,List.set_cons_zero,List.set_cons_succ]
      refine wpAnyH_done (by kernel_rfl) ?_ _
      go_wp2_with fail
      have bE:Blk (w3.setCell ⟨bm,1,none⟩ (.slice vA' vN' vC')) (bm) 25 #[.int .i64 p,.slice vA' vN' vC',.slice cA cs.length cC]:=by
       have:=bM3.dh 1 (.slice vA' vN' vC')
       simpa using this
      have lk:=((Lk.below (bm:=bm) hlo (HBa.out.trans (hq.mono HBa.out.size))).trans lk3).trans (Lk.setCell bM3 (.inl rfl) 1 (.slice vA' vN' vC'))
      refine bodyPost_end (v:=.tuple #[]) (results_none Tryz.results15 _ _ _) rfl (uf HF.out (HG3.out.far (p:=⟨bm,1,none⟩) hbm _) bE lk)
     case ayg=>
      go_simp
      have hq:Below wa.heap.size wa (wc.alloc (.cells #[.string x1,.int .i64 nb,.bool bb] 52)):=hwc.alloc hwc.size _
      have kq:=HS.out _ hq
      have hlq:(wc.alloc (.cells #[.string x1,.int .i64 nb,.bool bb] 52)).cell? ⟨bm,1,none⟩=some (.slice iA is.length iC):=(bMa.step hq).cell 1
      refine hK.out _ _ (by first|exact kq|go_keep) (fun hHeld=>?_)
      clear hK K
      try simp only[Act.put,List.setIfInBounds_toArray,List.set_cons_zero,List.set_cons_succ]
      refine wpAnyH_ready (rs:=[4]) (by kernel_rfl) (by simp) ?_
      refine AllReadyH.cons (o:=?o16) ?h16 (fun K hK=>?k16) AllReadyH.nil
      case h16=>
       simp only[List.getElem?_toArray,List.getElem?_cons_succ,List.getElem?_cons_zero];rfl
      go_simp
      refine hK.out _ _ (by first|exact kq|go_keep) (fun hHeld=>?_)
      clear hK K
      try simp only[Act.put,List.setIfInBounds_toArray,List.set_cons_zero,List.set_cons_succ]
      refine wpAnyH_ready (rs:=[15]) (by kernel_rfl) (by simp) ?_
      refine AllReadyH.cons (o:=?o17) ?h17 (fun K hK=>?k17) AllReadyH.nil
      case h17=>
       simp only[List.getElem?_toArray,List.getElem?_cons_succ,List.getElem?_cons_zero];rfl
      have hLQ:lo≤(wc.alloc (.cells #[.string x1,.int .i64 nb,.bool bb] 52)).heap.size:=by have:=hq.size;have:=HBa.out.size;omega
      have HGQ:=Lib.hid (HGa.out.step hq)
      have HOWN:=Lib.hid HGQ.out.aby
      have ni:Hid (uw (wc.alloc (.cells #[.string x1,.int .i64 nb,.bool bb] 52)) (.slice (some ⟨wc.heap.size,0,none⟩) 1 1) 3 1 [.string x1,.int .i64 nb,.bool bb]):=.inr ⟨_,1,rfl,rfl,World.news_of_block (heap_alloc_new wc _)⟩
      refine cu (by rfl) _ _ 22 (by rfl) lo 52 i1 (.agg #[.string {data:=#[]},.int .i64 0,.bool false]) 3 32 Tryz.underlying22 hi1 hy0 hy1 hy2 rfl (by decide) (.slice iA is.length iC) (is.length) (is.flatMap zk) (by rfl) HOWN.out (.slice (some ⟨wc.heap.size,0,none⟩) 1 1) 1 [.string x1,.int .i64 nb,.bool bb] (by rfl) ni.out (adi _ _ _) (by simp only[maxLen];omega) (by omega) hLQ ?_
      intro v' w3 hown' hgrow ig
      obtain⟨vA',vN',vC',rfl,-⟩:=(Own.lu hown').form
      have lk3:Lk lo bm (wc.alloc (.cells #[.string x1,.int .i64 nb,.bool bb] 52)) w3:=Lk.grown hLQ HOWN.out hgrow
      have h3:Below lo wa w3:=(hq.mono (by have:=HBa.out.size;omega)).grown hgrow hLQ (fun j hj=>(HOWN.out.lt j hj).1)
      have bM3:=bMa.below h3 hbm
      have hw3:w3.heap[bw]?=wa.heap[bw]?∧w3.heap[w.heap.size]?=wa.heap[w.heap.size]?:=⟨(hgrow.block bw (by have:=hq.size;omega) (fun hne=>by have:=HBW.out bw hne.symm;omega)).trans (hq.block _ agp),(hgrow.block _ (by have:=hq.size;omega) (fun hne=>by have:=HBW.out _ hne.symm;omega)).trans (hq.block _ hga)⟩
      have k3:=HS2.out w3 hw3.1 hw3.2
      have z3:w3.cell? ⟨bm,1,none⟩=some (.slice iA is.length iC):=bM3.cell 1
      have f3:=bM3.frozen 1
      have HG3:=Lib.hid (HGQ.out.imp ⟨x1,nb,bb⟩ hown' hgrow ig)
      refine hK.out _ _ (by first|exact k3|go_keep) (fun hHeld=>?_)
      clear hK K
      try simp only[Act.put,List.setIfInBounds_toArray,List.set_cons_zero,List.set_cons_succ]
      refine wpAnyH_take (i:=16) (oi:=_) (v:=_) (by simp only[List.getElem?_toArray,List.getElem?_cons_succ,List.getElem?_cons_zero];rfl) (by kernel_rfl) (by kernel_rfl) (by kernel_rfl) (by exact fun _ _ _ h=>h) (Or.inl ⟨by rfl,by intro w hSw;(try dsimp only at hSw);go_simp;try with_reducible rfl⟩) (by assumption) ?_
      try simp only[Act.put,List.setIfInBounds_toArray,List.set_cons_zero,List.set_cons_succ]
      refine wpAnyH_take (i:=17) (oi:=_) (v:=_) (by simp only[List.getElem?_toArray,List.getElem?_cons_succ,List.getElem?_cons_zero];rfl) (by kernel_rfl) (by kernel_rfl) (by kernel_rfl) (by exact fun _ _ _ h=>h) (Or.inl ⟨by rfl,by intro w hSw;(try dsimp only at hSw);go_simp;try with_reducible rfl⟩) (by assumption) ?_
      try simp only[Act.put,List.setIfInBounds_toArray,List.set_cons_zero,List.set_cons_succ]
      refine wpAnyH_ready (rs:=[18]) (by kernel_rfl) (by simp) ?_
      refine AllReadyH.cons (o:=?o18) ?h18 (fun K hK=>?k18) AllReadyH.nil
      case h18=>
       simp only[List.getElem?_toArray,List.getElem?_cons_succ,List.getElem?_cons_zero];rfl
      go_simp
      have k4:=HS2.out (w3.setCell ⟨bm,1,none⟩ (.slice vA' vN' vC')) ((Below.heap_setCell w3 _ _ bw (by simp only;omega)).trans hw3.1) ((Below.heap_setCell w3 _ _ w.heap.size (by simp only;omega)).trans hw3.2)
      refine hK.out _ _ (by first|exact k4|go_keep) (fun hHeld=>?_)
      clear hK K
      try simp only[Act.put,List.setIfInBounds_toArray,List.set_cons_zero,List.set_cons_succ]
      refine wpAnyH_done (by kernel_rfl) ?_ _
      go_wp2_with fail
      have bE:Blk (w3.setCell ⟨bm,1,none⟩ (.slice vA' vN' vC')) (bm) 25 #[.int .i64 p,.slice vA' vN' vC',.slice cA cs.length cC]:=by
       have:=bM3.dh 1 (.slice vA' vN' vC')
       simpa using this
      have lk:=((Lk.below (bm:=bm) hlo (HBa.out.trans (hq.mono HBa.out.size))).trans lk3).trans (Lk.setCell bM3 (.inl rfl) 1 (.slice vA' vN' vC'))
      refine bodyPost_end (v:=.tuple #[]) (results_none Tryz.results15 _ _ _) rfl (uf HF.out (HG3.out.far (p:=⟨bm,1,none⟩) hbm _) bE lk)
  case neg=>
   by_cases c2:x0=zx∧1 < N
   case pos=>
    have t1:(x0.toList ==[105,109,112,111,114,116])=false:=(yw _ _).trans (decide_eq_false (by rw[c2.1];decide))
    have t2:(x0.toList ==[99,111,114,101])=true:=(yw _ _).trans (decide_eq_true c2.1)
    have n1:(1:Int) < (N:Int):=by have:=c2.2;omega
    obtain⟨x1,hx1,ata⟩:=l7 HN.out c2.2
    have hw1:wAt ws 1=x1:=by rw[wAt,hx1];rfl
    have HX1:=Lib.hid hx1
    clear hx1 ata
    obtain⟨nb,hnb⟩:∃ z,z=zy ws 2:=⟨_,rfl⟩
    obtain⟨nc,hnc⟩:∃ z,z=zy ws 3:=⟨_,rfl⟩
    obtain⟨nd,hnd⟩:∃ z,z=zy ws 4:=⟨_,rfl⟩
    obtain⟨bb,hbb⟩:∃ b,b=decide (nd=1):=⟨_,rfl⟩
    have HF:Hid (M'=⟨p,is,cs ++[⟨x1,nb,nc,bb,[]⟩]⟩):=by show _=_;rw[ahm.out,if_neg c0,if_neg c1,if_pos c2,hw1,hbb,hnb,hnc,hnd]
    clear ahm c0 c1 c2 hw1
    have HS:Hid (∀ V:World,Below wa.heap.size wa V→V.cell? ⟨bw,0,none⟩=some (.slice (some ⟨w.heap.size,0,none⟩) N N)∧V.cell? ⟨w.heap.size,1,none⟩=some (.string x1)):=Lib.hid fun V hV=>⟨(bWa.step hV).cell 0,HCW.out V (hV.block _ hga) 1 x1 HX1.out⟩
    have hdr:Below wa.heap.size wa wa.drew:=(Below.refl _ _).drew
    have k0:=HS.out _ hdr
    obtain⟨i1,hi1,hy0,hy1,hy2⟩:=info_parts ahh
    have HEQ:Hid ((nd ==(1:Int))=bb):=Lib.hid (by rw[hbb];rfl)
    have heq:=HEQ.out
    clear hbb
    have hld:wa.drew.cell? ⟨bm,2,none⟩=some (.slice cA cs.length cC):=bMa.cell 2
    have HC2:=Lib.hid (fun V hV=>HNU.out 2 V (by omega) hV)
    rw[← hnb] at HC2
    have HC3:=Lib.hid (fun V hV=>HNU.out 3 V (by omega) hV)
    rw[← hnc] at HC3
    have HC4:=Lib.hid (fun V hV=>HNU.out 4 V (by omega) hV)
    rw[← hnd] at HC4
    clear hnb hnc hnd
    go_wp2_with fail
    have HS2:Hid (∀ V:World,V.heap[bw]?=wa.heap[bw]?→V.heap[w.heap.size]?=wa.heap[w.heap.size]?→V.cell? ⟨bw,0,none⟩=some (.slice (some ⟨w.heap.size,0,none⟩) N N)∧V.cell? ⟨w.heap.size,1,none⟩=some (.string x1)):=Lib.hid fun V h1 h2=>⟨(World.cell?_of_block (a:=⟨bw,0,none⟩) h1).trans (bWa.cell 0),HCW.out V h2 1 x1 HX1.out⟩
    have HBW:Hid (∀ j,Value.ownBlock (.slice cA cs.length cC)=some j→lo≤j∧j < w.heap.size):=Lib.hid fun j hj=>HGI.out.pq.lt j hj
    refine wp_region_held_drew (S:=(fun w'=>w'.cell? ⟨bw,0,none⟩=some (.slice (some ⟨w.heap.size,0,none⟩) N N)∧w'.cell? ⟨w.heap.size,1,none⟩=some (.string x1))) (by kernel_rfl) k0 (fun hHeld=>?_)
    refine wpAnyH_take (i:=0) (oi:=_) (v:=_) (by simp only[List.getElem?_toArray,List.getElem?_cons_succ,List.getElem?_cons_zero];rfl) (by kernel_rfl) (by kernel_rfl) (by kernel_rfl) (by exact fun _ _ _ h=>h) (Or.inl ⟨by rfl,by intro w hSw;(try dsimp only at hSw);go_simp;try with_reducible rfl⟩) (by assumption) ?_
    try simp only[Act.put,List.setIfInBounds_toArray,List.set_cons_zero,List.set_cons_succ]
    refine wpAnyH_take (i:=1) (oi:=_) (v:=_) (by simp only[List.getElem?_toArray,List.getElem?_cons_succ,List.getElem?_cons_zero];rfl) (by kernel_rfl) (by kernel_rfl) (by kernel_rfl) (by exact fun _ _ _ h=>h) (Or.inl ⟨by rfl,by intro w hSw;(try dsimp only at hSw);go_simp;try with_reducible rfl⟩) (by assumption) ?_
    try simp only[Act.put,List.setIfInBounds_toArray,List.set_cons_zero,List.set_cons_succ]
    refine wpAnyH_take (i:=2) (oi:=_) (v:=_) (by simp only[List.getElem?_toArray,List.getElem?_cons_succ,List.getElem?_cons_zero];rfl) (by kernel_rfl) (by kernel_rfl) (by kernel_rfl) (by exact fun _ _ _ h=>h) (Or.inl ⟨by rfl,by intro w hSw;(try dsimp only at hSw);go_simp;try with_reducible rfl⟩) (by assumption) ?_
    try simp only[Act.put,List.setIfInBounds_toArray,List.set_cons_zero,List.set_cons_succ]
    refine wpAnyH_take (i:=3) (oi:=_) (v:=_) (by simp only[List.getElem?_toArray,List.getElem?_cons_succ,List.getElem?_cons_zero];rfl) (by kernel_rfl) (by kernel_rfl) (by kernel_rfl) (by exact fun _ _ _ h=>h) (Or.inl ⟨by rfl,by intro w hSw;(try dsimp only at hSw);go_simp;try with_reducible rfl⟩) (by assumption) ?_
    try simp only[Act.put,List.setIfInBounds_toArray,List.set_cons_zero,List.set_cons_succ]
    refine wpAnyH_take (i:=5) (oi:=_) (v:=_) (by simp only[List.getElem?_toArray,List.getElem?_cons_succ,List.getElem?_cons_zero];rfl) (by kernel_rfl) (by kernel_rfl) (by kernel_rfl) (by exact fun _ _ _ h=>h) (Or.inl ⟨by rfl,by intro w hSw;(try dsimp only at hSw);go_simp;try with_reducible rfl⟩) (by assumption) ?_
    try simp only[Act.put,List.setIfInBounds_toArray,List.set_cons_zero,List.set_cons_succ]
    refine wpAnyH_take (i:=6) (oi:=_) (v:=_) (by simp only[List.getElem?_toArray,List.getElem?_cons_succ,List.getElem?_cons_zero];rfl) (by kernel_rfl) (by kernel_rfl) (by kernel_rfl) (by exact fun _ _ _ h=>h) (Or.inl ⟨by rfl,by intro w hSw;(try dsimp only at hSw);go_simp;try with_reducible rfl⟩) (by assumption) ?_
    try simp only[Act.put,List.setIfInBounds_toArray,List.set_cons_zero,List.set_cons_succ]
    refine wpAnyH_take (i:=7) (oi:=_) (v:=_) (by simp only[List.getElem?_toArray,List.getElem?_cons_succ,List.getElem?_cons_zero];rfl) (by kernel_rfl) (by kernel_rfl) (by kernel_rfl) (by exact fun _ _ _ h=>h) (Or.inl ⟨by rfl,by intro w hSw;(try dsimp only at hSw);go_simp;try with_reducible rfl⟩) (by assumption) ?_
    try simp only[Act.put,List.setIfInBounds_toArray,List.set_cons_zero,List.set_cons_succ]
    refine wpAnyH_take (i:=8) (oi:=_) (v:=_) (by simp only[List.getElem?_toArray,List.getElem?_cons_succ,List.getElem?_cons_zero];rfl) (by kernel_rfl) (by kernel_rfl) (by kernel_rfl) (by exact fun _ _ _ h=>h) (Or.inl ⟨by rfl,by intro w hSw;(try dsimp only at hSw);go_simp;try with_reducible rfl⟩) (by assumption) ?_
    try simp only[Act.put,List.setIfInBounds_toArray,List.set_cons_zero,List.set_cons_succ]
    refine wpAnyH_take (i:=10) (oi:=_) (v:=_) (by simp only[List.getElem?_toArray,List.getElem?_cons_succ,List.getElem?_cons_zero];rfl) (by kernel_rfl) (by kernel_rfl) (by kernel_rfl) (by exact fun _ _ _ h=>h) (Or.inl ⟨by rfl,by intro w hSw;(try dsimp only at hSw);go_simp;try with_reducible rfl⟩) (by assumption) ?_
    try simp only[Act.put,List.setIfInBounds_toArray,List.set_cons_zero,List.set_cons_succ]
    refine wpAnyH_take (i:=12) (oi:=_) (v:=_) (by simp only[List.getElem?_toArray,List.getElem?_cons_succ,List.getElem?_cons_zero];rfl) (by kernel_rfl) (by kernel_rfl) (by kernel_rfl) (by exact fun _ _ _ h=>h) (Or.inl ⟨by rfl,by intro w hSw;(try dsimp only at hSw);go_simp;try with_reducible rfl⟩) (by assumption) ?_
    try simp only[Act.put,List.setIfInBounds_toArray,List.set_cons_zero,List.set_cons_succ]
    refine wpAnyH_ready (rs:=[4,9]) (by kernel_rfl) (by simp) ?_
    refine AllReadyH.cons (o:=?a6p) ?azx (fun K hK=>?azy) (AllReadyH.cons (o:=?a6q) ?azz (fun K hK=>?az0) AllReadyH.nil)
    case azx=>
     simp only[List.getElem?_toArray,List.getElem?_cons_succ,List.getElem?_cons_zero];rfl
    case azz=>
     simp only[List.getElem?_toArray,List.getElem?_cons_succ,List.getElem?_cons_zero];rfl
    case azy=>
     go_simp
     refine hK.out _ _ (by first|exact k0|go_keep) (fun hHeld=>?_)
     clear hK K
     try simp only[Act.put,List.setIfInBounds_toArray,List.set_cons_zero,List.set_cons_succ]
     refine wpAnyH_ready (rs:=[9]) (by kernel_rfl) (by simp) ?_
     refine AllReadyH.cons (o:=?o20) ?h20 (fun K hK=>?k20) AllReadyH.nil
     case h20=>
      simp only[List.getElem?_toArray,List.getElem?_cons_succ,List.getElem?_cons_zero];rfl
     go_simp
     refine(HC2.out wa.drew hdr).mono ?_
     rintro e wb ⟨rfl,aja⟩
     have hwb:Below wa.heap.size wa wb:=hdr.trans (aja.mono hdr.size)
     have atb:wb.cell? ⟨bm,2,none⟩=some (.slice cA cs.length cC):=(bMa.step hwb).cell 2
     have kwb:=HS.out _ hwb
     refine hK.out _ _ (by first|exact kwb|go_keep) (fun hHeld=>?_)
     clear hK K
     try simp only[Act.put,List.setIfInBounds_toArray,List.set_cons_zero,List.set_cons_succ]
     refine wpAnyH_ready (rs:=[11]) (by kernel_rfl) (by simp) ?_
     refine AllReadyH.cons (o:=?o21) ?h21 (fun K hK=>?k21) AllReadyH.nil
     case h21=>
      simp only[List.getElem?_toArray,List.getElem?_cons_succ,List.getElem?_cons_zero];rfl
     go_simp
     refine(HC3.out wb hwb).mono ?_
     rintro e wc ⟨rfl,aes⟩
     have hwc:Below wa.heap.size wa wc:=hwb.trans (aes.mono hwb.size)
     have ank:wc.cell? ⟨bm,2,none⟩=some (.slice cA cs.length cC):=(bMa.step hwc).cell 2
     have kwc:=HS.out _ hwc
     refine hK.out _ _ (by first|exact kwc|go_keep) (fun hHeld=>?_)
     clear hK K
     try simp only[Act.put,List.setIfInBounds_toArray,List.set_cons_zero,List.set_cons_succ]
     refine wpAnyH_ready (rs:=[13]) (by kernel_rfl) (by simp) ?_
     refine AllReadyH.cons (o:=?o22) ?h22 (fun K hK=>?k22) AllReadyH.nil
     case h22=>
      simp only[List.getElem?_toArray,List.getElem?_cons_succ,List.getElem?_cons_zero];rfl
     go_simp
     refine(HC4.out wc hwc).mono ?_
     rintro e wd ⟨rfl,ajb⟩
     have hwd:Below wa.heap.size wa wd:=hwc.trans (ajb.mono hwc.size)
     have atc:wd.cell? ⟨bm,2,none⟩=some (.slice cA cs.length cC):=(bMa.step hwd).cell 2
     have kwd:=HS.out _ hwd
     refine hK.out _ _ (by first|exact kwd|go_keep) (fun hHeld=>?_)
     clear hK K
     try simp only[Act.put,List.setIfInBounds_toArray,List.set_cons_zero,List.set_cons_succ]
     refine wpAnyH_take (i:=14) (oi:=_) (v:=_) (by simp only[List.getElem?_toArray,List.getElem?_cons_succ,List.getElem?_cons_zero];rfl) (by kernel_rfl) (by kernel_rfl) (by kernel_rfl) (by exact fun _ _ _ h=>h) (Or.inl ⟨by rfl,by intro w hSw;(try dsimp only at hSw);go_simp;try with_reducible rfl⟩) (by assumption) ?_
     try simp only[Act.put,List.setIfInBounds_toArray,List.set_cons_zero,List.set_cons_succ]
     refine wpAnyH_take (i:=15) (oi:=_) (v:=_) (by simp only[List.getElem?_toArray,List.getElem?_cons_succ,List.getElem?_cons_zero];rfl) (by kernel_rfl) (by kernel_rfl) (by kernel_rfl) (by exact fun _ _ _ h=>h) (Or.inl ⟨by rfl,by intro w hSw;(try dsimp only at hSw);go_simp;try with_reducible rfl⟩) (by assumption) ?_
     try simp only[Act.put,List.setIfInBounds_toArray,List.set_cons_zero,List.set_cons_succ]
     refine wpAnyH_ready (rs:=[16]) (by kernel_rfl) (by simp) ?_
     refine AllReadyH.cons (o:=?o23) ?h23 (fun K hK=>?k23) AllReadyH.nil
     case h23=>
      simp only[List.getElem?_toArray,List.getElem?_cons_succ,List.getElem?_cons_zero];rfl
     go_simp
     have hq:Below wa.heap.size wa (wd.alloc (.cells #[.string x1,.int .i64 nb,.int .i64 nc,.bool bb,.slice none 0 0] 36)):=hwd.alloc hwd.size _
     have kq:=HS.out _ hq
     have hlq:(wd.alloc (.cells #[.string x1,.int .i64 nb,.int .i64 nc,.bool bb,.slice none 0 0] 36)).cell? ⟨bm,2,none⟩=some (.slice cA cs.length cC):=(bMa.step hq).cell 2
     refine hK.out _ _ (by first|exact kq|go_keep) (fun hHeld=>?_)
     clear hK K
     try simp only[Act.put,List.setIfInBounds_toArray,List.set_cons_zero,List.set_cons_succ]
     refine wpAnyH_ready (rs:=[17]) (by kernel_rfl) (by simp) ?_
     refine AllReadyH.cons (o:=?o24) ?h24 (fun K hK=>?k24) AllReadyH.nil
     case h24=>
      simp only[List.getElem?_toArray,List.getElem?_cons_succ,List.getElem?_cons_zero];rfl
     have hLQ:lo≤(wd.alloc (.cells #[.string x1,.int .i64 nb,.int .i64 nc,.bool bb,.slice none 0 0] 36)).heap.size:=by have:=hq.size;have:=HBa.out.size;omega
     have HGQ:=Lib.hid (HGa.out.step hq)
     have HOWN:=Lib.hid HGQ.out.pq
     have ni:Hid (uw (wd.alloc (.cells #[.string x1,.int .i64 nb,.int .i64 nc,.bool bb,.slice none 0 0] 36)) (.slice (some ⟨wd.heap.size,0,none⟩) 1 1) 5 1 [.string x1,.int .i64 nb,.int .i64 nc,.bool bb,.slice none 0 0]):=.inr ⟨_,1,rfl,rfl,World.news_of_block (heap_alloc_new wd _)⟩
     refine cu (by rfl) _ _ 23 (by rfl) lo 36 i1 (.agg #[.string {data:=#[]},.int .i64 0,.int .i64 0,.bool false,.slice none 0 0]) 5 64 Tryz.underlying23 hi1 hy0 hy1 hy2 rfl (by decide) (.slice cA cs.length cC) (cs.length) (jf cs vs) (by rfl) HOWN.out (.slice (some ⟨wd.heap.size,0,none⟩) 1 1) 1 [.string x1,.int .i64 nb,.int .i64 nc,.bool bb,.slice none 0 0] (by rfl) ni.out (abo _ _ _ _ _ _ _) (by simp only[maxLen];omega) (by omega) hLQ ?_
     intro v' w3 hown' hgrow ig
     obtain⟨vA',vN',vC',rfl,-⟩:=(Own.lu hown').form
     have lk3:Lk lo bm (wd.alloc (.cells #[.string x1,.int .i64 nb,.int .i64 nc,.bool bb,.slice none 0 0] 36)) w3:=Lk.grown hLQ HOWN.out hgrow
     have h3:Below lo wa w3:=(hq.mono (by have:=HBa.out.size;omega)).grown hgrow hLQ (fun j hj=>(HOWN.out.lt j hj).1)
     have bM3:=bMa.below h3 hbm
     have hw3:w3.heap[bw]?=wa.heap[bw]?∧w3.heap[w.heap.size]?=wa.heap[w.heap.size]?:=⟨(hgrow.block bw (by have:=hq.size;omega) (fun hne=>by have:=HBW.out bw hne.symm;omega)).trans (hq.block _ agp),(hgrow.block _ (by have:=hq.size;omega) (fun hne=>by have:=HBW.out _ hne.symm;omega)).trans (hq.block _ hga)⟩
     have k3:=HS2.out w3 hw3.1 hw3.2
     have z3:w3.cell? ⟨bm,2,none⟩=some (.slice cA cs.length cC):=bM3.cell 2
     have f3:=bM3.frozen 2
     have HG3:=Lib.hid (HGQ.out.cor hown' hgrow ig)
     refine hK.out _ _ (by first|exact k3|go_keep) (fun hHeld=>?_)
     clear hK K
     try simp only[Act.put,List.setIfInBounds_toArray,List.set_cons_zero,List.set_cons_succ]
     refine wpAnyH_take (i:=18) (oi:=_) (v:=_) (by simp only[List.getElem?_toArray,List.getElem?_cons_succ,List.getElem?_cons_zero];rfl) (by kernel_rfl) (by kernel_rfl) (by kernel_rfl) (by exact fun _ _ _ h=>h) (Or.inl ⟨by rfl,by intro w hSw;(try dsimp only at hSw);go_simp;try with_reducible rfl⟩) (by assumption) ?_
     try simp only[Act.put,List.setIfInBounds_toArray,List.set_cons_zero,List.set_cons_succ]
     refine wpAnyH_take (i:=19) (oi:=_) (v:=_) (by simp only[List.getElem?_toArray,List.getElem?_cons_succ,List.getElem?_cons_zero];rfl) (by kernel_rfl) (by kernel_rfl) (by kernel_rfl) (by exact fun _ _ _ h=>h) (Or.inl ⟨by rfl,by intro w hSw;(try dsimp only at hSw);go_simp;try with_reducible rfl⟩) (by assumption) ?_
     try simp only[Act.put,List.setIfInBounds_toArray,List.set_cons_zero,List.set_cons_succ]
     refine wpAnyH_ready (rs:=[20]) (by kernel_rfl) (by simp) ?_
     refine AllReadyH.cons (o:=?o25) ?h25 (fun K hK=>?k25) AllReadyH.nil
     case h25=>
      simp only[List.getElem?_toArray,List.getElem?_cons_succ,List.getElem?_cons_zero];rfl
     go_simp
     have k4:=HS2.out (w3.setCell ⟨bm,2,none⟩ (.slice vA' vN' vC')) ((Below.heap_setCell w3 _ _ bw (by simp only;omega)).trans hw3.1) ((Below.heap_setCell w3 _ _ w.heap.size (by simp only;omega)).trans hw3.2)
     refine hK.out _ _ (by first|exact k4|go_keep) (fun hHeld=>?_)
     clear hK K
     try simp only[Act.put,List.setIfInBounds_toArray,List.set_cons_zero,List.set_cons_succ]
     refine wpAnyH_done (by kernel_rfl) ?_ _
     go_wp2_with fail
     have bE:Blk (w3.setCell ⟨bm,2,none⟩ (.slice vA' vN' vC')) (bm) 25 #[.int .i64 p,.slice iA is.length iC,.slice vA' vN' vC']:=by
      have:=bM3.dh 2 (.slice vA' vN' vC')
      simpa using this
     have lk:=((Lk.below (bm:=bm) hlo (HBa.out.trans (hq.mono HBa.out.size))).trans lk3).trans (Lk.setCell bM3 (.inl rfl) 2 (.slice vA' vN' vC'))
     refine bodyPost_end (v:=.tuple #[]) (results_none Tryz.results15 _ _ _) rfl (uf HF.out (HG3.out.far (p:=⟨bm,2,none⟩) hbm _) bE lk)
    case az0=>
     go_simp
     refine(HC2.out wa.drew hdr).mono ?_
     rintro e wb ⟨rfl,aja⟩
     have hwb:Below wa.heap.size wa wb:=hdr.trans (aja.mono hdr.size)
     have atb:wb.cell? ⟨bm,2,none⟩=some (.slice cA cs.length cC):=(bMa.step hwb).cell 2
     have kwb:=HS.out _ hwb
     refine hK.out _ _ (by first|exact kwb|go_keep) (fun hHeld=>?_)
     clear hK K
     try simp only[Act.put,List.setIfInBounds_toArray,List.set_cons_zero,List.set_cons_succ]
     refine wpAnyH_ready (rs:=[4,11]) (by kernel_rfl) (by simp) ?_
     refine AllReadyH.cons (o:=?a6r) ?az1 (fun K hK=>?az2) (AllReadyH.cons (o:=?a5s) ?ayh (fun K hK=>?ayi) AllReadyH.nil)
     case az1=>
      simp only[List.getElem?_toArray,List.getElem?_cons_succ,List.getElem?_cons_zero];rfl
     case ayh=>
      simp only[List.getElem?_toArray,List.getElem?_cons_succ,List.getElem?_cons_zero];rfl
     case az2=>
      go_simp
      refine hK.out _ _ (by first|exact kwb|go_keep) (fun hHeld=>?_)
      clear hK K
      try simp only[Act.put,List.setIfInBounds_toArray,List.set_cons_zero,List.set_cons_succ]
      refine wpAnyH_ready (rs:=[11]) (by kernel_rfl) (by simp) ?_
      refine AllReadyH.cons (o:=?o27) ?h27 (fun K hK=>?k27) AllReadyH.nil
      case h27=>
       simp only[List.getElem?_toArray,List.getElem?_cons_succ,List.getElem?_cons_zero];rfl
      go_simp
      refine(HC3.out wb hwb).mono ?_
      rintro e wc ⟨rfl,aes⟩
      have hwc:Below wa.heap.size wa wc:=hwb.trans (aes.mono hwb.size)
      have ank:wc.cell? ⟨bm,2,none⟩=some (.slice cA cs.length cC):=(bMa.step hwc).cell 2
      have kwc:=HS.out _ hwc
      refine hK.out _ _ (by first|exact kwc|go_keep) (fun hHeld=>?_)
      clear hK K
      try simp only[Act.put,List.setIfInBounds_toArray,List.set_cons_zero,List.set_cons_succ]
      refine wpAnyH_ready (rs:=[13]) (by kernel_rfl) (by simp) ?_
      refine AllReadyH.cons (o:=?o28) ?h28 (fun K hK=>?k28) AllReadyH.nil
      case h28=>
       simp only[List.getElem?_toArray,List.getElem?_cons_succ,List.getElem?_cons_zero];rfl
      go_simp
      refine(HC4.out wc hwc).mono ?_
      rintro e wd ⟨rfl,ajb⟩
      have hwd:Below wa.heap.size wa wd:=hwc.trans (ajb.mono hwc.size)
      have atc:wd.cell? ⟨bm,2,none⟩=some (.slice cA cs.length cC):=(bMa.step hwd).cell 2
      have kwd:=HS.out _ hwd
      refine hK.out _ _ (by first|exact kwd|go_keep) (fun hHeld=>?_)
      clear hK K
      try simp only[Act.put,List.setIfInBounds_toArray,List.set_cons_zero,List.set_cons_succ]
      refine wpAnyH_take (i:=14) (oi:=_) (v:=_) (by simp only[List.getElem?_toArray,List.getElem?_cons_succ,List.getElem?_cons_zero];rfl) (by kernel_rfl) (by kernel_rfl) (by kernel_rfl) (by exact fun _ _ _ h=>h) (Or.inl ⟨by rfl,by intro w hSw;(try dsimp only at hSw);go_simp;try with_reducible rfl⟩) (by assumption) ?_
      try simp only[Act.put,List.setIfInBounds_toArray,List.set_cons_zero,List.set_cons_succ]
      refine wpAnyH_take (i:=15) (oi:=_) (v:=_) (by simp only[List.getElem?_toArray,List.getElem?_cons_succ,List.getElem?_cons_zero];rfl) (by kernel_rfl) (by kernel_rfl) (by kernel_rfl) (by exact fun _ _ _ h=>h) (Or.inl ⟨by rfl,by intro w hSw;(try dsimp only at hSw);go_simp;try with_reducible rfl⟩) (by assumption) ?_
      try simp only[Act.put,List.setIfInBounds_toArray,List.set_cons_zero,List.set_cons_succ]
      refine wpAnyH_ready (rs:=[16]) (by kernel_rfl) (by simp) ?_
      refine AllReadyH.cons (o:=?o29) ?h29 (fun K hK=>?k29) AllReadyH.nil
      case h29=>
       simp only[List.getElem?_toArray,List.getElem?_cons_succ,List.getElem?_cons_zero];rfl
      go_simp
      have hq:Below wa.heap.size wa (wd.alloc (.cells #[.string x1,.int .i64 nb,.int .i64 nc,.bool bb,.slice none 0 0] 36)):=hwd.alloc hwd.size _
      have kq:=HS.out _ hq
      have hlq:(wd.alloc (.cells #[.string x1,.int .i64 nb,.int .i64 nc,.bool bb,.slice none 0 0] 36)).cell? ⟨bm,2,none⟩=some (.slice cA cs.length cC):=(bMa.step hq).cell 2
      refine hK.out _ _ (by first|exact kq|go_keep) (fun hHeld=>?_)
      clear hK K
      try simp only[Act.put,List.setIfInBounds_toArray,List.set_cons_zero,List.set_cons_succ]
      refine wpAnyH_ready (rs:=[17]) (by kernel_rfl) (by simp) ?_
      refine AllReadyH.cons (o:=?o30) ?h30 (fun K hK=>?k30) AllReadyH.nil
      case h30=>
       simp only[List.getElem?_toArray,List.getElem?_cons_succ,List.getElem?_cons_zero];rfl
      have hLQ:lo≤(wd.alloc (.cells #[.string x1,.int .i64 nb,.int .i64 nc,.bool bb,.slice none 0 0] 36)).heap.size:=by have:=hq.size;have:=HBa.out.size;omega
      have HGQ:=Lib.hid (HGa.out.step hq)
      have HOWN:=Lib.hid HGQ.out.pq
      have ni:Hid (uw (wd.alloc (.cells #[.string x1,.int .i64 nb,.int .i64 nc,.bool bb,.slice none 0 0] 36)) (.slice (some ⟨wd.heap.size,0,none⟩) 1 1) 5 1 [.string x1,.int .i64 nb,.int .i64 nc,.bool bb,.slice none 0 0]):=.inr ⟨_,1,rfl,rfl,World.news_of_block (heap_alloc_new wd _)⟩
      refine cu (by rfl) _ _ 23 (by rfl) lo 36 i1 (.agg #[.string {data:=#[]},.int .i64 0,.int .i64 0,.bool false,.slice none 0 0]) 5 64 Tryz.underlying23 hi1 hy0 hy1 hy2 rfl (by decide) (.slice cA cs.length cC) (cs.length) (jf cs vs) (by rfl) HOWN.out (.slice (some ⟨wd.heap.size,0,none⟩) 1 1) 1 [.string x1,.int .i64 nb,.int .i64 nc,.bool bb,.slice none 0 0] (by rfl) ni.out (abo _ _ _ _ _ _ _) (by simp only[maxLen];omega) (by omega) hLQ ?_
      intro v' w3 hown' hgrow ig
      obtain⟨vA',vN',vC',rfl,-⟩:=(Own.lu hown').form
      have lk3:Lk lo bm (wd.alloc (.cells #[.string x1,.int .i64 nb,.int .i64 nc,.bool bb,.slice none 0 0] 36)) w3:=Lk.grown hLQ HOWN.out hgrow
      have h3:Below lo wa w3:=(hq.mono (by have:=HBa.out.size;omega)).grown hgrow hLQ (fun j hj=>(HOWN.out.lt j hj).1)
      have bM3:=bMa.below h3 hbm
      have hw3:w3.heap[bw]?=wa.heap[bw]?∧w3.heap[w.heap.size]?=wa.heap[w.heap.size]?:=⟨(hgrow.block bw (by have:=hq.size;omega) (fun hne=>by have:=HBW.out bw hne.symm;omega)).trans (hq.block _ agp),(hgrow.block _ (by have:=hq.size;omega) (fun hne=>by have:=HBW.out _ hne.symm;omega)).trans (hq.block _ hga)⟩
      have k3:=HS2.out w3 hw3.1 hw3.2
      have z3:w3.cell? ⟨bm,2,none⟩=some (.slice cA cs.length cC):=bM3.cell 2
      have f3:=bM3.frozen 2
      have HG3:=Lib.hid (HGQ.out.cor hown' hgrow ig)
      refine hK.out _ _ (by first|exact k3|go_keep) (fun hHeld=>?_)
      clear hK K
      try simp only[Act.put,List.setIfInBounds_toArray,List.set_cons_zero,List.set_cons_succ]
      refine wpAnyH_take (i:=18) (oi:=_) (v:=_) (by simp only[List.getElem?_toArray,List.getElem?_cons_succ,List.getElem?_cons_zero];rfl) (by kernel_rfl) (by kernel_rfl) (by kernel_rfl) (by exact fun _ _ _ h=>h) (Or.inl ⟨by rfl,by intro w hSw;(try dsimp only at hSw);go_simp;try with_reducible rfl⟩) (by assumption) ?_
      try simp only[Act.put,List.setIfInBounds_toArray,List.set_cons_zero,List.set_cons_succ]
      refine wpAnyH_take (i:=19) (oi:=_) (v:=_) (by simp only[List.getElem?_toArray,List.getElem?_cons_succ,List.getElem?_cons_zero];rfl) (by kernel_rfl) (by kernel_rfl) (by kernel_rfl) (by exact fun _ _ _ h=>h) (Or.inl ⟨by rfl,by intro w hSw;(try dsimp only at hSw);go_simp;try with_reducible rfl⟩) (by assumption) ?_
      try simp only[Act.put,List.setIfInBounds_toArray,List.set_cons_zero,List.set_cons_succ]
      refine wpAnyH_ready (rs:=[20]) (by kernel_rfl) (by simp) ?_
      refine AllReadyH.cons (o:=?o31) ?h31 (fun K hK=>?k31) AllReadyH.nil
      case h31=>
       simp only[List.getElem?_toArray,List.getElem?_cons_succ,List.getElem?_cons_zero];rfl
      go_simp
      have k4:=HS2.out (w3.setCell ⟨bm,2,none⟩ (.slice vA' vN' vC')) ((Below.heap_setCell w3 _ _ bw (by simp only;omega)).trans hw3.1) ((Below.heap_setCell w3 _ _ w.heap.size (by simp only;omega)).trans hw3.2)
      refine hK.out _ _ (by first|exact k4|go_keep) (fun hHeld=>?_)
      clear hK K
      try simp only[Act.put,List.setIfInBounds_toArray,List.set_cons_zero,List.set_cons_succ]
      refine wpAnyH_done (by kernel_rfl) ?_ _
      go_wp2_with fail
      have bE:Blk (w3.setCell ⟨bm,2,none⟩ (.slice vA' vN' vC')) (bm) 25 #[.int .i64 p,.slice iA is.length iC,.slice vA' vN' vC']:=by
       have:=bM3.dh 2 (.slice vA' vN' vC')
       simpa using this
      have lk:=((Lk.below (bm:=bm) hlo (HBa.out.trans (hq.mono HBa.out.size))).trans lk3).trans (Lk.setCell bM3 (.inl rfl) 2 (.slice vA' vN' vC'))
      refine bodyPost_end (v:=.tuple #[]) (results_none Tryz.results15 _ _ _) rfl (uf HF.out (HG3.out.far (p:=⟨bm,2,none⟩) hbm _) bE lk)
     case ayi=>
      go_simp
      refine(HC3.out wb hwb).mono ?_
      rintro e wc ⟨rfl,aes⟩
      have hwc:Below wa.heap.size wa wc:=hwb.trans (aes.mono hwb.size)
      have ank:wc.cell? ⟨bm,2,none⟩=some (.slice cA cs.length cC):=(bMa.step hwc).cell 2
      have kwc:=HS.out _ hwc
      refine hK.out _ _ (by first|exact kwc|go_keep) (fun hHeld=>?_)
      clear hK K
      try simp only[Act.put,List.setIfInBounds_toArray,List.set_cons_zero,List.set_cons_succ]
      refine wpAnyH_ready (rs:=[4,13]) (by kernel_rfl) (by simp) ?_
      refine AllReadyH.cons (o:=?a6s) ?az3 (fun K hK=>?az4) (AllReadyH.cons (o:=?a5t) ?ayj (fun K hK=>?ayk) AllReadyH.nil)
      case az3=>
       simp only[List.getElem?_toArray,List.getElem?_cons_succ,List.getElem?_cons_zero];rfl
      case ayj=>
       simp only[List.getElem?_toArray,List.getElem?_cons_succ,List.getElem?_cons_zero];rfl
      case az4=>
       go_simp
       refine hK.out _ _ (by first|exact kwc|go_keep) (fun hHeld=>?_)
       clear hK K
       try simp only[Act.put,List.setIfInBounds_toArray,List.set_cons_zero,List.set_cons_succ]
       refine wpAnyH_ready (rs:=[13]) (by kernel_rfl) (by simp) ?_
       refine AllReadyH.cons (o:=?o33) ?h33 (fun K hK=>?k33) AllReadyH.nil
       case h33=>
        simp only[List.getElem?_toArray,List.getElem?_cons_succ,List.getElem?_cons_zero];rfl
       go_simp
       refine(HC4.out wc hwc).mono ?_
       rintro e wd ⟨rfl,ajb⟩
       have hwd:Below wa.heap.size wa wd:=hwc.trans (ajb.mono hwc.size)
       have atc:wd.cell? ⟨bm,2,none⟩=some (.slice cA cs.length cC):=(bMa.step hwd).cell 2
       have kwd:=HS.out _ hwd
       refine hK.out _ _ (by first|exact kwd|go_keep) (fun hHeld=>?_)
       clear hK K
       try simp only[Act.put,List.setIfInBounds_toArray,List.set_cons_zero,List.set_cons_succ]
       refine wpAnyH_take (i:=14) (oi:=_) (v:=_) (by simp only[List.getElem?_toArray,List.getElem?_cons_succ,List.getElem?_cons_zero];rfl) (by kernel_rfl) (by kernel_rfl) (by kernel_rfl) (by exact fun _ _ _ h=>h) (Or.inl ⟨by rfl,by intro w hSw;(try dsimp only at hSw);go_simp;try with_reducible rfl⟩) (by assumption) ?_
       try simp only[Act.put,List.setIfInBounds_toArray,List.set_cons_zero,List.set_cons_succ]
       refine wpAnyH_take (i:=15) (oi:=_) (v:=_) (by simp only[List.getElem?_toArray,List.getElem?_cons_succ,List.getElem?_cons_zero];rfl) (by kernel_rfl) (by kernel_rfl) (by kernel_rfl) (by exact fun _ _ _ h=>h) (Or.inl ⟨by rfl,by intro w hSw;(try dsimp only at hSw);go_simp;try with_reducible rfl⟩) (by assumption) ?_
       try simp only[Act.put,List.setIfInBounds_toArray,List.set_cons_zero,List.set_cons_succ]
       refine wpAnyH_ready (rs:=[16]) (by kernel_rfl) (by simp) ?_
       refine AllReadyH.cons (o:=?o34) ?h34 (fun K hK=>?k34) AllReadyH.nil
       case h34=>
        simp only[List.getElem?_toArray,List.getElem?_cons_succ,List.getElem?_cons_zero];rfl
       go_simp
       have hq:Below wa.heap.size wa (wd.alloc (.cells #[.string x1,.int .i64 nb,.int .i64 nc,.bool bb,.slice none 0 0] 36)):=hwd.alloc hwd.size _
       have kq:=HS.out _ hq
       have hlq:(wd.alloc (.cells #[.string x1,.int .i64 nb,.int .i64 nc,.bool bb,.slice none 0 0] 36)).cell? ⟨bm,2,none⟩=some (.slice cA cs.length cC):=(bMa.step hq).cell 2
       refine hK.out _ _ (by first|exact kq|go_keep) (fun hHeld=>?_)
       clear hK K
       try simp only[Act.put,List.setIfInBounds_toArray,List.set_cons_zero,List.set_cons_succ]
       refine wpAnyH_ready (rs:=[17]) (by kernel_rfl) (by simp) ?_
       refine AllReadyH.cons (o:=?o35) ?h35 (fun K hK=>?k35) AllReadyH.nil
       case h35=>
        simp only[List.getElem?_toArray,List.getElem?_cons_succ,List.getElem?_cons_zero];rfl
       have hLQ:lo≤(wd.alloc (.cells #[.string x1,.int .i64 nb,.int .i64 nc,.bool bb,.slice none 0 0] 36)).heap.size:=by have:=hq.size;have:=HBa.out.size;omega
       have HGQ:=Lib.hid (HGa.out.step hq)
       have HOWN:=Lib.hid HGQ.out.pq
       have ni:Hid (uw (wd.alloc (.cells #[.string x1,.int .i64 nb,.int .i64 nc,.bool bb,.slice none 0 0] 36)) (.slice (some ⟨wd.heap.size,0,none⟩) 1 1) 5 1 [.string x1,.int .i64 nb,.int .i64 nc,.bool bb,.slice none 0 0]):=.inr ⟨_,1,rfl,rfl,World.news_of_block (heap_alloc_new wd _)⟩
       refine cu (by rfl) _ _ 23 (by rfl) lo 36 i1 (.agg #[.string {data:=#[]},.int .i64 0,.int .i64 0,.bool false,.slice none 0 0]) 5 64 Tryz.underlying23 hi1 hy0 hy1 hy2 rfl (by decide) (.slice cA cs.length cC) (cs.length) (jf cs vs) (by rfl) HOWN.out (.slice (some ⟨wd.heap.size,0,none⟩) 1 1) 1 [.string x1,.int .i64 nb,.int .i64 nc,.bool bb,.slice none 0 0] (by rfl) ni.out (abo _ _ _ _ _ _ _) (by simp only[maxLen];omega) (by omega) hLQ ?_
       intro v' w3 hown' hgrow ig
       obtain⟨vA',vN',vC',rfl,-⟩:=(Own.lu hown').form
       have lk3:Lk lo bm (wd.alloc (.cells #[.string x1,.int .i64 nb,.int .i64 nc,.bool bb,.slice none 0 0] 36)) w3:=Lk.grown hLQ HOWN.out hgrow
       have h3:Below lo wa w3:=(hq.mono (by have:=HBa.out.size;omega)).grown hgrow hLQ (fun j hj=>(HOWN.out.lt j hj).1)
       have bM3:=bMa.below h3 hbm
       have hw3:w3.heap[bw]?=wa.heap[bw]?∧w3.heap[w.heap.size]?=wa.heap[w.heap.size]?:=⟨(hgrow.block bw (by have:=hq.size;omega) (fun hne=>by have:=HBW.out bw hne.symm;omega)).trans (hq.block _ agp),(hgrow.block _ (by have:=hq.size;omega) (fun hne=>by have:=HBW.out _ hne.symm;omega)).trans (hq.block _ hga)⟩
       have k3:=HS2.out w3 hw3.1 hw3.2
       have z3:w3.cell? ⟨bm,2,none⟩=some (.slice cA cs.length cC):=bM3.cell 2
       have f3:=bM3.frozen 2
       have HG3:=Lib.hid (HGQ.out.cor hown' hgrow ig)
       refine hK.out _ _ (by first|exact k3|go_keep) (fun hHeld=>?_)
       clear hK K
       try simp only[Act.put,List.setIfInBounds_toArray,List.set_cons_zero,List.set_cons_succ]
       refine wpAnyH_take (i:=18) (oi:=_) (v:=_) (by simp only[List.getElem?_toArray,List.getElem?_cons_succ,List.getElem?_cons_zero];rfl) (by kernel_rfl) (by kernel_rfl) (by kernel_rfl) (by exact fun _ _ _ h=>h) (Or.inl ⟨by rfl,by intro w hSw;(try dsimp only at hSw);go_simp;try with_reducible rfl⟩) (by assumption) ?_
       try simp only[Act.put,List.setIfInBounds_toArray,List.set_cons_zero,List.set_cons_succ]
       refine wpAnyH_take (i:=19) (oi:=_) (v:=_) (by simp only[List.getElem?_toArray,List.getElem?_cons_succ,List.getElem?_cons_zero];rfl) (by kernel_rfl) (by kernel_rfl) (by kernel_rfl) (by exact fun _ _ _ h=>h) (Or.inl ⟨by rfl,by intro w hSw;(try dsimp only at hSw);go_simp;try with_reducible rfl⟩) (by assumption) ?_
       try simp only[Act.put,List.setIfInBounds_toArray,List.set_cons_zero,List.set_cons_succ]
       refine wpAnyH_ready (rs:=[20]) (by kernel_rfl) (by simp) ?_
       refine AllReadyH.cons (o:=?o36) ?h36 (fun K hK=>?k36) AllReadyH.nil
       case h36=>
        simp only[List.getElem?_toArray,List.getElem?_cons_succ,List.getElem?_cons_zero];rfl
       go_simp
       have k4:=HS2.out (w3.setCell ⟨bm,2,none⟩ (.slice vA' vN' vC')) ((Below.heap_setCell w3 _ _ bw (by simp only;omega)).trans hw3.1) ((Below.heap_setCell w3 _ _ w.heap.size (by simp only;omega)).trans hw3.2)
       refine hK.out _ _ (by first|exact k4|go_keep) (fun hHeld=>?_)
       clear hK K
       try simp only[Act.put,List.setIfInBounds_toArray,List.set_cons_zero,List.set_cons_succ]
       refine wpAnyH_done (by kernel_rfl) ?_ _
       go_wp2_with fail
       have bE:Blk (w3.setCell ⟨bm,2,none⟩ (.slice vA' vN' vC')) (bm) 25 #[.int .i64 p,.slice iA is.length iC,.slice vA' vN' vC']:=by
        have:=bM3.dh 2 (.slice vA' vN' vC')
        simpa using this
       have lk:=((Lk.below (bm:=bm) hlo (HBa.out.trans (hq.mono HBa.out.size))).trans lk3).trans (Lk.setCell bM3 (.inl rfl) 2 (.slice vA' vN' vC'))
       refine bodyPost_end (v:=.tuple #[]) (results_none Tryz.results15 _ _ _) rfl (uf HF.out (HG3.out.far (p:=⟨bm,2,none⟩) hbm _) bE lk)
      case ayk=>
       go_simp
       refine(HC4.out wc hwc).mono ?_
       rintro e wd ⟨rfl,ajb⟩
       have hwd:Below wa.heap.size wa wd:=hwc.trans (ajb.mono hwc.size)
       have atc:wd.cell? ⟨bm,2,none⟩=some (.slice cA cs.length cC):=(bMa.step hwd).cell 2
       have kwd:=HS.out _ hwd
       refine hK.out _ _ (by first|exact kwd|go_keep) (fun hHeld=>?_)
       clear hK K
       try simp only[Act.put,List.setIfInBounds_toArray,List.set_cons_zero,List.set_cons_succ]
       refine wpAnyH_take (i:=14) (oi:=_) (v:=_) (by simp only[List.getElem?_toArray,List.getElem?_cons_succ,List.getElem?_cons_zero];rfl) (by kernel_rfl) (by kernel_rfl) (by kernel_rfl) (by exact fun _ _ _ h=>h) (Or.inl ⟨by rfl,by intro w hSw;(try dsimp only at hSw);go_simp;try with_reducible rfl⟩) (by assumption) ?_
       try simp only[Act.put,List.setIfInBounds_toArray,List.set_cons_zero,List.set_cons_succ]
       refine wpAnyH_take (i:=15) (oi:=_) (v:=_) (by simp only[List.getElem?_toArray,List.getElem?_cons_succ,List.getElem?_cons_zero];rfl) (by kernel_rfl) (by kernel_rfl) (by kernel_rfl) (by exact fun _ _ _ h=>h) (Or.inl ⟨by rfl,by intro w hSw;(try dsimp only at hSw);go_simp;try with_reducible rfl⟩) (by assumption) ?_
       try simp only[Act.put,List.setIfInBounds_toArray,List.set_cons_zero,List.set_cons_succ]
       refine wpAnyH_ready (rs:=[4,16]) (by kernel_rfl) (by simp) ?_
       refine AllReadyH.cons (o:=?a6t) ?az5 (fun K hK=>?az6) (AllReadyH.cons (o:=?a5u) ?ayl (fun K hK=>?aym) AllReadyH.nil)
       case az5=>
        simp only[List.getElem?_toArray,List.getElem?_cons_succ,List.getElem?_cons_zero];rfl
       case ayl=>
        simp only[List.getElem?_toArray,List.getElem?_cons_succ,List.getElem?_cons_zero];rfl
       case az6=>
        go_simp
        refine hK.out _ _ (by first|exact kwd|go_keep) (fun hHeld=>?_)
        clear hK K
        try simp only[Act.put,List.setIfInBounds_toArray,List.set_cons_zero,List.set_cons_succ]
        refine wpAnyH_ready (rs:=[16]) (by kernel_rfl) (by simp) ?_
        refine AllReadyH.cons (o:=?o38) ?h38 (fun K hK=>?k38) AllReadyH.nil
        case h38=>
         simp only[List.getElem?_toArray,List.getElem?_cons_succ,List.getElem?_cons_zero];rfl
        go_simp
        have hq:Below wa.heap.size wa (wd.alloc (.cells #[.string x1,.int .i64 nb,.int .i64 nc,.bool bb,.slice none 0 0] 36)):=hwd.alloc hwd.size _
        have kq:=HS.out _ hq
        have hlq:(wd.alloc (.cells #[.string x1,.int .i64 nb,.int .i64 nc,.bool bb,.slice none 0 0] 36)).cell? ⟨bm,2,none⟩=some (.slice cA cs.length cC):=(bMa.step hq).cell 2
        refine hK.out _ _ (by first|exact kq|go_keep) (fun hHeld=>?_)
        clear hK K
        try simp only[Act.put,List.setIfInBounds_toArray,List.set_cons_zero,List.set_cons_succ]
        refine wpAnyH_ready (rs:=[17]) (by kernel_rfl) (by simp) ?_
        refine AllReadyH.cons (o:=?o39) ?h39 (fun K hK=>?k39) AllReadyH.nil
        case h39=>
         simp only[List.getElem?_toArray,List.getElem?_cons_succ,List.getElem?_cons_zero];rfl
        have hLQ:lo≤(wd.alloc (.cells #[.string x1,.int .i64 nb,.int .i64 nc,.bool bb,.slice none 0 0] 36)).heap.size:=by have:=hq.size;have:=HBa.out.size;omega
        have HGQ:=Lib.hid (HGa.out.step hq)
        have HOWN:=Lib.hid HGQ.out.pq
        have ni:Hid (uw (wd.alloc (.cells #[.string x1,.int .i64 nb,.int .i64 nc,.bool bb,.slice none 0 0] 36)) (.slice (some ⟨wd.heap.size,0,none⟩) 1 1) 5 1 [.string x1,.int .i64 nb,.int .i64 nc,.bool bb,.slice none 0 0]):=.inr ⟨_,1,rfl,rfl,World.news_of_block (heap_alloc_new wd _)⟩
        refine cu (by rfl) _ _ 23 (by rfl) lo 36 i1 (.agg #[.string {data:=#[]},.int .i64 0,.int .i64 0,.bool false,.slice none 0 0]) 5 64 Tryz.underlying23 hi1 hy0 hy1 hy2 rfl (by decide) (.slice cA cs.length cC) (cs.length) (jf cs vs) (by rfl) HOWN.out (.slice (some ⟨wd.heap.size,0,none⟩) 1 1) 1 [.string x1,.int .i64 nb,.int .i64 nc,.bool bb,.slice none 0 0] (by rfl) ni.out (abo _ _ _ _ _ _ _) (by simp only[maxLen];omega) (by omega) hLQ ?_
        intro v' w3 hown' hgrow ig
        obtain⟨vA',vN',vC',rfl,-⟩:=(Own.lu hown').form
        have lk3:Lk lo bm (wd.alloc (.cells #[.string x1,.int .i64 nb,.int .i64 nc,.bool bb,.slice none 0 0] 36)) w3:=Lk.grown hLQ HOWN.out hgrow
        have h3:Below lo wa w3:=(hq.mono (by have:=HBa.out.size;omega)).grown hgrow hLQ (fun j hj=>(HOWN.out.lt j hj).1)
        have bM3:=bMa.below h3 hbm
        have hw3:w3.heap[bw]?=wa.heap[bw]?∧w3.heap[w.heap.size]?=wa.heap[w.heap.size]?:=⟨(hgrow.block bw (by have:=hq.size;omega) (fun hne=>by have:=HBW.out bw hne.symm;omega)).trans (hq.block _ agp),(hgrow.block _ (by have:=hq.size;omega) (fun hne=>by have:=HBW.out _ hne.symm;omega)).trans (hq.block _ hga)⟩
        have k3:=HS2.out w3 hw3.1 hw3.2
        have z3:w3.cell? ⟨bm,2,none⟩=some (.slice cA cs.length cC):=bM3.cell 2
        have f3:=bM3.frozen 2
        have HG3:=Lib.hid (HGQ.out.cor hown' hgrow ig)
        refine hK.out _ _ (by first|exact k3|go_keep) (fun hHeld=>?_)
        clear hK K
        try simp only[Act.put,List.setIfInBounds_toArray,List.set_cons_zero,List.set_cons_succ]
        refine wpAnyH_take (i:=18) (oi:=_) (v:=_) (by simp only[List.getElem?_toArray,List.getElem?_cons_succ,List.getElem?_cons_zero];rfl) (by kernel_rfl) (by kernel_rfl) (by kernel_rfl) (by exact fun _ _ _ h=>h) (Or.inl ⟨by rfl,by intro w hSw;(try dsimp only at hSw);go_simp;try with_reducible rfl⟩) (by assumption) ?_
        try simp only[Act.put,List.setIfInBounds_toArray,List.set_cons_zero,List.set_cons_succ]
        refine wpAnyH_take (i:=19) (oi:=_) (v:=_) (by simp only[List.getElem?_toArray,List.getElem?_cons_succ,List.getElem?_cons_zero];rfl) (by kernel_rfl) (by kernel_rfl) (by kernel_rfl) (by exact fun _ _ _ h=>h) (Or.inl ⟨by rfl,by intro w hSw;(try dsimp only at hSw);go_simp;try with_reducible rfl⟩) (by assumption) ?_
        try simp only[Act.put,List.setIfInBounds_toArray,List.set_cons_zero,List.set_cons_succ]
        refine wpAnyH_ready (rs:=[20]) (by kernel_rfl) (by simp) ?_
        refine AllReadyH.cons (o:=?o40) ?h40 (fun K hK=>?k40) AllReadyH.nil
        case h40=>
         simp only[List.getElem?_toArray,List.getElem?_cons_succ,List.getElem?_cons_zero];rfl
        go_simp
        have k4:=HS2.out (w3.setCell ⟨bm,2,none⟩ (.slice vA' vN' vC')) ((Below.heap_setCell w3 _ _ bw (by simp only;omega)).trans hw3.1) ((Below.heap_setCell w3 _ _ w.heap.size (by simp only;omega)).trans hw3.2)
        refine hK.out _ _ (by first|exact k4|go_keep) (fun hHeld=>?_)
        clear hK K
        try simp only[Act.put,List.setIfInBounds_toArray,List.set_cons_zero,List.set_cons_succ]
        refine wpAnyH_done (by kernel_rfl) ?_ _
        go_wp2_with fail
        have bE:Blk (w3.setCell ⟨bm,2,none⟩ (.slice vA' vN' vC')) (bm) 25 #[.int .i64 p,.slice iA is.length iC,.slice vA' vN' vC']:=by
         have:=bM3.dh 2 (.slice vA' vN' vC')
         simpa using this
        have lk:=((Lk.below (bm:=bm) hlo (HBa.out.trans (hq.mono HBa.out.size))).trans lk3).trans (Lk.setCell bM3 (.inl rfl) 2 (.slice vA' vN' vC'))
        refine bodyPost_end (v:=.tuple #[]) (results_none Tryz.results15 _ _ _) rfl (uf HF.out (HG3.out.far (p:=⟨bm,2,none⟩) hbm _) bE lk)
       case aym=>
        go_simp
        have hq:Below wa.heap.size wa (wd.alloc (.cells #[.string x1,.int .i64 nb,.int .i64 nc,.bool bb,.slice none 0 0] 36)):=hwd.alloc hwd.size _
        have kq:=HS.out _ hq
        have hlq:(wd.alloc (.cells #[.string x1,.int .i64 nb,.int .i64 nc,.bool bb,.slice none 0 0] 36)).cell? ⟨bm,2,none⟩=some (.slice cA cs.length cC):=(bMa.step hq).cell 2
        refine hK.out _ _ (by first|exact kq|go_keep) (fun hHeld=>?_)
        clear hK K
        try simp only[Act.put,List.setIfInBounds_toArray,List.set_cons_zero,List.set_cons_succ]
        refine wpAnyH_ready (rs:=[4]) (by kernel_rfl) (by simp) ?_
        refine AllReadyH.cons (o:=?o41) ?h41 (fun K hK=>?k41) AllReadyH.nil
        case h41=>
         simp only[List.getElem?_toArray,List.getElem?_cons_succ,List.getElem?_cons_zero];rfl
        go_simp
        refine hK.out _ _ (by first|exact kq|go_keep) (fun hHeld=>?_)
        clear hK K
        try simp only[Act.put,List.setIfInBounds_toArray,List.set_cons_zero,List.set_cons_succ]
        refine wpAnyH_ready (rs:=[17]) (by kernel_rfl) (by simp) ?_
        refine AllReadyH.cons (o:=?o42) ?h42 (fun K hK=>?k42) AllReadyH.nil
        case h42=>
         simp only[List.getElem?_toArray,List.getElem?_cons_succ,List.getElem?_cons_zero];rfl
        have hLQ:lo≤(wd.alloc (.cells #[.string x1,.int .i64 nb,.int .i64 nc,.bool bb,.slice none 0 0] 36)).heap.size:=by have:=hq.size;have:=HBa.out.size;omega
        have HGQ:=Lib.hid (HGa.out.step hq)
        have HOWN:=Lib.hid HGQ.out.pq
        have ni:Hid (uw (wd.alloc (.cells #[.string x1,.int .i64 nb,.int .i64 nc,.bool bb,.slice none 0 0] 36)) (.slice (some ⟨wd.heap.size,0,none⟩) 1 1) 5 1 [.string x1,.int .i64 nb,.int .i64 nc,.bool bb,.slice none 0 0]):=.inr ⟨_,1,rfl,rfl,World.news_of_block (heap_alloc_new wd _)⟩
        refine cu (by rfl) _ _ 23 (by rfl) lo 36 i1 (.agg #[.string {data:=#[]},.int .i64 0,.int .i64 0,.bool false,.slice none 0 0]) 5 64 Tryz.underlying23 hi1 hy0 hy1 hy2 rfl (by decide) (.slice cA cs.length cC) (cs.length) (jf cs vs) (by rfl) HOWN.out (.slice (some ⟨wd.heap.size,0,none⟩) 1 1) 1 [.string x1,.int .i64 nb,.int .i64 nc,.bool bb,.slice none 0 0] (by rfl) ni.out (abo _ _ _ _ _ _ _) (by simp only[maxLen];omega) (by omega) hLQ ?_
        intro v' w3 hown' hgrow ig
        obtain⟨vA',vN',vC',rfl,-⟩:=(Own.lu hown').form
        have lk3:Lk lo bm (wd.alloc (.cells #[.string x1,.int .i64 nb,.int .i64 nc,.bool bb,.slice none 0 0] 36)) w3:=Lk.grown hLQ HOWN.out hgrow
        have h3:Below lo wa w3:=(hq.mono (by have:=HBa.out.size;omega)).grown hgrow hLQ (fun j hj=>(HOWN.out.lt j hj).1)
        have bM3:=bMa.below h3 hbm
        have hw3:w3.heap[bw]?=wa.heap[bw]?∧w3.heap[w.heap.size]?=wa.heap[w.heap.size]?:=⟨(hgrow.block bw (by have:=hq.size;omega) (fun hne=>by have:=HBW.out bw hne.symm;omega)).trans (hq.block _ agp),(hgrow.block _ (by have:=hq.size;omega) (fun hne=>by have:=HBW.out _ hne.symm;omega)).trans (hq.block _ hga)⟩
        have k3:=HS2.out w3 hw3.1 hw3.2
        have z3:w3.cell? ⟨bm,2,none⟩=some (.slice cA cs.length cC):=bM3.cell 2
        have f3:=bM3.frozen 2
        have HG3:=Lib.hid (HGQ.out.cor hown' hgrow ig)
        refine hK.out _ _ (by first|exact k3|go_keep) (fun hHeld=>?_)
        clear hK K
        try simp only[Act.put,List.setIfInBounds_toArray,List.set_cons_zero,List.set_cons_succ]
        refine wpAnyH_take (i:=18) (oi:=_) (v:=_) (by simp only[List.getElem?_toArray,List.getElem?_cons_succ,List.getElem?_cons_zero];rfl) (by kernel_rfl) (by kernel_rfl) (by kernel_rfl) (by exact fun _ _ _ h=>h) (Or.inl ⟨by rfl,by intro w hSw;(try dsimp only at hSw);go_simp;try with_reducible rfl⟩) (by assumption) ?_
        try simp only[Act.put,List.setIfInBounds_toArray,List.set_cons_zero,List.set_cons_succ]
        refine wpAnyH_take (i:=19) (oi:=_) (v:=_) (by simp only[List.getElem?_toArray,List.getElem?_cons_succ,List.getElem?_cons_zero];rfl) (by kernel_rfl) (by kernel_rfl) (by kernel_rfl) (by exact fun _ _ _ h=>h) (Or.inl ⟨by rfl,by intro w hSw;(try dsimp only at hSw);go_simp;try with_reducible rfl⟩) (by assumption) ?_
        try simp only[Act.put,List.setIfInBounds_toArray,List.set_cons_zero,List.set_cons_succ]
        refine wpAnyH_ready (rs:=[20]) (by kernel_rfl) (by simp) ?_
        refine AllReadyH.cons (o:=?o43) ?h43 (fun K hK=>?k43) AllReadyH.nil
        case h43=>
         simp only[List.getElem?_toArray,List.getElem?_cons_succ,List.getElem?_cons_zero];rfl
        go_simp
        have k4:=HS2.out (w3.setCell ⟨bm,2,none⟩ (.slice vA' vN' vC')) ((Below.heap_setCell w3 _ _ bw (by simp only;omega)).trans hw3.1) ((Below.heap_setCell w3 _ _ w.heap.size (by simp only;omega)).trans hw3.2)
        refine hK.out _ _ (by first|exact k4|go_keep) (fun hHeld=>?_)
        clear hK K
        try simp only[Act.put,List.setIfInBounds_toArray,List.set_cons_zero,List.set_cons_succ]
        refine wpAnyH_done (by kernel_rfl) ?_ _
        go_wp2_with fail
        have bE:Blk (w3.setCell ⟨bm,2,none⟩ (.slice vA' vN' vC')) (bm) 25 #[.int .i64 p,.slice iA is.length iC,.slice vA' vN' vC']:=by
         have:=bM3.dh 2 (.slice vA' vN' vC')
         simpa using this
        have lk:=((Lk.below (bm:=bm) hlo (HBa.out.trans (hq.mono HBa.out.size))).trans lk3).trans (Lk.setCell bM3 (.inl rfl) 2 (.slice vA' vN' vC'))
        refine bodyPost_end (v:=.tuple #[]) (results_none Tryz.results15 _ _ _) rfl (uf HF.out (HG3.out.far (p:=⟨bm,2,none⟩) hbm _) bE lk)
   case neg=>
    have HF:Hid (M'=⟨p,is,xg ⟨(rdI line).1,(rdI line).2.1⟩ cs⟩):=by show _=_;rw[ahm.out,if_neg c0,if_neg c1,if_neg c2]
    clear ahm
    have aru:((x0.toList ==[105,109,112,111,114,116])=false∧(x0.toList ==[99,111,114,101])=false)∨(¬ (1:Int) < (N:Int)∧(x0.toList ==[105,109,112,111,114,116])=true∧(x0.toList ==[99,111,114,101])=false)∨(¬ (1:Int) < (N:Int)∧(x0.toList ==[105,109,112,111,114,116])=false∧(x0.toList ==[99,111,114,101])=true):=by
     rw[show(x0.toList ==[105,109,112,111,114,116])=decide (x0=aat)from yw _ _,show(x0.toList ==[99,111,114,101])=decide (x0=zx)from yw _ _]
     by_cases d1:x0=aat
     ·have:¬ 1 < N:=fun h=>c1 ⟨d1,h⟩
      exact .inr (.inl ⟨by omega,by simp[d1],by rw[d1];decide⟩)
     ·by_cases d2:x0=zx
      ·have:¬ 1 < N:=fun h=>c2 ⟨d2,h⟩
       exact .inr (.inr ⟨by omega,by simp[d1],by simp[d2]⟩)
      ·exact .inl ⟨by simp[d1],by simp[d2]⟩
    clear c0 c1 c2
    by_cases h0:cs=[]
    case pos=>
     subst h0
     have HF2:Hid (M'=⟨p,is,[]⟩):=by show _=_;rw[HF.out];rfl
     clear HF
     have HF:=HF2
     clear HF2
     have e0:([]:List Core).length=0:=rfl
     rw[e0] at hcw z2 bMa HGa
     have lk:=Lk.below (lo:=lo) (bm:=bm) hlo HBa.out
     have hcw2:IntKind.i64.wrap (-1)=-1:=IntWalk.i64_in _ (by omega)
     rcases aru with ⟨t1,t2⟩|⟨n1,t1,t2⟩|⟨n1,t1,t2⟩
     all_goals
      go_wp2_with fail
      refine bodyPost_end (v:=.tuple #[]) (results_none Tryz.results15 _ _ _) rfl (uf HF.out HGa.out bMa lk)
    case neg=>
     obtain⟨cs0,c0,us,v0,h1,h2,hul⟩:=agi (m:=⟨p,is,cs⟩) HGa.out.1 h0
     replace h1:cs=cs0 ++[c0]:=h1
     subst h1 h2
     obtain⟨oname,jg,jh,ji,jc⟩:=c0
     obtain⟨d,hd⟩:∃ d,d=cs0.length:=⟨_,rfl⟩
     have hcd:(cs0 ++[(Core.mk oname jg jh ji jc)]).length=d+1:=by rw[List.length_append,← hd];rfl
     rw[hcd] at hcw z2 bMa HGa hcl HVC
     have HD:=Lib.hid hd
     have HUL:=Lib.hid hul
     have HCD:=Lib.hid hcd
     clear hd hul h0 hcd
     have hoc:jc.length≤30001:=HLEN.out.2.2 (Core.mk oname jg jh ji jc) (by simp)
     obtain⟨oA,oC,rfl,hov⟩:=zl HGa.out.gy
     clear hov
     obtain⟨gc,hgc,as4,ax7,aqc⟩:=HVC.out (by omega)
     subst hgc
     clear aqc HVC
     obtain⟨oN,hoN⟩:∃ N,N=jc.length:=⟨_,rfl⟩
     rw[show(Core.mk oname jg jh ji jc).code.length=oN from hoN.symm] at HGa
     rw[← hoN] at hoc
     have HON:=Lib.hid hoN
     clear hoN
     obtain⟨xo,hxo⟩:∃ z,z=(rdI line).1:=⟨_,rfl⟩
     obtain⟨xa,hxa⟩:∃ z,z=(rdI line).2.1:=⟨_,rfl⟩
     obtain⟨xb,hxb⟩:∃ z,z=(rdI line).2.2:=⟨_,rfl⟩
     unfold ap7 at HRD
     rw[← hxo,← hxa] at HF
     rw[← hxo,← hxa,← hxb] at HRD
     clear hxo hxa hxb
     have as3:IntKind.i64.wrap (((d+1:Nat):Int) - 1)=(d:Int):=by rw[IntWalk.i64_in _ (by omega)];omega
     have hcw2:IntKind.i64.wrap ((d:Int)+1 - 1)=(d:Int):=by rw[IntWalk.i64_in _ (by omega)];omega
     have hcw3:IntKind.i64.wrap (d:Int)=(d:Int):=IntWalk.i64_in _ (by omega)
     have hdi:(d:Int) < ((d+1:Nat):Int):=by omega
     have as6:(d:Int) < (d:Int)+1:=by omega
     have hd0:(0:Int)≤(d:Int):=by omega
     clear hcw
     have hgl:lo≤gc:=as4
     obtain⟨i1,hi1,hy0,hy1,hy2⟩:=info_parts ai6
     rcases aru with ⟨t1,t2⟩|⟨n1,t1,t2⟩|⟨n1,t1,t2⟩
     case inl=>
      go_wp2_with fail
      refine(HRD.out wa HBa.out).mono ?_
      rintro e wf ⟨rfl,hbf⟩
      have bMf:=bMa.step hbf
      have HGf:=Lib.hid (HGa.out.step hbf)
      have HBf:=Lib.hid (HBa.out.trans (hbf.mono HBa.out.size))
      obtain⟨wg,hwg⟩:∃ V,V=wf.alloc (.cells #[.int .i64 xo,.int .i64 xa] 54):=⟨_,rfl⟩
      have hbg:Below wf.heap.size wf wg:=by rw[hwg];exact(Below.refl _ _).alloc (Nat.le_refl _) _
      have bXg:Blk wg wf.heap.size 54 #[.int .i64 xo,.int .i64 xa]:=by rw[hwg];exact Blk.new wf _ _
      have aer:wf.heap.size < wg.heap.size:=bXg.lt
      have bMg:=bMf.step hbg
      have HGg:=Lib.hid (HGf.out.step hbg)
      have HBg:=Lib.hid (HBf.out.trans (hbg.mono HBf.out.size))
      have as5:gc < wf.heap.size:=(HGf.out.pq.lt gc rfl).2
      have zf2:wf.cell? ⟨bm,2,none⟩=some (.slice (some ⟨gc,0,none⟩) (d+1) cC):=bMf.cell 2
      have zg2:(wf.alloc (.cells #[.int .i64 xo,.int .i64 xa] 54)).cell? ⟨bm,2,none⟩=some (.slice (some ⟨gc,0,none⟩) (d+1) cC):=by rw[← hwg];exact bMg.cell 2
      have HWG:=Lib.hid hwg
      clear hwg
      go_wp2_with fail
      rw[← HWG.out]
      clear zf2 zg2 z2 zw q0
      have HS:Hid (∀ V:World,Blk V (bm) 25 #[.int .i64 p,.slice iA is.length iC,.slice (some ⟨gc,0,none⟩) (d+1) cC]→Blk V wf.heap.size 54 #[.int .i64 xo,.int .i64 xa]→V.cell? ⟨bm,2,none⟩=some (.slice (some ⟨gc,0,none⟩) (d+1) cC)∧V.cell? ⟨wf.heap.size,0,none⟩=some (.int .i64 xo)∧V.cell? ⟨wf.heap.size,1,none⟩=some (.int .i64 xa)):=Lib.hid fun V h1 h2=>⟨h1.cell 2,h2.cell 0,h2.cell 1⟩
      have hdr:Below wg.heap.size wg wg.drew:=(Below.refl _ _).drew
      have hda:Below wg.heap.size wg (wg.drew.alloc (.cells #[.int .i64 xo,.int .i64 xa] 54)):=hdr.alloc (Nat.le_refl _) _
      have k0:=HS.out _ (bMg.step hdr) (bXg.step hdr)
      have k1:=HS.out _ (bMg.step hda) (bXg.step hda)
      have HGQ:=Lib.hid (HGg.out.step hda)
      have HCO:Hid (∀ V:World,V.ownsRow lo 36 5 (.slice (some ⟨gc,0,none⟩) (d+1) cC) (cs0 ++[(Core.mk oname jg jh ji jc)]).length (jf (cs0 ++[(Core.mk oname jg jh ji jc)]) (us ++[.slice oA oN oC]))→V.cell? ⟨gc,d * 5+4,none⟩=some (.slice oA oN oC)∧V.frozen? ⟨gc,d * 5+4,none⟩=false):=Lib.hid fun V hV=>by
       rw[HCD.out] at hV
       refine⟨(hV.cellAt (d * 5+4) (by omega)).trans ?_,hV.frozenAt _⟩
       rw[HD.out]
       exact aeo HUL.out
      have ld:=(HCO.out wg HGg.out.pq).1
      have ldd:wg.drew.cell? ⟨gc,d * 5+4,none⟩=some (.slice oA oN oC):=ld
      have ld1:=(HCO.out _ HGQ.out.pq).1
      have ld2:(wg.alloc (.cells #[.int .i64 xo,.int .i64 xa] 54)).drew.cell? ⟨gc,d * 5+4,none⟩=some (.slice oA oN oC):=ld1
      have HOWN:=Lib.hid (HGQ.out.gy)
      rw[show(Core.mk oname jg jh ji jc).code.length=oN from HON.out.symm] at HOWN
      have ni:Hid (uw (wg.drew.alloc (.cells #[.int .i64 xo,.int .i64 xa] 54)) (.slice (some ⟨wg.heap.size,0,none⟩) 1 1) 2 1 [.int .i64 xo,.int .i64 xa]):=.inr ⟨_,1,rfl,rfl,World.news_of_block (heap_alloc_new wg.drew _)⟩
      have hlg:lo≤wg.heap.size:=Nat.le_trans hlo HBg.out.size
      have hLQ:lo≤(wg.drew.alloc (.cells #[.int .i64 xo,.int .i64 xa] 54)).heap.size:=Nat.le_trans hlg hda.size
      refine wp_region_held_drew (S:=(fun w'=>w'.cell? ⟨bm,2,none⟩=some (.slice (some ⟨gc,0,none⟩) (d+1) cC)∧w'.cell? ⟨wf.heap.size,0,none⟩=some (.int .i64 xo)∧w'.cell? ⟨wf.heap.size,1,none⟩=some (.int .i64 xa))) (by kernel_rfl) k0 (fun hHeld=>?_)
      refine wpAnyH_take (i:=0) (oi:=_) (v:=_) (by simp only[List.getElem?_toArray,List.getElem?_cons_succ,List.getElem?_cons_zero];rfl) (by kernel_rfl) (by kernel_rfl) (by kernel_rfl) (by exact fun _ _ _ h=>h) (Or.inl ⟨by rfl,by intro w hSw;(try dsimp only at hSw);go_simp;try with_reducible rfl⟩) (by assumption) ?_
      try simp only[Act.put,List.setIfInBounds_toArray,List.set_cons_zero,List.set_cons_succ]
      refine wpAnyH_take (i:=1) (oi:=_) (v:=_) (by simp only[List.getElem?_toArray,List.getElem?_cons_succ,List.getElem?_cons_zero];rfl) (by kernel_rfl) (by kernel_rfl) (by kernel_rfl) (by exact fun _ _ _ h=>h) (Or.inl ⟨by rfl,by intro w hSw;(try dsimp only at hSw);go_simp;try with_reducible rfl⟩) (by assumption) ?_
      try simp only[Act.put,List.setIfInBounds_toArray,List.set_cons_zero,List.set_cons_succ]
      refine wpAnyH_take (i:=2) (oi:=_) (v:=_) (by simp only[List.getElem?_toArray,List.getElem?_cons_succ,List.getElem?_cons_zero];rfl) (by kernel_rfl) (by kernel_rfl) (by kernel_rfl) (by exact fun _ _ _ h=>h) (Or.inl ⟨by rfl,by intro w hSw;(try dsimp only at hSw);go_simp;try with_reducible rfl⟩) (by assumption) ?_
      try simp only[Act.put,List.setIfInBounds_toArray,List.set_cons_zero,List.set_cons_succ]
      refine wpAnyH_take (i:=3) (oi:=_) (v:=_) (by simp only[List.getElem?_toArray,List.getElem?_cons_succ,List.getElem?_cons_zero];rfl) (by kernel_rfl) (by kernel_rfl) (by kernel_rfl) (by exact fun _ _ _ h=>h) (Or.inl ⟨by rfl,by intro w hSw;(try dsimp only at hSw);go_simp;try with_reducible rfl⟩) (by assumption) ?_
      try simp only[Act.put,List.setIfInBounds_toArray,List.set_cons_zero,List.set_cons_succ]
      refine wpAnyH_take (i:=4) (oi:=_) (v:=_) (by simp only[List.getElem?_toArray,List.getElem?_cons_succ,List.getElem?_cons_zero];rfl) (by kernel_rfl) (by kernel_rfl) (by kernel_rfl) (by exact fun _ _ _ h=>h) (Or.inl ⟨by rfl,by intro w hSw;(try dsimp only at hSw);go_simp;try with_reducible rfl⟩) (by assumption) ?_
      try simp only[Act.put,List.setIfInBounds_toArray,List.set_cons_zero,List.set_cons_succ]
      refine wpAnyH_take (i:=5) (oi:=_) (v:=_) (by simp only[List.getElem?_toArray,List.getElem?_cons_succ,List.getElem?_cons_zero];rfl) (by kernel_rfl) (by kernel_rfl) (by kernel_rfl) (by exact fun _ _ _ h=>h) (Or.inl ⟨by rfl,by intro w hSw;(try dsimp only at hSw);go_simp;try with_reducible rfl⟩) (by assumption) ?_
      try simp only[Act.put,List.setIfInBounds_toArray,List.set_cons_zero,List.set_cons_succ]
      refine wpAnyH_take (i:=6) (oi:=_) (v:=_) (by simp only[List.getElem?_toArray,List.getElem?_cons_succ,List.getElem?_cons_zero];rfl) (by kernel_rfl) (by kernel_rfl) (by kernel_rfl) (by exact fun _ _ _ h=>h) (Or.inl ⟨by rfl,by intro w hSw;(try dsimp only at hSw);go_simp;try with_reducible rfl⟩) (by assumption) ?_
      try simp only[Act.put,List.setIfInBounds_toArray,List.set_cons_zero,List.set_cons_succ]
      refine wpAnyH_take (i:=7) (oi:=_) (v:=_) (by simp only[List.getElem?_toArray,List.getElem?_cons_succ,List.getElem?_cons_zero];rfl) (by kernel_rfl) (by kernel_rfl) (by kernel_rfl) (by exact fun _ _ _ h=>h) (Or.inl ⟨by rfl,by intro w hSw;(try dsimp only at hSw);go_simp;try with_reducible rfl⟩) (by assumption) ?_
      try simp only[Act.put,List.setIfInBounds_toArray,List.set_cons_zero,List.set_cons_succ]
      refine wpAnyH_take (i:=8) (oi:=_) (v:=_) (by simp only[List.getElem?_toArray,List.getElem?_cons_succ,List.getElem?_cons_zero];rfl) (by kernel_rfl) (by kernel_rfl) (by kernel_rfl) (by exact fun _ _ _ h=>h) (Or.inl ⟨by rfl,by intro w hSw;(try dsimp only at hSw);go_simp;try with_reducible rfl⟩) (by assumption) ?_
      try simp only[Act.put,List.setIfInBounds_toArray,List.set_cons_zero,List.set_cons_succ]
      refine wpAnyH_take (i:=9) (oi:=_) (v:=_) (by simp only[List.getElem?_toArray,List.getElem?_cons_succ,List.getElem?_cons_zero];rfl) (by kernel_rfl) (by kernel_rfl) (by kernel_rfl) (by exact fun _ _ _ h=>h) (Or.inl ⟨by rfl,by intro w hSw;(try dsimp only at hSw);go_simp;try with_reducible rfl⟩) (by assumption) ?_
      try simp only[Act.put,List.setIfInBounds_toArray,List.set_cons_zero,List.set_cons_succ]
      refine wpAnyH_take (i:=10) (oi:=_) (v:=_) (by simp only[List.getElem?_toArray,List.getElem?_cons_succ,List.getElem?_cons_zero];rfl) (by kernel_rfl) (by kernel_rfl) (by kernel_rfl) (by exact fun _ _ _ h=>h) (Or.inl ⟨by rfl,by intro w hSw;(try dsimp only at hSw);go_simp;try with_reducible rfl⟩) (by assumption) ?_
      try simp only[Act.put,List.setIfInBounds_toArray,List.set_cons_zero,List.set_cons_succ]
      refine wpAnyH_take (i:=11) (oi:=_) (v:=_) (by simp only[List.getElem?_toArray,List.getElem?_cons_succ,List.getElem?_cons_zero];rfl) (by kernel_rfl) (by kernel_rfl) (by kernel_rfl) (by exact fun _ _ _ h=>h) (Or.inl ⟨by rfl,by intro w hSw;(try dsimp only at hSw);go_simp;try with_reducible rfl⟩) (by assumption) ?_
      try simp only[Act.put,List.setIfInBounds_toArray,List.set_cons_zero,List.set_cons_succ]
      refine wpAnyH_take (i:=13) (oi:=_) (v:=_) (by simp only[List.getElem?_toArray,List.getElem?_cons_succ,List.getElem?_cons_zero];rfl) (by kernel_rfl) (by kernel_rfl) (by kernel_rfl) (by exact fun _ _ _ h=>h) (Or.inl ⟨by rfl,by intro w hSw;(try dsimp only at hSw);go_simp;try with_reducible rfl⟩) (by assumption) ?_
      try simp only[Act.put,List.setIfInBounds_toArray,List.set_cons_zero,List.set_cons_succ]
      refine wpAnyH_ready (rs:=[12,14]) (by kernel_rfl) (by simp) ?_
      refine AllReadyH.cons (o:=?a5v) ?ayn (fun K hK=>?ayo) (AllReadyH.cons (o:=?a5w) ?ayp (fun K hK=>?ayq) AllReadyH.nil)
      case ayn=>
       simp only[List.getElem?_toArray,List.getElem?_cons_succ,List.getElem?_cons_zero];rfl
      case ayp=>
       simp only[List.getElem?_toArray,List.getElem?_cons_succ,List.getElem?_cons_zero];rfl
      case ayo=>
       go_simp
       refine hK.out _ _ (by first|exact k0|go_keep) (fun hHeld=>?_)
       clear hK K
       try simp only[Act.put,List.setIfInBounds_toArray,List.set_cons_zero,List.set_cons_succ]
       refine wpAnyH_ready (rs:=[14]) (by kernel_rfl) (by simp) ?_
       refine AllReadyH.cons (o:=?o45) ?h45 (fun K hK=>?k45) AllReadyH.nil
       case h45=>
        simp only[List.getElem?_toArray,List.getElem?_cons_succ,List.getElem?_cons_zero];rfl
       go_simp
       refine hK.out _ _ (by first|exact k1|go_keep) (fun hHeld=>?_)
       clear hK K
       try simp only[Act.put,List.setIfInBounds_toArray,List.set_cons_zero,List.set_cons_succ]
       refine wpAnyH_ready (rs:=[15]) (by kernel_rfl) (by simp) ?_
       refine AllReadyH.cons (o:=?o46) ?h46 (fun K hK=>?k46) AllReadyH.nil
       case h46=>
        simp only[List.getElem?_toArray,List.getElem?_cons_succ,List.getElem?_cons_zero];rfl
       refine cu (by rfl) _ _ 34 (by rfl) lo 54 i1 (.agg #[.int .i64 0,.int .i64 0]) 2 16 Tryz.underlying34 hi1 hy0 hy1 hy2 rfl (by decide) (.slice oA oN oC) oN (jc.flatMap zi) (by rfl) HOWN.out (.slice (some ⟨wg.heap.size,0,none⟩) 1 1) 1 [.int .i64 xo,.int .i64 xa] (by rfl) ni.out (abt _ _) (by simp only[maxLen];omega) (by omega) hLQ ?_
       intro v' w3 hown' hgrow ig
       obtain⟨vA',vN',vC',rfl,-⟩:=(Own.lu hown').form
       have hrb:∀ b,b < lo→w3.heap[b]?=(wg.drew.alloc (.cells #[.int .i64 xo,.int .i64 xa] 54)).heap[b]?:=fun b hb=>hgrow.block b (Nat.lt_of_lt_of_le hb hLQ) (fun hne=>by have:=(HOWN.out.lt b hne.symm).1;omega)
       have hxb:w3.heap[wf.heap.size]?=(wg.drew.alloc (.cells #[.int .i64 xo,.int .i64 xa] 54)).heap[wf.heap.size]?:=hgrow.block _ (Nat.lt_of_lt_of_le aer hda.size) (fun hne=>by have h5:=(HGf.out.gy.lt _ hne.symm).2;omega)
       have bM3:Blk w3 (bm) 25 #[.int .i64 p,.slice iA is.length iC,.slice (some ⟨gc,0,none⟩) (d+1) cC]:=(hrb _ hbm).trans (bMg.step hda)
       have bX3:Blk w3 wf.heap.size 54 #[.int .i64 xo,.int .i64 xa]:=hxb.trans (bXg.step hda)
       have lk3:Lk lo bm (wg.drew.alloc (.cells #[.int .i64 xo,.int .i64 xa] 54)) w3:=Lk.grown hLQ HOWN.out hgrow
       have hmr:=HGQ.out.mid hown' hgrow ig
       have hmid:=HCO.out w3 hmr
       have z3:=hmid.1
       have f3:=hmid.2
       have HG4:=Lib.hid (HGQ.out.ins ⟨xo,xa⟩ (by rw[show(Core.mk oname jg jh ji jc).code.length=oN from HON.out.symm];exact hown') hgrow ig rfl)
       have hS3:=HS.out w3 bM3 bX3
       have bM4:=bM3.far (p:=⟨gc,d * 5+4,none⟩) (by simp only;omega) (.slice vA' vN' vC')
       have bX4:=bX3.far (p:=⟨gc,d * 5+4,none⟩) (by simp only;omega) (.slice vA' vN' vC')
       have hS4:=HS.out _ bM4 bX4
       have hblk:∃ cur z,w3.heap[gc]?=some (.cells cur 36 z):=ad9 hmr
       obtain⟨anl,cz,aaw⟩:=hblk
       have lk:=(((Lk.below (bm:=bm) hlo HBg.out).trans (Lk.below hlg hda)).trans lk3).trans (Lk.setCell aaw (.inr hgl) (d * 5+4) (.slice vA' vN' vC'))
       have HLK:=Lib.hid lk
       clear aaw hmr lk
       refine hK.out _ _ (by first|exact hS3|go_keep) (fun hHeld=>?_)
       clear hK K
       try simp only[Act.put,List.setIfInBounds_toArray,List.set_cons_zero,List.set_cons_succ]
       refine wpAnyH_take (i:=16) (oi:=_) (v:=_) (by simp only[List.getElem?_toArray,List.getElem?_cons_succ,List.getElem?_cons_zero];rfl) (by kernel_rfl) (by kernel_rfl) (by kernel_rfl) (by exact fun _ _ _ h=>h) (Or.inl ⟨by rfl,by intro w hSw;(try dsimp only at hSw);go_simp;try with_reducible rfl⟩) (by assumption) ?_
       try simp only[Act.put,List.setIfInBounds_toArray,List.set_cons_zero,List.set_cons_succ]
       refine wpAnyH_take (i:=17) (oi:=_) (v:=_) (by simp only[List.getElem?_toArray,List.getElem?_cons_succ,List.getElem?_cons_zero];rfl) (by kernel_rfl) (by kernel_rfl) (by kernel_rfl) (by exact fun _ _ _ h=>h) (Or.inl ⟨by rfl,by intro w hSw;(try dsimp only at hSw);go_simp;try with_reducible rfl⟩) (by assumption) ?_
       try simp only[Act.put,List.setIfInBounds_toArray,List.set_cons_zero,List.set_cons_succ]
       refine wpAnyH_ready (rs:=[18]) (by kernel_rfl) (by simp) ?_
       refine AllReadyH.cons (o:=?o47) ?h47 (fun K hK=>?k47) AllReadyH.nil
       case h47=>
        simp only[List.getElem?_toArray,List.getElem?_cons_succ,List.getElem?_cons_zero];rfl
       go_simp
       refine hK.out _ _ (by first|exact hS4|go_keep) (fun hHeld=>?_)
       clear hK K
       try simp only[Act.put,List.setIfInBounds_toArray,List.set_cons_zero,List.set_cons_succ]
       refine wpAnyH_done (by kernel_rfl) ?_ _
       go_wp2_with fail
       refine bodyPost_end (v:=.tuple #[]) (results_none Tryz.results15 _ _ _) rfl (uf (by rw[HF.out,qc]) (by have q:=HG4.out;rw[← HD.out] at q;exact q) bM4 HLK.out)
      case ayq=>
       go_simp
       refine hK.out _ _ (by first|exact k1|go_keep) (fun hHeld=>?_)
       clear hK K
       try simp only[Act.put,List.setIfInBounds_toArray,List.set_cons_zero,List.set_cons_succ]
       refine wpAnyH_ready (rs:=[12]) (by kernel_rfl) (by simp) ?_
       refine AllReadyH.cons (o:=?o48) ?h48 (fun K hK=>?k48) AllReadyH.nil
       case h48=>
        simp only[List.getElem?_toArray,List.getElem?_cons_succ,List.getElem?_cons_zero];rfl
       go_simp
       refine hK.out _ _ (by first|exact k1|go_keep) (fun hHeld=>?_)
       clear hK K
       try simp only[Act.put,List.setIfInBounds_toArray,List.set_cons_zero,List.set_cons_succ]
       refine wpAnyH_ready (rs:=[15]) (by kernel_rfl) (by simp) ?_
       refine AllReadyH.cons (o:=?o49) ?h49 (fun K hK=>?k49) AllReadyH.nil
       case h49=>
        simp only[List.getElem?_toArray,List.getElem?_cons_succ,List.getElem?_cons_zero];rfl
       refine cu (by rfl) _ _ 34 (by rfl) lo 54 i1 (.agg #[.int .i64 0,.int .i64 0]) 2 16 Tryz.underlying34 hi1 hy0 hy1 hy2 rfl (by decide) (.slice oA oN oC) oN (jc.flatMap zi) (by rfl) HOWN.out (.slice (some ⟨wg.heap.size,0,none⟩) 1 1) 1 [.int .i64 xo,.int .i64 xa] (by rfl) ni.out (abt _ _) (by simp only[maxLen];omega) (by omega) hLQ ?_
       intro v' w3 hown' hgrow ig
       obtain⟨vA',vN',vC',rfl,-⟩:=(Own.lu hown').form
       have hrb:∀ b,b < lo→w3.heap[b]?=(wg.drew.alloc (.cells #[.int .i64 xo,.int .i64 xa] 54)).heap[b]?:=fun b hb=>hgrow.block b (Nat.lt_of_lt_of_le hb hLQ) (fun hne=>by have:=(HOWN.out.lt b hne.symm).1;omega)
       have hxb:w3.heap[wf.heap.size]?=(wg.drew.alloc (.cells #[.int .i64 xo,.int .i64 xa] 54)).heap[wf.heap.size]?:=hgrow.block _ (Nat.lt_of_lt_of_le aer hda.size) (fun hne=>by have h5:=(HGf.out.gy.lt _ hne.symm).2;omega)
       have bM3:Blk w3 (bm) 25 #[.int .i64 p,.slice iA is.length iC,.slice (some ⟨gc,0,none⟩) (d+1) cC]:=(hrb _ hbm).trans (bMg.step hda)
       have bX3:Blk w3 wf.heap.size 54 #[.int .i64 xo,.int .i64 xa]:=hxb.trans (bXg.step hda)
       have lk3:Lk lo bm (wg.drew.alloc (.cells #[.int .i64 xo,.int .i64 xa] 54)) w3:=Lk.grown hLQ HOWN.out hgrow
       have hmr:=HGQ.out.mid hown' hgrow ig
       have hmid:=HCO.out w3 hmr
       have z3:=hmid.1
       have f3:=hmid.2
       have HG4:=Lib.hid (HGQ.out.ins ⟨xo,xa⟩ (by rw[show(Core.mk oname jg jh ji jc).code.length=oN from HON.out.symm];exact hown') hgrow ig rfl)
       have hS3:=HS.out w3 bM3 bX3
       have bM4:=bM3.far (p:=⟨gc,d * 5+4,none⟩) (by simp only;omega) (.slice vA' vN' vC')
       have bX4:=bX3.far (p:=⟨gc,d * 5+4,none⟩) (by simp only;omega) (.slice vA' vN' vC')
       have hS4:=HS.out _ bM4 bX4
       have hblk:∃ cur z,w3.heap[gc]?=some (.cells cur 36 z):=ad9 hmr
       obtain⟨anl,cz,aaw⟩:=hblk
       have lk:=(((Lk.below (bm:=bm) hlo HBg.out).trans (Lk.below hlg hda)).trans lk3).trans (Lk.setCell aaw (.inr hgl) (d * 5+4) (.slice vA' vN' vC'))
       have HLK:=Lib.hid lk
       clear aaw hmr lk
       refine hK.out _ _ (by first|exact hS3|go_keep) (fun hHeld=>?_)
       clear hK K
       try simp only[Act.put,List.setIfInBounds_toArray,List.set_cons_zero,List.set_cons_succ]
       refine wpAnyH_take (i:=16) (oi:=_) (v:=_) (by simp only[List.getElem?_toArray,List.getElem?_cons_succ,List.getElem?_cons_zero];rfl) (by kernel_rfl) (by kernel_rfl) (by kernel_rfl) (by exact fun _ _ _ h=>h) (Or.inl ⟨by rfl,by intro w hSw;(try dsimp only at hSw);go_simp;try with_reducible rfl⟩) (by assumption) ?_
       try simp only[Act.put,List.setIfInBounds_toArray,List.set_cons_zero,List.set_cons_succ]
       refine wpAnyH_take (i:=17) (oi:=_) (v:=_) (by simp only[List.getElem?_toArray,List.getElem?_cons_succ,List.getElem?_cons_zero];rfl) (by kernel_rfl) (by kernel_rfl) (by kernel_rfl) (by exact fun _ _ _ h=>h) (Or.inl ⟨by rfl,by intro w hSw;(try dsimp only at hSw);go_simp;try with_reducible rfl⟩) (by assumption) ?_
       try simp only[Act.put,List.setIfInBounds_toArray,List.set_cons_zero,List.set_cons_succ]
       refine wpAnyH_ready (rs:=[18]) (by kernel_rfl) (by simp) ?_
       refine AllReadyH.cons (o:=?o50) ?h50 (fun K hK=>?k50) AllReadyH.nil
       case h50=>
        simp only[List.getElem?_toArray,List.getElem?_cons_succ,List.getElem?_cons_zero];rfl
       go_simp
       refine hK.out _ _ (by first|exact hS4|go_keep) (fun hHeld=>?_)
       clear hK K
       try simp only[Act.put,List.setIfInBounds_toArray,List.set_cons_zero,List.set_cons_succ]
       refine wpAnyH_done (by kernel_rfl) ?_ _
       go_wp2_with fail
       refine bodyPost_end (v:=.tuple #[]) (results_none Tryz.results15 _ _ _) rfl (uf (by rw[HF.out,qc]) (by have q:=HG4.out;rw[← HD.out] at q;exact q) bM4 HLK.out)
     case inr.inl=>
      go_wp2_with fail
      refine(HRD.out wa HBa.out).mono ?_
      rintro e wf ⟨rfl,hbf⟩
      have bMf:=bMa.step hbf
      have HGf:=Lib.hid (HGa.out.step hbf)
      have HBf:=Lib.hid (HBa.out.trans (hbf.mono HBa.out.size))
      obtain⟨wg,hwg⟩:∃ V,V=wf.alloc (.cells #[.int .i64 xo,.int .i64 xa] 54):=⟨_,rfl⟩
      have hbg:Below wf.heap.size wf wg:=by rw[hwg];exact(Below.refl _ _).alloc (Nat.le_refl _) _
      have bXg:Blk wg wf.heap.size 54 #[.int .i64 xo,.int .i64 xa]:=by rw[hwg];exact Blk.new wf _ _
      have aer:wf.heap.size < wg.heap.size:=bXg.lt
      have bMg:=bMf.step hbg
      have HGg:=Lib.hid (HGf.out.step hbg)
      have HBg:=Lib.hid (HBf.out.trans (hbg.mono HBf.out.size))
      have as5:gc < wf.heap.size:=(HGf.out.pq.lt gc rfl).2
      have zf2:wf.cell? ⟨bm,2,none⟩=some (.slice (some ⟨gc,0,none⟩) (d+1) cC):=bMf.cell 2
      have zg2:(wf.alloc (.cells #[.int .i64 xo,.int .i64 xa] 54)).cell? ⟨bm,2,none⟩=some (.slice (some ⟨gc,0,none⟩) (d+1) cC):=by rw[← hwg];exact bMg.cell 2
      have HWG:=Lib.hid hwg
      clear hwg
      go_wp2_with fail
      rw[← HWG.out]
      clear zf2 zg2 z2 zw q0
      have HS:Hid (∀ V:World,Blk V (bm) 25 #[.int .i64 p,.slice iA is.length iC,.slice (some ⟨gc,0,none⟩) (d+1) cC]→Blk V wf.heap.size 54 #[.int .i64 xo,.int .i64 xa]→V.cell? ⟨bm,2,none⟩=some (.slice (some ⟨gc,0,none⟩) (d+1) cC)∧V.cell? ⟨wf.heap.size,0,none⟩=some (.int .i64 xo)∧V.cell? ⟨wf.heap.size,1,none⟩=some (.int .i64 xa)):=Lib.hid fun V h1 h2=>⟨h1.cell 2,h2.cell 0,h2.cell 1⟩
      have hdr:Below wg.heap.size wg wg.drew:=(Below.refl _ _).drew
      have hda:Below wg.heap.size wg (wg.drew.alloc (.cells #[.int .i64 xo,.int .i64 xa] 54)):=hdr.alloc (Nat.le_refl _) _
      have k0:=HS.out _ (bMg.step hdr) (bXg.step hdr)
      have k1:=HS.out _ (bMg.step hda) (bXg.step hda)
      have HGQ:=Lib.hid (HGg.out.step hda)
      have HCO:Hid (∀ V:World,V.ownsRow lo 36 5 (.slice (some ⟨gc,0,none⟩) (d+1) cC) (cs0 ++[(Core.mk oname jg jh ji jc)]).length (jf (cs0 ++[(Core.mk oname jg jh ji jc)]) (us ++[.slice oA oN oC]))→V.cell? ⟨gc,d * 5+4,none⟩=some (.slice oA oN oC)∧V.frozen? ⟨gc,d * 5+4,none⟩=false):=Lib.hid fun V hV=>by
       rw[HCD.out] at hV
       refine⟨(hV.cellAt (d * 5+4) (by omega)).trans ?_,hV.frozenAt _⟩
       rw[HD.out]
       exact aeo HUL.out
      have ld:=(HCO.out wg HGg.out.pq).1
      have ldd:wg.drew.cell? ⟨gc,d * 5+4,none⟩=some (.slice oA oN oC):=ld
      have ld1:=(HCO.out _ HGQ.out.pq).1
      have ld2:(wg.alloc (.cells #[.int .i64 xo,.int .i64 xa] 54)).drew.cell? ⟨gc,d * 5+4,none⟩=some (.slice oA oN oC):=ld1
      have HOWN:=Lib.hid (HGQ.out.gy)
      rw[show(Core.mk oname jg jh ji jc).code.length=oN from HON.out.symm] at HOWN
      have ni:Hid (uw (wg.drew.alloc (.cells #[.int .i64 xo,.int .i64 xa] 54)) (.slice (some ⟨wg.heap.size,0,none⟩) 1 1) 2 1 [.int .i64 xo,.int .i64 xa]):=.inr ⟨_,1,rfl,rfl,World.news_of_block (heap_alloc_new wg.drew _)⟩
      have hlg:lo≤wg.heap.size:=Nat.le_trans hlo HBg.out.size
      have hLQ:lo≤(wg.drew.alloc (.cells #[.int .i64 xo,.int .i64 xa] 54)).heap.size:=Nat.le_trans hlg hda.size
      refine wp_region_held_drew (S:=(fun w'=>w'.cell? ⟨bm,2,none⟩=some (.slice (some ⟨gc,0,none⟩) (d+1) cC)∧w'.cell? ⟨wf.heap.size,0,none⟩=some (.int .i64 xo)∧w'.cell? ⟨wf.heap.size,1,none⟩=some (.int .i64 xa))) (by kernel_rfl) k0 (fun hHeld=>?_)
      refine wpAnyH_take (i:=0) (oi:=_) (v:=_) (by simp only[List.getElem?_toArray,List.getElem?_cons_succ,List.getElem?_cons_zero];rfl) (by kernel_rfl) (by kernel_rfl) (by kernel_rfl) (by exact fun _ _ _ h=>h) (Or.inl ⟨by rfl,by intro w hSw;(try dsimp only at hSw);go_simp;try with_reducible rfl⟩) (by assumption) ?_
      try simp only[Act.put,List.setIfInBounds_toArray,List.set_cons_zero,List.set_cons_succ]
      refine wpAnyH_take (i:=1) (oi:=_) (v:=_) (by simp only[List.getElem?_toArray,List.getElem?_cons_succ,List.getElem?_cons_zero];rfl) (by kernel_rfl) (by kernel_rfl) (by kernel_rfl) (by exact fun _ _ _ h=>h) (Or.inl ⟨by rfl,by intro w hSw;(try dsimp only at hSw);go_simp;try with_reducible rfl⟩) (by assumption) ?_
      try simp only[Act.put,List.setIfInBounds_toArray,List.set_cons_zero,List.set_cons_succ]
      refine wpAnyH_take (i:=2) (oi:=_) (v:=_) (by simp only[List.getElem?_toArray,List.getElem?_cons_succ,List.getElem?_cons_zero];rfl) (by kernel_rfl) (by kernel_rfl) (by kernel_rfl) (by exact fun _ _ _ h=>h) (Or.inl ⟨by rfl,by intro w hSw;(try dsimp only at hSw);go_simp;try with_reducible rfl⟩) (by assumption) ?_
      try simp only[Act.put,List.setIfInBounds_toArray,List.set_cons_zero,List.set_cons_succ]
      refine wpAnyH_take (i:=3) (oi:=_) (v:=_) (by simp only[List.getElem?_toArray,List.getElem?_cons_succ,List.getElem?_cons_zero];rfl) (by kernel_rfl) (by kernel_rfl) (by kernel_rfl) (by exact fun _ _ _ h=>h) (Or.inl ⟨by rfl,by intro w hSw;(try dsimp only at hSw);go_simp;try with_reducible rfl⟩) (by assumption) ?_
      try simp only[Act.put,List.setIfInBounds_toArray,List.set_cons_zero,List.set_cons_succ]
      refine wpAnyH_take (i:=4) (oi:=_) (v:=_) (by simp only[List.getElem?_toArray,List.getElem?_cons_succ,List.getElem?_cons_zero];rfl) (by kernel_rfl) (by kernel_rfl) (by kernel_rfl) (by exact fun _ _ _ h=>h) (Or.inl ⟨by rfl,by intro w hSw;(try dsimp only at hSw);go_simp;try with_reducible rfl⟩) (by assumption) ?_
      try simp only[Act.put,List.setIfInBounds_toArray,List.set_cons_zero,List.set_cons_succ]
      refine wpAnyH_take (i:=5) (oi:=_) (v:=_) (by simp only[List.getElem?_toArray,List.getElem?_cons_succ,List.getElem?_cons_zero];rfl) (by kernel_rfl) (by kernel_rfl) (by kernel_rfl) (by exact fun _ _ _ h=>h) (Or.inl ⟨by rfl,by intro w hSw;(try dsimp only at hSw);go_simp;try with_reducible rfl⟩) (by assumption) ?_
      try simp only[Act.put,List.setIfInBounds_toArray,List.set_cons_zero,List.set_cons_succ]
      refine wpAnyH_take (i:=6) (oi:=_) (v:=_) (by simp only[List.getElem?_toArray,List.getElem?_cons_succ,List.getElem?_cons_zero];rfl) (by kernel_rfl) (by kernel_rfl) (by kernel_rfl) (by exact fun _ _ _ h=>h) (Or.inl ⟨by rfl,by intro w hSw;(try dsimp only at hSw);go_simp;try with_reducible rfl⟩) (by assumption) ?_
      try simp only[Act.put,List.setIfInBounds_toArray,List.set_cons_zero,List.set_cons_succ]
      refine wpAnyH_take (i:=7) (oi:=_) (v:=_) (by simp only[List.getElem?_toArray,List.getElem?_cons_succ,List.getElem?_cons_zero];rfl) (by kernel_rfl) (by kernel_rfl) (by kernel_rfl) (by exact fun _ _ _ h=>h) (Or.inl ⟨by rfl,by intro w hSw;(try dsimp only at hSw);go_simp;try with_reducible rfl⟩) (by assumption) ?_
      try simp only[Act.put,List.setIfInBounds_toArray,List.set_cons_zero,List.set_cons_succ]
      refine wpAnyH_take (i:=8) (oi:=_) (v:=_) (by simp only[List.getElem?_toArray,List.getElem?_cons_succ,List.getElem?_cons_zero];rfl) (by kernel_rfl) (by kernel_rfl) (by kernel_rfl) (by exact fun _ _ _ h=>h) (Or.inl ⟨by rfl,by intro w hSw;(try dsimp only at hSw);go_simp;try with_reducible rfl⟩) (by assumption) ?_
      try simp only[Act.put,List.setIfInBounds_toArray,List.set_cons_zero,List.set_cons_succ]
      refine wpAnyH_take (i:=9) (oi:=_) (v:=_) (by simp only[List.getElem?_toArray,List.getElem?_cons_succ,List.getElem?_cons_zero];rfl) (by kernel_rfl) (by kernel_rfl) (by kernel_rfl) (by exact fun _ _ _ h=>h) (Or.inl ⟨by rfl,by intro w hSw;(try dsimp only at hSw);go_simp;try with_reducible rfl⟩) (by assumption) ?_
      try simp only[Act.put,List.setIfInBounds_toArray,List.set_cons_zero,List.set_cons_succ]
      refine wpAnyH_take (i:=10) (oi:=_) (v:=_) (by simp only[List.getElem?_toArray,List.getElem?_cons_succ,List.getElem?_cons_zero];rfl) (by kernel_rfl) (by kernel_rfl) (by kernel_rfl) (by exact fun _ _ _ h=>h) (Or.inl ⟨by rfl,by intro w hSw;(try dsimp only at hSw);go_simp;try with_reducible rfl⟩) (by assumption) ?_
      try simp only[Act.put,List.setIfInBounds_toArray,List.set_cons_zero,List.set_cons_succ]
      refine wpAnyH_take (i:=11) (oi:=_) (v:=_) (by simp only[List.getElem?_toArray,List.getElem?_cons_succ,List.getElem?_cons_zero];rfl) (by kernel_rfl) (by kernel_rfl) (by kernel_rfl) (by exact fun _ _ _ h=>h) (Or.inl ⟨by rfl,by intro w hSw;(try dsimp only at hSw);go_simp;try with_reducible rfl⟩) (by assumption) ?_
      try simp only[Act.put,List.setIfInBounds_toArray,List.set_cons_zero,List.set_cons_succ]
      refine wpAnyH_take (i:=13) (oi:=_) (v:=_) (by simp only[List.getElem?_toArray,List.getElem?_cons_succ,List.getElem?_cons_zero];rfl) (by kernel_rfl) (by kernel_rfl) (by kernel_rfl) (by exact fun _ _ _ h=>h) (Or.inl ⟨by rfl,by intro w hSw;(try dsimp only at hSw);go_simp;try with_reducible rfl⟩) (by assumption) ?_
      try simp only[Act.put,List.setIfInBounds_toArray,List.set_cons_zero,List.set_cons_succ]
      refine wpAnyH_ready (rs:=[12,14]) (by kernel_rfl) (by simp) ?_
      refine AllReadyH.cons (o:=?a5x) ?ayr (fun K hK=>?ays) (AllReadyH.cons (o:=?a5y) ?ayt (fun K hK=>?ayu) AllReadyH.nil)
      case ayr=>
       simp only[List.getElem?_toArray,List.getElem?_cons_succ,List.getElem?_cons_zero];rfl
      case ayt=>
       simp only[List.getElem?_toArray,List.getElem?_cons_succ,List.getElem?_cons_zero];rfl
      case ays=>
       go_simp
       refine hK.out _ _ (by first|exact k0|go_keep) (fun hHeld=>?_)
       clear hK K
       try simp only[Act.put,List.setIfInBounds_toArray,List.set_cons_zero,List.set_cons_succ]
       refine wpAnyH_ready (rs:=[14]) (by kernel_rfl) (by simp) ?_
       refine AllReadyH.cons (o:=?o52) ?h52 (fun K hK=>?k52) AllReadyH.nil
       case h52=>
        simp only[List.getElem?_toArray,List.getElem?_cons_succ,List.getElem?_cons_zero];rfl
       go_simp
       refine hK.out _ _ (by first|exact k1|go_keep) (fun hHeld=>?_)
       clear hK K
       try simp only[Act.put,List.setIfInBounds_toArray,List.set_cons_zero,List.set_cons_succ]
       refine wpAnyH_ready (rs:=[15]) (by kernel_rfl) (by simp) ?_
       refine AllReadyH.cons (o:=?o53) ?h53 (fun K hK=>?k53) AllReadyH.nil
       case h53=>
        simp only[List.getElem?_toArray,List.getElem?_cons_succ,List.getElem?_cons_zero];rfl
       refine cu (by rfl) _ _ 34 (by rfl) lo 54 i1 (.agg #[.int .i64 0,.int .i64 0]) 2 16 Tryz.underlying34 hi1 hy0 hy1 hy2 rfl (by decide) (.slice oA oN oC) oN (jc.flatMap zi) (by rfl) HOWN.out (.slice (some ⟨wg.heap.size,0,none⟩) 1 1) 1 [.int .i64 xo,.int .i64 xa] (by rfl) ni.out (abt _ _) (by simp only[maxLen];omega) (by omega) hLQ ?_
       intro v' w3 hown' hgrow ig
       obtain⟨vA',vN',vC',rfl,-⟩:=(Own.lu hown').form
       have hrb:∀ b,b < lo→w3.heap[b]?=(wg.drew.alloc (.cells #[.int .i64 xo,.int .i64 xa] 54)).heap[b]?:=fun b hb=>hgrow.block b (Nat.lt_of_lt_of_le hb hLQ) (fun hne=>by have:=(HOWN.out.lt b hne.symm).1;omega)
       have hxb:w3.heap[wf.heap.size]?=(wg.drew.alloc (.cells #[.int .i64 xo,.int .i64 xa] 54)).heap[wf.heap.size]?:=hgrow.block _ (Nat.lt_of_lt_of_le aer hda.size) (fun hne=>by have h5:=(HGf.out.gy.lt _ hne.symm).2;omega)
       have bM3:Blk w3 (bm) 25 #[.int .i64 p,.slice iA is.length iC,.slice (some ⟨gc,0,none⟩) (d+1) cC]:=(hrb _ hbm).trans (bMg.step hda)
       have bX3:Blk w3 wf.heap.size 54 #[.int .i64 xo,.int .i64 xa]:=hxb.trans (bXg.step hda)
       have lk3:Lk lo bm (wg.drew.alloc (.cells #[.int .i64 xo,.int .i64 xa] 54)) w3:=Lk.grown hLQ HOWN.out hgrow
       have hmr:=HGQ.out.mid hown' hgrow ig
       have hmid:=HCO.out w3 hmr
       have z3:=hmid.1
       have f3:=hmid.2
       have HG4:=Lib.hid (HGQ.out.ins ⟨xo,xa⟩ (by rw[show(Core.mk oname jg jh ji jc).code.length=oN from HON.out.symm];exact hown') hgrow ig rfl)
       have hS3:=HS.out w3 bM3 bX3
       have bM4:=bM3.far (p:=⟨gc,d * 5+4,none⟩) (by simp only;omega) (.slice vA' vN' vC')
       have bX4:=bX3.far (p:=⟨gc,d * 5+4,none⟩) (by simp only;omega) (.slice vA' vN' vC')
       have hS4:=HS.out _ bM4 bX4
       have hblk:∃ cur z,w3.heap[gc]?=some (.cells cur 36 z):=ad9 hmr
       obtain⟨anl,cz,aaw⟩:=hblk
       have lk:=(((Lk.below (bm:=bm) hlo HBg.out).trans (Lk.below hlg hda)).trans lk3).trans (Lk.setCell aaw (.inr hgl) (d * 5+4) (.slice vA' vN' vC'))
       have HLK:=Lib.hid lk
       clear aaw hmr lk
       refine hK.out _ _ (by first|exact hS3|go_keep) (fun hHeld=>?_)
       clear hK K
       try simp only[Act.put,List.setIfInBounds_toArray,List.set_cons_zero,List.set_cons_succ]
       refine wpAnyH_take (i:=16) (oi:=_) (v:=_) (by simp only[List.getElem?_toArray,List.getElem?_cons_succ,List.getElem?_cons_zero];rfl) (by kernel_rfl) (by kernel_rfl) (by kernel_rfl) (by exact fun _ _ _ h=>h) (Or.inl ⟨by rfl,by intro w hSw;(try dsimp only at hSw);go_simp;try with_reducible rfl⟩) (by assumption) ?_
       try simp only[Act.put,List.setIfInBounds_toArray,List.set_cons_zero,List.set_cons_succ]
       refine wpAnyH_take (i:=17) (oi:=_) (v:=_) (by simp only[List.getElem?_toArray,List.getElem?_cons_succ,List.getElem?_cons_zero];rfl) (by kernel_rfl) (by kernel_rfl) (by kernel_rfl) (by exact fun _ _ _ h=>h) (Or.inl ⟨by rfl,by intro w hSw;(try dsimp only at hSw);go_simp;try with_reducible rfl⟩) (by assumption) ?_
       try simp only[Act.put,List.setIfInBounds_toArray,List.set_cons_zero,List.set_cons_succ]
       refine wpAnyH_ready (rs:=[18]) (by kernel_rfl) (by simp) ?_
       refine AllReadyH.cons (o:=?o54) ?h54 (fun K hK=>?k54) AllReadyH.nil
       case h54=>
        simp only[List.getElem?_toArray,List.getElem?_cons_succ,List.getElem?_cons_zero];rfl
       go_simp
       refine hK.out _ _ (by first|exact hS4|go_keep) (fun hHeld=>?_)
       clear hK K
       try simp only[Act.put,List.setIfInBounds_toArray,List.set_cons_zero,List.set_cons_succ]
       refine wpAnyH_done (by kernel_rfl) ?_ _
       go_wp2_with fail
       refine bodyPost_end (v:=.tuple #[]) (results_none Tryz.results15 _ _ _) rfl (uf (by rw[HF.out,qc]) (by have q:=HG4.out;rw[← HD.out] at q;exact q) bM4 HLK.out)
      case ayu=>
       go_simp
       refine hK.out _ _ (by first|exact k1|go_keep) (fun hHeld=>?_)
       clear hK K
       try simp only[Act.put,List.setIfInBounds_toArray,List.set_cons_zero,List.set_cons_succ]
       refine wpAnyH_ready (rs:=[12]) (by kernel_rfl) (by simp) ?_
       refine AllReadyH.cons (o:=?o55) ?h55 (fun K hK=>?k55) AllReadyH.nil
       case h55=>
        simp only[List.getElem?_toArray,List.getElem?_cons_succ,List.getElem?_cons_zero];rfl
       go_simp
       refine hK.out _ _ (by first|exact k1|go_keep) (fun hHeld=>?_)
       clear hK K
       try simp only[Act.put,List.setIfInBounds_toArray,List.set_cons_zero,List.set_cons_succ]
       refine wpAnyH_ready (rs:=[15]) (by kernel_rfl) (by simp) ?_
       refine AllReadyH.cons (o:=?o56) ?h56 (fun K hK=>?k56) AllReadyH.nil
       case h56=>
        simp only[List.getElem?_toArray,List.getElem?_cons_succ,List.getElem?_cons_zero];rfl
       refine cu (by rfl) _ _ 34 (by rfl) lo 54 i1 (.agg #[.int .i64 0,.int .i64 0]) 2 16 Tryz.underlying34 hi1 hy0 hy1 hy2 rfl (by decide) (.slice oA oN oC) oN (jc.flatMap zi) (by rfl) HOWN.out (.slice (some ⟨wg.heap.size,0,none⟩) 1 1) 1 [.int .i64 xo,.int .i64 xa] (by rfl) ni.out (abt _ _) (by simp only[maxLen];omega) (by omega) hLQ ?_
       intro v' w3 hown' hgrow ig
       obtain⟨vA',vN',vC',rfl,-⟩:=(Own.lu hown').form
       have hrb:∀ b,b < lo→w3.heap[b]?=(wg.drew.alloc (.cells #[.int .i64 xo,.int .i64 xa] 54)).heap[b]?:=fun b hb=>hgrow.block b (Nat.lt_of_lt_of_le hb hLQ) (fun hne=>by have:=(HOWN.out.lt b hne.symm).1;omega)
       have hxb:w3.heap[wf.heap.size]?=(wg.drew.alloc (.cells #[.int .i64 xo,.int .i64 xa] 54)).heap[wf.heap.size]?:=hgrow.block _ (Nat.lt_of_lt_of_le aer hda.size) (fun hne=>by have h5:=(HGf.out.gy.lt _ hne.symm).2;omega)
       have bM3:Blk w3 (bm) 25 #[.int .i64 p,.slice iA is.length iC,.slice (some ⟨gc,0,none⟩) (d+1) cC]:=(hrb _ hbm).trans (bMg.step hda)
       have bX3:Blk w3 wf.heap.size 54 #[.int .i64 xo,.int .i64 xa]:=hxb.trans (bXg.step hda)
       have lk3:Lk lo bm (wg.drew.alloc (.cells #[.int .i64 xo,.int .i64 xa] 54)) w3:=Lk.grown hLQ HOWN.out hgrow
       have hmr:=HGQ.out.mid hown' hgrow ig
       have hmid:=HCO.out w3 hmr
       have z3:=hmid.1
       have f3:=hmid.2
       have HG4:=Lib.hid (HGQ.out.ins ⟨xo,xa⟩ (by rw[show(Core.mk oname jg jh ji jc).code.length=oN from HON.out.symm];exact hown') hgrow ig rfl)
       have hS3:=HS.out w3 bM3 bX3
       have bM4:=bM3.far (p:=⟨gc,d * 5+4,none⟩) (by simp only;omega) (.slice vA' vN' vC')
       have bX4:=bX3.far (p:=⟨gc,d * 5+4,none⟩) (by simp only;omega) (.slice vA' vN' vC')
       have hS4:=HS.out _ bM4 bX4
       have hblk:∃ cur z,w3.heap[gc]?=some (.cells cur 36 z):=ad9 hmr
       obtain⟨anl,cz,aaw⟩:=hblk
       have lk:=(((Lk.below (bm:=bm) hlo HBg.out).trans (Lk.below hlg hda)).trans lk3).trans (Lk.setCell aaw (.inr hgl) (d * 5+4) (.slice vA' vN' vC'))
       have HLK:=Lib.hid lk
       clear aaw hmr lk
       refine hK.out _ _ (by first|exact hS3|go_keep) (fun hHeld=>?_)
       clear hK K
       try simp only[Act.put,List.setIfInBounds_toArray,List.set_cons_zero,List.set_cons_succ]
       refine wpAnyH_take (i:=16) (oi:=_) (v:=_) (by simp only[List.getElem?_toArray,List.getElem?_cons_succ,List.getElem?_cons_zero];rfl) (by kernel_rfl) (by kernel_rfl) (by kernel_rfl) (by exact fun _ _ _ h=>h) (Or.inl ⟨by rfl,by intro w hSw;(try dsimp only at hSw);go_simp;try with_reducible rfl⟩) (by assumption) ?_
       try simp only[Act.put,List.setIfInBounds_toArray,List.set_cons_zero,List.set_cons_succ]
       refine wpAnyH_take (i:=17) (oi:=_) (v:=_) (by simp only[List.getElem?_toArray,List.getElem?_cons_succ,List.getElem?_cons_zero];rfl) (by kernel_rfl) (by kernel_rfl) (by kernel_rfl) (by exact fun _ _ _ h=>h) (Or.inl ⟨by rfl,by intro w hSw;(try dsimp only at hSw);go_simp;try with_reducible rfl⟩) (by assumption) ?_
       try simp only[Act.put,List.setIfInBounds_toArray,List.set_cons_zero,List.set_cons_succ]
       refine wpAnyH_ready (rs:=[18]) (by kernel_rfl) (by simp) ?_
       refine AllReadyH.cons (o:=?o57) ?h57 (fun K hK=>?k57) AllReadyH.nil
       case h57=>
        simp only[List.getElem?_toArray,List.getElem?_cons_succ,List.getElem?_cons_zero];rfl
       go_simp
       refine hK.out _ _ (by first|exact hS4|go_keep) (fun hHeld=>?_)
       clear hK K
       try simp only[Act.put,List.setIfInBounds_toArray,List.set_cons_zero,List.set_cons_succ]
       refine wpAnyH_done (by kernel_rfl) ?_ _
       go_wp2_with fail
       refine bodyPost_end (v:=.tuple #[]) (results_none Tryz.results15 _ _ _) rfl (uf (by rw[HF.out,qc]) (by have q:=HG4.out;rw[← HD.out] at q;exact q) bM4 HLK.out)
     case inr.inr=>
      go_wp2_with fail
      refine(HRD.out wa HBa.out).mono ?_
      rintro e wf ⟨rfl,hbf⟩
      have bMf:=bMa.step hbf
      have HGf:=Lib.hid (HGa.out.step hbf)
      have HBf:=Lib.hid (HBa.out.trans (hbf.mono HBa.out.size))
      obtain⟨wg,hwg⟩:∃ V,V=wf.alloc (.cells #[.int .i64 xo,.int .i64 xa] 54):=⟨_,rfl⟩
      have hbg:Below wf.heap.size wf wg:=by rw[hwg];exact(Below.refl _ _).alloc (Nat.le_refl _) _
      have bXg:Blk wg wf.heap.size 54 #[.int .i64 xo,.int .i64 xa]:=by rw[hwg];exact Blk.new wf _ _
      have aer:wf.heap.size < wg.heap.size:=bXg.lt
      have bMg:=bMf.step hbg
      have HGg:=Lib.hid (HGf.out.step hbg)
      have HBg:=Lib.hid (HBf.out.trans (hbg.mono HBf.out.size))
      have as5:gc < wf.heap.size:=(HGf.out.pq.lt gc rfl).2
      have zf2:wf.cell? ⟨bm,2,none⟩=some (.slice (some ⟨gc,0,none⟩) (d+1) cC):=bMf.cell 2
      have zg2:(wf.alloc (.cells #[.int .i64 xo,.int .i64 xa] 54)).cell? ⟨bm,2,none⟩=some (.slice (some ⟨gc,0,none⟩) (d+1) cC):=by rw[← hwg];exact bMg.cell 2
      have HWG:=Lib.hid hwg
      clear hwg
      go_wp2_with fail
      rw[← HWG.out]
      clear zf2 zg2 z2 zw q0
      have HS:Hid (∀ V:World,Blk V (bm) 25 #[.int .i64 p,.slice iA is.length iC,.slice (some ⟨gc,0,none⟩) (d+1) cC]→Blk V wf.heap.size 54 #[.int .i64 xo,.int .i64 xa]→V.cell? ⟨bm,2,none⟩=some (.slice (some ⟨gc,0,none⟩) (d+1) cC)∧V.cell? ⟨wf.heap.size,0,none⟩=some (.int .i64 xo)∧V.cell? ⟨wf.heap.size,1,none⟩=some (.int .i64 xa)):=Lib.hid fun V h1 h2=>⟨h1.cell 2,h2.cell 0,h2.cell 1⟩
      have hdr:Below wg.heap.size wg wg.drew:=(Below.refl _ _).drew
      have hda:Below wg.heap.size wg (wg.drew.alloc (.cells #[.int .i64 xo,.int .i64 xa] 54)):=hdr.alloc (Nat.le_refl _) _
      have k0:=HS.out _ (bMg.step hdr) (bXg.step hdr)
      have k1:=HS.out _ (bMg.step hda) (bXg.step hda)
      have HGQ:=Lib.hid (HGg.out.step hda)
      have HCO:Hid (∀ V:World,V.ownsRow lo 36 5 (.slice (some ⟨gc,0,none⟩) (d+1) cC) (cs0 ++[(Core.mk oname jg jh ji jc)]).length (jf (cs0 ++[(Core.mk oname jg jh ji jc)]) (us ++[.slice oA oN oC]))→V.cell? ⟨gc,d * 5+4,none⟩=some (.slice oA oN oC)∧V.frozen? ⟨gc,d * 5+4,none⟩=false):=Lib.hid fun V hV=>by
       rw[HCD.out] at hV
       refine⟨(hV.cellAt (d * 5+4) (by omega)).trans ?_,hV.frozenAt _⟩
       rw[HD.out]
       exact aeo HUL.out
      have ld:=(HCO.out wg HGg.out.pq).1
      have ldd:wg.drew.cell? ⟨gc,d * 5+4,none⟩=some (.slice oA oN oC):=ld
      have ld1:=(HCO.out _ HGQ.out.pq).1
      have ld2:(wg.alloc (.cells #[.int .i64 xo,.int .i64 xa] 54)).drew.cell? ⟨gc,d * 5+4,none⟩=some (.slice oA oN oC):=ld1
      have HOWN:=Lib.hid (HGQ.out.gy)
      rw[show(Core.mk oname jg jh ji jc).code.length=oN from HON.out.symm] at HOWN
      have ni:Hid (uw (wg.drew.alloc (.cells #[.int .i64 xo,.int .i64 xa] 54)) (.slice (some ⟨wg.heap.size,0,none⟩) 1 1) 2 1 [.int .i64 xo,.int .i64 xa]):=.inr ⟨_,1,rfl,rfl,World.news_of_block (heap_alloc_new wg.drew _)⟩
      have hlg:lo≤wg.heap.size:=Nat.le_trans hlo HBg.out.size
      have hLQ:lo≤(wg.drew.alloc (.cells #[.int .i64 xo,.int .i64 xa] 54)).heap.size:=Nat.le_trans hlg hda.size
      refine wp_region_held_drew (S:=(fun w'=>w'.cell? ⟨bm,2,none⟩=some (.slice (some ⟨gc,0,none⟩) (d+1) cC)∧w'.cell? ⟨wf.heap.size,0,none⟩=some (.int .i64 xo)∧w'.cell? ⟨wf.heap.size,1,none⟩=some (.int .i64 xa))) (by kernel_rfl) k0 (fun hHeld=>?_)
      refine wpAnyH_take (i:=0) (oi:=_) (v:=_) (by simp only[List.getElem?_toArray,List.getElem?_cons_succ,List.getElem?_cons_zero];rfl) (by kernel_rfl) (by kernel_rfl) (by kernel_rfl) (by exact fun _ _ _ h=>h) (Or.inl ⟨by rfl,by intro w hSw;(try dsimp only at hSw);go_simp;try with_reducible rfl⟩) (by assumption) ?_
      try simp only[Act.put,List.setIfInBounds_toArray,List.set_cons_zero,List.set_cons_succ]
      refine wpAnyH_take (i:=1) (oi:=_) (v:=_) (by simp only[List.getElem?_toArray,List.getElem?_cons_succ,List.getElem?_cons_zero];rfl) (by kernel_rfl) (by kernel_rfl) (by kernel_rfl) (by exact fun _ _ _ h=>h) (Or.inl ⟨by rfl,by intro w hSw;(try dsimp only at hSw);go_simp;try with_reducible rfl⟩) (by assumption) ?_
      try simp only[Act.put,List.setIfInBounds_toArray,List.set_cons_zero,List.set_cons_succ]
      refine wpAnyH_take (i:=2) (oi:=_) (v:=_) (by simp only[List.getElem?_toArray,List.getElem?_cons_succ,List.getElem?_cons_zero];rfl) (by kernel_rfl) (by kernel_rfl) (by kernel_rfl) (by exact fun _ _ _ h=>h) (Or.inl ⟨by rfl,by intro w hSw;(try dsimp only at hSw);go_simp;try with_reducible rfl⟩) (by assumption) ?_
      try simp only[Act.put,List.setIfInBounds_toArray,List.set_cons_zero,List.set_cons_succ]
      refine wpAnyH_take (i:=3) (oi:=_) (v:=_) (by simp only[List.getElem?_toArray,List.getElem?_cons_succ,List.getElem?_cons_zero];rfl) (by kernel_rfl) (by kernel_rfl) (by kernel_rfl) (by exact fun _ _ _ h=>h) (Or.inl ⟨by rfl,by intro w hSw;(try dsimp only at hSw);go_simp;try with_reducible rfl⟩) (by assumption) ?_
      try simp only[Act.put,List.setIfInBounds_toArray,List.set_cons_zero,List.set_cons_succ]
      refine wpAnyH_take (i:=4) (oi:=_) (v:=_) (by simp only[List.getElem?_toArray,List.getElem?_cons_succ,List.getElem?_cons_zero];rfl) (by kernel_rfl) (by kernel_rfl) (by kernel_rfl) (by exact fun _ _ _ h=>h) (Or.inl ⟨by rfl,by intro w hSw;(try dsimp only at hSw);go_simp;try with_reducible rfl⟩) (by assumption) ?_
      try simp only[Act.put,List.setIfInBounds_toArray,List.set_cons_zero,List.set_cons_succ]
      refine wpAnyH_take (i:=5) (oi:=_) (v:=_) (by simp only[List.getElem?_toArray,List.getElem?_cons_succ,List.getElem?_cons_zero];rfl) (by kernel_rfl) (by kernel_rfl) (by kernel_rfl) (by exact fun _ _ _ h=>h) (Or.inl ⟨by rfl,by intro w hSw;(try dsimp only at hSw);go_simp;try with_reducible rfl⟩) (by assumption) ?_
      try simp only[Act.put,List.setIfInBounds_toArray,List.set_cons_zero,List.set_cons_succ]
      refine wpAnyH_take (i:=6) (oi:=_) (v:=_) (by simp only[List.getElem?_toArray,List.getElem?_cons_succ,List.getElem?_cons_zero];rfl) (by kernel_rfl) (by kernel_rfl) (by kernel_rfl) (by exact fun _ _ _ h=>h) (Or.inl ⟨by rfl,by intro w hSw;(try dsimp only at hSw);go_simp;try with_reducible rfl⟩) (by assumption) ?_
      try simp only[Act.put,List.setIfInBounds_toArray,List.set_cons_zero,List.set_cons_succ]
      refine wpAnyH_take (i:=7) (oi:=_) (v:=_) (by simp only[List.getElem?_toArray,List.getElem?_cons_succ,List.getElem?_cons_zero];rfl) (by kernel_rfl) (by kernel_rfl) (by kernel_rfl) (by exact fun _ _ _ h=>h) (Or.inl ⟨by rfl,by intro w hSw;(try dsimp only at hSw);go_simp;try with_reducible rfl⟩) (by assumption) ?_
      try simp only[Act.put,List.setIfInBounds_toArray,List.set_cons_zero,List.set_cons_succ]
      refine wpAnyH_take (i:=8) (oi:=_) (v:=_) (by simp only[List.getElem?_toArray,List.getElem?_cons_succ,List.getElem?_cons_zero];rfl) (by kernel_rfl) (by kernel_rfl) (by kernel_rfl) (by exact fun _ _ _ h=>h) (Or.inl ⟨by rfl,by intro w hSw;(try dsimp only at hSw);go_simp;try with_reducible rfl⟩) (by assumption) ?_
      try simp only[Act.put,List.setIfInBounds_toArray,List.set_cons_zero,List.set_cons_succ]
      refine wpAnyH_take (i:=9) (oi:=_) (v:=_) (by simp only[List.getElem?_toArray,List.getElem?_cons_succ,List.getElem?_cons_zero];rfl) (by kernel_rfl) (by kernel_rfl) (by kernel_rfl) (by exact fun _ _ _ h=>h) (Or.inl ⟨by rfl,by intro w hSw;(try dsimp only at hSw);go_simp;try with_reducible rfl⟩) (by assumption) ?_
      try simp only[Act.put,List.setIfInBounds_toArray,List.set_cons_zero,List.set_cons_succ]
      refine wpAnyH_take (i:=10) (oi:=_) (v:=_) (by simp only[List.getElem?_toArray,List.getElem?_cons_succ,List.getElem?_cons_zero];rfl) (by kernel_rfl) (by kernel_rfl) (by kernel_rfl) (by exact fun _ _ _ h=>h) (Or.inl ⟨by rfl,by intro w hSw;(try dsimp only at hSw);go_simp;try with_reducible rfl⟩) (by assumption) ?_
      try simp only[Act.put,List.setIfInBounds_toArray,List.set_cons_zero,List.set_cons_succ]
      refine wpAnyH_take (i:=11) (oi:=_) (v:=_) (by simp only[List.getElem?_toArray,List.getElem?_cons_succ,List.getElem?_cons_zero];rfl) (by kernel_rfl) (by kernel_rfl) (by kernel_rfl) (by exact fun _ _ _ h=>h) (Or.inl ⟨by rfl,by intro w hSw;(try dsimp only at hSw);go_simp;try with_reducible rfl⟩) (by assumption) ?_
      try simp only[Act.put,List.setIfInBounds_toArray,List.set_cons_zero,List.set_cons_succ]
      refine wpAnyH_take (i:=13) (oi:=_) (v:=_) (by simp only[List.getElem?_toArray,List.getElem?_cons_succ,List.getElem?_cons_zero];rfl) (by kernel_rfl) (by kernel_rfl) (by kernel_rfl) (by exact fun _ _ _ h=>h) (Or.inl ⟨by rfl,by intro w hSw;(try dsimp only at hSw);go_simp;try with_reducible rfl⟩) (by assumption) ?_
      try simp only[Act.put,List.setIfInBounds_toArray,List.set_cons_zero,List.set_cons_succ]
      refine wpAnyH_ready (rs:=[12,14]) (by kernel_rfl) (by simp) ?_
      refine AllReadyH.cons (o:=?a5z) ?ayv (fun K hK=>?ayw) (AllReadyH.cons (o:=?a6a) ?ayx (fun K hK=>?ayy) AllReadyH.nil)
      case ayv=>
       simp only[List.getElem?_toArray,List.getElem?_cons_succ,List.getElem?_cons_zero];rfl
      case ayx=>
       simp only[List.getElem?_toArray,List.getElem?_cons_succ,List.getElem?_cons_zero];rfl
      case ayw=>
       go_simp
       refine hK.out _ _ (by first|exact k0|go_keep) (fun hHeld=>?_)
       clear hK K
       try simp only[Act.put,List.setIfInBounds_toArray,List.set_cons_zero,List.set_cons_succ]
       refine wpAnyH_ready (rs:=[14]) (by kernel_rfl) (by simp) ?_
       refine AllReadyH.cons (o:=?o59) ?h59 (fun K hK=>?k59) AllReadyH.nil
       case h59=>
        simp only[List.getElem?_toArray,List.getElem?_cons_succ,List.getElem?_cons_zero];rfl
       go_simp
       refine hK.out _ _ (by first|exact k1|go_keep) (fun hHeld=>?_)
       clear hK K
       try simp only[Act.put,List.setIfInBounds_toArray,List.set_cons_zero,List.set_cons_succ]
       refine wpAnyH_ready (rs:=[15]) (by kernel_rfl) (by simp) ?_
       refine AllReadyH.cons (o:=?o60) ?h60 (fun K hK=>?k60) AllReadyH.nil
       case h60=>
        simp only[List.getElem?_toArray,List.getElem?_cons_succ,List.getElem?_cons_zero];rfl
       refine cu (by rfl) _ _ 34 (by rfl) lo 54 i1 (.agg #[.int .i64 0,.int .i64 0]) 2 16 Tryz.underlying34 hi1 hy0 hy1 hy2 rfl (by decide) (.slice oA oN oC) oN (jc.flatMap zi) (by rfl) HOWN.out (.slice (some ⟨wg.heap.size,0,none⟩) 1 1) 1 [.int .i64 xo,.int .i64 xa] (by rfl) ni.out (abt _ _) (by simp only[maxLen];omega) (by omega) hLQ ?_
       intro v' w3 hown' hgrow ig
       obtain⟨vA',vN',vC',rfl,-⟩:=(Own.lu hown').form
       have hrb:∀ b,b < lo→w3.heap[b]?=(wg.drew.alloc (.cells #[.int .i64 xo,.int .i64 xa] 54)).heap[b]?:=fun b hb=>hgrow.block b (Nat.lt_of_lt_of_le hb hLQ) (fun hne=>by have:=(HOWN.out.lt b hne.symm).1;omega)
       have hxb:w3.heap[wf.heap.size]?=(wg.drew.alloc (.cells #[.int .i64 xo,.int .i64 xa] 54)).heap[wf.heap.size]?:=hgrow.block _ (Nat.lt_of_lt_of_le aer hda.size) (fun hne=>by have h5:=(HGf.out.gy.lt _ hne.symm).2;omega)
       have bM3:Blk w3 (bm) 25 #[.int .i64 p,.slice iA is.length iC,.slice (some ⟨gc,0,none⟩) (d+1) cC]:=(hrb _ hbm).trans (bMg.step hda)
       have bX3:Blk w3 wf.heap.size 54 #[.int .i64 xo,.int .i64 xa]:=hxb.trans (bXg.step hda)
       have lk3:Lk lo bm (wg.drew.alloc (.cells #[.int .i64 xo,.int .i64 xa] 54)) w3:=Lk.grown hLQ HOWN.out hgrow
       have hmr:=HGQ.out.mid hown' hgrow ig
       have hmid:=HCO.out w3 hmr
       have z3:=hmid.1
       have f3:=hmid.2
       have HG4:=Lib.hid (HGQ.out.ins ⟨xo,xa⟩ (by rw[show(Core.mk oname jg jh ji jc).code.length=oN from HON.out.symm];exact hown') hgrow ig rfl)
       have hS3:=HS.out w3 bM3 bX3
       have bM4:=bM3.far (p:=⟨gc,d * 5+4,none⟩) (by simp only;omega) (.slice vA' vN' vC')
       have bX4:=bX3.far (p:=⟨gc,d * 5+4,none⟩) (by simp only;omega) (.slice vA' vN' vC')
       have hS4:=HS.out _ bM4 bX4
       have hblk:∃ cur z,w3.heap[gc]?=some (.cells cur 36 z):=ad9 hmr
       obtain⟨anl,cz,aaw⟩:=hblk
       have lk:=(((Lk.below (bm:=bm) hlo HBg.out).trans (Lk.below hlg hda)).trans lk3).trans (Lk.setCell aaw (.inr hgl) (d * 5+4) (.slice vA' vN' vC'))
       have HLK:=Lib.hid lk
       clear aaw hmr lk
       refine hK.out _ _ (by first|exact hS3|go_keep) (fun hHeld=>?_)
       clear hK K
       try simp only[Act.put,List.setIfInBounds_toArray,List.set_cons_zero,List.set_cons_succ]
       refine wpAnyH_take (i:=16) (oi:=_) (v:=_) (by simp only[List.getElem?_toArray,List.getElem?_cons_succ,List.getElem?_cons_zero];rfl) (by kernel_rfl) (by kernel_rfl) (by kernel_rfl) (by exact fun _ _ _ h=>h) (Or.inl ⟨by rfl,by intro w hSw;(try dsimp only at hSw);go_simp;try with_reducible rfl⟩) (by assumption) ?_
       try simp only[Act.put,List.setIfInBounds_toArray,List.set_cons_zero,List.set_cons_succ]
       refine wpAnyH_take (i:=17) (oi:=_) (v:=_) (by simp only[List.getElem?_toArray,List.getElem?_cons_succ,List.getElem?_cons_zero];rfl) (by kernel_rfl) (by kernel_rfl) (by kernel_rfl) (by exact fun _ _ _ h=>h) (Or.inl ⟨by rfl,by intro w hSw;(try dsimp only at hSw);go_simp;try with_reducible rfl⟩) (by assumption) ?_
       try simp only[Act.put,List.setIfInBounds_toArray,List.set_cons_zero,List.set_cons_succ]
       refine wpAnyH_ready (rs:=[18]) (by kernel_rfl) (by simp) ?_
       refine AllReadyH.cons (o:=?o61) ?h61 (fun K hK=>?k61) AllReadyH.nil
       case h61=>
        simp only[List.getElem?_toArray,List.getElem?_cons_succ,List.getElem?_cons_zero];rfl
       go_simp
       refine hK.out _ _ (by first|exact hS4|go_keep) (fun hHeld=>?_)
       clear hK K
       try simp only[Act.put,List.setIfInBounds_toArray,List.set_cons_zero,List.set_cons_succ]
       refine wpAnyH_done (by kernel_rfl) ?_ _
       go_wp2_with fail
       refine bodyPost_end (v:=.tuple #[]) (results_none Tryz.results15 _ _ _) rfl (uf (by rw[HF.out,qc]) (by have q:=HG4.out;rw[← HD.out] at q;exact q) bM4 HLK.out)
      case ayy=>
       go_simp
       refine hK.out _ _ (by first|exact k1|go_keep) (fun hHeld=>?_)
       clear hK K
       try simp only[Act.put,List.setIfInBounds_toArray,List.set_cons_zero,List.set_cons_succ]
       refine wpAnyH_ready (rs:=[12]) (by kernel_rfl) (by simp) ?_
       refine AllReadyH.cons (o:=?o62) ?h62 (fun K hK=>?k62) AllReadyH.nil
       case h62=>
        simp only[List.getElem?_toArray,List.getElem?_cons_succ,List.getElem?_cons_zero];rfl
       go_simp
       refine hK.out _ _ (by first|exact k1|go_keep) (fun hHeld=>?_)
       clear hK K
       try simp only[Act.put,List.setIfInBounds_toArray,List.set_cons_zero,List.set_cons_succ]
       refine wpAnyH_ready (rs:=[15]) (by kernel_rfl) (by simp) ?_
       refine AllReadyH.cons (o:=?o63) ?h63 (fun K hK=>?k63) AllReadyH.nil
       case h63=>
        simp only[List.getElem?_toArray,List.getElem?_cons_succ,List.getElem?_cons_zero];rfl
       refine cu (by rfl) _ _ 34 (by rfl) lo 54 i1 (.agg #[.int .i64 0,.int .i64 0]) 2 16 Tryz.underlying34 hi1 hy0 hy1 hy2 rfl (by decide) (.slice oA oN oC) oN (jc.flatMap zi) (by rfl) HOWN.out (.slice (some ⟨wg.heap.size,0,none⟩) 1 1) 1 [.int .i64 xo,.int .i64 xa] (by rfl) ni.out (abt _ _) (by simp only[maxLen];omega) (by omega) hLQ ?_
       intro v' w3 hown' hgrow ig
       obtain⟨vA',vN',vC',rfl,-⟩:=(Own.lu hown').form
       have hrb:∀ b,b < lo→w3.heap[b]?=(wg.drew.alloc (.cells #[.int .i64 xo,.int .i64 xa] 54)).heap[b]?:=fun b hb=>hgrow.block b (Nat.lt_of_lt_of_le hb hLQ) (fun hne=>by have:=(HOWN.out.lt b hne.symm).1;omega)
       have hxb:w3.heap[wf.heap.size]?=(wg.drew.alloc (.cells #[.int .i64 xo,.int .i64 xa] 54)).heap[wf.heap.size]?:=hgrow.block _ (Nat.lt_of_lt_of_le aer hda.size) (fun hne=>by have h5:=(HGf.out.gy.lt _ hne.symm).2;omega)
       have bM3:Blk w3 (bm) 25 #[.int .i64 p,.slice iA is.length iC,.slice (some ⟨gc,0,none⟩) (d+1) cC]:=(hrb _ hbm).trans (bMg.step hda)
       have bX3:Blk w3 wf.heap.size 54 #[.int .i64 xo,.int .i64 xa]:=hxb.trans (bXg.step hda)
       have lk3:Lk lo bm (wg.drew.alloc (.cells #[.int .i64 xo,.int .i64 xa] 54)) w3:=Lk.grown hLQ HOWN.out hgrow
       have hmr:=HGQ.out.mid hown' hgrow ig
       have hmid:=HCO.out w3 hmr
       have z3:=hmid.1
       have f3:=hmid.2
       have HG4:=Lib.hid (HGQ.out.ins ⟨xo,xa⟩ (by rw[show(Core.mk oname jg jh ji jc).code.length=oN from HON.out.symm];exact hown') hgrow ig rfl)
       have hS3:=HS.out w3 bM3 bX3
       have bM4:=bM3.far (p:=⟨gc,d * 5+4,none⟩) (by simp only;omega) (.slice vA' vN' vC')
       have bX4:=bX3.far (p:=⟨gc,d * 5+4,none⟩) (by simp only;omega) (.slice vA' vN' vC')
       have hS4:=HS.out _ bM4 bX4
       have hblk:∃ cur z,w3.heap[gc]?=some (.cells cur 36 z):=ad9 hmr
       obtain⟨anl,cz,aaw⟩:=hblk
       have lk:=(((Lk.below (bm:=bm) hlo HBg.out).trans (Lk.below hlg hda)).trans lk3).trans (Lk.setCell aaw (.inr hgl) (d * 5+4) (.slice vA' vN' vC'))
       have HLK:=Lib.hid lk
       clear aaw hmr lk
       refine hK.out _ _ (by first|exact hS3|go_keep) (fun hHeld=>?_)
       clear hK K
       try simp only[Act.put,List.setIfInBounds_toArray,List.set_cons_zero,List.set_cons_succ]
       refine wpAnyH_take (i:=16) (oi:=_) (v:=_) (by simp only[List.getElem?_toArray,List.getElem?_cons_succ,List.getElem?_cons_zero];rfl) (by kernel_rfl) (by kernel_rfl) (by kernel_rfl) (by exact fun _ _ _ h=>h) (Or.inl ⟨by rfl,by intro w hSw;(try dsimp only at hSw);go_simp;try with_reducible rfl⟩) (by assumption) ?_
       try simp only[Act.put,List.setIfInBounds_toArray,List.set_cons_zero,List.set_cons_succ]
       refine wpAnyH_take (i:=17) (oi:=_) (v:=_) (by simp only[List.getElem?_toArray,List.getElem?_cons_succ,List.getElem?_cons_zero];rfl) (by kernel_rfl) (by kernel_rfl) (by kernel_rfl) (by exact fun _ _ _ h=>h) (Or.inl ⟨by rfl,by intro w hSw;(try dsimp only at hSw);go_simp;try with_reducible rfl⟩) (by assumption) ?_
       try simp only[Act.put,List.setIfInBounds_toArray,List.set_cons_zero,List.set_cons_succ]
       refine wpAnyH_ready (rs:=[18]) (by kernel_rfl) (by simp) ?_
       refine AllReadyH.cons (o:=?o64) ?h64 (fun K hK=>?k64) AllReadyH.nil
       case h64=>
        simp only[List.getElem?_toArray,List.getElem?_cons_succ,List.getElem?_cons_zero];rfl
       go_simp
       refine hK.out _ _ (by first|exact hS4|go_keep) (fun hHeld=>?_)
       clear hK K
       try simp only[Act.put,List.setIfInBounds_toArray,List.set_cons_zero,List.set_cons_succ]
       refine wpAnyH_done (by kernel_rfl) ?_ _
       go_wp2_with fail
       refine bodyPost_end (v:=.tuple #[]) (results_none Tryz.results15 _ _ _) rfl (uf (by rw[HF.out,qc]) (by have q:=HG4.out;rw[← HD.out] at q;exact q) bM4 HLK.out)
end Go.Proofs.YtlpcocfadppkhaaGreatDoor
