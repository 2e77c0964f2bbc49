/-
  slices.IndexFunc and slices.ContainsFunc at the program's types (by program: genfn.py).
  A function of an interface, by its name: impl.funcIn (by program: gen_fcv.py) (by program: gen_why.py).
-/
import Derived.Test.YtbafphecjijdmaaGreatDoorWa04
import Derived.Test.YtbafphecjijdmaaGreatDoorWa05
import Derived.Test.YtbafphecjijdmaaGreatDoorWa09
import Derived.Test.YtbafphecjijdmaaGreatDoorWa34
import Derived.Test.YtbafphecjijdmaaGreatDoorWa13
namespace Go.Proofs.YtbafphecjijdmaaGreatDoor
open Go.RowKit
set_option linter.unusedVariables false
set_option linter.unusedSimpArgs false
set_option linter.unnecessarySimpa false
set_option maxRecDepth 100000
set_option maxHeartbeats 800000 in
theorem a3g (fid:Nat) (caps:Array Value) (p:Fun→Bool) {B:Nat} {v:Value} {ts:List Fun} {w:World} (hB:B≤w.heap.size) (h:Rep w B (.row 7 (ts.flatMap Fun.pd)) v)
  (hcf:∀ a W,Sem.run Tryz.prog (callFunc fid a) W=.ok (.enter fid a) W)
  (hp:∀ t ∈ ts,∀ (cs:List Value) (W:World),Below w.heap.size w W→jy W B (Fun.pd t) cs→Calls Tryz.prog fid (#[.agg cs.toArray] ++caps) W fun e w'=>e=.returned (.bool (p t))∧Below W.heap.size W w'):
  Calls Tryz.prog 98 #[v,.func (.func fid) #[] caps] w fun e w'=>e=.returned (.int .i64 (acg p ts))∧Below w.heap.size w w':=by
 obtain⟨A,n,c,rfl,hnl,hm,hat⟩:=ny Fun.jw (by decide) h
 unfold maxLen at hm
 have HN:=Lib.hid hnl
 have HQ:=Lib.hid hp
 clear h hnl hp
 go_enter Tryz.func98,Tryz.ntmps98
 go_wp2_with fail
 go_loopw [8] (fun i wr=>∃ k:Nat,k≤n∧i=.int .i64 k∧Hid (∀ (j:Nat) (t:Fun),j < k→ts[j]?=some t→p t=false)∧Below w.heap.size w wr) (fun i _=>n - (intOf i).toNat)
 case atStart=>exact⟨0,Nat.zero_le _,rfl,Lib.hid fun j t h=>absurd h (by omega),Below.refl _ _⟩
 case round=>
  obtain⟨k,hk,rfl,HP,hbr⟩:=hrel
  by_cases hlt:k < n
  ·obtain⟨g,off,rfl,hg,hcell⟩:=hat (by omega)
   obtain⟨t,hx,hmem⟩:=xg HN.out hlt
   obtain⟨name,⟨ql,⟨aj,au,iw,jl⟩,jg⟩⟩:=t
   have c0:wr.cell? ⟨g,off+k * 7,none⟩=some (.string name):=gq hbr (by omega) (hcell k 0 _ _ hx (by rw[Fun.ay];rfl))
   obtain⟨aav,c1,hr1⟩:∃ u,wr.cell? ⟨g,off+k * 7+1,none⟩=some u∧Rep wr B (.row 5 (ql.flatMap Param.pd)) u:=ku hbr (by omega) hB (hcell k 1 _ _ hx (by rw[Fun.ay];rfl))
   have HR1:=Lib.hid hr1
   clear hr1
   have c2:wr.cell? ⟨g,off+k * 7+2,none⟩=some (.int .i64 aj):=gq hbr (by omega) (hcell k 2 _ _ hx (by rw[Fun.ay];rfl))
   have c3:wr.cell? ⟨g,off+k * 7+3,none⟩=some (.string au):=gq hbr (by omega) (hcell k 3 _ _ hx (by rw[Fun.ay];rfl))
   obtain⟨tq,c4,hr4⟩:∃ u,wr.cell? ⟨g,off+k * 7+4,none⟩=some u∧Rep wr B (.row 1 (iw.flatMap tu)) u:=ku hbr (by omega) hB (hcell k 4 _ _ hx (by rw[Fun.ay];rfl))
   have HR4:=Lib.hid hr4
   clear hr4
   obtain⟨vk,c5,hr5⟩:∃ u,wr.cell? ⟨g,off+k * 7+5,none⟩=some u∧Rep wr B (.row 4 (jl.flatMap Ty.pd)) u:=ku hbr (by omega) hB (hcell k 5 _ _ hx (by rw[Fun.ay];rfl))
   have HR5:=Lib.hid hr5
   clear hr5
   have c6:wr.cell? ⟨g,off+k * 7+6,none⟩=some (.bool jg):=gq hbr (by omega) (hcell k 6 _ _ hx (by rw[Fun.ay];rfl))
   have hc:=HQ.out _ hmem [.string name,aav,.int .i64 aj,.string au,tq,vk,.bool jg] wr hbr (Fun.close_ HR1.out HR4.out HR5.out)
   obtain⟨t,ht⟩:∃ t:Fun,t=⟨name,⟨ql,⟨aj,au,iw,jl⟩,jg⟩⟩:=⟨_,rfl⟩
   rw[← ht] at hc hx
   clear ht
   have HC:=Lib.hid hc
   have HX:=Lib.hid hx
   clear hc hx hmem hcell
   go_wp2_with fail
   refine HC.out.mono ?_
   rintro e w1 ⟨rfl,hb1⟩
   have hB1:=hbr.trans (hb1.mono hbr.size)
   cases hb:p t
   ·go_wp2_with fail
    go_roundw
    case rel=>exact⟨k+1,by omega,by go_num,Lib.hid (afr HP.out HX.out hb),hB1⟩
    case measure=>simp[intOf];omega
   ·have HI:Hid (acg p ts=(k:Int)):=aiv HP.out HX.out hb
    go_wp2_with fail
    go_ret
    exact⟨aao HI.out.symm,hB1⟩
  ·have hkn:k=n:=by omega
   subst hkn
   have HI:Hid (acg p ts=-1):=aif fun j t ht=>HP.out j t (by have:=(List.getElem?_eq_some_iff.1 ht).1;have:=HN.out;omega) ht
   go_wp2_with fail
   go_ret
   exact⟨aao HI.out.symm,hbr⟩
end Go.Proofs.YtbafphecjijdmaaGreatDoor
namespace Go.Proofs.YtbafphecjijdmaaGreatDoor
open Go.RowKit
set_option linter.unusedVariables false
set_option linter.unusedSimpArgs false
set_option linter.unnecessarySimpa false
set_option maxRecDepth 16000
theorem a0f (a:Array Value) (W:World):Sem.run Tryz.prog (callFunc 99 a) W=.ok (.enter 99 a) W:=by kernel_rfl
theorem a5c (x:Fun) (nm:ByteArray) {B b:Nat} {cs:List Value} {w:World} (h:jy w B (Fun.pd x) cs) (hc:w.cell? ⟨b,0,none⟩=some (.string nm)) (hb:b < w.heap.size):
  Calls Tryz.prog 99 #[.agg cs.toArray,.pointer (some ⟨b,0,none⟩)] w fun e w'=>e=.returned (.bool (decide (x.name=nm)))∧Below w.heap.size w w':=by
 obtain⟨name,⟨params,⟨kind,bgk,labels,kids⟩,async⟩⟩:=x
 obtain⟨ad3,iq,qp,rfl,-,-,-⟩:=Fun.open_ h
 clear h
 obtain⟨w0,hw0⟩:∃ V,V=w.alloc (.cells #[.string name,ad3,.int .i64 kind,.string bgk,iq,qp,.bool async] 99):=⟨_,rfl⟩
 have hc0:(w.alloc (.cells #[.string name,ad3,.int .i64 kind,.string bgk,iq,qp,.bool async] 99)).cell? ⟨b,0,none⟩=some (.string nm):=(World.cell?_alloc_lt w _ _ (by simp only;omega)).trans hc
 by_cases hn:name=nm
 ·have hs:(name.toList ==nm.toList)=true:=by rw[hn];simp
  have HF:Hid (decide (name=nm)=true):=decide_eq_true hn
  clear hn hw0
  go_enter Tryz.func99,Tryz.ntmps99
  go_wp2_with fail
  go_ret
  exact⟨ah HF.out.symm,(Below.refl _ _).alloc (Nat.le_refl _) _⟩
 ·have hs:=ae0 hn
  have HF:Hid (decide (name=nm)=false):=decide_eq_false hn
  clear hn hw0
  go_enter Tryz.func99,Tryz.ntmps99
  go_wp2_with fail
  go_ret
  exact⟨ah HF.out.symm,(Below.refl _ _).alloc (Nat.le_refl _) _⟩
def blz (f:qg) (nm:ByteArray) (B:Nat) (w:World) (e:Ending) (w':World):Prop:=
 Below w.heap.size w w'∧((ah7 f.funcs nm < 0∧e=.returned (.tuple #[.agg #[.slice none 0 0,.int .i64 0,.string {data:=#[]},.slice none 0 0,.slice none 0 0,.bool false],.bool false]))∨
  ∃ (i:Nat) (y:Fun) (us:List Value),ah7 f.funcs nm=i∧f.funcs[i]?=some y∧e=.returned (.tuple #[.agg us.toArray,.bool true])∧jy w B (jh.pd y.typ) us)
set_option maxHeartbeats 6400000 in
theorem a5d (f:qg) (nm:ByteArray) {B:Nat} {cs:List Value} {w:World} (hB:B≤w.heap.size) (h:jy w B (qg.pd f) cs):
  Calls Tryz.prog 70 #[.agg cs.toArray,.string nm] w fun e w'=>blz f nm B w e w':=by
 obtain⟨Q,hQ⟩:∃ Q:Int,Q=ah7 f.funcs nm:=⟨_,rfl⟩
 have HFQ:Hid (∀ (e:Ending) (w':World),Below w.heap.size w w'→((Q < 0∧e=.returned (.tuple #[.agg #[.slice none 0 0,.int .i64 0,.string {data:=#[]},.slice none 0 0,.slice none 0 0,.bool false],.bool false]))∨∃ (i:Nat) (y:Fun) (us:List Value),Q=i∧f.funcs[i]?=some y∧e=.returned (.tuple #[.agg us.toArray,.bool true])∧jy w B (jh.pd y.typ) us)→blz f nm B w e w'):=Lib.hid (fun e w' hb hq=>⟨hb,by rw[← hQ];exact hq⟩)
 have HAT:=Lib.hid (fun(hh:¬ Q < 0)=>ayt (fs:=f.funcs) (nm:=nm) (by rw[← hQ];exact hh))
 rw[← hQ] at HAT
 have HQ:=Lib.hid hQ
 clear hQ
 obtain⟨package,name,version,resources,funcs⟩:=f
 simp only at HAT HFQ HQ
 obtain⟨oz,aaq,rfl,aa8,ad4⟩:=qg.open_ h
 have adq:=Lib.hid aa8
 clear aa8
 have af0:=Lib.hid ad4
 clear ad4
 obtain⟨A,n,c,rfl,hnl,hm,hat⟩:=ny Fun.jw (by decide) af0.out
 unfold maxLen at hm
 have HN:=Lib.hid hnl
 clear h hnl
 go_enter Tryz.func70,Tryz.ntmps70
 go_wp2_with fail
 obtain⟨w0,hw0⟩:∃ V,V=((w.alloc (.cells #[.string package,.string name,.string version,oz,.slice A n c] 30)).alloc (.cells #[.string nm] 9)).alloc (.cells #[.slice none 0 0,.int .i64 0,.string {data:=#[]},.slice none 0 0,.slice none 0 0,.bool false] 62):=⟨_,rfl⟩
 rw[← hw0]
 have bA:Blk w0 w.heap.size 30 #[.string package,.string name,.string version,oz,.slice A n c]:=by rw[hw0];exact((Blk.new w _ _).alloc _).alloc _
 have bN:Blk w0 (w.heap.size+1) 9 #[.string nm]:=by rw[hw0];have:=(Blk.new (w.alloc (.cells #[.string package,.string name,.string version,oz,.slice A n c] 30)) 9 #[.string nm]).alloc (.cells #[.slice none 0 0,.int .i64 0,.string {data:=#[]},.slice none 0 0,.slice none 0 0,.bool false] 62);simpa using this
 have bR:Blk w0 (w.heap.size+1+1) 62 #[.slice none 0 0,.int .i64 0,.string {data:=#[]},.slice none 0 0,.slice none 0 0,.bool false]:=by rw[hw0];have:=Blk.new ((w.alloc (.cells #[.string package,.string name,.string version,oz,.slice A n c] 30)).alloc (.cells #[.string nm] 9)) 62 #[.slice none 0 0,.int .i64 0,.string {data:=#[]},.slice none 0 0,.slice none 0 0,.bool false];simpa using this
 have hB0:Below w.heap.size w w0:=by rw[hw0];exact(((Below.refl _ _).alloc (Nat.le_refl _) _).alloc (by simp) _).alloc (by simp;omega) _
 clear hw0
 have HI:=Lib.hid (a3g 99 #[.pointer (some ⟨w.heap.size+1,0,none⟩)] (fun x:Fun=>decide (x.name=nm)) (Nat.le_trans hB hB0.size) (af0.out.below (hB0.mono hB)) a0f (fun t ht cs W hW hr=>a5c t nm hr ((hW.cell (p:=⟨w.heap.size+1,0,none⟩) bN.lt).trans (bN.cell 0)) (Nat.lt_of_lt_of_le bN.lt hW.size)))
 have hfx:acg (fun x:Fun=>decide (x.name=nm)) funcs=Q:=HQ.out.symm
 rw[hfx] at HI
 clear hfx
 refine HI.out.mono ?_
 rintro e w1 ⟨rfl,hb1⟩
 have hB1:=hB0.trans (hb1.mono hB0.size)
 have bA1:=bA.step hb1
 have bR1:=bR.step hb1
 clear bA bN bR HI
 have r_0:w1.cell? ⟨w.heap.size+1+1,0,none⟩=some (.slice none 0 0):=bR1.cell 0
 have f_0:=bR1.frozen 0
 have r_1:w1.cell? ⟨w.heap.size+1+1,1,none⟩=some (.int .i64 0):=bR1.cell 1
 have f_1:=bR1.frozen 1
 have r_2:w1.cell? ⟨w.heap.size+1+1,2,none⟩=some (.string {data:=#[]}):=bR1.cell 2
 have f_2:=bR1.frozen 2
 have r_3:w1.cell? ⟨w.heap.size+1+1,3,none⟩=some (.slice none 0 0):=bR1.cell 3
 have f_3:=bR1.frozen 3
 have r_4:w1.cell? ⟨w.heap.size+1+1,4,none⟩=some (.slice none 0 0):=bR1.cell 4
 have f_4:=bR1.frozen 4
 have r_5:w1.cell? ⟨w.heap.size+1+1,5,none⟩=some (.bool false):=bR1.cell 5
 have f_5:=bR1.frozen 5
 by_cases hneg:Q < 0
 ·have HR0:=Lib.hid hneg
  go_wp2_with fail
  refine bodyPost_ret (v:=.tuple #[.agg #[.slice none 0 0,.int .i64 0,.string {data:=#[]},.slice none 0 0,.slice none 0 0,.bool false],.bool false]) (by simp[results,Tryz.results70,go_sem,r_0,r_1,r_2,r_3,r_4,r_5]) rfl ?_
  refine HFQ.out _ _ ?_ (.inl ⟨HR0.out,rfl⟩)
  iterate 6 (refine Below.setCell ?_ (by simp;try omega) _)
  exact hB1
 obtain⟨i,y,hRi,hy⟩:=HAT.out (by omega)
 have HY:=Lib.hid hy
 have hlt:i < n:=by have:=(List.getElem?_eq_some_iff.1 hy).1;have:=HN.out;omega
 obtain⟨g,off,rfl,hg,hcell⟩:=hat (by omega)
 obtain⟨bm9,⟨ql,⟨aj,au,iw,jl⟩,jg⟩⟩:=y
 obtain⟨aav,asi,ab8⟩:∃ u,w.cell? ⟨g,off+i * 7+1,none⟩=some u∧Rep w B (.row 5 (ql.flatMap Param.pd)) u:=hcell i 1 _ _ hy (by rw[Fun.ay];rfl)
 obtain⟨abt,abu,abv,rfl⟩:=ab8.form
 have ae8:=Lib.hid ab8
 have amy:w1.cell? ⟨g,off+i * 7+1,none⟩=some (.slice abt abu abv):=(hB1.cell (p:=⟨g,off+i * 7+1,none⟩) (by simp only;omega)).trans asi
 clear ab8 asi
 have ai3:w1.cell? ⟨g,off+i * 7+2,none⟩=some (.int .i64 aj):=gq hB1 (by omega) (hcell i 2 _ _ hy (by rw[Fun.ay];rfl))
 have ai4:w1.cell? ⟨g,off+i * 7+3,none⟩=some (.string au):=gq hB1 (by omega) (hcell i 3 _ _ hy (by rw[Fun.ay];rfl))
 obtain⟨tq,am4,zk⟩:∃ u,w.cell? ⟨g,off+i * 7+4,none⟩=some u∧Rep w B (.row 1 (iw.flatMap tu)) u:=hcell i 4 _ _ hy (by rw[Fun.ay];rfl)
 obtain⟨yh,yj,yt,rfl⟩:=zk.form
 have ac7:=Lib.hid zk
 have ah6:w1.cell? ⟨g,off+i * 7+4,none⟩=some (.slice yh yj yt):=(hB1.cell (p:=⟨g,off+i * 7+4,none⟩) (by simp only;omega)).trans am4
 clear zk am4
 obtain⟨vk,an6,aai⟩:∃ u,w.cell? ⟨g,off+i * 7+5,none⟩=some u∧Rep w B (.row 4 (jl.flatMap Ty.pd)) u:=hcell i 5 _ _ hy (by rw[Fun.ay];rfl)
 obtain⟨zn,zo,zq,rfl⟩:=aai.form
 have adx:=Lib.hid aai
 have ai5:w1.cell? ⟨g,off+i * 7+5,none⟩=some (.slice zn zo zq):=(hB1.cell (p:=⟨g,off+i * 7+5,none⟩) (by simp only;omega)).trans an6
 clear aai an6
 have anl:w1.cell? ⟨g,off+i * 7+6,none⟩=some (.bool jg):=gq hB1 (by omega) (hcell i 6 _ _ hy (by rw[Fun.ay];rfl))
 have HCL:=Lib.hid (jh.close_ (async:=jg) (bg:=aj) (cu:=au) ae8.out ac7.out adx.out)
 have a_f:w1.cell? ⟨w.heap.size,4,none⟩=some (.slice (some ⟨g,off,none⟩) n c):=bA1.cell 4
 have hi0:(0:Int)≤(i:Int):=by omega
 have hin:(i:Int) < (n:Int):=by omega
 subst hRi
 clear hneg hy hcell hat HAT
 go_wp2_with fail
 have bM:Blk ((((((w1.setCell ⟨w.heap.size+1+1,0,none⟩ (.slice abt abu abv)).setCell ⟨w.heap.size+1+1,1,none⟩ (.int .i64 aj)).setCell ⟨w.heap.size+1+1,2,none⟩ (.string au)).setCell ⟨w.heap.size+1+1,3,none⟩ (.slice yh yj yt)).setCell ⟨w.heap.size+1+1,4,none⟩ (.slice zn zo zq)).setCell ⟨w.heap.size+1+1,5,none⟩ (.bool jg)) (w.heap.size+1+1) 62 #[.slice abt abu abv,.int .i64 aj,.string au,.slice yh yj yt,.slice zn zo zq,.bool jg]:=by have:=((((((bR1.abf 0 (.slice abt abu abv)).abf 1 (.int .i64 aj)).abf 2 (.string au)).abf 3 (.slice yh yj yt)).abf 4 (.slice zn zo zq)).abf 5 (.bool jg));simpa using this
 have n_0:=bM.cell 0
 have n_1:=bM.cell 1
 have n_2:=bM.cell 2
 have n_3:=bM.cell 3
 have n_4:=bM.cell 4
 have n_5:=bM.cell 5
 refine bodyPost_ret (v:=.tuple #[.agg #[.slice abt abu abv,.int .i64 aj,.string au,.slice yh yj yt,.slice zn zo zq,.bool jg],.bool true]) (by simp[results,Tryz.results70,go_sem,n_0,n_1,n_2,n_3,n_4,n_5]) rfl ?_
 refine HFQ.out _ _ ?_ (.inr ⟨i,_,[.slice abt abu abv,.int .i64 aj,.string au,.slice yh yj yt,.slice zn zo zq,.bool jg],rfl,HY.out,rfl,HCL.out⟩)
 iterate 6 (refine Below.setCell ?_ (by simp;try omega) _)
 exact hB1
end Go.Proofs.YtbafphecjijdmaaGreatDoor
