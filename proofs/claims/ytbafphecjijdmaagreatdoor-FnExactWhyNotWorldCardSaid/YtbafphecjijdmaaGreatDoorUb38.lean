/-
  slices.IndexFunc and slices.ContainsFunc at the program's types (by program: genfn.py). (and 1 more texts)
-/
import Derived.Test.YtbafphecjijdmaaGreatDoorUb04
import Derived.Test.YtbafphecjijdmaaGreatDoorUb05
import Derived.Test.YtbafphecjijdmaaGreatDoorUb09
import Derived.Test.YtbafphecjijdmaaGreatDoorUb33
import Derived.Test.YtbafphecjijdmaaGreatDoorUb12
namespace Go.Proofs.YtbafphecjijdmaaGreatDoor
open Go.RowKit
set_option linter.all false
set_option maxRecDepth 100000
set_option maxHeartbeats 800000 in
theorem a9e (fid:Nat) (caps:Array Value) (p:Fun→Bool) {B:Nat} {v:Value} {ts:List Fun} {w:World} (hB:B≤w.heap.size) (h:Rep w B (.row 7 (ts.flatMap Fun.pd)) v)
  (hcf:∀ a W,Sem.run Tryz.prog (callFunc fid a) W=.ok (.enter fid a) W)
  (hp:∀ t ∈ ts,∀ (cs:List Value) (W:World),Below w.heap.size w W→lq W B (Fun.pd t) cs→Calls Tryz.prog fid (#[.agg cs.toArray] ++caps) W fun e w'=>e=.returned (.bool (p t))∧Below W.heap.size W w'):
  Calls Tryz.prog 98 #[v,.func (.func fid) #[] caps] w fun e w'=>e=.returned (.int .i64 (acu p ts))∧Below w.heap.size w w':=by
 obtain⟨A,n,c,rfl,hnl,hm,hat⟩:=ni Fun.jd (by decide) h
 unfold maxLen at hm
 have HN:=zqd hnl
 have HQ:=zqd hp
 clear h hnl hp
 go_enter Tryz.func98,Tryz.ntmps98
 go_wp2_with fail
 go_loopw [8] (fun i wr=>∃ k:Nat,k≤n∧i=.int .i64 k∧Hid (∀ (j:Nat) (t:Fun),j < k→ts[j]?=some t→p t=false)∧Below w.heap.size w wr) (fun i _=>n - (intOf i).toNat)
 case atStart=>exact⟨0,Nat.zero_le _,rfl,zqd fun j t h=>absurd h (by omega),zqf _ _⟩
 case round=>
  obtain⟨k,hk,rfl,HP,hbr⟩:=hrel
  by_cases hlt:k < n
  ·obtain⟨g,off,rfl,hg,hcell⟩:=hat (by omega)
   obtain⟨t,hx,hmem⟩:=um HN.out hlt
   obtain⟨name,⟨qm,⟨au,ay,iy,jq⟩,jl⟩⟩:=t
   have c0:wr.cell? ⟨g,off+k * 7,none⟩=some (.string name):=bg hbr (by omega) (hcell k 0 _ _ hx (by rw[Fun.aj];rfl))
   obtain⟨aa1,c1,hr1⟩:∃ u,wr.cell? ⟨g,off+k * 7+1,none⟩=some u∧Rep wr B (.row 5 (qm.flatMap Param.pd)) u:=jc hbr (by omega) hB (hcell k 1 _ _ hx (by rw[Fun.aj];rfl))
   have HR1:=zqd hr1
   clear hr1
   have c2:wr.cell? ⟨g,off+k * 7+2,none⟩=some (.int .i64 au):=bg hbr (by omega) (hcell k 2 _ _ hx (by rw[Fun.aj];rfl))
   have c3:wr.cell? ⟨g,off+k * 7+3,none⟩=some (.string ay):=bg hbr (by omega) (hcell k 3 _ _ hx (by rw[Fun.aj];rfl))
   obtain⟨su,c4,hr4⟩:∃ u,wr.cell? ⟨g,off+k * 7+4,none⟩=some u∧Rep wr B (.row 1 (iy.flatMap qj)) u:=jc hbr (by omega) hB (hcell k 4 _ _ hx (by rw[Fun.aj];rfl))
   have HR4:=zqd hr4
   clear hr4
   obtain⟨xu,c5,hr5⟩:∃ u,wr.cell? ⟨g,off+k * 7+5,none⟩=some u∧Rep wr B (.row 4 (jq.flatMap Ty.pd)) u:=jc hbr (by omega) hB (hcell k 5 _ _ hx (by rw[Fun.aj];rfl))
   have HR5:=zqd hr5
   clear hr5
   have c6:wr.cell? ⟨g,off+k * 7+6,none⟩=some (.bool jl):=bg hbr (by omega) (hcell k 6 _ _ hx (by rw[Fun.aj];rfl))
   have hc:=HQ.out _ hmem [.string name,aa1,.int .i64 au,.string ay,su,xu,.bool jl] wr hbr (Fun.close_ HR1.out HR4.out HR5.out)
   obtain⟨t,ht⟩:∃ t:Fun,t=⟨name,⟨qm,⟨au,ay,iy,jq⟩,jl⟩⟩:=⟨_,rfl⟩
   rw[← ht] at hc hx
   clear ht
   have HC:=zqd hc
   have HX:=zqd hx
   clear hc hx hmem hcell
   go_wp2_with fail
   refine HC.out.mono ?_
   rintro e w1 ⟨rfl,hb1⟩
   have hB1:=hbr.trans (hb1.mono hbr.size)
   cases hb:p t
   ·go_wp2_with fail
    go_roundw
    case rel=>exact⟨k+1,by omega,by go_num,zqd (agd HP.out HX.out hb),hB1⟩
    case measure=>simp[intOf];omega
   ·have HI:Hid (acu p ts=(k:Int)):=ajs HP.out HX.out hb
    go_wp2_with fail
    go_ret
    exact⟨y7 HI.out.symm,hB1⟩
  ·have hkn:k=n:=by omega
   subst hkn
   have HI:Hid (acu p ts=-1):=aji fun j t ht=>HP.out j t (by have:=(List.getElem?_eq_some_iff.1 ht).1;have:=HN.out;omega) ht
   go_wp2_with fail
   go_ret
   exact⟨y7 HI.out.symm,hbr⟩
end Go.Proofs.YtbafphecjijdmaaGreatDoor
namespace Go.Proofs.YtbafphecjijdmaaGreatDoor
open Go.RowKit
set_option linter.all false
set_option maxRecDepth 16000
theorem a4y (a:Array Value) (W:World):Sem.run Tryz.prog (callFunc 99 a) W=.ok (.enter 99 a) W:=by kernel_rfl
theorem ba9 (x:Fun) (nm:ByteArray) {B b:Nat} {cs:List Value} {w:World} (h:lq w B (Fun.pd x) cs) (hc:w.cell? ⟨b,0,none⟩=some (.string nm)) (hb:b < w.heap.size):
  Calls Tryz.prog 99 #[.agg cs.toArray,.pointer (some ⟨b,0,none⟩)] w fun e w'=>e=.returned (.bool (decide (x.name=nm)))∧Below w.heap.size w w':=by
 obtain⟨name,⟨params,⟨kind,bmp,labels,kids⟩,async⟩⟩:=x
 obtain⟨aeh,iw,qw,rfl,-,-,-⟩:=Fun.open_ h
 clear h
 obtain⟨w0,hw0⟩:=zqe w 99 #[.string name,aeh,.int .i64 kind,.string bmp,iw,qw,.bool async]
 have hc0:(w.alloc (.cells #[.string name,aeh,.int .i64 kind,.string bmp,iw,qw,.bool async] 99)).cell? ⟨b,0,none⟩=some (.string nm):=(World.cell?_alloc_lt w _ _ (by simp only;omega)).trans hc
 by_cases hn:name=nm
 ·have hs:(name.toList ==nm.toList)=true:=by rw[hn];simp
  have HF:Hid (decide (name=nm)=true):=decide_eq_true hn
  clear hn hw0
  go_enter Tryz.func99,Tryz.ntmps99
  go_wp2_with fail
  go_ret
  exact⟨ah HF.out.symm,(zqf _ _).alloc (zql _) _⟩
 ·have hs:=aeu hn
  have HF:Hid (decide (name=nm)=false):=decide_eq_false hn
  clear hn hw0
  go_enter Tryz.func99,Tryz.ntmps99
  go_wp2_with fail
  go_ret
  exact⟨ah HF.out.symm,(zqf _ _).alloc (zql _) _⟩
def br6 (f:cu) (nm:ByteArray) (B:Nat) (w:World) (e:Ending) (w':World):Prop:=
 Below w.heap.size w w'∧((ait f.funcs nm < 0∧e=.returned (.tuple #[.agg #[.slice none 0 0,.int .i64 0,.string {data:=#[]},.slice none 0 0,.slice none 0 0,.bool false],.bool false]))∨
  ∃ (i:Nat) (y:Fun) (us:List Value),ait f.funcs nm=i∧f.funcs[i]?=some y∧e=.returned (.tuple #[.agg us.toArray,.bool true])∧lq w B (jh.pd y.typ) us)
set_option maxHeartbeats 6400000 in
theorem bbc (f:cu) (nm:ByteArray) {B:Nat} {cs:List Value} {w:World} (hB:B≤w.heap.size) (h:lq w B (cu.pd f) cs):
  Calls Tryz.prog 70 #[.agg cs.toArray,.string nm] w fun e w'=>br6 f nm B w e w':=by
 obtain⟨Q,hQ⟩:∃ Q:Int,Q=ait f.funcs nm:=⟨_,rfl⟩
 have HFQ:Hid (∀ (e:Ending) (w':World),Below w.heap.size w w'→((Q < 0∧e=.returned (.tuple #[.agg #[.slice none 0 0,.int .i64 0,.string {data:=#[]},.slice none 0 0,.slice none 0 0,.bool false],.bool false]))∨∃ (i:Nat) (y:Fun) (us:List Value),Q=i∧f.funcs[i]?=some y∧e=.returned (.tuple #[.agg us.toArray,.bool true])∧lq w B (jh.pd y.typ) us)→br6 f nm B w e w'):=zqd (fun e w' hb hq=>⟨hb,by rw[← hQ];exact hq⟩)
 have HAT:=zqd (fun(hh:¬ Q < 0)=>a2j (fs:=f.funcs) (nm:=nm) (by rw[← hQ];exact hh))
 rw[← hQ] at HAT
 have HQ:=zqd hQ
 clear hQ
 obtain⟨package,name,version,resources,funcs⟩:=f
 simp only at HAT HFQ HQ
 obtain⟨aai,adq,rfl,abl,aei⟩:=cu.open_ h
 have ad4:=zqd abl
 clear abl
 have agn:=zqd aei
 clear aei
 obtain⟨A,n,c,rfl,hnl,hm,hat⟩:=ni Fun.jd (by decide) agn.out
 unfold maxLen at hm
 have HN:=zqd hnl
 clear h hnl
 go_enter Tryz.func70,Tryz.ntmps70
 go_wp2_with fail
 obtain⟨w0,hw0⟩:∃ V,V=((w.alloc (.cells #[.string package,.string name,.string version,aai,.slice A n c] 30)).alloc (.cells #[.string nm] 9)).alloc (.cells #[.slice none 0 0,.int .i64 0,.string {data:=#[]},.slice none 0 0,.slice none 0 0,.bool false] 62):=⟨_,rfl⟩
 rw[← hw0]
 have bA:Blk w0 w.heap.size 30 #[.string package,.string name,.string version,aai,.slice A n c]:=by rw[hw0];exact((Blk.new w _ _).alloc _).alloc _
 have bN:Blk w0 (w.heap.size+1) 9 #[.string nm]:=by rw[hw0];have:=(Blk.new (w.alloc (.cells #[.string package,.string name,.string version,aai,.slice A n c] 30)) 9 #[.string nm]).alloc (.cells #[.slice none 0 0,.int .i64 0,.string {data:=#[]},.slice none 0 0,.slice none 0 0,.bool false] 62);simpa using this
 have bR:Blk w0 (w.heap.size+1+1) 62 #[.slice none 0 0,.int .i64 0,.string {data:=#[]},.slice none 0 0,.slice none 0 0,.bool false]:=by rw[hw0];have:=Blk.new ((w.alloc (.cells #[.string package,.string name,.string version,aai,.slice A n c] 30)).alloc (.cells #[.string nm] 9)) 62 #[.slice none 0 0,.int .i64 0,.string {data:=#[]},.slice none 0 0,.slice none 0 0,.bool false];simpa using this
 have hB0:Below w.heap.size w w0:=by rw[hw0];exact(((zqf _ _).alloc (zql _) _).alloc (by simp) _).alloc (by simp;omega) _
 clear hw0
 have HI:=zqd (a9e 99 #[.pointer (some ⟨w.heap.size+1,0,none⟩)] (fun x:Fun=>decide (x.name=nm)) (Nat.le_trans hB hB0.size) (agn.out.below (hB0.mono hB)) a4y (fun t ht cs W hW hr=>ba9 t nm hr ((hW.cell (p:=⟨w.heap.size+1,0,none⟩) bN.lt).trans (bN.cell 0)) (Nat.lt_of_lt_of_le bN.lt hW.size)))
 have hfx:acu (fun x:Fun=>decide (x.name=nm)) funcs=Q:=HQ.out.symm
 rw[hfx] at HI
 clear hfx
 refine HI.out.mono ?_
 rintro e w1 ⟨rfl,hb1⟩
 have hB1:=hB0.trans (hb1.mono hB0.size)
 have bA1:=bA.step hb1
 have bR1:=bR.step hb1
 clear bA bN bR HI
 have r_0:w1.cell? ⟨w.heap.size+1+1,0,none⟩=some (.slice none 0 0):=bR1.cell 0
 have f_0:=bR1.frozen 0
 have r_1:w1.cell? ⟨w.heap.size+1+1,1,none⟩=some (.int .i64 0):=bR1.cell 1
 have f_1:=bR1.frozen 1
 have r_2:w1.cell? ⟨w.heap.size+1+1,2,none⟩=some (.string {data:=#[]}):=bR1.cell 2
 have f_2:=bR1.frozen 2
 have r_3:w1.cell? ⟨w.heap.size+1+1,3,none⟩=some (.slice none 0 0):=bR1.cell 3
 have f_3:=bR1.frozen 3
 have r_4:w1.cell? ⟨w.heap.size+1+1,4,none⟩=some (.slice none 0 0):=bR1.cell 4
 have f_4:=bR1.frozen 4
 have r_5:w1.cell? ⟨w.heap.size+1+1,5,none⟩=some (.bool false):=bR1.cell 5
 have f_5:=bR1.frozen 5
 by_cases hneg:Q < 0
 ·have HR0:=zqd hneg
  go_wp2_with fail
  refine bodyPost_ret (v:=.tuple #[.agg #[.slice none 0 0,.int .i64 0,.string {data:=#[]},.slice none 0 0,.slice none 0 0,.bool false],.bool false]) (by simp[results,Tryz.results70,go_sem,r_0,r_1,r_2,r_3,r_4,r_5]) rfl ?_
  refine HFQ.out _ _ ?_ (.inl ⟨HR0.out,rfl⟩)
  iterate 6 (refine Below.setCell ?_ (by simp;try omega) _)
  exact hB1
 obtain⟨i,y,hRi,hy⟩:=HAT.out (by omega)
 have HY:=zqd hy
 have hlt:i < n:=by have:=(List.getElem?_eq_some_iff.1 hy).1;have:=HN.out;omega
 obtain⟨g,off,rfl,hg,hcell⟩:=hat (by omega)
 obtain⟨btn,⟨qm,⟨au,ay,iy,jq⟩,jl⟩⟩:=y
 obtain⟨aa1,aut,acr⟩:∃ u,w.cell? ⟨g,off+i * 7+1,none⟩=some u∧Rep w B (.row 5 (qm.flatMap Param.pd)) u:=hcell i 1 _ _ hy (by rw[Fun.aj];rfl)
 obtain⟨ab3,ab4,ab5,rfl⟩:=acr.form
 have afo:=zqd acr
 have an4:w1.cell? ⟨g,off+i * 7+1,none⟩=some (.slice ab3 ab4 ab5):=(hB1.cell (p:=⟨g,off+i * 7+1,none⟩) (by simp only;omega)).trans aut
 clear acr aut
 have aj1:w1.cell? ⟨g,off+i * 7+2,none⟩=some (.int .i64 au):=bg hB1 (by omega) (hcell i 2 _ _ hy (by rw[Fun.aj];rfl))
 have aj2:w1.cell? ⟨g,off+i * 7+3,none⟩=some (.string ay):=bg hB1 (by omega) (hcell i 3 _ _ hy (by rw[Fun.aj];rfl))
 obtain⟨su,an9,zy⟩:∃ u,w.cell? ⟨g,off+i * 7+4,none⟩=some u∧Rep w B (.row 1 (iy.flatMap qj)) u:=hcell i 4 _ _ hy (by rw[Fun.aj];rfl)
 obtain⟨yu,yw,yx,rfl⟩:=zy.form
 have adp:=zqd zy
 have ai8:w1.cell? ⟨g,off+i * 7+4,none⟩=some (.slice yu yw yx):=(hB1.cell (p:=⟨g,off+i * 7+4,none⟩) (by simp only;omega)).trans an9
 clear zy an9
 obtain⟨xu,apj,aar⟩:∃ u,w.cell? ⟨g,off+i * 7+5,none⟩=some u∧Rep w B (.row 4 (jq.flatMap Ty.pd)) u:=hcell i 5 _ _ hy (by rw[Fun.aj];rfl)
 obtain⟨aad,aae,aaf,rfl⟩:=aar.form
 have aed:=zqd aar
 have aj3:w1.cell? ⟨g,off+i * 7+5,none⟩=some (.slice aad aae aaf):=(hB1.cell (p:=⟨g,off+i * 7+5,none⟩) (by simp only;omega)).trans apj
 clear aar apj
 have aor:w1.cell? ⟨g,off+i * 7+6,none⟩=some (.bool jl):=bg hB1 (by omega) (hcell i 6 _ _ hy (by rw[Fun.aj];rfl))
 have HCL:=zqd (jh.close_ (async:=jl) (dh:=au) (dn:=ay) afo.out adp.out aed.out)
 have a_f:w1.cell? ⟨w.heap.size,4,none⟩=some (.slice (some ⟨g,off,none⟩) n c):=bA1.cell 4
 have hi0:(0:Int)≤(i:Int):=by omega
 have hin:(i:Int) < (n:Int):=by omega
 subst hRi
 clear hneg hy hcell hat HAT
 go_wp2_with fail
 have bM:Blk ((((((w1.setCell ⟨w.heap.size+1+1,0,none⟩ (.slice ab3 ab4 ab5)).setCell ⟨w.heap.size+1+1,1,none⟩ (.int .i64 au)).setCell ⟨w.heap.size+1+1,2,none⟩ (.string ay)).setCell ⟨w.heap.size+1+1,3,none⟩ (.slice yu yw yx)).setCell ⟨w.heap.size+1+1,4,none⟩ (.slice aad aae aaf)).setCell ⟨w.heap.size+1+1,5,none⟩ (.bool jl)) (w.heap.size+1+1) 62 #[.slice ab3 ab4 ab5,.int .i64 au,.string ay,.slice yu yw yx,.slice aad aae aaf,.bool jl]:=by have:=((((((bR1.aam 0 (.slice ab3 ab4 ab5)).aam 1 (.int .i64 au)).aam 2 (.string ay)).aam 3 (.slice yu yw yx)).aam 4 (.slice aad aae aaf)).aam 5 (.bool jl));simpa using this
 have n_0:=bM.cell 0
 have n_1:=bM.cell 1
 have n_2:=bM.cell 2
 have n_3:=bM.cell 3
 have n_4:=bM.cell 4
 have n_5:=bM.cell 5
 refine bodyPost_ret (v:=.tuple #[.agg #[.slice ab3 ab4 ab5,.int .i64 au,.string ay,.slice yu yw yx,.slice aad aae aaf,.bool jl],.bool true]) (by simp[results,Tryz.results70,go_sem,n_0,n_1,n_2,n_3,n_4,n_5]) rfl ?_
 refine HFQ.out _ _ ?_ (.inr ⟨i,_,[.slice ab3 ab4 ab5,.int .i64 au,.string ay,.slice yu yw yx,.slice aad aae aaf,.bool jl],rfl,HY.out,rfl,HCL.out⟩)
 iterate 6 (refine Below.setCell ?_ (by simp;try omega) _)
 exact hB1
end Go.Proofs.YtbafphecjijdmaaGreatDoor
