/-
  The reference's l03In, FuncIn: a function of an interface, by its name (by program: gen_fct.py).
-/
import Derived.Test.YtbafphecjijdmaaGreatDoorWa30
import Derived.Test.YtbafphecjijdmaaGreatDoorWa33
import Derived.Test.YtbafphecjijdmaaGreatDoorWa12
namespace Go.Proofs.YtbafphecjijdmaaGreatDoor
open Go.RowKit
set_option linter.unusedVariables false
set_option linter.unusedSimpArgs false
set_option linter.unnecessarySimpa false
set_option maxRecDepth 16000
set_option maxHeartbeats 3200000 in
theorem bd0 (f:qg) (nm:ByteArray) {B:Nat} {cs:List Value} {w:World} (hB:B≤w.heap.size) (h:jy w B (qg.pd f) cs):
  Calls Tryz.prog 92 #[.agg cs.toArray,.string nm] w fun e w'=>e=.returned (.int .i64 (ah7 f.funcs nm))∧Below w.heap.size w w':=by
 obtain⟨package,name,version,resources,funcs⟩:=f
 obtain⟨R,hR⟩:∃ R:Int,R=ah7 funcs nm:=⟨_,rfl⟩
 simp only
 rw[← hR]
 have HR:=Lib.hid hR
 clear hR
 obtain⟨oz,aaq,rfl,aa8,ad4⟩:=qg.open_ h
 have adq:=Lib.hid aa8
 clear aa8
 have af0:=Lib.hid ad4
 clear ad4
 obtain⟨A,n,c,rfl,hnl,hm,hat⟩:=ny Fun.jw (by decide) af0.out
 unfold maxLen at hm
 have HN:=Lib.hid hnl
 clear h hnl
 go_enter Tryz.func92,Tryz.ntmps92
 go_wp2_with fail
 obtain⟨w0,hw0⟩:∃ W,W=w.alloc (.cells #[.string package,.string name,.string version,oz,.slice A n c] 30):=⟨_,rfl⟩
 rw[← hw0]
 have bA:Blk w0 w.heap.size 30 #[.string package,.string name,.string version,oz,.slice A n c]:=by rw[hw0];exact Blk.new w _ _
 have hB0:Below w.heap.size w w0:=by rw[hw0];exact(Below.refl _ _).alloc (Nat.le_refl _) _
 clear hw0
 go_loopw [5] (fun i wr=>∃ k:Nat,k≤n∧i=.int .i64 k∧Hid (∀ (j:Nat) (t:Fun),j < k→funcs[j]?=some t→decide (t.name=nm)=false)∧Below w0.heap.size w0 wr) (fun i _=>n - (intOf i).toNat)
 case atStart=>exact⟨0,Nat.zero_le _,rfl,Lib.hid fun j t h=>absurd h (by omega),Below.refl _ _⟩
 case round=>
  obtain⟨k,hk,rfl,HP,hbr⟩:=hrel
  have hBr:=hB0.trans (hbr.mono hB0.size)
  have bR:=bA.step hbr
  have b_f:wr.cell? ⟨w.heap.size,4,none⟩=some (.slice A n c):=bR.cell 4
  by_cases hlt:k < n
  case neg=>
   have hkn:k=n:=by omega
   have HI:Hid (R=-1):=by show _=_;rw[HR.out,ah7];exact aif fun j t ht=>HP.out j t (by have:=(List.getElem?_eq_some_iff.1 ht).1;have:=HN.out;omega) ht
   subst hkn
   go_wp2_with fail
   go_ret
   exact⟨aao HI.out.symm,hBr⟩
  obtain⟨g,off,rfl,hg2,hcell2⟩:=hat (by omega)
  obtain⟨t2,hx2,ac9⟩:=xg HN.out hlt
  obtain⟨name2,⟨ach,⟨l7,l9,zl,aan⟩,x9⟩⟩:=t2
  have afe:wr.cell? ⟨g,off+k * 7,none⟩=some (.string name2):=gq hBr (by omega) (hcell2 k 0 _ _ hx2 (by rw[Fun.ay];rfl))
  obtain⟨ao5,akc,afd⟩:∃ u,wr.cell? ⟨g,off+k * 7+1,none⟩=some u∧Rep wr B (.row 5 (ach.flatMap Param.pd)) u:=ku hBr (by omega) hB (hcell2 k 1 _ _ hx2 (by rw[Fun.ay];rfl))
  have afy:=Lib.hid afd
  clear afd
  have ahh:wr.cell? ⟨g,off+k * 7+2,none⟩=some (.int .i64 l7):=gq hBr (by omega) (hcell2 k 2 _ _ hx2 (by rw[Fun.ay];rfl))
  have ahi:wr.cell? ⟨g,off+k * 7+3,none⟩=some (.string l9):=gq hBr (by omega) (hcell2 k 3 _ _ hx2 (by rw[Fun.ay];rfl))
  obtain⟨akh,ag0,ada⟩:∃ u,wr.cell? ⟨g,off+k * 7+4,none⟩=some u∧Rep wr B (.row 1 (zl.flatMap tu)) u:=ku hBr (by omega) hB (hcell2 k 4 _ _ hx2 (by rw[Fun.ay];rfl))
  have ad2:=Lib.hid ada
  clear ada
  obtain⟨alg,ahj,ad6⟩:∃ u,wr.cell? ⟨g,off+k * 7+5,none⟩=some u∧Rep wr B (.row 4 (aan.flatMap Ty.pd)) u:=ku hBr (by omega) hB (hcell2 k 5 _ _ hx2 (by rw[Fun.ay];rfl))
  have ad9:=Lib.hid ad6
  clear ad6
  have akr:wr.cell? ⟨g,off+k * 7+6,none⟩=some (.bool x9):=gq hBr (by omega) (hcell2 k 6 _ _ hx2 (by rw[Fun.ay];rfl))
  have HX2:=Lib.hid hx2
  have HM2:=Lib.hid ac9
  clear hx2 ac9
  clear hcell2
  by_cases hb:name2=nm
  ·have HI:Hid (R=(k:Int)):=by show _=_;rw[HR.out,ah7];exact aiv HP.out HX2.out (by simp[hb])
   subst hb
   go_wp2_with fail
   go_ret
   exact⟨aao HI.out.symm,hBr⟩
  ·have HB:=Lib.hid (afr HP.out HX2.out (by simp[hb]))
   have hs:=ae0 hb
   clear hb
   go_wp2_with fail
   go_roundw
   case rel=>exact⟨k+1,by omega,by go_num,HB,hbr⟩
   case measure=>simp[intOf];omega
theorem ayt {fs : List Fun} {nm : ByteArray} (h : ¬ ah7 fs nm < 0) : ∃ (i : Nat) (y : Fun), ah7 fs nm = i ∧ fs[i]? = some y := by
  have hlo := aoq (fun x : Fun => decide (x.name = nm)) fs
  have : ∀ (ts : List Fun), 0 ≤ acg (fun x : Fun => decide (x.name = nm)) ts → ∃ (i : Nat) (y : Fun), acg (fun x : Fun => decide (x.name = nm)) ts = i ∧ ts[i]? = some y := fun ts h0 => by
    have ha : ts.any (fun x : Fun => decide (x.name = nm)) = true := by rw [← ajs, decide_eq_true h0]
    by_cases hex : ∃ k : Nat, ∃ t, ts[k]? = some t ∧ decide (t.name = nm) = true
    ·
      have hfirst : ∃ k : Nat, (∃ t, ts[k]? = some t ∧ decide (t.name = nm) = true) ∧ ∀ j, j < k → ∀ t, ts[j]? = some t → decide (t.name = nm) = false := by
        obtain ⟨k, hk⟩ := hex
        induction k using Nat.strongRecOn with
        | _ k ih =>
          by_cases hj : ∃ j, j < k ∧ ∃ t, ts[j]? = some t ∧ decide (t.name = nm) = true
          · obtain ⟨j, hjk, hjt⟩ := hj
            exact ih j hjk hjt
          · exact ⟨k, hk, fun j hjk t ht => by
              cases hd : decide (t.name = nm)
              · rfl
              · exact absurd ⟨j, hjk, t, ht, hd⟩ hj⟩
      obtain ⟨k, ⟨t, ht, hd⟩, hpre⟩ := hfirst
      exact ⟨k, t, aiv (fun j t hj ht => hpre j hj t ht) ht hd, ht⟩
    · exfalso
      obtain ⟨t, htm, hd⟩ := List.any_eq_true.1 ha
      obtain ⟨j, hj, rfl⟩ := List.getElem_of_mem htm
      exact hex ⟨j, _, List.getElem?_eq_getElem hj, hd⟩
  exact this fs (by rw [ah7] at h; omega)
theorem a2w {α:Type} {f:α→List PD}:∀ {ts:List α} {t:α},t ∈ ts→PD.szL (f t)≤PD.szL (ts.flatMap f)
 | [],t,h=>absurd h (by simp)
 | x ::ts,t,h=>by
  rw[List.flatMap_cons,aib]
  rcases List.mem_cons.1 h with rfl|h
  ·omega
  ·have:=a2w (f:=f) h;omega
theorem ake {f:qg} (h:PD.szL (qg.pd f)≤1048576):f.version.size≤1048576∧∀ x ∈ f.funcs,PD.szL (jh.pd x.typ)≤1048576:=by
 obtain⟨package,name,version,resources,funcs⟩:=f
 rw[qg.ay] at h
 simp only[PD.szL] at h
 have hv:(PD.lit (.string version)).sz=version.size:=by simp[PD.sz]
 refine⟨by simp only;omega,fun x hx=>?_⟩
 have h1:=a2w (f:=Fun.pd) hx
 have h2:PD.szL (jh.pd x.typ)≤PD.szL (Fun.pd x):=by rw[Fun.pd,aib];omega
 rw[aic Fun.jw (by decide)] at h
 have h4:PD.szL (Fun.pd x)≤PD.szL (funcs.flatMap Fun.pd):=h1
 omega
def blm (f:qg) (nm:ByteArray) (w:World) (e:Ending) (w':World):Prop:=
 Below w.heap.size w w'∧((ah7 f.funcs nm < 0∧e=.returned (.tuple #[.agg #[.slice none 0 0,.int .i64 0,.string {data:=#[]},.slice none 0 0,.slice none 0 0,.bool false],.bool false]))∨
  ∃ (i:Nat) (y:Fun) (us:List Value),ah7 f.funcs nm=i∧f.funcs[i]?=some y∧e=.returned (.tuple #[.agg us.toArray,.bool true])∧LvC w' w.heap.size w'.heap.size (jh.pd y.typ) us)
set_option maxHeartbeats 12800000 in
theorem a5b (f:qg) (nm:ByteArray) (hf:agc f=true) (hwf:PD.wfL (qg.pd f)) (hsz:PD.szL (qg.pd f)≤1048576) {B:Nat} {cs:List Value} {w:World} (hB:B≤w.heap.size) (h:jy w B (qg.pd f) cs):
  Calls Tryz.prog 58 #[.agg cs.toArray,.string nm] w fun e w'=>blm f nm w e w':=by
 have HFA:=Lib.hid (fun(V:World) (hV:B≤V.heap.size) ds (k:jy V B (qg.pd f) ds)=>axg f (w:=V) hV hwf k)
 have HIN:=Lib.hid (fun(V:World) (hV:B≤V.heap.size) ds (k:jy V B (qg.pd f) ds)=>bd0 f nm (w:=V) hV k)
 have HSZ:=Lib.hid (ake hsz).2
 rw[hf] at HFA
 obtain⟨R,hR⟩:∃ R:Int,R=ah7 f.funcs nm:=⟨_,rfl⟩
 rw[← hR] at HIN
 have HFQ:Hid (∀ (e:Ending) (w':World),Below w.heap.size w w'→((ah7 f.funcs nm < 0∧e=.returned (.tuple #[.agg #[.slice none 0 0,.int .i64 0,.string {data:=#[]},.slice none 0 0,.slice none 0 0,.bool false],.bool false]))∨∃ (i:Nat) (y:Fun) (us:List Value),ah7 f.funcs nm=i∧f.funcs[i]?=some y∧e=.returned (.tuple #[.agg us.toArray,.bool true])∧LvC w' w.heap.size w'.heap.size (jh.pd y.typ) us)→blm f nm w e w'):=Lib.hid (fun e w' hb hq=>⟨hb,hq⟩)
 rw[← hR] at HFQ
 have HAT:=Lib.hid (fun(hh:¬ R < 0)=>ayt (fs:=f.funcs) (nm:=nm) (by rw[← hR];exact hh))
 rw[← hR] at HAT
 clear hf hwf hsz hR
 obtain⟨package,name,version,resources,funcs⟩:=f
 simp only at HAT HFQ HSZ
 obtain⟨oz,aaq,rfl,aa8,ad4⟩:=qg.open_ h
 have adq:=Lib.hid aa8
 clear aa8
 have af0:=Lib.hid ad4
 clear ad4
 obtain⟨A,n,c,rfl,hnl,hm,hat⟩:=ny Fun.jw (by decide) af0.out
 obtain⟨RA,rn,rc,rfl⟩:=adq.out.form
 unfold maxLen at hm
 have HN:=Lib.hid hnl
 clear h hnl
 have amz:=Lib.hid (fun(V:World) (hV:Below w.heap.size w V)=>qg.close_ (package:=package) (name:=name) (version:=version) (adq.out.below (hV.mono hB)) (af0.out.below (hV.mono hB)))
 go_enter Tryz.func58,Tryz.ntmps58
 go_wp2_with fail
 obtain⟨w0,hw0⟩:∃ V,V=(w.alloc (.cells #[.string package,.string name,.string version,.slice RA rn rc,.slice A n c] 30)).alloc (.cells #[.slice none 0 0,.int .i64 0,.string {data:=#[]},.slice none 0 0,.slice none 0 0,.bool false] 62):=⟨_,rfl⟩
 rw[← hw0]
 have bA:Blk w0 w.heap.size 30 #[.string package,.string name,.string version,.slice RA rn rc,.slice A n c]:=by rw[hw0];exact(Blk.new w _ _).alloc _
 have bR:Blk w0 (w.heap.size+1) 62 #[.slice none 0 0,.int .i64 0,.string {data:=#[]},.slice none 0 0,.slice none 0 0,.bool false]:=by rw[hw0];have:=Blk.new (w.alloc (.cells #[.string package,.string name,.string version,.slice RA rn rc,.slice A n c] 30)) 62 #[.slice none 0 0,.int .i64 0,.string {data:=#[]},.slice none 0 0,.slice none 0 0,.bool false];simpa using this
 have hB0:Below w.heap.size w w0:=by rw[hw0];exact((Below.refl _ _).alloc (Nat.le_refl _) _).alloc (by simp) _
 clear hw0
 refine(HFA.out w0 (Nat.le_trans hB hB0.size) _ (amz.out w0 hB0)).mono ?_
 rintro e w1 ⟨rfl,hb1⟩
 have hB1:=hB0.trans (hb1.mono hB0.size)
 have bA1:=bA.step hb1
 have bR1:=bR.step hb1
 have a_0:w1.cell? ⟨w.heap.size,0,none⟩=some (.string package):=bA1.cell 0
 have a_1:w1.cell? ⟨w.heap.size,1,none⟩=some (.string name):=bA1.cell 1
 have a_2:w1.cell? ⟨w.heap.size,2,none⟩=some (.string version):=bA1.cell 2
 have a_3:w1.cell? ⟨w.heap.size,3,none⟩=some (.slice RA rn rc):=bA1.cell 3
 have a_4:w1.cell? ⟨w.heap.size,4,none⟩=some (.slice A n c):=bA1.cell 4
 clear bA bR
 go_wp2_with fail
 refine(HIN.out w1 (Nat.le_trans hB hB1.size) _ (amz.out w1 hB1)).mono ?_
 rintro e w2 ⟨rfl,hb2⟩
 have hB2:=hB1.trans (hb2.mono hB1.size)
 have bA2:=bA1.step hb2
 have bR2:=bR1.step hb2
 clear bA1 bR1 a_0 a_1 a_2 a_3 a_4
 by_cases hneg:R < 0
 ·have HR0:=Lib.hid hneg
  have r_0:w2.cell? ⟨w.heap.size+1,0,none⟩=some (.slice none 0 0):=bR2.cell 0
  have f_0:=bR2.frozen 0
  have r_1:w2.cell? ⟨w.heap.size+1,1,none⟩=some (.int .i64 0):=bR2.cell 1
  have f_1:=bR2.frozen 1
  have r_2:w2.cell? ⟨w.heap.size+1,2,none⟩=some (.string {data:=#[]}):=bR2.cell 2
  have f_2:=bR2.frozen 2
  have r_3:w2.cell? ⟨w.heap.size+1,3,none⟩=some (.slice none 0 0):=bR2.cell 3
  have f_3:=bR2.frozen 3
  have r_4:w2.cell? ⟨w.heap.size+1,4,none⟩=some (.slice none 0 0):=bR2.cell 4
  have f_4:=bR2.frozen 4
  have r_5:w2.cell? ⟨w.heap.size+1,5,none⟩=some (.bool false):=bR2.cell 5
  have f_5:=bR2.frozen 5
  go_wp2_with fail
  refine bodyPost_ret (v:=.tuple #[.agg #[.slice none 0 0,.int .i64 0,.string {data:=#[]},.slice none 0 0,.slice none 0 0,.bool false],.bool false]) (by simp[results,Tryz.results58,go_sem,r_0,r_1,r_2,r_3,r_4,r_5]) rfl ?_
  refine HFQ.out _ _ ?_ (.inl ⟨HR0.out,rfl⟩)
  iterate 6 (refine Below.setCell ?_ (by simp) _)
  exact hB2
 obtain⟨i,y,hRi,hy⟩:=HAT.out (by omega)
 have HY:=Lib.hid hy
 have HRi:=Lib.hid hRi
 have hlt:i < n:=by have:=(List.getElem?_eq_some_iff.1 hy).1;have:=HN.out;omega
 obtain⟨g,off,rfl,hg,hcell⟩:=hat (by omega)
 obtain⟨bm9,⟨ql,⟨aj,au,iw,jl⟩,jg⟩⟩:=y
 obtain⟨aav,amy,ab8⟩:∃ u,w.cell? ⟨g,off+i * 7+1,none⟩=some u∧Rep w B (.row 5 (ql.flatMap Param.pd)) u:=hcell i 1 _ _ hy (by rw[Fun.ay];rfl)
 obtain⟨abt,abu,abv,rfl⟩:=ab8.form
 have ae8:=Lib.hid ab8
 clear ab8
 have ai3:w.cell? ⟨g,off+i * 7+2,none⟩=some (.int .i64 aj):=gq (Below.refl _ _) (by omega) (hcell i 2 _ _ hy (by rw[Fun.ay];rfl))
 have ai4:w.cell? ⟨g,off+i * 7+3,none⟩=some (.string au):=gq (Below.refl _ _) (by omega) (hcell i 3 _ _ hy (by rw[Fun.ay];rfl))
 obtain⟨tq,ah6,zk⟩:∃ u,w.cell? ⟨g,off+i * 7+4,none⟩=some u∧Rep w B (.row 1 (iw.flatMap tu)) u:=hcell i 4 _ _ hy (by rw[Fun.ay];rfl)
 obtain⟨yh,yj,yt,rfl⟩:=zk.form
 have ac7:=Lib.hid zk
 clear zk
 obtain⟨vk,ai5,aai⟩:∃ u,w.cell? ⟨g,off+i * 7+5,none⟩=some u∧Rep w B (.row 4 (jl.flatMap Ty.pd)) u:=hcell i 5 _ _ hy (by rw[Fun.ay];rfl)
 obtain⟨zn,zo,zq,rfl⟩:=aai.form
 have adx:=Lib.hid aai
 clear aai
 have anl:w.cell? ⟨g,off+i * 7+6,none⟩=some (.bool jg):=gq (Below.refl _ _) (by omega) (hcell i 6 _ _ hy (by rw[Fun.ay];rfl))
 have hwo:=HSZ.out _ (List.mem_of_getElem? hy)
 simp only at hwo
 have hi0:(0:Int)≤(i:Int):=by omega
 have hin:(i:Int) < (n:Int):=by omega
 have aly:=hB2
 have HS:Hid (∀ V,Keep (w.heap.size+1) (w.heap.size+1+1) w2 V→V.cell? ⟨w.heap.size,0,none⟩=some (.string package)∧V.cell? ⟨w.heap.size,1,none⟩=some (.string name)∧V.cell? ⟨w.heap.size,2,none⟩=some (.string version)∧V.cell? ⟨w.heap.size,3,none⟩=some (.slice RA rn rc)∧V.cell? ⟨w.heap.size,4,none⟩=some (.slice (some ⟨g,off,none⟩) n c)∧V.cell? ⟨g,off+i * 7+1,none⟩=some (.slice abt abu abv)∧V.cell? ⟨g,off+i * 7+2,none⟩=some (.int .i64 aj)∧V.cell? ⟨g,off+i * 7+3,none⟩=some (.string au)∧V.cell? ⟨g,off+i * 7+4,none⟩=some (.slice yh yj yt)∧V.cell? ⟨g,off+i * 7+5,none⟩=some (.slice zn zo zq)∧V.cell? ⟨g,off+i * 7+6,none⟩=some (.bool jg)):=Lib.hid fun V hV=>⟨(hV.cell (p:=⟨w.heap.size,0,none⟩) bA2.lt (.inl (by simp))).trans (bA2.cell 0),(hV.cell (p:=⟨w.heap.size,1,none⟩) bA2.lt (.inl (by simp))).trans (bA2.cell 1),(hV.cell (p:=⟨w.heap.size,2,none⟩) bA2.lt (.inl (by simp))).trans (bA2.cell 2),(hV.cell (p:=⟨w.heap.size,3,none⟩) bA2.lt (.inl (by simp))).trans (bA2.cell 3),(hV.cell (p:=⟨w.heap.size,4,none⟩) bA2.lt (.inl (by simp))).trans (bA2.cell 4),(hV.cell (p:=⟨g,off+i * 7+1,none⟩) (by have:=aly.size;simp only;omega) (.inl (by simp only;omega))).trans ((aly.cell (p:=⟨g,off+i * 7+1,none⟩) (by simp only;omega)).trans amy),(hV.cell (p:=⟨g,off+i * 7+2,none⟩) (by have:=aly.size;simp only;omega) (.inl (by simp only;omega))).trans ((aly.cell (p:=⟨g,off+i * 7+2,none⟩) (by simp only;omega)).trans ai3),(hV.cell (p:=⟨g,off+i * 7+3,none⟩) (by have:=aly.size;simp only;omega) (.inl (by simp only;omega))).trans ((aly.cell (p:=⟨g,off+i * 7+3,none⟩) (by simp only;omega)).trans ai4),(hV.cell (p:=⟨g,off+i * 7+4,none⟩) (by have:=aly.size;simp only;omega) (.inl (by simp only;omega))).trans ((aly.cell (p:=⟨g,off+i * 7+4,none⟩) (by simp only;omega)).trans ah6),(hV.cell (p:=⟨g,off+i * 7+5,none⟩) (by have:=aly.size;simp only;omega) (.inl (by simp only;omega))).trans ((aly.cell (p:=⟨g,off+i * 7+5,none⟩) (by simp only;omega)).trans ai5),(hV.cell (p:=⟨g,off+i * 7+6,none⟩) (by have:=aly.size;simp only;omega) (.inl (by simp only;omega))).trans ((aly.cell (p:=⟨g,off+i * 7+6,none⟩) (by simp only;omega)).trans anl)⟩
 have HCI:=Lib.hid (fun(V:World) (hV:Below w2.heap.size w2 V)=>HIN.out V (Nat.le_trans hB (Nat.le_trans hB2.size hV.size)) _ (amz.out V (hB2.trans (hV.mono hB2.size))))
 have HCO:=Lib.hid (fun(V:World) (hV:Below w2.heap.size w2 V)=>a5a ⟨ql,⟨aj,au,iw,jl⟩,jg⟩ B [.slice abt abu abv,.int .i64 aj,.string au,.slice yh yj yt,.slice zn zo zq,.bool jg] V (Nat.le_trans hB (Nat.le_trans hB2.size hV.size)) hwo (jh.close_ (ae8.out.below ((hB2.trans (hV.mono hB2.size)).mono hB)) (ac7.out.below ((hB2.trans (hV.mono hB2.size)).mono hB)) (adx.out.below ((hB2.trans (hV.mono hB2.size)).mono hB))))
 have hdr:Below w2.heap.size w2 w2.drew:=(Below.refl _ _).drew
 subst hRi
 clear hneg hy hcell hat HIN HFA HAT
 go_wp2_with fail
 refine wp_region_held_drew (S:=(fun w'=>w'.cell? ⟨w.heap.size,0,none⟩=some (.string package)∧w'.cell? ⟨w.heap.size,1,none⟩=some (.string name)∧w'.cell? ⟨w.heap.size,2,none⟩=some (.string version)∧w'.cell? ⟨w.heap.size,3,none⟩=some (.slice RA rn rc)∧w'.cell? ⟨w.heap.size,4,none⟩=some (.slice (some ⟨g,off,none⟩) n c)∧w'.cell? ⟨g,off+i * 7+1,none⟩=some (.slice abt abu abv)∧w'.cell? ⟨g,off+i * 7+2,none⟩=some (.int .i64 aj)∧w'.cell? ⟨g,off+i * 7+3,none⟩=some (.string au)∧w'.cell? ⟨g,off+i * 7+4,none⟩=some (.slice yh yj yt)∧w'.cell? ⟨g,off+i * 7+5,none⟩=some (.slice zn zo zq)∧w'.cell? ⟨g,off+i * 7+6,none⟩=some (.bool jg))) (by kernel_rfl) (HS.out _ (Keep.refl _ _ _).drew) (fun hHeld=>?_)
 refine wpAnyH_take (i:=0) (oi:=_) (v:=_) (by simp only[List.getElem?_toArray,List.getElem?_cons_succ,List.getElem?_cons_zero];rfl) (by kernel_rfl) (by kernel_rfl) (by kernel_rfl) (by exact fun _ _ _ h=>h) (Or.inl ⟨by rfl,by intro w hSw;(try dsimp only at hSw);go_simp;try with_reducible rfl⟩) (by assumption) ?_
 try simp only[Act.put,List.setIfInBounds_toArray,List.set_cons_zero,List.set_cons_succ]
 refine wpAnyH_take (i:=1) (oi:=_) (v:=_) (by simp only[List.getElem?_toArray,List.getElem?_cons_succ,List.getElem?_cons_zero];rfl) (by kernel_rfl) (by kernel_rfl) (by kernel_rfl) (by exact fun _ _ _ h=>h) (Or.inl ⟨by rfl,by intro w hSw;(try dsimp only at hSw);go_simp;try with_reducible rfl⟩) (by assumption) ?_
 try simp only[Act.put,List.setIfInBounds_toArray,List.set_cons_zero,List.set_cons_succ]
 refine wpAnyH_take (i:=2) (oi:=_) (v:=_) (by simp only[List.getElem?_toArray,List.getElem?_cons_succ,List.getElem?_cons_zero];rfl) (by kernel_rfl) (by kernel_rfl) (by kernel_rfl) (by exact fun _ _ _ h=>h) (Or.inl ⟨by rfl,by intro w hSw;(try dsimp only at hSw);go_simp;try with_reducible rfl⟩) (by assumption) ?_
 try simp only[Act.put,List.setIfInBounds_toArray,List.set_cons_zero,List.set_cons_succ]
 refine wpAnyH_take (i:=3) (oi:=_) (v:=_) (by simp only[List.getElem?_toArray,List.getElem?_cons_succ,List.getElem?_cons_zero];rfl) (by kernel_rfl) (by kernel_rfl) (by kernel_rfl) (by exact fun _ _ _ h=>h) (Or.inl ⟨by rfl,by intro w hSw;(try dsimp only at hSw);go_simp;try with_reducible rfl⟩) (by assumption) ?_
 try simp only[Act.put,List.setIfInBounds_toArray,List.set_cons_zero,List.set_cons_succ]
 refine wpAnyH_ready (rs:=[4]) (by kernel_rfl) (by simp) ?_
 refine AllReadyH.cons (o:=?o1) ?h1 (fun K hK=>?k1) AllReadyH.nil
 case h1=>
  simp only[List.getElem?_toArray,List.getElem?_cons_succ,List.getElem?_cons_zero];rfl
 go_simp
 go_at_call 92
 refine(HCI.out _ hdr).mono ?_
 rintro e wq ⟨rfl,hbq⟩
 have hq1:=hdr.trans (hbq.mono hdr.size)
 have hk1:Keep (w.heap.size+1) (w.heap.size+1+1) w2 wq:=Keep.of_below hq1
 refine hK.out _ _ (by first|exact(HS.out _ (by repeat(first|with_reducible exact hk2|with_reducible exact hk1|with_reducible exact Keep.refl _ _ _|with_reducible refine Keep.drew ?_|with_reducible refine Keep.setAt ?_ _ _)))|go_keep) (fun hHeld=>?_)
 clear hK K
 try simp only[Act.put,List.setIfInBounds_toArray,List.set_cons_zero,List.set_cons_succ]
 refine wpAnyH_take (i:=5) (oi:=_) (v:=_) (by simp only[List.getElem?_toArray,List.getElem?_cons_succ,List.getElem?_cons_zero];rfl) (by kernel_rfl) (by kernel_rfl) (by kernel_rfl) (by exact fun _ _ _ h=>h) (Or.inl ⟨by rfl,by intro w hSw;(try dsimp only at hSw);go_simp;try with_reducible rfl⟩) (by assumption) ?_
 try simp only[Act.put,List.setIfInBounds_toArray,List.set_cons_zero,List.set_cons_succ]
 refine wpAnyH_take (i:=6) (oi:=_) (v:=_) (by simp only[List.getElem?_toArray,List.getElem?_cons_succ,List.getElem?_cons_zero];rfl) (by kernel_rfl) (by kernel_rfl) (by kernel_rfl) (by exact fun _ _ _ h=>h) (Or.inl ⟨by rfl,by intro w hSw;(try dsimp only at hSw);go_simp;try with_reducible rfl⟩) (by assumption) ?_
 try simp only[Act.put,List.setIfInBounds_toArray,List.set_cons_zero,List.set_cons_succ]
 refine wpAnyH_take (i:=7) (oi:=_) (v:=_) (by simp only[List.getElem?_toArray,List.getElem?_cons_succ,List.getElem?_cons_zero];rfl) (by kernel_rfl) (by kernel_rfl) (by kernel_rfl) (by exact fun _ _ _ h=>h) (Or.inl ⟨by rfl,by intro w hSw;(try dsimp only at hSw);go_simp;try with_reducible rfl⟩) (by assumption) ?_
 try simp only[Act.put,List.setIfInBounds_toArray,List.set_cons_zero,List.set_cons_succ]
 refine wpAnyH_ready (rs:=[8]) (by kernel_rfl) (by simp) ?_
 refine AllReadyH.cons (o:=?o2) ?h2 (fun K hK=>?k2) AllReadyH.nil
 case h2=>
  simp only[List.getElem?_toArray,List.getElem?_cons_succ,List.getElem?_cons_zero];rfl
 go_simp
 go_at_call 93
 refine(HCO.out _ hq1).mono ?_
 rintro e wz ⟨us,rfl,hl,hbz⟩
 have hq2:=hq1.trans (hbz.mono hq1.size)
 have hk2:Keep (w.heap.size+1) (w.heap.size+1+1) w2 wz:=Keep.of_below hq2
 obtain⟨pA,pN,pC,lA,lN,lC,kA,kN,kC,rfl⟩:=jh.afp hl
 have HL:=Lib.hid hl
 have bRz:=bR2.step hq2
 have f0:=bRz.frozen 0
 have r0:wz.cell? ⟨w.heap.size+1,0,none⟩=some (.slice none 0 0):=bRz.cell 0
 have f1:=bRz.frozen 1
 have r1:wz.cell? ⟨w.heap.size+1,1,none⟩=some (.int .i64 0):=bRz.cell 1
 have f2:=bRz.frozen 2
 have r2:wz.cell? ⟨w.heap.size+1,2,none⟩=some (.string {data:=#[]}):=bRz.cell 2
 have f3:=bRz.frozen 3
 have r3:wz.cell? ⟨w.heap.size+1,3,none⟩=some (.slice none 0 0):=bRz.cell 3
 have f4:=bRz.frozen 4
 have r4:wz.cell? ⟨w.heap.size+1,4,none⟩=some (.slice none 0 0):=bRz.cell 4
 have f5:=bRz.frozen 5
 have r5:wz.cell? ⟨w.heap.size+1,5,none⟩=some (.bool false):=bRz.cell 5
 refine hK.out _ _ (by first|exact(HS.out _ (by repeat(first|with_reducible exact hk2|with_reducible exact hk1|with_reducible exact Keep.refl _ _ _|with_reducible refine Keep.drew ?_|with_reducible refine Keep.setAt ?_ _ _)))|go_keep) (fun hHeld=>?_)
 clear hK K
 try simp only[Act.put,List.setIfInBounds_toArray,List.set_cons_zero,List.set_cons_succ]
 refine wpAnyH_ready (rs:=[9]) (by kernel_rfl) (by simp) ?_
 refine AllReadyH.cons (o:=?o3) ?h3 (fun K hK=>?k3) AllReadyH.nil
 case h3=>
  simp only[List.getElem?_toArray,List.getElem?_cons_succ,List.getElem?_cons_zero];rfl
 go_simp
 refine hK.out _ _ (by first|exact(HS.out _ (by repeat(first|with_reducible exact hk2|with_reducible exact hk1|with_reducible exact Keep.refl _ _ _|with_reducible refine Keep.drew ?_|with_reducible refine Keep.setAt ?_ _ _)))|go_keep) (fun hHeld=>?_)
 clear hK K
 try simp only[Act.put,List.setIfInBounds_toArray,List.set_cons_zero,List.set_cons_succ]
 refine wpAnyH_take (i:=10) (oi:=_) (v:=_) (by simp only[List.getElem?_toArray,List.getElem?_cons_succ,List.getElem?_cons_zero];rfl) (by kernel_rfl) (by kernel_rfl) (by kernel_rfl) (by exact fun _ _ _ h=>h) (Or.inl ⟨by rfl,by intro w hSw;(try dsimp only at hSw);go_simp;try with_reducible rfl⟩) (by assumption) ?_
 try simp only[Act.put,List.setIfInBounds_toArray,List.set_cons_zero,List.set_cons_succ]
 refine wpAnyH_done (by kernel_rfl) ?_ _
 go_wp2_with fail
 have bN:Blk ((((((wz.setCell ⟨w.heap.size+1,0,none⟩ (.slice pA pN pC)).setCell ⟨w.heap.size+1,1,none⟩ (.int .i64 aj)).setCell ⟨w.heap.size+1,2,none⟩ (.string au)).setCell ⟨w.heap.size+1,3,none⟩ (.slice lA lN lC)).setCell ⟨w.heap.size+1,4,none⟩ (.slice kA kN kC)).setCell ⟨w.heap.size+1,5,none⟩ (.bool jg)) (w.heap.size+1) 62 #[(.slice pA pN pC),(.int .i64 aj),(.string au),(.slice lA lN lC),(.slice kA kN kC),(.bool jg)]:=by
  have:=(((((bRz.abf 0 (.slice pA pN pC)).abf 1 (.int .i64 aj)).abf 2 (.string au)).abf 3 (.slice lA lN lC)).abf 4 (.slice kA kN kC)).abf 5 (.bool jg)
  simpa using this
 have n0:=bN.cell 0
 have n1:=bN.cell 1
 have n2:=bN.cell 2
 have n3:=bN.cell 3
 have n4:=bN.cell 4
 have n5:=bN.cell 5
 refine bodyPost_ret (v:=.tuple #[.agg #[(.slice pA pN pC),(.int .i64 aj),(.string au),(.slice lA lN lC),(.slice kA kN kC),(.bool jg)],.bool true]) (by simp[results,Tryz.results58,go_sem,n0,n1,n2,n3,n4,n5]) rfl ?_
 have hq3:=aly.trans (hq2.mono aly.size)
 refine HFQ.out _ _ ?_ (.inr ⟨i,_,[(.slice pA pN pC),(.int .i64 aj),(.string au),(.slice lA lN lC),(.slice kA kN kC),(.bool jg)],rfl,HY.out,rfl,?_⟩)
 ·iterate 6 (refine Below.setCell ?_ (by simp) _)
  exact hq3
 ·refine LvC.low (lo2:=wq.heap.size) (LvC.more (hi:=wz.heap.size) ?_ (Nat.le_refl _) (by simp[World.setCell]) (Nat.le_refl _)) (by have:=aly.size;have:=hq1.size;omega)
  iterate 6 (refine LvC.setCell ?_ (.inl (by have:=bR2.lt;have:=hq1.size;show w.heap.size+1 < wq.heap.size;omega)) _)
  exact HL.out
end Go.Proofs.YtbafphecjijdmaaGreatDoor
