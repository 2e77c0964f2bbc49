/-
  The reference's l03In, FuncIn: a function of an interface, by its name (by program: gen_fct.py).
-/
import Derived.Test.YtbafphecjijdmaaGreatDoorUb28
import Derived.Test.YtbafphecjijdmaaGreatDoorUb32
import Derived.Test.YtbafphecjijdmaaGreatDoorUb11
namespace Go.Proofs.YtbafphecjijdmaaGreatDoor
open Go.RowKit
set_option linter.all false
set_option maxRecDepth 16000
set_option maxHeartbeats 3200000 in
theorem bj8 (f:cu) (nm:ByteArray) {B:Nat} {cs:List Value} {w:World} (hB:B≤w.heap.size) (h:lq w B (cu.pd f) cs):
  Calls Tryz.prog 92 #[.agg cs.toArray,.string nm] w fun e w'=>e=.returned (.int .i64 (ait f.funcs nm))∧Below w.heap.size w w':=by
 obtain⟨package,name,version,resources,funcs⟩:=f
 obtain⟨R,hR⟩:∃ R:Int,R=ait funcs nm:=⟨_,rfl⟩
 simp only
 rw[← hR]
 have HR:=zqd hR
 clear hR
 obtain⟨aai,adq,rfl,abl,aei⟩:=cu.open_ h
 have ad4:=zqd abl
 clear abl
 have agn:=zqd aei
 clear aei
 obtain⟨A,n,c,rfl,hnl,hm,hat⟩:=ni Fun.jd (by decide) agn.out
 unfold maxLen at hm
 have HN:=zqd hnl
 clear h hnl
 go_enter Tryz.func92,Tryz.ntmps92
 go_wp2_with fail
 obtain⟨w0,hw0⟩:=zqe w 30 #[.string package,.string name,.string version,aai,.slice A n c]
 rw[← hw0]
 have bA:=zqn hw0
 have hB0:=zqb hw0
 clear hw0
 go_loopw [5] (fun i wr=>∃ k:Nat,k≤n∧i=.int .i64 k∧Hid (∀ (j:Nat) (t:Fun),j < k→funcs[j]?=some t→decide (t.name=nm)=false)∧Below w0.heap.size w0 wr) (fun i _=>n - (intOf i).toNat)
 case atStart=>exact⟨0,Nat.zero_le _,rfl,zqd fun j t h=>absurd h (by omega),zqf _ _⟩
 case round=>
  obtain⟨k,hk,rfl,HP,hbr⟩:=hrel
  have hBr:=hB0.trans (hbr.mono hB0.size)
  have bR:=bA.step hbr
  have b_f:wr.cell? ⟨w.heap.size,4,none⟩=some (.slice A n c):=bR.cell 4
  by_cases hlt:k < n
  case neg=>
   have hkn:k=n:=by omega
   have HI:Hid (R=-1):=by show _=_;rw[HR.out,ait];exact aji fun j t ht=>HP.out j t (by have:=(List.getElem?_eq_some_iff.1 ht).1;have:=HN.out;omega) ht
   subst hkn
   go_wp2_with fail
   go_ret
   exact⟨y7 HI.out.symm,hBr⟩
  obtain⟨g,off,rfl,hg2,hcell2⟩:=hat (by omega)
  obtain⟨t2,hx2,ab1⟩:=um HN.out hlt
  obtain⟨name2,⟨acz,⟨mg,ng,aac,aav⟩,yt⟩⟩:=t2
  have ad5:wr.cell? ⟨g,off+k * 7,none⟩=some (.string name2):=bg hBr (by omega) (hcell2 k 0 _ _ hx2 (by rw[Fun.aj];rfl))
  obtain⟨aqs,ak7,aft⟩:∃ u,wr.cell? ⟨g,off+k * 7+1,none⟩=some u∧Rep wr B (.row 5 (acz.flatMap Param.pd)) u:=jc hBr (by omega) hB (hcell2 k 1 _ _ hx2 (by rw[Fun.aj];rfl))
  have agm:=zqd aft
  clear aft
  have aia:wr.cell? ⟨g,off+k * 7+2,none⟩=some (.int .i64 mg):=bg hBr (by omega) (hcell2 k 2 _ _ hx2 (by rw[Fun.aj];rfl))
  have aib:wr.cell? ⟨g,off+k * 7+3,none⟩=some (.string ng):=bg hBr (by omega) (hcell2 k 3 _ _ hx2 (by rw[Fun.aj];rfl))
  obtain⟨ale,ahl,ads⟩:∃ u,wr.cell? ⟨g,off+k * 7+4,none⟩=some u∧Rep wr B (.row 1 (aac.flatMap qj)) u:=jc hBr (by omega) hB (hcell2 k 4 _ _ hx2 (by rw[Fun.aj];rfl))
  have aeg:=zqd ads
  clear ads
  obtain⟨ami,aic,aek⟩:∃ u,wr.cell? ⟨g,off+k * 7+5,none⟩=some u∧Rep wr B (.row 4 (aav.flatMap Ty.pd)) u:=jc hBr (by omega) hB (hcell2 k 5 _ _ hx2 (by rw[Fun.aj];rfl))
  have aeo:=zqd aek
  clear aek
  have alr:wr.cell? ⟨g,off+k * 7+6,none⟩=some (.bool yt):=bg hBr (by omega) (hcell2 k 6 _ _ hx2 (by rw[Fun.aj];rfl))
  have HX2:=zqd hx2
  have HM2:=zqd ab1
  clear hx2 ab1
  clear hcell2
  by_cases hb:name2=nm
  ·have HI:Hid (R=(k:Int)):=by show _=_;rw[HR.out,ait];exact ajs HP.out HX2.out (by simp[hb])
   subst hb
   go_wp2_with fail
   go_ret
   exact⟨y7 HI.out.symm,hBr⟩
  ·have HB:=zqd (agd HP.out HX2.out (by simp[hb]))
   have hs:=aeu hb
   clear hb
   go_wp2_with fail
   go_roundw
   case rel=>exact⟨k+1,by omega,by go_num,HB,hbr⟩
   case measure=>simp[intOf];omega
theorem a2j {fs : List Fun} {nm : ByteArray} (h : ¬ ait fs nm < 0) : ∃ (i : Nat) (y : Fun), ait fs nm = i ∧ fs[i]? = some y := by
  have hlo := ap7 (fun x : Fun => decide (x.name = nm)) fs
  have : ∀ (ts : List Fun), 0 ≤ acu (fun x : Fun => decide (x.name = nm)) ts → ∃ (i : Nat) (y : Fun), acu (fun x : Fun => decide (x.name = nm)) ts = i ∧ ts[i]? = some y := fun ts h0 => by
    have ha : ts.any (fun x : Fun => decide (x.name = nm)) = true := by rw [← akv, decide_eq_true h0]
    by_cases hex : ∃ k : Nat, ∃ t, ts[k]? = some t ∧ decide (t.name = nm) = true
    ·
      have hfirst : ∃ k : Nat, (∃ t, ts[k]? = some t ∧ decide (t.name = nm) = true) ∧ ∀ j, j < k → ∀ t, ts[j]? = some t → decide (t.name = nm) = false := by
        obtain ⟨k, hk⟩ := hex
        induction k using Nat.strongRecOn with
        | _ k ih =>
          by_cases hj : ∃ j, j < k ∧ ∃ t, ts[j]? = some t ∧ decide (t.name = nm) = true
          · obtain ⟨j, hjk, hjt⟩ := hj
            exact ih j hjk hjt
          · exact ⟨k, hk, fun j hjk t ht => by
              cases hd : decide (t.name = nm)
              · rfl
              · exact absurd ⟨j, hjk, t, ht, hd⟩ hj⟩
      obtain ⟨k, ⟨t, ht, hd⟩, hpre⟩ := hfirst
      exact ⟨k, t, ajs (fun j t hj ht => hpre j hj t ht) ht hd, ht⟩
    · exfalso
      obtain ⟨t, htm, hd⟩ := List.any_eq_true.1 ha
      obtain ⟨j, hj, rfl⟩ := List.getElem_of_mem htm
      exact hex ⟨j, _, List.getElem?_eq_getElem hj, hd⟩
  exact this fs (by rw [ait] at h; omega)
theorem atf {α:Type} {f:α→List PD}:∀ {ts:List α} {t:α},t ∈ ts→PD.szL (f t)≤PD.szL (ts.flatMap f)
 | [],t,h=>absurd h (by simp)
 | x ::ts,t,h=>by
  rw[List.flatMap_cons,aje]
  rcases List.mem_cons.1 h with rfl|h
  ·omega
  ·have:=atf (f:=f) h;omega
theorem ala {f:cu} (h:PD.szL (cu.pd f)≤1048576):f.version.size≤1048576∧∀ x ∈ f.funcs,PD.szL (jh.pd x.typ)≤1048576:=by
 obtain⟨package,name,version,resources,funcs⟩:=f
 rw[cu.aj] at h
 simp only[PD.szL] at h
 have hv:(PD.lit (.string version)).sz=version.size:=by simp[PD.sz]
 refine⟨by simp only;omega,fun x hx=>?_⟩
 have h1:=atf (f:=Fun.pd) hx
 have h2:PD.szL (jh.pd x.typ)≤PD.szL (Fun.pd x):=by rw[Fun.pd,aje];omega
 rw[ahw Fun.jd (by decide)] at h
 have h4:PD.szL (Fun.pd x)≤PD.szL (funcs.flatMap Fun.pd):=h1
 omega
def bru (f:cu) (nm:ByteArray) (w:World) (e:Ending) (w':World):Prop:=
 Below w.heap.size w w'∧((ait f.funcs nm < 0∧e=.returned (.tuple #[.agg #[.slice none 0 0,.int .i64 0,.string {data:=#[]},.slice none 0 0,.slice none 0 0,.bool false],.bool false]))∨
  ∃ (i:Nat) (y:Fun) (us:List Value),ait f.funcs nm=i∧f.funcs[i]?=some y∧e=.returned (.tuple #[.agg us.toArray,.bool true])∧LvC w' w.heap.size w'.heap.size (jh.pd y.typ) us)
set_option maxHeartbeats 12800000 in
theorem ba8 (f:cu) (nm:ByteArray) (hf:ag9 f=true) (hwf:PD.wfL (cu.pd f)) (hsz:PD.szL (cu.pd f)≤1048576) {B:Nat} {cs:List Value} {w:World} (hB:B≤w.heap.size) (h:lq w B (cu.pd f) cs):
  Calls Tryz.prog 58 #[.agg cs.toArray,.string nm] w fun e w'=>bru f nm w e w':=by
 have HFA:=zqd (fun(V:World) (hV:B≤V.heap.size) ds (k:lq V B (cu.pd f) ds)=>a0q f (w:=V) hV hwf k)
 have HIN:=zqd (fun(V:World) (hV:B≤V.heap.size) ds (k:lq V B (cu.pd f) ds)=>bj8 f nm (w:=V) hV k)
 have HSZ:=zqd (ala hsz).2
 rw[hf] at HFA
 obtain⟨R,hR⟩:∃ R:Int,R=ait f.funcs nm:=⟨_,rfl⟩
 rw[← hR] at HIN
 have HFQ:Hid (∀ (e:Ending) (w':World),Below w.heap.size w w'→((ait f.funcs nm < 0∧e=.returned (.tuple #[.agg #[.slice none 0 0,.int .i64 0,.string {data:=#[]},.slice none 0 0,.slice none 0 0,.bool false],.bool false]))∨∃ (i:Nat) (y:Fun) (us:List Value),ait f.funcs nm=i∧f.funcs[i]?=some y∧e=.returned (.tuple #[.agg us.toArray,.bool true])∧LvC w' w.heap.size w'.heap.size (jh.pd y.typ) us)→bru f nm w e w'):=zqd (fun e w' hb hq=>⟨hb,hq⟩)
 rw[← hR] at HFQ
 have HAT:=zqd (fun(hh:¬ R < 0)=>a2j (fs:=f.funcs) (nm:=nm) (by rw[← hR];exact hh))
 rw[← hR] at HAT
 clear hf hwf hsz hR
 obtain⟨package,name,version,resources,funcs⟩:=f
 simp only at HAT HFQ HSZ
 obtain⟨aai,adq,rfl,abl,aei⟩:=cu.open_ h
 have ad4:=zqd abl
 clear abl
 have agn:=zqd aei
 clear aei
 obtain⟨A,n,c,rfl,hnl,hm,hat⟩:=ni Fun.jd (by decide) agn.out
 obtain⟨RA,rn,rc,rfl⟩:=ad4.out.form
 unfold maxLen at hm
 have HN:=zqd hnl
 clear h hnl
 have alq:=zqd (fun(V:World) (hV:Below w.heap.size w V)=>cu.close_ (package:=package) (name:=name) (version:=version) (ad4.out.below (hV.mono hB)) (agn.out.below (hV.mono hB)))
 go_enter Tryz.func58,Tryz.ntmps58
 go_wp2_with fail
 obtain⟨w0,hw0⟩:∃ V,V=(w.alloc (.cells #[.string package,.string name,.string version,.slice RA rn rc,.slice A n c] 30)).alloc (.cells #[.slice none 0 0,.int .i64 0,.string {data:=#[]},.slice none 0 0,.slice none 0 0,.bool false] 62):=⟨_,rfl⟩
 rw[← hw0]
 have bA:Blk w0 w.heap.size 30 #[.string package,.string name,.string version,.slice RA rn rc,.slice A n c]:=by rw[hw0];exact(Blk.new w _ _).alloc _
 have bR:Blk w0 (w.heap.size+1) 62 #[.slice none 0 0,.int .i64 0,.string {data:=#[]},.slice none 0 0,.slice none 0 0,.bool false]:=by rw[hw0];have:=Blk.new (w.alloc (.cells #[.string package,.string name,.string version,.slice RA rn rc,.slice A n c] 30)) 62 #[.slice none 0 0,.int .i64 0,.string {data:=#[]},.slice none 0 0,.slice none 0 0,.bool false];simpa using this
 have hB0:Below w.heap.size w w0:=by rw[hw0];exact((zqf _ _).alloc (zql _) _).alloc (by simp) _
 clear hw0
 refine(HFA.out w0 (Nat.le_trans hB hB0.size) _ (alq.out w0 hB0)).mono ?_
 rintro e w1 ⟨rfl,hb1⟩
 have hB1:=hB0.trans (hb1.mono hB0.size)
 have bA1:=bA.step hb1
 have bR1:=bR.step hb1
 obtain⟨a_0,a_1,a_2,a_3,a_4⟩:=zc5 bA1
 clear bA bR
 go_wp2_with fail
 refine(HIN.out w1 (Nat.le_trans hB hB1.size) _ (alq.out w1 hB1)).mono ?_
 rintro e w2 ⟨rfl,hb2⟩
 have hB2:=hB1.trans (hb2.mono hB1.size)
 have bA2:=bA1.step hb2
 have bR2:=bR1.step hb2
 clear bA1 bR1 a_0 a_1 a_2 a_3 a_4
 by_cases hneg:R < 0
 ·have HR0:=zqd hneg
  have r_0:w2.cell? ⟨w.heap.size+1,0,none⟩=some (.slice none 0 0):=bR2.cell 0
  have f_0:=bR2.frozen 0
  have r_1:w2.cell? ⟨w.heap.size+1,1,none⟩=some (.int .i64 0):=bR2.cell 1
  have f_1:=bR2.frozen 1
  have r_2:w2.cell? ⟨w.heap.size+1,2,none⟩=some (.string {data:=#[]}):=bR2.cell 2
  have f_2:=bR2.frozen 2
  have r_3:w2.cell? ⟨w.heap.size+1,3,none⟩=some (.slice none 0 0):=bR2.cell 3
  have f_3:=bR2.frozen 3
  have r_4:w2.cell? ⟨w.heap.size+1,4,none⟩=some (.slice none 0 0):=bR2.cell 4
  have f_4:=bR2.frozen 4
  have r_5:w2.cell? ⟨w.heap.size+1,5,none⟩=some (.bool false):=bR2.cell 5
  have f_5:=bR2.frozen 5
  go_wp2_with fail
  refine bodyPost_ret (v:=.tuple #[.agg #[.slice none 0 0,.int .i64 0,.string {data:=#[]},.slice none 0 0,.slice none 0 0,.bool false],.bool false]) (by simp[results,Tryz.results58,go_sem,r_0,r_1,r_2,r_3,r_4,r_5]) rfl ?_
  refine HFQ.out _ _ ?_ (.inl ⟨HR0.out,rfl⟩)
  iterate 6 (refine Below.setCell ?_ (by simp) _)
  exact hB2
 obtain⟨i,y,hRi,hy⟩:=HAT.out (by omega)
 have HY:=zqd hy
 have HRi:=zqd hRi
 have hlt:i < n:=by have:=(List.getElem?_eq_some_iff.1 hy).1;have:=HN.out;omega
 obtain⟨g,off,rfl,hg,hcell⟩:=hat (by omega)
 obtain⟨btn,⟨qm,⟨au,ay,iy,jq⟩,jl⟩⟩:=y
 obtain⟨aa1,an4,acr⟩:∃ u,w.cell? ⟨g,off+i * 7+1,none⟩=some u∧Rep w B (.row 5 (qm.flatMap Param.pd)) u:=hcell i 1 _ _ hy (by rw[Fun.aj];rfl)
 obtain⟨ab3,ab4,ab5,rfl⟩:=acr.form
 have afo:=zqd acr
 clear acr
 have aj1:w.cell? ⟨g,off+i * 7+2,none⟩=some (.int .i64 au):=bg (zqf _ _) (by omega) (hcell i 2 _ _ hy (by rw[Fun.aj];rfl))
 have aj2:w.cell? ⟨g,off+i * 7+3,none⟩=some (.string ay):=bg (zqf _ _) (by omega) (hcell i 3 _ _ hy (by rw[Fun.aj];rfl))
 obtain⟨su,ai8,zy⟩:∃ u,w.cell? ⟨g,off+i * 7+4,none⟩=some u∧Rep w B (.row 1 (iy.flatMap qj)) u:=hcell i 4 _ _ hy (by rw[Fun.aj];rfl)
 obtain⟨yu,yw,yx,rfl⟩:=zy.form
 have adp:=zqd zy
 clear zy
 obtain⟨xu,aj3,aar⟩:∃ u,w.cell? ⟨g,off+i * 7+5,none⟩=some u∧Rep w B (.row 4 (jq.flatMap Ty.pd)) u:=hcell i 5 _ _ hy (by rw[Fun.aj];rfl)
 obtain⟨aad,aae,aaf,rfl⟩:=aar.form
 have aed:=zqd aar
 clear aar
 have aor:w.cell? ⟨g,off+i * 7+6,none⟩=some (.bool jl):=bg (zqf _ _) (by omega) (hcell i 6 _ _ hy (by rw[Fun.aj];rfl))
 have hwo:=HSZ.out _ (List.mem_of_getElem? hy)
 simp only at hwo
 have hi0:(0:Int)≤(i:Int):=by omega
 have hin:(i:Int) < (n:Int):=by omega
 have am0:=hB2
 have HS:Hid (∀ V,Keep (w.heap.size+1) (w.heap.size+1+1) w2 V→V.cell? ⟨w.heap.size,0,none⟩=some (.string package)∧V.cell? ⟨w.heap.size,1,none⟩=some (.string name)∧V.cell? ⟨w.heap.size,2,none⟩=some (.string version)∧V.cell? ⟨w.heap.size,3,none⟩=some (.slice RA rn rc)∧V.cell? ⟨w.heap.size,4,none⟩=some (.slice (some ⟨g,off,none⟩) n c)∧V.cell? ⟨g,off+i * 7+1,none⟩=some (.slice ab3 ab4 ab5)∧V.cell? ⟨g,off+i * 7+2,none⟩=some (.int .i64 au)∧V.cell? ⟨g,off+i * 7+3,none⟩=some (.string ay)∧V.cell? ⟨g,off+i * 7+4,none⟩=some (.slice yu yw yx)∧V.cell? ⟨g,off+i * 7+5,none⟩=some (.slice aad aae aaf)∧V.cell? ⟨g,off+i * 7+6,none⟩=some (.bool jl)):=zqd fun V hV=>⟨(hV.cell (p:=⟨w.heap.size,0,none⟩) bA2.lt (.inl (by simp))).trans (bA2.cell 0),(hV.cell (p:=⟨w.heap.size,1,none⟩) bA2.lt (.inl (by simp))).trans (bA2.cell 1),(hV.cell (p:=⟨w.heap.size,2,none⟩) bA2.lt (.inl (by simp))).trans (bA2.cell 2),(hV.cell (p:=⟨w.heap.size,3,none⟩) bA2.lt (.inl (by simp))).trans (bA2.cell 3),(hV.cell (p:=⟨w.heap.size,4,none⟩) bA2.lt (.inl (by simp))).trans (bA2.cell 4),(hV.cell (p:=⟨g,off+i * 7+1,none⟩) (by have:=am0.size;simp only;omega) (.inl (by simp only;omega))).trans ((am0.cell (p:=⟨g,off+i * 7+1,none⟩) (by simp only;omega)).trans an4),(hV.cell (p:=⟨g,off+i * 7+2,none⟩) (by have:=am0.size;simp only;omega) (.inl (by simp only;omega))).trans ((am0.cell (p:=⟨g,off+i * 7+2,none⟩) (by simp only;omega)).trans aj1),(hV.cell (p:=⟨g,off+i * 7+3,none⟩) (by have:=am0.size;simp only;omega) (.inl (by simp only;omega))).trans ((am0.cell (p:=⟨g,off+i * 7+3,none⟩) (by simp only;omega)).trans aj2),(hV.cell (p:=⟨g,off+i * 7+4,none⟩) (by have:=am0.size;simp only;omega) (.inl (by simp only;omega))).trans ((am0.cell (p:=⟨g,off+i * 7+4,none⟩) (by simp only;omega)).trans ai8),(hV.cell (p:=⟨g,off+i * 7+5,none⟩) (by have:=am0.size;simp only;omega) (.inl (by simp only;omega))).trans ((am0.cell (p:=⟨g,off+i * 7+5,none⟩) (by simp only;omega)).trans aj3),(hV.cell (p:=⟨g,off+i * 7+6,none⟩) (by have:=am0.size;simp only;omega) (.inl (by simp only;omega))).trans ((am0.cell (p:=⟨g,off+i * 7+6,none⟩) (by simp only;omega)).trans aor)⟩
 have HCI:=zqd (fun(V:World) (hV:Below w2.heap.size w2 V)=>HIN.out V (Nat.le_trans hB (Nat.le_trans hB2.size hV.size)) _ (alq.out V (hB2.trans (hV.mono hB2.size))))
 have HCO:=zqd (fun(V:World) (hV:Below w2.heap.size w2 V)=>ba7 ⟨qm,⟨au,ay,iy,jq⟩,jl⟩ B [.slice ab3 ab4 ab5,.int .i64 au,.string ay,.slice yu yw yx,.slice aad aae aaf,.bool jl] V (Nat.le_trans hB (Nat.le_trans hB2.size hV.size)) hwo (jh.close_ (afo.out.below ((hB2.trans (hV.mono hB2.size)).mono hB)) (adp.out.below ((hB2.trans (hV.mono hB2.size)).mono hB)) (aed.out.below ((hB2.trans (hV.mono hB2.size)).mono hB))))
 have hdr:Below w2.heap.size w2 w2.drew:=(zqf _ _).drew
 subst hRi
 clear hneg hy hcell hat HIN HFA HAT
 go_wp2_with fail
 refine wp_region_held_drew (S:=(fun w'=>w'.cell? ⟨w.heap.size,0,none⟩=some (.string package)∧w'.cell? ⟨w.heap.size,1,none⟩=some (.string name)∧w'.cell? ⟨w.heap.size,2,none⟩=some (.string version)∧w'.cell? ⟨w.heap.size,3,none⟩=some (.slice RA rn rc)∧w'.cell? ⟨w.heap.size,4,none⟩=some (.slice (some ⟨g,off,none⟩) n c)∧w'.cell? ⟨g,off+i * 7+1,none⟩=some (.slice ab3 ab4 ab5)∧w'.cell? ⟨g,off+i * 7+2,none⟩=some (.int .i64 au)∧w'.cell? ⟨g,off+i * 7+3,none⟩=some (.string ay)∧w'.cell? ⟨g,off+i * 7+4,none⟩=some (.slice yu yw yx)∧w'.cell? ⟨g,off+i * 7+5,none⟩=some (.slice aad aae aaf)∧w'.cell? ⟨g,off+i * 7+6,none⟩=some (.bool jl))) (by kernel_rfl) (HS.out _ (Keep.refl _ _ _).drew) (fun hHeld=>?_)
 refine zqt 0 ?_
 try simp only[Act.put,zs1,zs2,zs3]
 refine zqt 1 ?_
 try simp only[Act.put,zs1,zs2,zs3]
 refine zqt 2 ?_
 try simp only[Act.put,zs1,zs2,zs3]
 refine zqt 3 ?_
 try simp only[Act.put,zs1,zs2,zs3]
 refine zqr 4 fun K hK=>?_
 go_simp
 go_at_call 92
 refine(HCI.out _ hdr).mono ?_
 rintro e wq ⟨rfl,hbq⟩
 have hq1:=hdr.trans (hbq.mono hdr.size)
 have hk1:Keep (w.heap.size+1) (w.heap.size+1+1) w2 wq:=Keep.of_below hq1
 refine hK.out _ _ (by first|exact(HS.out _ (by repeat(first|with_reducible exact hk2|with_reducible exact hk1|with_reducible exact Keep.refl _ _ _|with_reducible refine Keep.drew ?_|with_reducible refine Keep.setAt ?_ _ _)))|go_keep) (fun hHeld=>?_)
 clear hK K
 try simp only[Act.put,zs1,zs2,zs3]
 refine zqt 5 ?_
 try simp only[Act.put,zs1,zs2,zs3]
 refine zqt 6 ?_
 try simp only[Act.put,zs1,zs2,zs3]
 refine zqt 7 ?_
 try simp only[Act.put,zs1,zs2,zs3]
 refine zqr 8 fun K hK=>?_
 go_simp
 go_at_call 93
 refine(HCO.out _ hq1).mono ?_
 rintro e wz ⟨us,rfl,hl,hbz⟩
 have hq2:=hq1.trans (hbz.mono hq1.size)
 have hk2:Keep (w.heap.size+1) (w.heap.size+1+1) w2 wz:=Keep.of_below hq2
 obtain⟨pA,pN,pC,lA,lN,lC,kA,kN,kC,rfl⟩:=jh.afv hl
 have HL:=zqd hl
 have bRz:=bR2.step hq2
 have f0:=bRz.frozen 0
 have r0:wz.cell? ⟨w.heap.size+1,0,none⟩=some (.slice none 0 0):=bRz.cell 0
 have f1:=bRz.frozen 1
 have r1:wz.cell? ⟨w.heap.size+1,1,none⟩=some (.int .i64 0):=bRz.cell 1
 have f2:=bRz.frozen 2
 have r2:wz.cell? ⟨w.heap.size+1,2,none⟩=some (.string {data:=#[]}):=bRz.cell 2
 have f3:=bRz.frozen 3
 have r3:wz.cell? ⟨w.heap.size+1,3,none⟩=some (.slice none 0 0):=bRz.cell 3
 have f4:=bRz.frozen 4
 have r4:wz.cell? ⟨w.heap.size+1,4,none⟩=some (.slice none 0 0):=bRz.cell 4
 have f5:=bRz.frozen 5
 have r5:wz.cell? ⟨w.heap.size+1,5,none⟩=some (.bool false):=bRz.cell 5
 refine hK.out _ _ (by first|exact(HS.out _ (by repeat(first|with_reducible exact hk2|with_reducible exact hk1|with_reducible exact Keep.refl _ _ _|with_reducible refine Keep.drew ?_|with_reducible refine Keep.setAt ?_ _ _)))|go_keep) (fun hHeld=>?_)
 clear hK K
 try simp only[Act.put,zs1,zs2,zs3]
 refine zqr 9 fun K hK=>?_
 go_simp
 refine hK.out _ _ (by first|exact(HS.out _ (by repeat(first|with_reducible exact hk2|with_reducible exact hk1|with_reducible exact Keep.refl _ _ _|with_reducible refine Keep.drew ?_|with_reducible refine Keep.setAt ?_ _ _)))|go_keep) (fun hHeld=>?_)
 clear hK K
 try simp only[Act.put,zs1,zs2,zs3]
 refine zqt 10 ?_
 try simp only[Act.put,zs1,zs2,zs3]
 refine wpAnyH_done (by kernel_rfl) ?_ _
 go_wp2_with fail
 have bN:Blk ((((((wz.setCell ⟨w.heap.size+1,0,none⟩ (.slice pA pN pC)).setCell ⟨w.heap.size+1,1,none⟩ (.int .i64 au)).setCell ⟨w.heap.size+1,2,none⟩ (.string ay)).setCell ⟨w.heap.size+1,3,none⟩ (.slice lA lN lC)).setCell ⟨w.heap.size+1,4,none⟩ (.slice kA kN kC)).setCell ⟨w.heap.size+1,5,none⟩ (.bool jl)) (w.heap.size+1) 62 #[(.slice pA pN pC),(.int .i64 au),(.string ay),(.slice lA lN lC),(.slice kA kN kC),(.bool jl)]:=by
  have:=(((((bRz.aam 0 (.slice pA pN pC)).aam 1 (.int .i64 au)).aam 2 (.string ay)).aam 3 (.slice lA lN lC)).aam 4 (.slice kA kN kC)).aam 5 (.bool jl)
  simpa using this
 have n0:=bN.cell 0
 have n1:=bN.cell 1
 have n2:=bN.cell 2
 have n3:=bN.cell 3
 have n4:=bN.cell 4
 have n5:=bN.cell 5
 refine bodyPost_ret (v:=.tuple #[.agg #[(.slice pA pN pC),(.int .i64 au),(.string ay),(.slice lA lN lC),(.slice kA kN kC),(.bool jl)],.bool true]) (by simp[results,Tryz.results58,go_sem,n0,n1,n2,n3,n4,n5]) rfl ?_
 have hq3:=am0.trans (hq2.mono am0.size)
 refine HFQ.out _ _ ?_ (.inr ⟨i,_,[(.slice pA pN pC),(.int .i64 au),(.string ay),(.slice lA lN lC),(.slice kA kN kC),(.bool jl)],rfl,HY.out,rfl,?_⟩)
 ·iterate 6 (refine Below.setCell ?_ (by simp) _)
  exact hq3
 ·refine LvC.low (lo2:=wq.heap.size) (LvC.more (hi:=wz.heap.size) ?_ (zql _) (by simp[World.setCell]) (zql _)) (by have:=am0.size;have:=hq1.size;omega)
  iterate 6 (refine LvC.setCell ?_ (.inl (by have:=bR2.lt;have:=hq1.size;show w.heap.size+1 < wq.heap.size;omega)) _)
  exact HL.out
end Go.Proofs.YtbafphecjijdmaaGreatDoor
