/-
  The first reason between two rows of interfaces: spec.l08All (by program: gen_wda.py) (by program: gen_why.py).
-/
import Derived.Test.YtbafphecjijdmaaGreatDoorUb47
namespace Go.Proofs.YtbafphecjijdmaaGreatDoor
open Go.RowKit
set_option linter.all false
set_option maxRecDepth 16000
theorem rb1 (w:World):∃ w0,w0=w.alloc (.cells #[.int .i64 0,.string {data:=#[]}] 34)∧Blk w0 w.heap.size 34 #[.int .i64 0,.string {data:=#[]}]∧Below w.heap.size w w0∧w0.heap.size=w.heap.size+1:=
 ⟨_,rfl,Blk.new w _ _,(zqf _ _).alloc (zql _) _,by simp⟩
set_option maxHeartbeats 12800000 in
theorem a9p (hs ws:List cu) (hoh:afa hs=true) (how:afa ws=true) (hwh:∀ f ∈ hs,PD.wfL (cu.pd f)) (hww:∀ f ∈ ws,PD.wfL (cu.pd f)) (hzh:∀ f ∈ hs,PD.szL (cu.pd f)≤1048576) (hzw:∀ f ∈ ws,PD.szL (cu.pd f)≤1048576)
  (word:ByteArray) (hwd:word.size≤100) {B:Nat} {hv wv:Value} {w:World} (hB:B≤w.heap.size) (hT:afg w) (h:Rep w B (.row 5 (hs.flatMap cu.pd)) hv) (k:Rep w B (.row 5 (ws.flatMap cu.pd)) wv):
  Calls Tryz.prog 38 #[hv,wv,.string word] w fun e w'=>WQ (an5 word hs ws) w e w':=by
 obtain⟨R,hR⟩:∃ R:Why,R=an5 word hs ws:=⟨_,rfl⟩
 rw[← hR]
 unfold WQ
 have HR:Hid (R=zq (amx word hs ws) ws.length):=hR
 clear hR
 obtain⟨hA,hN,hC,rfl,bse,bw3,bt3⟩:=ni cu.jd (by decide) h
 unfold maxLen at bw3
 have bsf:=zqd bse
 clear h
 obtain⟨wA,wN,wC,rfl,a9q,bkq,be9⟩:=ni cu.jd (by decide) k
 unfold maxLen at bkq
 have aue:=zqd a9q
 clear k
 have h6:hN≤6:=by have:=av8 hoh;omega
 have w6_:wN≤6:=by have:=av8 how;omega
 clear bse a9q
 have HOH:=zqd (al4 hoh)
 have HOW:=zqd (al4 how)
 have bw4:=zqd (fun(i j:Nat) (x y:cu) (hx:hs[i]?=some x) (hy:hs[j]?=some y) (e:x.package=y.package∧x.name=y.name)=>bjy hoh hx hy e)
 have HFC:=zqd (fun(y x:cu) (hy:y ∈ hs) (hx:x ∈ ws) (V:World) (hV:Below w.heap.size w V) us vs (p:lq V B (cu.pd y) us) (q:lq V B (cu.pd x) vs)=>bew y x (al4 hoh y hy) (al4 how x hx) (hwh y hy) (hww x hx) (hzh y hy) (hzw x hx) (w:=V) (Nat.le_trans hB hV.size) (hT.below hV) p q)
 clear hoh how hwh hww hzh hzw hT
 obtain⟨w0,hw0,bR0,hB0,hs0⟩:=rb1 w
 have HW0:=zqd hw0
 have HS0:=zqd hs0
 clear hw0 hs0
 go_enter Tryz.func38,Tryz.ntmps38
 go_wp2_with fail
 rw[← HW0.out]
 clear HW0
 go_loopw [8] (fun i wr=>∃ k:Nat,k≤wN∧i=.int .i64 k∧Hid (zq (amx word hs ws) k=none)∧Below w0.heap.size w0 wr) (fun i _=>wN - (intOf i).toNat)
 case atStart=>exact⟨0,Nat.zero_le _,rfl,zqd rfl,zqf _ _⟩
 case round=>
  obtain⟨k,hk,rfl,HP,hbr⟩:=hrel
  have hBr:=hB0.trans (hbr.mono hB0.size)
  have hsr:=hbr.size
  have bRr:=bR0.step hbr
  by_cases hlt:k < wN
  case neg=>
   have hkn:k=wN:=by omega
   have HF:Hid (R=none):=by show _=_;rw[HR.out,← aue.out,← hkn,HP.out]
   subst hkn
   obtain⟨r0,r1,f0,f1⟩:=zr bRr
   go_wp2_with fail
   obtain⟨n0,n1,nB⟩:=aaw bRr hBr (by omega) (0) (⟨#[]⟩)
   exact bodyPost_ret (v:=.tuple #[.agg #[.int .i64 0,.string {data:=#[]}],.bool false]) (by simp[results,Tryz.results38,go_sem,n0,n1]) rfl ⟨qc (by rw[HF.out];rfl) (by rw[HF.out];rfl) (by rw[HF.out];rfl),nB⟩
  obtain⟨gw,ow,rfl,hg2,hcell2⟩:=be9 (by omega)
  obtain⟨t2,hx2,ab1⟩:=um aue.out hlt
  obtain⟨lu,name2,tq,ac3,afj⟩:=t2
  have ah5:wr.cell? ⟨gw,ow+k * 5,none⟩=some (.string lu):=bg hBr (by omega) (hcell2 k 0 _ _ hx2 (by rw[cu.aj];rfl))
  have ad5:wr.cell? ⟨gw,ow+k * 5+1,none⟩=some (.string name2):=bg hBr (by omega) (hcell2 k 1 _ _ hx2 (by rw[cu.aj];rfl))
  have aiu:wr.cell? ⟨gw,ow+k * 5+2,none⟩=some (.string tq):=bg hBr (by omega) (hcell2 k 2 _ _ hx2 (by rw[cu.aj];rfl))
  obtain⟨aou,ahj,ae5⟩:∃ u,wr.cell? ⟨gw,ow+k * 5+3,none⟩=some u∧Rep wr B (.row 1 (ac3.flatMap qj)) u:=jc hBr (by omega) hB (hcell2 k 3 _ _ hx2 (by rw[cu.aj];rfl))
  have aej:=zqd ae5
  clear ae5
  obtain⟨aw2,akz,ahk⟩:∃ u,wr.cell? ⟨gw,ow+k * 5+4,none⟩=some u∧Rep wr B (.row 7 (afj.flatMap Fun.pd)) u:=jc hBr (by omega) hB (hcell2 k 4 _ _ hx2 (by rw[cu.aj];rfl))
  have agk:=zqd ahk
  clear ahk
  obtain⟨uo,uq,uw,rfl⟩:=aej.out.form
  obtain⟨abd,abe,abf,rfl⟩:=agk.out.form
  have HX2:=zqd hx2
  have HM2:=zqd ab1
  clear hx2 ab1
  clear hcell2
  have HXF:=zqd (anf (HOW.out _ HM2.out))
  have aps:lu.size≤12:=HXF.out.pk
  have bkc:name2.size≤12:=HXF.out.nm
  obtain⟨W,rfl⟩:∃ V,V=wr:=⟨_,rfl⟩
  go_wp2_with fail
  go_loopw [9,10] (fun met j wr=>∃ (m:Nat) (b:Bool),m≤hN∧met=.bool b∧j=.int .i64 m∧Hid (b=false→∀ (q:Nat) (y:cu),q < m→hs[q]?=some y→¬ (y.package=lu∧y.name=name2))∧Hid (b=true→amx word hs ws k=none∧∃ (q:Nat) (y:cu),q < m∧hs[q]?=some y∧y.package=lu∧y.name=name2)∧Below W.heap.size W wr) (fun _ j _=>hN - (intOf j).toNat)
  case atStart=>exact⟨0,false,Nat.zero_le _,rfl,rfl,zqd fun _ q y h=>absurd h (by omega),zqd fun h=>absurd h (by decide),zqf _ _⟩
  case round=>
   obtain⟨m,b,hm,rfl,rfl,HNO,a2z,hbs⟩:=hrel
   have hBs:=hBr.trans (hbs.mono hBr.size)
   have hss:=hbs.size
   have bRs:=bRr.step hbs
   have b3p:=bRs.lt
   have auf:wr.cell? ⟨gw,ow+k * 5,none⟩=some (.string lu):=(hbs.cell (p:=⟨gw,ow+k * 5,none⟩) (by have:=hBr.size;simp only;omega)).trans ah5
   have a3a:wr.cell? ⟨gw,ow+k * 5+1,none⟩=some (.string name2):=(hbs.cell (p:=⟨gw,ow+k * 5+1,none⟩) (by have:=hBr.size;simp only;omega)).trans ad5
   have a1g:wr.cell? ⟨gw,ow+k * 5+2,none⟩=some (.string tq):=(hbs.cell (p:=⟨gw,ow+k * 5+2,none⟩) (by have:=hBr.size;simp only;omega)).trans aiu
   have av9:wr.cell? ⟨gw,ow+k * 5+3,none⟩=some (.slice uo uq uw):=(hbs.cell (p:=⟨gw,ow+k * 5+3,none⟩) (by have:=hBr.size;simp only;omega)).trans ahj
   have a9r:wr.cell? ⟨gw,ow+k * 5+4,none⟩=some (.slice abd abe abf):=(hbs.cell (p:=⟨gw,ow+k * 5+4,none⟩) (by have:=hBr.size;simp only;omega)).trans akz
   clear ah5 ad5 aiu ahj akz
   by_cases hlt2:m < hN
   case neg=>
    have hmn:m=hN:=by omega
    cases b
    case true=>
     have HQ:=zqd (ae4 HP.out (a2z.out rfl).1)
     go_wp2_with fail
     go_roundw
     case rel=>exact⟨k+1,by omega,by go_num,HQ,hbr.trans (hbs.mono hbr.size)⟩
     case measure=>simp[intOf];omega
    case false=>
     have a9a:(9223372036854775807 < word.size+lu.size)=False:=eq_false (by omega)
     obtain⟨q1,al2⟩:∃ p,word ++lu=p:=⟨_,rfl⟩
     have a9b:q1.size≤112:=by rw[← al2,ByteArray.size_append];omega
     have a9c:(9223372036854775807 < q1.size+(⟨#[47]⟩:ByteArray).size)=False:=eq_false (by have z_:(⟨#[47]⟩:ByteArray).size=1:=rfl;omega)
     have bw5:(9223372036854775807 < q1.size+1)=False:=eq_false (by omega)
     obtain⟨q2,al3⟩:∃ p,q1 ++(⟨#[47]⟩:ByteArray)=p:=⟨_,rfl⟩
     have a9d:q2.size≤113:=by rw[← al3,ByteArray.size_append];have z_:(⟨#[47]⟩:ByteArray).size=1:=rfl;omega
     have bw6:(9223372036854775807 < q2.size+name2.size)=False:=eq_false (by omega)
     obtain⟨q3,a9s⟩:∃ p,q2 ++name2=p:=⟨_,rfl⟩
     have bw7:q3.size≤125:=by rw[← a9s,ByteArray.size_append];omega
     have HQ3:Hid (aol word lu name2=q3):=by show _=_;rw[← a9s,← al3,← al2];simp only[aol,a0p,ByteArray.append_assoc]
     have HF:Hid (R=some (11,q3)):=by show _=_;rw[HR.out,ada HP.out (bcm HX2.out fun j y hj=>HNO.out rfl j y (by have:=(List.getElem?_eq_some_iff.1 hj).1;have:=bsf.out;omega) hj) _ (by have:=aue.out;omega)];simp only;rw[HQ3.out]
     have HS:Hid (∀ V,Keep (w.heap.size) (w.heap.size+1) wr V→V.cell? ⟨gw,ow+k * 5,none⟩=some (.string lu)∧V.cell? ⟨gw,ow+k * 5+1,none⟩=some (.string name2)):=zqd fun V hV=>⟨(hV.cell (p:=⟨gw,ow+k * 5,none⟩) (by simp only;omega) (by simp only;omega)).trans auf,(hV.cell (p:=⟨gw,ow+k * 5+1,none⟩) (by simp only;omega) (by simp only;omega)).trans a3a⟩
     have hk0:Keep w.heap.size (w.heap.size+1) wr wr.drew:=(Keep.refl _ _ _).drew
     have hd0:Below wr.heap.size wr wr.drew:=(zqf _ _).drew
     go_wp2_with fail
     refine wp_region_held_drew (S:=(fun w'=>w'.cell? ⟨gw,ow+k * 5,none⟩=some (.string lu)∧w'.cell? ⟨gw,ow+k * 5+1,none⟩=some (.string name2))) (by kernel_rfl) (HS.out _ hk0) (fun hHeld=>?_)
     refine zqt 0 ?_
     try simp only[Act.put,zs1,zs2,zs3]
     refine zqt 1 ?_
     try simp only[Act.put,zs1,zs2,zs3]
     refine zqt 2 ?_
     try simp only[Act.put,zs1,zs2,zs3]
     refine zqt 3 ?_
     try simp only[Act.put,zs1,zs2,zs3]
     refine zqt 4 ?_
     try simp only[Act.put,zs1,zs2,zs3]
     refine zqt 5 ?_
     try simp only[Act.put,zs1,zs2,zs3]
     refine zqt 6 ?_
     try simp only[Act.put,zs1,zs2,zs3]
     refine zqt 7 ?_
     try simp only[Act.put,zs1,zs2,zs3]
     refine zqt 8 ?_
     try simp only[Act.put,zs1,zs2,zs3]
     refine zqt 9 ?_
     try simp only[Act.put,zs1,zs2,zs3]
     refine zqt 10 ?_
     try simp only[Act.put,zs1,zs2,zs3]
     refine zqt 11 ?_
     try simp only[Act.put,zs1,zs2,zs3]
     refine zqt 12 ?_
     try simp only[Act.put,zs1,zs2,zs3]
     refine zqt 13 ?_
     try simp only[Act.put,zs1,zs2,zs3]
     refine zqr 14 fun K hK=>?_
     go_simp
     go_at_call 55
     refine(aen 11 q3 _).mono ?_
     rintro e wz ⟨rfl,hbz⟩
     have hb8:=hd0.trans (hbz.mono hd0.size)
     have hk1:Keep w.heap.size (w.heap.size+1) wr wz:=Keep.of_below hb8
     have hBz:=hBs.trans (hb8.mono hBs.size)
     have bRz:=bRs.step hb8
     obtain⟨r0,r1,f0,f1⟩:=zr bRz
     refine hK.out _ _ (by first|exact(HS.out _ (by repeat(first|with_reducible exact hk1|with_reducible exact hk0|with_reducible refine Keep.setAt ?_ _ _)))|go_keep) (fun hHeld=>?_)
     clear hK K
     try simp only[Act.put,zs1,zs2,zs3]
     refine zqt 15 ?_
     try simp only[Act.put,zs1,zs2,zs3]
     refine zqt 16 ?_
     try simp only[Act.put,zs1,zs2,zs3]
     refine zqr 17 fun K hK=>?_
     go_simp
     refine hK.out _ _ (by first|exact(HS.out _ (by repeat(first|with_reducible exact hk1|with_reducible exact hk0|with_reducible refine Keep.setAt ?_ _ _)))|go_keep) (fun hHeld=>?_)
     clear hK K
     try simp only[Act.put,zs1,zs2,zs3]
     refine zqt 18 ?_
     try simp only[Act.put,zs1,zs2,zs3]
     refine wpAnyH_done (by kernel_rfl) ?_ _
     go_wp2_with fail
     obtain⟨n0,n1,nB⟩:=aaw bRz hBz (by omega) (11) (q3)
     exact bodyPost_ret (v:=.tuple #[.agg #[.int .i64 11,.string q3],.bool true]) (by simp[results,Tryz.results38,go_sem,n0,n1]) rfl ⟨qc (by rw[HF.out];rfl) (by rw[HF.out];rfl) (by rw[HF.out];rfl),nB⟩
   obtain⟨gh,oh,rfl,hg3,asn⟩:=bt3 (by omega)
   obtain⟨t3,hx3,bms⟩:=um bsf.out hlt2
   obtain⟨ai6,name3,am7,aug,a9t⟩:=t3
   have a1h:wr.cell? ⟨gh,oh+m * 5,none⟩=some (.string ai6):=bg hBs (by omega) (asn m 0 _ _ hx3 (by rw[cu.aj];rfl))
   have bct:wr.cell? ⟨gh,oh+m * 5+1,none⟩=some (.string name3):=bg hBs (by omega) (asn m 1 _ _ hx3 (by rw[cu.aj];rfl))
   have a1i:wr.cell? ⟨gh,oh+m * 5+2,none⟩=some (.string am7):=bg hBs (by omega) (asn m 2 _ _ hx3 (by rw[cu.aj];rfl))
   obtain⟨bsw,awc,awd⟩:∃ u,wr.cell? ⟨gh,oh+m * 5+3,none⟩=some u∧Rep wr B (.row 1 (aug.flatMap qj)) u:=jc hBs (by omega) hB (asn m 3 _ _ hx3 (by rw[cu.aj];rfl))
   have awe:=zqd awd
   clear awd
   obtain⟨b0t,a9u,a9v⟩:∃ u,wr.cell? ⟨gh,oh+m * 5+4,none⟩=some u∧Rep wr B (.row 7 (a9t.flatMap Fun.pd)) u:=jc hBs (by omega) hB (asn m 4 _ _ hx3 (by rw[cu.aj];rfl))
   have a9w:=zqd a9v
   clear a9v
   obtain⟨aow,aox,aoy,rfl⟩:=awe.out.form
   obtain⟨axa,axb,axc,rfl⟩:=a9w.out.form
   have HX3:=zqd hx3
   have HM3:=zqd bms
   clear hx3 bms
   clear asn
   by_cases hpe:ai6=lu
   case neg=>
    have hs1:(ai6.toList ==lu.toList)=false:=aeu hpe
    have ay6:=zqd (fun(hb:b=false) (q:Nat) (y:cu) (hq:q < m+1) (hy:hs[q]?=some y)=>(by
     by_cases e:q=m
     ·subst e;rw[Option.some.inj (hy.symm.trans HX3.out)];exact fun hh=>hpe hh.1
     ·exact HNO.out hb q y (by omega) hy:¬ (y.package=lu∧y.name=name2)))
    have bfb:Hid (b=true→amx word hs ws k=none∧∃ (q:Nat) (y:cu),q < m+1∧hs[q]?=some y∧y.package=lu∧y.name=name2):=zqd fun hb=>⟨(a2z.out hb).1,by obtain⟨q,y,h1,h2⟩:=(a2z.out hb).2;exact⟨q,y,by omega,h2⟩⟩
    go_wp2_with fail
    go_quiet (fail)
    go_wp2_with fail
    go_roundw
    case rel=>exact⟨m+1,b,by omega,rfl,by go_num,ay6,bfb,below_drewN hbs _⟩
    case measure=>simp[intOf];omega
   have hs1:(ai6.toList ==lu.toList)=true:=by rw[hpe];simp
   by_cases hne:name3=name2
   case neg=>
    have hs2:(name3.toList ==name2.toList)=false:=aeu hne
    have ay6:=zqd (fun(hb:b=false) (q:Nat) (y:cu) (hq:q < m+1) (hy:hs[q]?=some y)=>(by
     by_cases e:q=m
     ·subst e;rw[Option.some.inj (hy.symm.trans HX3.out)];exact fun hh=>hne hh.2
     ·exact HNO.out hb q y (by omega) hy:¬ (y.package=lu∧y.name=name2)))
    have bfb:Hid (b=true→amx word hs ws k=none∧∃ (q:Nat) (y:cu),q < m+1∧hs[q]?=some y∧y.package=lu∧y.name=name2):=zqd fun hb=>⟨(a2z.out hb).1,by obtain⟨q,y,h1,h2⟩:=(a2z.out hb).2;exact⟨q,y,by omega,h2⟩⟩
    go_wp2_with fail
    go_quiet (fail)
    go_wp2_with fail
    go_roundw
    case rel=>exact⟨m+1,b,by omega,rfl,by go_num,ay6,bfb,below_drewN hbs _⟩
    case measure=>simp[intOf];omega
   have hs2:(name3.toList ==name2.toList)=true:=by rw[hne];simp
   have HEQ:Hid (ai6=lu∧name3=name2):=⟨hpe,hne⟩
   clear hpe hne
   cases b
   case true=>
    exfalso
    obtain⟨q,y,h1,h2,h3,h4⟩:=(a2z.out rfl).2
    have:=bw4.out _ _ _ _ h2 HX3.out ⟨h3.trans HEQ.out.1.symm,h4.trans HEQ.out.2.symm⟩
    omega
   obtain⟨R2,hR2⟩:∃ r,aha ⟨ai6,name3,am7,aug,a9t⟩ ⟨lu,name2,tq,ac3,afj⟩ (ayr ⟨lu,name2,tq,ac3,afj⟩) true=r:=⟨_,rfl⟩
   have HK2:Hid (amx word hs ws k=amw word R2):=by show _=_;rw[bcn HX2.out HX3.out HEQ.out fun i z hi hz=>HNO.out rfl i z hi hz,bjz,hR2]
   have HSZ:Hid ((ayi R2).size≤300):=by
    show _≤_
    have:=(bkp (HOH.out _ HM3.out) (HOW.out _ HM2.out) (ayr ⟨lu,name2,tq,ac3,afj⟩) true).out
    have h3:(ayr ⟨lu,name2,tq,ac3,afj⟩).size=lu.size+1+name2.size:=by simp only[ayr,ByteArray.size_append];rfl
    rw[hR2] at this
    omega
   go_wp2_with fail
   go_quiet (fail)
   obtain⟨w8,hw8⟩:∃ V,V=wr.drewN nq:=⟨_,rfl⟩
   rw[← hw8]
   have hb8:Below wr.heap.size wr w8:=by rw[hw8];exact below_drewN (zqf _ _) _
   clear hw8
   have hs8:=hb8.size
   have hB8:=hBs.trans (hb8.mono hBs.size)
   have bR8:=bRs.step hb8
   have bbj:w8.cell? ⟨gw,ow+k * 5,none⟩=some (.string lu):=(hb8.cell (p:=⟨gw,ow+k * 5,none⟩) (by have:=hBs.size;simp only;omega)).trans auf
   have bkr:w8.cell? ⟨gw,ow+k * 5+1,none⟩=some (.string name2):=(hb8.cell (p:=⟨gw,ow+k * 5+1,none⟩) (by have:=hBs.size;simp only;omega)).trans a3a
   have bbk:w8.cell? ⟨gw,ow+k * 5+2,none⟩=some (.string tq):=(hb8.cell (p:=⟨gw,ow+k * 5+2,none⟩) (by have:=hBs.size;simp only;omega)).trans a1g
   have a5c:w8.cell? ⟨gw,ow+k * 5+3,none⟩=some (.slice uo uq uw):=(hb8.cell (p:=⟨gw,ow+k * 5+3,none⟩) (by have:=hBs.size;simp only;omega)).trans av9
   have bhc:w8.cell? ⟨gw,ow+k * 5+4,none⟩=some (.slice abd abe abf):=(hb8.cell (p:=⟨gw,ow+k * 5+4,none⟩) (by have:=hBs.size;simp only;omega)).trans a9r
   have bbl:w8.cell? ⟨gh,oh+m * 5,none⟩=some (.string ai6):=(hb8.cell (p:=⟨gh,oh+m * 5,none⟩) (by have:=hBs.size;simp only;omega)).trans a1h
   have bku:w8.cell? ⟨gh,oh+m * 5+1,none⟩=some (.string name3):=(hb8.cell (p:=⟨gh,oh+m * 5+1,none⟩) (by have:=hBs.size;simp only;omega)).trans bct
   have bbm:w8.cell? ⟨gh,oh+m * 5+2,none⟩=some (.string am7):=(hb8.cell (p:=⟨gh,oh+m * 5+2,none⟩) (by have:=hBs.size;simp only;omega)).trans a1i
   have a5d:w8.cell? ⟨gh,oh+m * 5+3,none⟩=some (.slice aow aox aoy):=(hb8.cell (p:=⟨gh,oh+m * 5+3,none⟩) (by have:=hBs.size;simp only;omega)).trans awc
   have bhd:w8.cell? ⟨gh,oh+m * 5+4,none⟩=some (.slice axa axb axc):=(hb8.cell (p:=⟨gh,oh+m * 5+4,none⟩) (by have:=hBs.size;simp only;omega)).trans a9u
   clear auf a3a a1g av9 a9r a1h bct a1i awc a9u
   have HC:=fun(V:World) (hV:Keep (w.heap.size) (w.heap.size+1) w8 V)=>HFC.out ⟨ai6,name3,am7,aug,a9t⟩ ⟨lu,name2,tq,ac3,afj⟩ HM3.out HM2.out V (hB8.trans (kb hV (by have:=hB8.size;omega))) [.string ai6,.string name3,.string am7,.slice aow aox aoy,.slice axa axb axc] [.string lu,.string name2,.string tq,.slice uo uq uw,.slice abd abe abf] (cu.close_ (awe.out.below ((hb8.mono (Nat.le_trans hB hBs.size)).trans (kb hV (by have:=hB8.size;omega)))) (a9w.out.below ((hb8.mono (Nat.le_trans hB hBs.size)).trans (kb hV (by have:=hB8.size;omega))))) (cu.close_ (aej.out.below (((hbs.mono (Nat.le_trans hB hBr.size)).trans (hb8.mono (Nat.le_trans hB hBs.size))).trans (kb hV (by have:=hB8.size;omega)))) (agk.out.below (((hbs.mono (Nat.le_trans hB hBr.size)).trans (hb8.mono (Nat.le_trans hB hBs.size))).trans (kb hV (by have:=hB8.size;omega)))))
   replace HC:=fun(V:World) (hV:Keep (w.heap.size) (w.heap.size+1) w8 V)=>HC V hV
   unfold WQ at HC
   rw[hR2] at HC
   obtain⟨RK,RS,RN,HRK,HRS,HRN⟩:=agp R2
   rw[HRK.out,HRS.out,HRN.out] at HC
   rw[HRS.out] at HSZ
   replace HC:=zqd HC
   clear hR2
   have HS:Hid (∀ V,Keep (w.heap.size) (w.heap.size+1) w8 V→V.cell? ⟨gw,ow+k * 5,none⟩=some (.string lu)∧V.cell? ⟨gw,ow+k * 5+1,none⟩=some (.string name2)∧V.cell? ⟨gw,ow+k * 5+2,none⟩=some (.string tq)∧V.cell? ⟨gw,ow+k * 5+3,none⟩=some (.slice uo uq uw)∧V.cell? ⟨gw,ow+k * 5+4,none⟩=some (.slice abd abe abf)∧V.cell? ⟨gh,oh+m * 5,none⟩=some (.string ai6)∧V.cell? ⟨gh,oh+m * 5+1,none⟩=some (.string name3)∧V.cell? ⟨gh,oh+m * 5+2,none⟩=some (.string am7)∧V.cell? ⟨gh,oh+m * 5+3,none⟩=some (.slice aow aox aoy)∧V.cell? ⟨gh,oh+m * 5+4,none⟩=some (.slice axa axb axc)):=zqd fun V hV=>⟨(hV.cell (p:=⟨gw,ow+k * 5,none⟩) (by simp only;omega) (by simp only;omega)).trans bbj,(hV.cell (p:=⟨gw,ow+k * 5+1,none⟩) (by simp only;omega) (by simp only;omega)).trans bkr,(hV.cell (p:=⟨gw,ow+k * 5+2,none⟩) (by simp only;omega) (by simp only;omega)).trans bbk,(hV.cell (p:=⟨gw,ow+k * 5+3,none⟩) (by simp only;omega) (by simp only;omega)).trans a5c,(hV.cell (p:=⟨gw,ow+k * 5+4,none⟩) (by simp only;omega) (by simp only;omega)).trans bhc,(hV.cell (p:=⟨gh,oh+m * 5,none⟩) (by simp only;omega) (by simp only;omega)).trans bbl,(hV.cell (p:=⟨gh,oh+m * 5+1,none⟩) (by simp only;omega) (by simp only;omega)).trans bku,(hV.cell (p:=⟨gh,oh+m * 5+2,none⟩) (by simp only;omega) (by simp only;omega)).trans bbm,(hV.cell (p:=⟨gh,oh+m * 5+3,none⟩) (by simp only;omega) (by simp only;omega)).trans a5d,(hV.cell (p:=⟨gh,oh+m * 5+4,none⟩) (by simp only;omega) (by simp only;omega)).trans bhd⟩
   go_wp2_with fail
   go_region_held3 (fun w'=>w'.cell? ⟨gw,ow+k * 5,none⟩=some (.string lu)∧w'.cell? ⟨gw,ow+k * 5+1,none⟩=some (.string name2)∧w'.cell? ⟨gw,ow+k * 5+2,none⟩=some (.string tq)∧w'.cell? ⟨gw,ow+k * 5+3,none⟩=some (.slice uo uq uw)∧w'.cell? ⟨gw,ow+k * 5+4,none⟩=some (.slice abd abe abf)∧w'.cell? ⟨gh,oh+m * 5,none⟩=some (.string ai6)∧w'.cell? ⟨gh,oh+m * 5+1,none⟩=some (.string name3)∧w'.cell? ⟨gh,oh+m * 5+2,none⟩=some (.string am7)∧w'.cell? ⟨gh,oh+m * 5+3,none⟩=some (.slice aow aox aoy)∧w'.cell? ⟨gh,oh+m * 5+4,none⟩=some (.slice axa axb axc))
    (first|exact HS.out _ (by repeat(first|exact hq1|exact hq2|exact Keep.refl _ _ _|refine Keep.drew ?_|refine Keep.alloc ?_ _|refine Keep.setAt ?_ _ _|refine Keep.newAt ?_ (zql _) _ _|refine Keep.newAt ?_ aak.size _ _|refine Keep.newAt ?_ hbW.size _ _)))
    (first|(go_at_call 28;refine(HC.out _ (by repeat(first|exact hq1|exact hq2|exact Keep.refl _ _ _|refine Keep.drew ?_|refine Keep.alloc ?_ _|refine Keep.setAt ?_ _ _|refine Keep.newAt ?_ (zql _) _ _|refine Keep.newAt ?_ aak.size _ _|refine Keep.newAt ?_ hbW.size _ _))).mono ?_;rintro e wq ⟨rfl,hbq⟩;have hbW:Below w8.heap.size w8 wq:=(by first|exact(zqf _ _).drew.trans hbq|exact((zqf _ _).drew.alloc (zql _) _).trans (hbq.mono (by simp)));have hq2:Keep (w.heap.size) (w.heap.size+1) w8 wq:=Keep.of_below hbW;(first|(have bP:Blk wq w8.heap.size 34 #[.int .i64 0,.string {data:=#[]}]:=(Blk.new w8.drew _ _).step hbq;have p0:wq.cell? ⟨w8.heap.size,0,none⟩=some (.int .i64 0):=bP.cell 0;have p1:wq.cell? ⟨w8.heap.size,1,none⟩=some (.string {data:=#[]}):=bP.cell 1;have g0:wq.frozen? ⟨w8.heap.size,0,none⟩=false:=bP.frozen 0;have g1:wq.frozen? ⟨w8.heap.size,1,none⟩=false:=bP.frozen 1)|skip)))
   all_goals
    first
     | (obtain⟨w6,hw6⟩:=zqe wq 34 #[.int .i64 RK,.string RS];rw[← hw6];have bX:Blk w6 wq.heap.size 34 #[.int .i64 RK,.string RS]:=(by rw[hw6];exact Blk.new wq _ _);have hb6:Below w8.heap.size w8 w6:=(by rw[hw6];exact hbW.alloc hbW.size _);obtain⟨rx,hrx⟩:∃ r,r=wq.heap.size:=⟨_,rfl⟩;have aiq:w8.heap.size≤rx:=(by rw[hrx];exact hbW.size);rw[← hrx] at bX ⊢;clear hw6 hrx)
     | (obtain⟨w6,hw6⟩:∃ V,V=(wq.setCell ⟨w8.heap.size,0,none⟩ (.int .i64 RK)).setCell ⟨w8.heap.size,1,none⟩ (.string RS):=⟨_,rfl⟩;rw[← hw6];have bX:Blk w6 (w8.heap.size) 34 #[.int .i64 RK,.string RS]:=(by rw[hw6];have:=(bP.aam 0 (.int .i64 RK)).aam 1 (.string RS);simpa using this);have hb6:Below w8.heap.size w8 w6:=(by rw[hw6];exact(hbW.setCell (p:=⟨w8.heap.size,0,none⟩) (by first|exact zql _|exact aak.size|exact hbW.size) _).setCell (p:=⟨w8.heap.size,1,none⟩) (by first|exact zql _|exact aak.size|exact hbW.size) _);obtain⟨rx,hrx⟩:∃ r,r=w8.heap.size:=⟨_,rfl⟩;have aiq:w8.heap.size≤rx:=(by rw[hrx];first|exact zql _|exact hbW.size|exact aak.size);rw[← hrx] at bX ⊢;clear hw6 hrx)
    have hB6:=hB8.trans (hb6.mono (by omega))
    have bR6:=bR8.step hb6
    have hs6:=hb6.size
    cases RN
    case false=>
     have HK3:Hid (amx word hs ws k=none):=by show _=_;rw[HK2.out,af0 HRN.out];rfl
     go_wp2_with fail
     go_roundw
     case rel=>exact⟨m+1,true,by omega,rfl,by go_num,zqd (fun h=>absurd h (by decide)),zqd (fun _=>⟨HK3.out,m,_,by omega,HX3.out,HEQ.out⟩),(hbs.trans (hb8.mono hss)).trans (hb6.mono (by omega))⟩
     case measure=>simp[intOf];omega
    case true=>
     have b3q:RS.size≤300:=HSZ.out
     have b3r:(9223372036854775807 < word.size+RS.size)=False:=eq_false (by omega)
     obtain⟨qq,bsg⟩:∃ p,word ++RS=p:=⟨_,rfl⟩
     have b3s:qq.size≤400:=by rw[← bsg,ByteArray.size_append];omega
     have HF:Hid (R=some (RK,qq)):=by show _=_;rw[HR.out,← HRK.out,← bsg,← HRS.out];exact ada HP.out (by rw[HK2.out,af2 HRN.out];rfl) _ (by have:=aue.out;omega)
     obtain⟨q0,q1⟩:=rq bX
     obtain⟨r0,r1,f0,f1⟩:=zr bR6
     go_wp2_with fail
     obtain⟨n0,n1,nB⟩:=aaw bR6 hB6 (by omega) (RK) (qq)
     exact bodyPost_ret (v:=.tuple #[.agg #[.int .i64 RK,.string qq],.bool true]) (by simp[results,Tryz.results38,go_sem,n0,n1]) rfl ⟨qc (by rw[HF.out];rfl) (by rw[HF.out];rfl) (by rw[HF.out];rfl),nB⟩
end Go.Proofs.YtbafphecjijdmaaGreatDoor
