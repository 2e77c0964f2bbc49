/-
  A value as another type's: the exported functions (by program: gen_tka.py) (by program: gen_why.py).
-/
import Derived.Test.YtfpannkadjdnaaaGreatDoorTa32
import Derived.Test.YtfpannkadjdnaaaGreatDoorTa35
import Derived.Test.YtfpannkadjdnaaaGreatDoorTa36
import Derived.Test.YtfpannkadjdnaaaGreatDoorTa38
import Derived.Test.YtfpannkadjdnaaaGreatDoorTa39
import Derived.Test.YtfpannkadjdnaaaGreatDoorTa40
namespace Go.Proofs.YtfpannkadjdnaaaGreatDoor
open Go.RowKit
set_option linter.all false
set_option maxRecDepth 16000
def akl (a b:Ty):Bool:=(aew 4 a b ⟨#[]⟩).isNone
theorem atl {a b:Ty}:akl a b=true↔agr 4 a b:=by rw[akl,agr,Option.isNone_iff_eq_none]
theorem a1t (a b:Ty):akl a b=!asx (aew 4 a b ⟨#[]⟩):=by
 rw[akl];cases aew 4 a b ⟨#[]⟩<;>rfl
def ai3 (v:Val) (a b:Ty):Val×Int:=if acp a && acp b then (if uq 4 v a && akl a b then (ru 4 a b v,0)else (ael,7))else (ael,1)
theorem ahp {w:World} {lo hi:Nat} (h:hi≤w.heap.size):LvC w lo hi (Val.pd ael) [.int .i64 0,.int .i64 0,.string {data:=#[]},.slice none 0 0]:=by
 rw[show ael=⟨0,0,⟨#[]⟩,[]⟩from rfl,Val.ji];have hr:Hold w (.row 4 (([]:List Val).flatMap Val.pd)) (.slice none 0 0) []:=by rw[Hold];exact⟨none,0,0,rfl,by simp,zql _,by decide,.inl ⟨rfl,rfl⟩⟩
 exact LvC.lit (LvC.lit (LvC.lit ⟨[],ni.cons hr (ni.nil w),In.nil _ _,h⟩ _) _) _
def TQ (r:Val×Int) (w:World) (e:Ending) (w':World):Prop:=∃ us,e=.returned (.tuple #[.agg us.toArray,.int .i64 r.2])∧LvC w' w.heap.size w'.heap.size (Val.pd r.1) us∧Below w.heap.size w w'
theorem ax9 {n:Nat} (ih:agn 28 n):agn 28 (n+1):=by
 intro v a b B cs ds es w hB ha hb hwf hf hm rv ra rb;obtain⟨vk,vn,vt,vks⟩:=v;obtain⟨ak,an,al,aks⟩:=a;obtain⟨bk,bn,bl,bks⟩:=b;obtain⟨rfl,h1,h2,h3⟩:=bdj hf;have hO:abd n vk an al aks bk bn bl bks vn vks:=⟨ha.2,hb.2,qg ha,qg hb,h1,h3,hm⟩;by_cases k16:vk=16
 ·subst k16
  obtain rfl:=hO.as4.1;exact bd5 ih vn vt vks an al aks bn bl bks B cs ds es w hB hO hwf rv ra rb
 by_cases k17:vk=17
 ·subst k17;exact bed ih vn vt vks an al aks bk bn bl bks B cs ds es w hB hO hwf rv ra rb
 by_cases k18:vk=18
 ·subst k18;exact bee ih vn vt vks an al aks bk bn bl bks B cs ds es w hB hO hwf rv ra rb
 by_cases k19:vk=19
 ·subst k19;exact bef ih vn vt vks an al aks bk bn bl bks B cs ds es w hB hO hwf rv ra rb
 exact a2s ih vk k16 k17 k18 k19 vn vt vks an al aks bk bn bl bks B cs ds es w hB hO hwf rv ra rb
theorem aq0:∀ n,agn 28 n
 | 0=>fun v a b B cs ds es w hB ha=>by
  have:=agi a;have:=ha.1;omega
 | n+1=>ax9 (aq0 n)
theorem aya {n:Nat} (ih:agn 21 n):agn 21 (n+1):=by
 intro v a b B cs ds es w hB ha hb hwf hf hm rv ra rb;obtain⟨vk,vn,vt,vks⟩:=v;obtain⟨ak,an,al,aks⟩:=a;obtain⟨bk,bn,bl,bks⟩:=b;obtain⟨rfl,h1,h2,h3⟩:=bdj hf;have hO:abd n vk an al aks bk bn bl bks vn vks:=⟨ha.2,hb.2,qg ha,qg hb,h1,h3,hm⟩;by_cases hk:12≤bk∧bk≤19
 ·obtain rfl:vk=bk:=hO.same (by intro h;have:3≤bk∧bk≤9:=abm.1 h;omega)
  have hc:vk=12∨vk=13∨vk=14∨vk=15∨vk=16∨vk=17∨vk=18∨vk=19:=by omega
  rcases hc with rfl|rfl|rfl|rfl|rfl|rfl|rfl|rfl
  ·exact bej ih vn vt vks an al aks bn bl bks B cs ds es w hB hO hwf rv ra rb
  ·exact bek ih vn vt vks an al aks bn bl bks B cs ds es w hB hO hwf rv ra rb
  ·exact bem ih vn vt vks an al aks bn bl bks B cs ds es w hB hO hwf rv ra rb
  ·exact ben ih vn vt vks an al aks bn bl bks B cs ds es w hB hO hwf rv ra rb
  ·exact beo ih vn vt vks an al aks bn bl bks B cs ds es w hB hO hwf rv ra rb
  ·exact bep ih vn vt vks an al aks bn bl bks B cs ds es w hB hO hwf rv ra rb
  ·exact beh ih vn vt vks an al aks bn bl bks B cs ds es w hB hO hwf rv ra rb
  ·exact bei ih vn vt vks an al aks bn bl bks B cs ds es w hB hO hwf rv ra rb
 ·exact a3a ih vk vn vt vks an al aks bk hk bn bl bks B cs ds es w hB hO hwf rv ra rb
theorem aq1:∀ n,agn 21 n
 | 0=>fun v a b B cs ds es w hB ha=>by
  have:=agi a;have:=ha.1;omega
 | n+1=>aya (aq1 n)
set_option maxHeartbeats 3200000 in
theorem az9 (v:Val) (a:Ty) (hok:acp a=true) (B:Nat) (cs ds:List Value) (w:World) (hB:B≤w.heap.size) (hT:aiz w) (hwv:PD.wfL (Val.pd v)) (hwa:PD.wfL (Ty.pd a)) (hv:jq w B (Val.pd v) cs) (ha:jq w B (Ty.pd a) ds):
  Calls Tryz.prog 19 #[.agg cs.toArray,.agg ds.toArray] w fun e w'=>e=.returned (.bool (uq 4 v a))∧Below w.heap.size w w':=by
 obtain⟨vk,vn,vt,vks⟩:=v;obtain⟨ak,an,al,aks⟩:=a;obtain⟨adx,rfl,r_v⟩:=Val.open_ hv;obtain⟨vA,vN,vC,rfl⟩:=r_v.form;have RV:=zqd r_v;clear r_v hv;obtain⟨alV,akV,rfl,zy,aac⟩:=Ty.open_ ha;obtain⟨alA,alN,alC,rfl⟩:=zy.form;obtain⟨akA,akN,akC,rfl⟩:=aac.form;have RLA:=zqd zy;have RKA:=zqd aac;clear zy aac ha;have H1:=zqd (fun(V:World) (hV:Below w.heap.size w V)=>alr ⟨ak,an,al,aks⟩ (B:=B) (cs:=[.int .i64 ak,.string an,.slice alA alN alC,.slice akA akN akC]) (w:=V) (Nat.le_trans hB hV.size) hwa (Ty.close_ (RLA.out.below (hV.mono hB)) (RKA.out.below (hV.mono hB))));rw[hok] at H1;have H2:=zqd (fun(V:World) (hV:Below w.heap.size w V)=>aqt 4 ⟨vk,vn,vt,vks⟩ ⟨ak,an,al,aks⟩ B [.int .i64 vk,.int .i64 vn,.string vt,.slice vA vN vC] [.int .i64 ak,.string an,.slice alA alN alC,.slice akA akN akC] V (Nat.le_trans hB hV.size) (hT.below hV) (aiw hok) hwv (Val.close_ (RV.out.below (hV.mono hB))) (Ty.close_ (RLA.out.below (hV.mono hB)) (RKA.out.below (hV.mono hB))));obtain⟨R,hR⟩:∃ R,uq 4 ⟨vk,vn,vt,vks⟩ ⟨ak,an,al,aks⟩=R:=⟨_,rfl⟩;rw[hR] at H2 ⊢;clear hR hT hwv hwa hok;obtain⟨w0,hw0⟩:∃ V,V=((w.alloc (.cells #[.int .i64 vk,.int .i64 vn,.string vt,.slice vA vN vC] 33)).alloc (.cells #[.int .i64 ak,.string an,.slice alA alN alC,.slice akA akN akC] 39)):=⟨_,rfl⟩;have b_v:=zn20 hw0;have b_a:=zn21 hw0;have hB0:Below w.heap.size w w0:=by rw[hw0];exact(((zqf _ _).alloc (zql _) _).alloc (by simp) _)
 have hs0:w0.heap.size=w.heap.size+1+1:=by rw[hw0];simp
 have HW0:=zqd hw0;clear hw0;go_enter Tryz.func19,Tryz.ntmps19
 go_wp2_with fail
 rw[← HW0.out];clear HW0;refine(H1.out w0 hB0).mono ?_;rintro e w1 ⟨rfl,af8⟩;have hw1:=hB0.trans (af8.mono hB0.size);have ajh:=b_v.step af8;have ag5:=b_a.step af8;obtain⟨pv0,pv1,pv2,pv3⟩:=zc4 ajh;obtain⟨pa0,pa1,pa2,pa3⟩:=zc4 ag5;go_wp2_with fail
 refine(H2.out w1 hw1).mono ?_;rintro e w2 ⟨rfl,ag6⟩;have hw2:=hw1.trans (ag6.mono hw1.size);have aml:=ajh.step ag6;have ai0:=ag5.step ag6;clear pv0 pv1 pv2 pv3 pa0 pa1 pa2 pa3;go_wp2_with fail
 go_ret
 exact⟨rfl,hw2⟩
set_option maxHeartbeats 3200000 in
theorem a07 (a b:Ty) (hoa:acp a=true) (hob:acp b=true) (B:Nat) (ds es:List Value) (w:World) (hB:B≤w.heap.size) (hT:ad2 w) (hwa:PD.wfL (Ty.pd a)) (hwb:PD.wfL (Ty.pd b)) (ha:jq w B (Ty.pd a) ds) (hb:jq w B (Ty.pd b) es):
  Calls Tryz.prog 20 #[.agg ds.toArray,.agg es.toArray] w fun e w'=>e=.returned (.bool (akl a b))∧Below w.heap.size w w':=by
 obtain⟨ak,an,al,aks⟩:=a;obtain⟨bk,bn,bl,bks⟩:=b;obtain⟨alV,akV,rfl,zy,aac⟩:=Ty.open_ ha;obtain⟨alA,alN,alC,rfl⟩:=zy.form;obtain⟨akA,akN,akC,rfl⟩:=aac.form;have RLA:=zqd zy;have RKA:=zqd aac;clear zy aac ha;obtain⟨blV,bkV,rfl,aak,aal⟩:=Ty.open_ hb;obtain⟨blA,blN,blC,rfl⟩:=aak.form;obtain⟨bkA,bkN,bkC,rfl⟩:=aal.form;have RLB:=zqd aak;have RKB:=zqd aal;clear aak aal hb;have HM:Hid (akl ⟨ak,an,al,aks⟩ ⟨bk,bn,bl,bks⟩=!asx (aew 4 ⟨ak,an,al,aks⟩ ⟨bk,bn,bl,bks⟩ ⟨#[]⟩)):=a1t _ _;have H3:=zqd (fun(V:World) (hV:Below w.heap.size w V)=>asg 4 (by omega) ⟨ak,an,al,aks⟩ ⟨bk,bn,bl,bks⟩ ⟨#[]⟩ B [.int .i64 ak,.string an,.slice alA alN alC,.slice akA akN akC] [.int .i64 bk,.string bn,.slice blA blN blC,.slice bkA bkN bkC] V (Nat.le_trans hB hV.size) (hT.below hV) (aiw hoa) (aiw hob) (by decide) (Ty.close_ (RLA.out.below (hV.mono hB)) (RKA.out.below (hV.mono hB))) (Ty.close_ (RLB.out.below (hV.mono hB)) (RKB.out.below (hV.mono hB))));obtain⟨R,hR⟩:∃ R,aew 4 ⟨ak,an,al,aks⟩ ⟨bk,bn,bl,bks⟩ ⟨#[]⟩=R:=⟨_,rfl⟩;rw[hR] at H3 HM;obtain⟨K,S,N,HK,HS,HN⟩:=aha R;unfold WQ at H3;rw[HK.out,HS.out,HN.out] at H3;obtain⟨Q,hQ⟩:∃ Q,akl ⟨ak,an,al,aks⟩ ⟨bk,bn,bl,bks⟩=Q:=⟨_,rfl⟩;rw[hQ] at HM ⊢;rw[HN.out] at HM;clear hR hQ hT hwa hwb hoa hob;obtain⟨w0,hw0⟩:∃ V,V=((w.alloc (.cells #[.int .i64 ak,.string an,.slice alA alN alC,.slice akA akN akC] 39)).alloc (.cells #[.int .i64 bk,.string bn,.slice blA blN blC,.slice bkA bkN bkC] 39)):=⟨_,rfl⟩;have b_a:=zn20 hw0;have b_b:=zn21 hw0;have hB0:Below w.heap.size w w0:=by rw[hw0];exact(((zqf _ _).alloc (zql _) _).alloc (by simp) _)
 have hs0:w0.heap.size=w.heap.size+1+1:=by rw[hw0];simp
 have HW0:=zqd hw0;clear hw0;obtain⟨oa0,oa1,oa2,oa3⟩:=zc4 b_a;obtain⟨ob0,ob1,ob2,ob3⟩:=zc4 b_b;go_enter Tryz.func20,Tryz.ntmps20
 go_wp2_with fail
 rw[← HW0.out];clear HW0;refine(H3.out w0 hB0).mono ?_;rintro e w1 ⟨rfl,af8⟩;have hw1:=hB0.trans (af8.mono hB0.size);have ag5:=b_a.step af8;have ai1:=b_b.step af8;go_wp2_with fail
 go_ret
 exact⟨au HM.out.symm,hw1.alloc hw1.size _⟩
set_option maxHeartbeats 3200000 in
theorem a08 (a b:Ty) (hoa:acp a=true) (hob:acp b=true) (hpa:a.parts≤4194304) (hpb:b.parts≤4194304) (B:Nat) (ds es:List Value) (w:World) (hB:B≤w.heap.size) (hT:ad2 w) (hwa:PD.wfL (Ty.pd a)) (hwb:PD.wfL (Ty.pd b)) (ha:jq w B (Ty.pd a) ds) (hb:jq w B (Ty.pd b) es):
  Calls Tryz.prog 27 #[.agg ds.toArray,.agg es.toArray] w fun e w'=>e=.returned (.bool (akl a b))∧Below w.heap.size w w':=by
 obtain⟨ak,an,al,aks⟩:=a;obtain⟨bk,bn,bl,bks⟩:=b;obtain⟨alV,akV,rfl,zy,aac⟩:=Ty.open_ ha;obtain⟨alA,alN,alC,rfl⟩:=zy.form;obtain⟨akA,akN,akC,rfl⟩:=aac.form;have RLA:=zqd zy;have RKA:=zqd aac;clear zy aac ha;obtain⟨blV,bkV,rfl,aak,aal⟩:=Ty.open_ hb;obtain⟨blA,blN,blC,rfl⟩:=aak.form;obtain⟨bkA,bkN,bkC,rfl⟩:=aal.form;have RLB:=zqd aak;have RKB:=zqd aal;clear aak aal hb;have Ha:=zqd (fun(V:World) (hV:Below w.heap.size w V)=>ajo ⟨ak,an,al,aks⟩ (B:=B) (cs:=[.int .i64 ak,.string an,.slice alA alN alC,.slice akA akN akC]) (w:=V) (Nat.le_trans hB hV.size) hwa hpa (Ty.close_ (RLA.out.below (hV.mono hB)) (RKA.out.below (hV.mono hB))));rw[hoa] at Ha;have Hb:=zqd (fun(V:World) (hV:Below w.heap.size w V)=>ajo ⟨bk,bn,bl,bks⟩ (B:=B) (cs:=[.int .i64 bk,.string bn,.slice blA blN blC,.slice bkA bkN bkC]) (w:=V) (Nat.le_trans hB hV.size) hwb hpb (Ty.close_ (RLB.out.below (hV.mono hB)) (RKB.out.below (hV.mono hB))));rw[hob] at Hb;have HM:Hid (akl ⟨ak,an,al,aks⟩ ⟨bk,bn,bl,bks⟩=!asx (aew 4 ⟨ak,an,al,aks⟩ ⟨bk,bn,bl,bks⟩ ⟨#[]⟩)):=a1t _ _;have H3:=zqd (fun(V:World) (hV:Below w.heap.size w V)=>asi 4 (by omega) ⟨ak,an,al,aks⟩ ⟨bk,bn,bl,bks⟩ ⟨#[]⟩ B [.int .i64 ak,.string an,.slice alA alN alC,.slice akA akN akC] [.int .i64 bk,.string bn,.slice blA blN blC,.slice bkA bkN bkC] V (Nat.le_trans hB hV.size) (hT.below hV) (aiw hoa) (aiw hob) (by decide) (Ty.close_ (RLA.out.below (hV.mono hB)) (RKA.out.below (hV.mono hB))) (Ty.close_ (RLB.out.below (hV.mono hB)) (RKB.out.below (hV.mono hB))));obtain⟨R,hR⟩:∃ R,aew 4 ⟨ak,an,al,aks⟩ ⟨bk,bn,bl,bks⟩ ⟨#[]⟩=R:=⟨_,rfl⟩;rw[hR] at H3 HM;obtain⟨K,S,N,HK,HS,HN⟩:=aha R;unfold WQ at H3;rw[HK.out,HS.out,HN.out] at H3;obtain⟨Q,hQ⟩:∃ Q,akl ⟨ak,an,al,aks⟩ ⟨bk,bn,bl,bks⟩=Q:=⟨_,rfl⟩;rw[hQ] at HM ⊢;rw[HN.out] at HM;clear hR hQ hT hwa hwb hoa hob hpa hpb;obtain⟨w0,hw0⟩:∃ V,V=((w.alloc (.cells #[.int .i64 ak,.string an,.slice alA alN alC,.slice akA akN akC] 39)).alloc (.cells #[.int .i64 bk,.string bn,.slice blA blN blC,.slice bkA bkN bkC] 39)):=⟨_,rfl⟩;have b_a:=zn20 hw0;have b_b:=zn21 hw0;have hB0:Below w.heap.size w w0:=by rw[hw0];exact(((zqf _ _).alloc (zql _) _).alloc (by simp) _)
 have hs0:w0.heap.size=w.heap.size+1+1:=by rw[hw0];simp
 have HW0:=zqd hw0;clear hw0;go_enter Tryz.func27,Tryz.ntmps27
 go_wp2_with fail
 rw[← HW0.out];clear HW0;refine(Ha.out w0 hB0).mono ?_;rintro e w1 ⟨rfl,af8⟩;have hw1:=hB0.trans (af8.mono hB0.size);have ag5:=b_a.step af8;have ai1:=b_b.step af8;obtain⟨pa0,pa1,pa2,pa3⟩:=zc4 ag5;obtain⟨pb0,pb1,pb2,pb3⟩:=zc4 ai1;go_wp2_with fail
 refine(Hb.out w1 hw1).mono ?_;rintro e w2 ⟨rfl,ag6⟩;have hw2:=hw1.trans (ag6.mono hw1.size);have ai0:=ag5.step ag6;have aji:=ai1.step ag6;clear pa0 pa1 pa2 pa3 pb0 pb1 pb2 pb3;obtain⟨qa0,qa1,qa2,qa3⟩:=zc4 ai0;obtain⟨qb0,qb1,qb2,qb3⟩:=zc4 aji;go_wp2_with fail
 refine(H3.out w2 hw2).mono ?_;rintro e w3 ⟨rfl,ait⟩;have hw3:=hw2.trans (ait.mono hw2.size);have amm:=ai0.step ait;have amn:=aji.step ait;go_wp2_with fail
 go_ret
 exact⟨au HM.out.symm,hw3.alloc hw3.size _⟩
set_option maxHeartbeats 6400000 in
theorem awo (v:Val) (a b:Ty) (B:Nat) (cs ds es:List Value) (w:World) (hB:B≤w.heap.size) (hTW:aiz w) (hTP:ad2 w) (hwv:PD.wfL (Val.pd v)) (hwa:PD.wfL (Ty.pd a)) (hwb:PD.wfL (Ty.pd b)) (hv:jq w B (Val.pd v) cs) (ha:jq w B (Ty.pd a) ds) (hb:jq w B (Ty.pd b) es):
  Calls Tryz.prog 6 #[.agg cs.toArray,.agg ds.toArray,.agg es.toArray] w fun e w'=>TQ (ai3 v a b) w e w':=by
 obtain⟨vk,vn,vt,vks⟩:=v;obtain⟨ak,an,al,aks⟩:=a;obtain⟨bk,bn,bl,bks⟩:=b;obtain⟨adx,rfl,r_v⟩:=Val.open_ hv;obtain⟨vA,vN,vC,rfl⟩:=r_v.form;have RV:=zqd r_v;clear r_v hv;obtain⟨alV,akV,rfl,zy,aac⟩:=Ty.open_ ha;obtain⟨alA,alN,alC,rfl⟩:=zy.form;obtain⟨akA,akN,akC,rfl⟩:=aac.form;have RLA:=zqd zy;have RKA:=zqd aac;clear zy aac ha;obtain⟨blV,bkV,rfl,aak,aal⟩:=Ty.open_ hb;obtain⟨blA,blN,blC,rfl⟩:=aak.form;obtain⟨bkA,bkN,bkC,rfl⟩:=aal.form;have RLB:=zqd aak;have RKB:=zqd aal;clear aak aal hb;have Ha:=zqd (fun(V:World) (hV:Below w.heap.size w V)=>alr ⟨ak,an,al,aks⟩ (B:=B) (cs:=[.int .i64 ak,.string an,.slice alA alN alC,.slice akA akN akC]) (w:=V) (Nat.le_trans hB hV.size) hwa (Ty.close_ (RLA.out.below (hV.mono hB)) (RKA.out.below (hV.mono hB))));have Hb:=zqd (fun(V:World) (hV:Below w.heap.size w V)=>alr ⟨bk,bn,bl,bks⟩ (B:=B) (cs:=[.int .i64 bk,.string bn,.slice blA blN blC,.slice bkA bkN bkC]) (w:=V) (Nat.le_trans hB hV.size) hwb (Ty.close_ (RLB.out.below (hV.mono hB)) (RKB.out.below (hV.mono hB))));have HFt:=zqd (fun(ho:acp ⟨ak,an,al,aks⟩=true) (V:World) (hV:Below w.heap.size w V)=>az9 ⟨vk,vn,vt,vks⟩ ⟨ak,an,al,aks⟩ ho B [.int .i64 vk,.int .i64 vn,.string vt,.slice vA vN vC] [.int .i64 ak,.string an,.slice alA alN alC,.slice akA akN akC] V (Nat.le_trans hB hV.size) (hTW.below hV) hwv hwa (Val.close_ (RV.out.below (hV.mono hB))) (Ty.close_ (RLA.out.below (hV.mono hB)) (RKA.out.below (hV.mono hB))));have HMy:=zqd (fun(ho:acp ⟨ak,an,al,aks⟩=true) (hp:acp ⟨bk,bn,bl,bks⟩=true) (V:World) (hV:Below w.heap.size w V)=>a07 ⟨ak,an,al,aks⟩ ⟨bk,bn,bl,bks⟩ ho hp B [.int .i64 ak,.string an,.slice alA alN alC,.slice akA akN akC] [.int .i64 bk,.string bn,.slice blA blN blC,.slice bkA bkN bkC] V (Nat.le_trans hB hV.size) (hTP.below hV) hwa hwb (Ty.close_ (RLA.out.below (hV.mono hB)) (RKA.out.below (hV.mono hB))) (Ty.close_ (RLB.out.below (hV.mono hB)) (RKB.out.below (hV.mono hB))));have HTk:=zqd (fun(ho:acp ⟨ak,an,al,aks⟩=true) (hp:acp ⟨bk,bn,bl,bks⟩=true) (hf:uq 4 ⟨vk,vn,vt,vks⟩ ⟨ak,an,al,aks⟩=true) (hm:akl ⟨ak,an,al,aks⟩ ⟨bk,bn,bl,bks⟩=true) (V:World) (hV:Below w.heap.size w V)=>aq1 4 ⟨vk,vn,vt,vks⟩ ⟨ak,an,al,aks⟩ ⟨bk,bn,bl,bks⟩ B [.int .i64 vk,.int .i64 vn,.string vt,.slice vA vN vC] [.int .i64 ak,.string an,.slice alA alN alC,.slice akA akN akC] [.int .i64 bk,.string bn,.slice blA blN blC,.slice bkA bkN bkC] V (Nat.le_trans hB hV.size) (aiw ho) (aiw hp) hwv hf (atl.1 hm) (Val.close_ (RV.out.below (hV.mono hB))) (Ty.close_ (RLA.out.below (hV.mono hB)) (RKA.out.below (hV.mono hB))) (Ty.close_ (RLB.out.below (hV.mono hB)) (RKB.out.below (hV.mono hB))));obtain⟨R,hR⟩:∃ R,R=ai3 ⟨vk,vn,vt,vks⟩ ⟨ak,an,al,aks⟩ ⟨bk,bn,bl,bks⟩:=⟨_,rfl⟩;rw[← hR];rw[ai3] at hR;obtain⟨ya,hya⟩:∃ v:Bool,acp ⟨ak,an,al,aks⟩=v:=⟨_,rfl⟩;obtain⟨yb,hyb⟩:∃ v:Bool,acp ⟨bk,bn,bl,bks⟩=v:=⟨_,rfl⟩;obtain⟨yf,hyf⟩:∃ v:Bool,uq 4 ⟨vk,vn,vt,vks⟩ ⟨ak,an,al,aks⟩=v:=⟨_,rfl⟩;obtain⟨ym,hym⟩:∃ v:Bool,akl ⟨ak,an,al,aks⟩ ⟨bk,bn,bl,bks⟩=v:=⟨_,rfl⟩;obtain⟨T,hT4⟩:∃ T,ru 4 ⟨ak,an,al,aks⟩ ⟨bk,bn,bl,bks⟩ ⟨vk,vn,vt,vks⟩=T:=⟨_,rfl⟩;rw[hya,hyb,hyf,hym,hT4] at hR;rw[hya] at Ha HFt HMy HTk;rw[hyb] at Hb HMy HTk;rw[hyf] at HFt HTk;rw[hym] at HMy HTk;rw[hT4] at HTk;have HR:Hid (R=if ya && yb then (if yf && ym then (T,0)else (ael,7))else (ael,1)):=hR;clear hR hya hyb hyf hym hT4 hwv hwa hwb hTW hTP;obtain⟨w0,hw0⟩:∃ V,V=((((w.alloc (.cells #[.int .i64 vk,.int .i64 vn,.string vt,.slice vA vN vC] 33)).alloc (.cells #[.int .i64 ak,.string an,.slice alA alN alC,.slice akA akN akC] 39)).alloc (.cells #[.int .i64 bk,.string bn,.slice blA blN blC,.slice bkA bkN bkC] 39)).alloc (.cells #[.int .i64 0,.int .i64 0,.string {data:=#[]},.slice none 0 0] 33)):=⟨_,rfl⟩;have b_v:=zn40 hw0;have b_a:=zn41 hw0;have b_b:=zn42 hw0;have b_z:=zn43 hw0;have hB0:Below w.heap.size w w0:=by rw[hw0];exact(((((zqf _ _).alloc (zql _) _).alloc (by simp) _).alloc (by simp;omega) _).alloc (by simp;omega) _)
 have hs0:w0.heap.size=w.heap.size+1+1+1+1:=by rw[hw0];simp
 have HW0:=zqd hw0;clear hw0;go_enter Tryz.func6,Tryz.ntmps6
 go_wp2_with fail
 rw[← HW0.out];clear HW0;refine(Ha.out w0 hB0).mono ?_;rintro e w1 ⟨rfl,af8⟩;have hw1:=hB0.trans (af8.mono hB0.size);have ajh:=b_v.step af8;have ag5:=b_a.step af8;have ai1:=b_b.step af8;have ahy:=b_z.step af8;obtain⟨pv0,pv1,pv2,pv3⟩:=zc4 ajh;obtain⟨pa0,pa1,pa2,pa3⟩:=zc4 ag5;obtain⟨pb0,pb1,pb2,pb3⟩:=zc4 ai1;cases ya
 case false=>
  clear pv0 pv1 pv2 pv3 pa0 pa1 pa2 pa3 pb0 pb1 pb2 pb3;have HF:Hid (R=(ael,1)):=by show _=_;rw[HR.out];rfl
  have z0:w1.cell? ⟨w.heap.size+1+1+1,0,none⟩=some (.int .i64 0):=ahy.cell 0;have f0:=ahy.frozen 0;have z1:w1.cell? ⟨w.heap.size+1+1+1,1,none⟩=some (.int .i64 0):=ahy.cell 1;have f1:=ahy.frozen 1;have z2:w1.cell? ⟨w.heap.size+1+1+1,2,none⟩=some (.string {data:=#[]}):=ahy.cell 2;have f2:=ahy.frozen 2;have z3:w1.cell? ⟨w.heap.size+1+1+1,3,none⟩=some (.slice none 0 0):=ahy.cell 3;have f3:=ahy.frozen 3;go_wp2_with fail
  have bN:Blk ((((w1.setCell ⟨w.heap.size+1+1+1,0,none⟩ (.int .i64 0)).setCell ⟨w.heap.size+1+1+1,1,none⟩ (.int .i64 0)).setCell ⟨w.heap.size+1+1+1,2,none⟩ (.string {data:=#[]})).setCell ⟨w.heap.size+1+1+1,3,none⟩ (.slice none 0 0)) (w.heap.size+1+1+1) 33 #[.int .i64 0,.int .i64 0,.string {data:=#[]},.slice none 0 0]:=by
   have:=(((ahy.l7 0 (.int .i64 0)).l7 1 (.int .i64 0)).l7 2 (.string {data:=#[]})).l7 3 (.slice none 0 0);simpa using this
  have n0:=bN.cell 0;have n1:=bN.cell 1;have n2:=bN.cell 2;have n3:=bN.cell 3
  have k1:Below w.heap.size w ((((w1.setCell ⟨w.heap.size+1+1+1,0,none⟩ (.int .i64 0)).setCell ⟨w.heap.size+1+1+1,1,none⟩ (.int .i64 0)).setCell ⟨w.heap.size+1+1+1,2,none⟩ (.string {data:=#[]})).setCell ⟨w.heap.size+1+1+1,3,none⟩ (.slice none 0 0)):=by
   iterate 4 (refine Below.setCell ?_ (by simp;try omega) _)
   exact hw1
  have hpost:TQ R w (.returned (.tuple #[.agg #[.int .i64 0,.int .i64 0,.string {data:=#[]},.slice none 0 0],.int .i64 1])) ((((w1.setCell ⟨w.heap.size+1+1+1,0,none⟩ (.int .i64 0)).setCell ⟨w.heap.size+1+1+1,1,none⟩ (.int .i64 0)).setCell ⟨w.heap.size+1+1+1,2,none⟩ (.string {data:=#[]})).setCell ⟨w.heap.size+1+1+1,3,none⟩ (.slice none 0 0)):=by
   show ∃ us,_;rw[HF.out];refine⟨[.int .i64 0,.int .i64 0,.string {data:=#[]},.slice none 0 0],rfl,?_,k1⟩;exact ahp (zql _)
  exact bodyPost_ret (v:=.tuple #[.agg #[.int .i64 0,.int .i64 0,.string {data:=#[]},.slice none 0 0],.int .i64 1]) (by simp[results,Tryz.results6,go_sem,n0,n1,n2,n3]) rfl hpost
 go_wp2_with fail
 refine(Hb.out w1 hw1).mono ?_;rintro e w2 ⟨rfl,ag6⟩;have hw2:=hw1.trans (ag6.mono hw1.size);have aml:=ajh.step ag6;have ai0:=ag5.step ag6;have aji:=ai1.step ag6;have ahz:=ahy.step ag6;clear pv0 pv1 pv2 pv3 pa0 pa1 pa2 pa3 pb0 pb1 pb2 pb3;cases yb
 case false=>
  have HF:Hid (R=(ael,1)):=by show _=_;rw[HR.out];rfl
  have z0:w2.cell? ⟨w.heap.size+1+1+1,0,none⟩=some (.int .i64 0):=ahz.cell 0;have f0:=ahz.frozen 0;have z1:w2.cell? ⟨w.heap.size+1+1+1,1,none⟩=some (.int .i64 0):=ahz.cell 1;have f1:=ahz.frozen 1;have z2:w2.cell? ⟨w.heap.size+1+1+1,2,none⟩=some (.string {data:=#[]}):=ahz.cell 2;have f2:=ahz.frozen 2;have z3:w2.cell? ⟨w.heap.size+1+1+1,3,none⟩=some (.slice none 0 0):=ahz.cell 3;have f3:=ahz.frozen 3;go_wp2_with fail
  have bN:Blk ((((w2.setCell ⟨w.heap.size+1+1+1,0,none⟩ (.int .i64 0)).setCell ⟨w.heap.size+1+1+1,1,none⟩ (.int .i64 0)).setCell ⟨w.heap.size+1+1+1,2,none⟩ (.string {data:=#[]})).setCell ⟨w.heap.size+1+1+1,3,none⟩ (.slice none 0 0)) (w.heap.size+1+1+1) 33 #[.int .i64 0,.int .i64 0,.string {data:=#[]},.slice none 0 0]:=by
   have:=(((ahz.l7 0 (.int .i64 0)).l7 1 (.int .i64 0)).l7 2 (.string {data:=#[]})).l7 3 (.slice none 0 0);simpa using this
  have n0:=bN.cell 0;have n1:=bN.cell 1;have n2:=bN.cell 2;have n3:=bN.cell 3
  have k1:Below w.heap.size w ((((w2.setCell ⟨w.heap.size+1+1+1,0,none⟩ (.int .i64 0)).setCell ⟨w.heap.size+1+1+1,1,none⟩ (.int .i64 0)).setCell ⟨w.heap.size+1+1+1,2,none⟩ (.string {data:=#[]})).setCell ⟨w.heap.size+1+1+1,3,none⟩ (.slice none 0 0)):=by
   iterate 4 (refine Below.setCell ?_ (by simp;try omega) _)
   exact hw2
  have hpost:TQ R w (.returned (.tuple #[.agg #[.int .i64 0,.int .i64 0,.string {data:=#[]},.slice none 0 0],.int .i64 1])) ((((w2.setCell ⟨w.heap.size+1+1+1,0,none⟩ (.int .i64 0)).setCell ⟨w.heap.size+1+1+1,1,none⟩ (.int .i64 0)).setCell ⟨w.heap.size+1+1+1,2,none⟩ (.string {data:=#[]})).setCell ⟨w.heap.size+1+1+1,3,none⟩ (.slice none 0 0)):=by
   show ∃ us,_;rw[HF.out];refine⟨[.int .i64 0,.int .i64 0,.string {data:=#[]},.slice none 0 0],rfl,?_,k1⟩;exact ahp (zql _)
  exact bodyPost_ret (v:=.tuple #[.agg #[.int .i64 0,.int .i64 0,.string {data:=#[]},.slice none 0 0],.int .i64 1]) (by simp[results,Tryz.results6,go_sem,n0,n1,n2,n3]) rfl hpost
 obtain⟨qv0,qv1,qv2,qv3⟩:=zc4 aml;obtain⟨qa0,qa1,qa2,qa3⟩:=zc4 ai0;obtain⟨qb0,qb1,qb2,qb3⟩:=zc4 aji;have HFu:=zqd (HFt.out (by first|rfl|trivial));go_wp2_with fail
 refine(HFu.out w2 hw2).mono ?_;rintro e w3 ⟨rfl,ait⟩;have hw3:=hw2.trans (ait.mono hw2.size);have anw:=aml.step ait;have amm:=ai0.step ait;have amn:=aji.step ait;have ah0:=ahz.step ait;clear qv0 qv1 qv2 qv3 qa0 qa1 qa2 qa3 qb0 qb1 qb2 qb3;cases yf
 case false=>
  have HF:Hid (R=(ael,7)):=by show _=_;rw[HR.out];rfl
  have z0:w3.cell? ⟨w.heap.size+1+1+1,0,none⟩=some (.int .i64 0):=ah0.cell 0;have f0:=ah0.frozen 0;have z1:w3.cell? ⟨w.heap.size+1+1+1,1,none⟩=some (.int .i64 0):=ah0.cell 1;have f1:=ah0.frozen 1;have z2:w3.cell? ⟨w.heap.size+1+1+1,2,none⟩=some (.string {data:=#[]}):=ah0.cell 2;have f2:=ah0.frozen 2;have z3:w3.cell? ⟨w.heap.size+1+1+1,3,none⟩=some (.slice none 0 0):=ah0.cell 3;have f3:=ah0.frozen 3;go_wp2_with fail
  have bN:Blk ((((w3.setCell ⟨w.heap.size+1+1+1,0,none⟩ (.int .i64 0)).setCell ⟨w.heap.size+1+1+1,1,none⟩ (.int .i64 0)).setCell ⟨w.heap.size+1+1+1,2,none⟩ (.string {data:=#[]})).setCell ⟨w.heap.size+1+1+1,3,none⟩ (.slice none 0 0)) (w.heap.size+1+1+1) 33 #[.int .i64 0,.int .i64 0,.string {data:=#[]},.slice none 0 0]:=by
   have:=(((ah0.l7 0 (.int .i64 0)).l7 1 (.int .i64 0)).l7 2 (.string {data:=#[]})).l7 3 (.slice none 0 0);simpa using this
  have n0:=bN.cell 0;have n1:=bN.cell 1;have n2:=bN.cell 2;have n3:=bN.cell 3
  have k1:Below w.heap.size w ((((w3.setCell ⟨w.heap.size+1+1+1,0,none⟩ (.int .i64 0)).setCell ⟨w.heap.size+1+1+1,1,none⟩ (.int .i64 0)).setCell ⟨w.heap.size+1+1+1,2,none⟩ (.string {data:=#[]})).setCell ⟨w.heap.size+1+1+1,3,none⟩ (.slice none 0 0)):=by
   iterate 4 (refine Below.setCell ?_ (by simp;try omega) _)
   exact hw3
  have hpost:TQ R w (.returned (.tuple #[.agg #[.int .i64 0,.int .i64 0,.string {data:=#[]},.slice none 0 0],.int .i64 7])) ((((w3.setCell ⟨w.heap.size+1+1+1,0,none⟩ (.int .i64 0)).setCell ⟨w.heap.size+1+1+1,1,none⟩ (.int .i64 0)).setCell ⟨w.heap.size+1+1+1,2,none⟩ (.string {data:=#[]})).setCell ⟨w.heap.size+1+1+1,3,none⟩ (.slice none 0 0)):=by
   show ∃ us,_;rw[HF.out];refine⟨[.int .i64 0,.int .i64 0,.string {data:=#[]},.slice none 0 0],rfl,?_,k1⟩;exact ahp (zql _)
  exact bodyPost_ret (v:=.tuple #[.agg #[.int .i64 0,.int .i64 0,.string {data:=#[]},.slice none 0 0],.int .i64 7]) (by simp[results,Tryz.results6,go_sem,n0,n1,n2,n3]) rfl hpost
 obtain⟨rv0,rv1,rv2,rv3⟩:=zc4 anw;obtain⟨ra0,ra1,ra2,ra3⟩:=zc4 amm;obtain⟨rb0,rb1,rb2,rb3⟩:=zc4 amn;have HMu:=zqd (HMy.out (by first|rfl|trivial) (by first|rfl|trivial));go_wp2_with fail
 refine(HMu.out w3 hw3).mono ?_;rintro e w4 ⟨rfl,alb⟩;have hw4:=hw3.trans (alb.mono hw3.size);have apt:=anw.step alb;have apu:=amm.step alb;have apv:=amn.step alb;have ahi:=ah0.step alb;clear rv0 rv1 rv2 rv3 ra0 ra1 ra2 ra3 rb0 rb1 rb2 rb3;cases ym
 case false=>
  have HF:Hid (R=(ael,7)):=by show _=_;rw[HR.out];rfl
  have z0:w4.cell? ⟨w.heap.size+1+1+1,0,none⟩=some (.int .i64 0):=ahi.cell 0;have f0:=ahi.frozen 0;have z1:w4.cell? ⟨w.heap.size+1+1+1,1,none⟩=some (.int .i64 0):=ahi.cell 1;have f1:=ahi.frozen 1;have z2:w4.cell? ⟨w.heap.size+1+1+1,2,none⟩=some (.string {data:=#[]}):=ahi.cell 2;have f2:=ahi.frozen 2;have z3:w4.cell? ⟨w.heap.size+1+1+1,3,none⟩=some (.slice none 0 0):=ahi.cell 3;have f3:=ahi.frozen 3;go_wp2_with fail
  have bN:Blk ((((w4.setCell ⟨w.heap.size+1+1+1,0,none⟩ (.int .i64 0)).setCell ⟨w.heap.size+1+1+1,1,none⟩ (.int .i64 0)).setCell ⟨w.heap.size+1+1+1,2,none⟩ (.string {data:=#[]})).setCell ⟨w.heap.size+1+1+1,3,none⟩ (.slice none 0 0)) (w.heap.size+1+1+1) 33 #[.int .i64 0,.int .i64 0,.string {data:=#[]},.slice none 0 0]:=by
   have:=(((ahi.l7 0 (.int .i64 0)).l7 1 (.int .i64 0)).l7 2 (.string {data:=#[]})).l7 3 (.slice none 0 0);simpa using this
  have n0:=bN.cell 0;have n1:=bN.cell 1;have n2:=bN.cell 2;have n3:=bN.cell 3
  have k1:Below w.heap.size w ((((w4.setCell ⟨w.heap.size+1+1+1,0,none⟩ (.int .i64 0)).setCell ⟨w.heap.size+1+1+1,1,none⟩ (.int .i64 0)).setCell ⟨w.heap.size+1+1+1,2,none⟩ (.string {data:=#[]})).setCell ⟨w.heap.size+1+1+1,3,none⟩ (.slice none 0 0)):=by
   iterate 4 (refine Below.setCell ?_ (by simp;try omega) _)
   exact hw4
  have hpost:TQ R w (.returned (.tuple #[.agg #[.int .i64 0,.int .i64 0,.string {data:=#[]},.slice none 0 0],.int .i64 7])) ((((w4.setCell ⟨w.heap.size+1+1+1,0,none⟩ (.int .i64 0)).setCell ⟨w.heap.size+1+1+1,1,none⟩ (.int .i64 0)).setCell ⟨w.heap.size+1+1+1,2,none⟩ (.string {data:=#[]})).setCell ⟨w.heap.size+1+1+1,3,none⟩ (.slice none 0 0)):=by
   show ∃ us,_;rw[HF.out];refine⟨[.int .i64 0,.int .i64 0,.string {data:=#[]},.slice none 0 0],rfl,?_,k1⟩;exact ahp (zql _)
  exact bodyPost_ret (v:=.tuple #[.agg #[.int .i64 0,.int .i64 0,.string {data:=#[]},.slice none 0 0],.int .i64 7]) (by simp[results,Tryz.results6,go_sem,n0,n1,n2,n3]) rfl hpost
 obtain⟨sv0,sv1,sv2,sv3⟩:=zc4 apt;obtain⟨sa0,sa1,sa2,sa3⟩:=zc4 apu;obtain⟨sb0,sb1,sb2,sb3⟩:=zc4 apv;have HTu:=zqd (HTk.out (by first|rfl|trivial) (by first|rfl|trivial) (by first|rfl|trivial) (by first|rfl|trivial));go_wp2_with fail
 refine(HTu.out w4 hw4).mono ?_;rintro e w5 ⟨us,rfl,hl,apw⟩;have hw5:=hw4.trans (apw.mono hw4.size);have aiu:=ahi.step apw;clear sv0 sv1 sv2 sv3 sa0 sa1 sa2 sa3 sb0 sb1 sb2 sb3;obtain⟨af9,ag7,t_text,a0a⟩:=T;obtain⟨tkA,tkN,tkC,rfl⟩:=Val.acv hl;have HL:=zqd hl;clear hl;have hs5:=apw.size;have byy:=hw4.size;have HF:Hid (R=(⟨af9,ag7,t_text,a0a⟩,0)):=by show _=_;rw[HR.out];rfl
 have z0:w5.cell? ⟨w.heap.size+1+1+1,0,none⟩=some (.int .i64 0):=aiu.cell 0;have f0:=aiu.frozen 0;have z1:w5.cell? ⟨w.heap.size+1+1+1,1,none⟩=some (.int .i64 0):=aiu.cell 1;have f1:=aiu.frozen 1;have z2:w5.cell? ⟨w.heap.size+1+1+1,2,none⟩=some (.string {data:=#[]}):=aiu.cell 2;have f2:=aiu.frozen 2;have z3:w5.cell? ⟨w.heap.size+1+1+1,3,none⟩=some (.slice none 0 0):=aiu.cell 3;have f3:=aiu.frozen 3;go_wp2_with fail
 have bN:Blk ((((w5.setCell ⟨w.heap.size+1+1+1,0,none⟩ (.int .i64 af9)).setCell ⟨w.heap.size+1+1+1,1,none⟩ (.int .i64 ag7)).setCell ⟨w.heap.size+1+1+1,2,none⟩ (.string t_text)).setCell ⟨w.heap.size+1+1+1,3,none⟩ (.slice tkA tkN tkC)) (w.heap.size+1+1+1) 33 #[.int .i64 af9,.int .i64 ag7,.string t_text,.slice tkA tkN tkC]:=by
  have:=(((aiu.l7 0 (.int .i64 af9)).l7 1 (.int .i64 ag7)).l7 2 (.string t_text)).l7 3 (.slice tkA tkN tkC);simpa using this
 have n0:=bN.cell 0;have n1:=bN.cell 1;have n2:=bN.cell 2;have n3:=bN.cell 3
 have k1:Below w.heap.size w ((((w5.setCell ⟨w.heap.size+1+1+1,0,none⟩ (.int .i64 af9)).setCell ⟨w.heap.size+1+1+1,1,none⟩ (.int .i64 ag7)).setCell ⟨w.heap.size+1+1+1,2,none⟩ (.string t_text)).setCell ⟨w.heap.size+1+1+1,3,none⟩ (.slice tkA tkN tkC)):=by
  iterate 4 (refine Below.setCell ?_ (by simp;try omega) _)
  exact hw5
 have hpost:TQ R w (.returned (.tuple #[.agg #[.int .i64 af9,.int .i64 ag7,.string t_text,.slice tkA tkN tkC],.int .i64 0])) ((((w5.setCell ⟨w.heap.size+1+1+1,0,none⟩ (.int .i64 af9)).setCell ⟨w.heap.size+1+1+1,1,none⟩ (.int .i64 ag7)).setCell ⟨w.heap.size+1+1+1,2,none⟩ (.string t_text)).setCell ⟨w.heap.size+1+1+1,3,none⟩ (.slice tkA tkN tkC)):=by
  show ∃ us,_;rw[HF.out];refine⟨[.int .i64 af9,.int .i64 ag7,.string t_text,.slice tkA tkN tkC],rfl,?_,k1⟩;refine LvC.low (lo2:=w4.heap.size) ?_ (by omega);refine LvC.more (hi:=w5.heap.size) ?_ (zql _) (by simp[World.setCell]) (zql _)
  iterate 4 (refine LvC.setCell ?_ (.inl (by have:=ahi.lt;simp;omega)) _)
  exact HL.out
 exact bodyPost_ret (v:=.tuple #[.agg #[.int .i64 af9,.int .i64 ag7,.string t_text,.slice tkA tkN tkC],.int .i64 0]) (by simp[results,Tryz.results6,go_sem,n0,n1,n2,n3]) rfl hpost
set_option maxHeartbeats 6400000 in
theorem awp (v:Val) (a b:Ty) (hpa:a.parts≤4194304) (hpb:b.parts≤4194304) (B:Nat) (cs ds es:List Value) (w:World) (hB:B≤w.heap.size) (hTW:aiz w) (hTP:ad2 w) (hwv:PD.wfL (Val.pd v)) (hwa:PD.wfL (Ty.pd a)) (hwb:PD.wfL (Ty.pd b)) (hv:jq w B (Val.pd v) cs) (ha:jq w B (Ty.pd a) ds) (hb:jq w B (Ty.pd b) es):
  Calls Tryz.prog 9 #[.agg cs.toArray,.agg ds.toArray,.agg es.toArray] w fun e w'=>TQ (ai3 v a b) w e w':=by
 obtain⟨vk,vn,vt,vks⟩:=v;obtain⟨ak,an,al,aks⟩:=a;obtain⟨bk,bn,bl,bks⟩:=b;obtain⟨adx,rfl,r_v⟩:=Val.open_ hv;obtain⟨vA,vN,vC,rfl⟩:=r_v.form;have RV:=zqd r_v;clear r_v hv;obtain⟨alV,akV,rfl,zy,aac⟩:=Ty.open_ ha;obtain⟨alA,alN,alC,rfl⟩:=zy.form;obtain⟨akA,akN,akC,rfl⟩:=aac.form;have RLA:=zqd zy;have RKA:=zqd aac;clear zy aac ha;obtain⟨blV,bkV,rfl,aak,aal⟩:=Ty.open_ hb;obtain⟨blA,blN,blC,rfl⟩:=aak.form;obtain⟨bkA,bkN,bkC,rfl⟩:=aal.form;have RLB:=zqd aak;have RKB:=zqd aal;clear aak aal hb;have Ha:=zqd (fun(V:World) (hV:Below w.heap.size w V)=>ajo ⟨ak,an,al,aks⟩ (B:=B) (cs:=[.int .i64 ak,.string an,.slice alA alN alC,.slice akA akN akC]) (w:=V) (Nat.le_trans hB hV.size) hwa hpa (Ty.close_ (RLA.out.below (hV.mono hB)) (RKA.out.below (hV.mono hB))));have Hb:=zqd (fun(V:World) (hV:Below w.heap.size w V)=>ajo ⟨bk,bn,bl,bks⟩ (B:=B) (cs:=[.int .i64 bk,.string bn,.slice blA blN blC,.slice bkA bkN bkC]) (w:=V) (Nat.le_trans hB hV.size) hwb hpb (Ty.close_ (RLB.out.below (hV.mono hB)) (RKB.out.below (hV.mono hB))));have HFt:=zqd (fun(ho:acp ⟨ak,an,al,aks⟩=true) (V:World) (hV:Below w.heap.size w V)=>aqp 4 ⟨vk,vn,vt,vks⟩ ⟨ak,an,al,aks⟩ B [.int .i64 vk,.int .i64 vn,.string vt,.slice vA vN vC] [.int .i64 ak,.string an,.slice alA alN alC,.slice akA akN akC] V (Nat.le_trans hB hV.size) (hTW.below hV) (aiw ho) hwv (Val.close_ (RV.out.below (hV.mono hB))) (Ty.close_ (RLA.out.below (hV.mono hB)) (RKA.out.below (hV.mono hB))));have HMy:=zqd (fun(ho:acp ⟨ak,an,al,aks⟩=true) (hp:acp ⟨bk,bn,bl,bks⟩=true) (V:World) (hV:Below w.heap.size w V)=>a08 ⟨ak,an,al,aks⟩ ⟨bk,bn,bl,bks⟩ ho hp hpa hpb B [.int .i64 ak,.string an,.slice alA alN alC,.slice akA akN akC] [.int .i64 bk,.string bn,.slice blA blN blC,.slice bkA bkN bkC] V (Nat.le_trans hB hV.size) (hTP.below hV) hwa hwb (Ty.close_ (RLA.out.below (hV.mono hB)) (RKA.out.below (hV.mono hB))) (Ty.close_ (RLB.out.below (hV.mono hB)) (RKB.out.below (hV.mono hB))));have HTk:=zqd (fun(ho:acp ⟨ak,an,al,aks⟩=true) (hp:acp ⟨bk,bn,bl,bks⟩=true) (hf:uq 4 ⟨vk,vn,vt,vks⟩ ⟨ak,an,al,aks⟩=true) (hm:akl ⟨ak,an,al,aks⟩ ⟨bk,bn,bl,bks⟩=true) (V:World) (hV:Below w.heap.size w V)=>aq0 4 ⟨vk,vn,vt,vks⟩ ⟨ak,an,al,aks⟩ ⟨bk,bn,bl,bks⟩ B [.int .i64 vk,.int .i64 vn,.string vt,.slice vA vN vC] [.int .i64 ak,.string an,.slice alA alN alC,.slice akA akN akC] [.int .i64 bk,.string bn,.slice blA blN blC,.slice bkA bkN bkC] V (Nat.le_trans hB hV.size) (aiw ho) (aiw hp) hwv hf (atl.1 hm) (Val.close_ (RV.out.below (hV.mono hB))) (Ty.close_ (RLA.out.below (hV.mono hB)) (RKA.out.below (hV.mono hB))) (Ty.close_ (RLB.out.below (hV.mono hB)) (RKB.out.below (hV.mono hB))));obtain⟨R,hR⟩:∃ R,R=ai3 ⟨vk,vn,vt,vks⟩ ⟨ak,an,al,aks⟩ ⟨bk,bn,bl,bks⟩:=⟨_,rfl⟩;rw[← hR];rw[ai3] at hR;obtain⟨ya,hya⟩:∃ v:Bool,acp ⟨ak,an,al,aks⟩=v:=⟨_,rfl⟩;obtain⟨yb,hyb⟩:∃ v:Bool,acp ⟨bk,bn,bl,bks⟩=v:=⟨_,rfl⟩;obtain⟨yf,hyf⟩:∃ v:Bool,uq 4 ⟨vk,vn,vt,vks⟩ ⟨ak,an,al,aks⟩=v:=⟨_,rfl⟩;obtain⟨ym,hym⟩:∃ v:Bool,akl ⟨ak,an,al,aks⟩ ⟨bk,bn,bl,bks⟩=v:=⟨_,rfl⟩;obtain⟨T,hT4⟩:∃ T,ru 4 ⟨ak,an,al,aks⟩ ⟨bk,bn,bl,bks⟩ ⟨vk,vn,vt,vks⟩=T:=⟨_,rfl⟩;rw[hya,hyb,hyf,hym,hT4] at hR;rw[hya] at Ha HFt HMy HTk;rw[hyb] at Hb HMy HTk;rw[hyf] at HFt HTk;rw[hym] at HMy HTk;rw[hT4] at HTk;have HR:Hid (R=if ya && yb then (if yf && ym then (T,0)else (ael,7))else (ael,1)):=hR;clear hR hya hyb hyf hym hT4 hwv hwa hwb hTW hTP hpa hpb;obtain⟨w0,hw0⟩:∃ V,V=((((w.alloc (.cells #[.int .i64 vk,.int .i64 vn,.string vt,.slice vA vN vC] 33)).alloc (.cells #[.int .i64 ak,.string an,.slice alA alN alC,.slice akA akN akC] 39)).alloc (.cells #[.int .i64 bk,.string bn,.slice blA blN blC,.slice bkA bkN bkC] 39)).alloc (.cells #[.int .i64 0,.int .i64 0,.string {data:=#[]},.slice none 0 0] 33)):=⟨_,rfl⟩;have b_v:=zn40 hw0;have b_a:=zn41 hw0;have b_b:=zn42 hw0;have b_z:=zn43 hw0;have hB0:Below w.heap.size w w0:=by rw[hw0];exact(((((zqf _ _).alloc (zql _) _).alloc (by simp) _).alloc (by simp;omega) _).alloc (by simp;omega) _)
 have hs0:w0.heap.size=w.heap.size+1+1+1+1:=by rw[hw0];simp
 have HW0:=zqd hw0;clear hw0;go_enter Tryz.func9,Tryz.ntmps9
 go_wp2_with fail
 rw[← HW0.out];clear HW0;refine(Ha.out w0 hB0).mono ?_;rintro e w1 ⟨rfl,af8⟩;have hw1:=hB0.trans (af8.mono hB0.size);have ajh:=b_v.step af8;have ag5:=b_a.step af8;have ai1:=b_b.step af8;have ahy:=b_z.step af8;obtain⟨pv0,pv1,pv2,pv3⟩:=zc4 ajh;obtain⟨pa0,pa1,pa2,pa3⟩:=zc4 ag5;obtain⟨pb0,pb1,pb2,pb3⟩:=zc4 ai1;cases ya
 case false=>
  clear pv0 pv1 pv2 pv3 pa0 pa1 pa2 pa3 pb0 pb1 pb2 pb3;have HF:Hid (R=(ael,1)):=by show _=_;rw[HR.out];rfl
  have z0:w1.cell? ⟨w.heap.size+1+1+1,0,none⟩=some (.int .i64 0):=ahy.cell 0;have f0:=ahy.frozen 0;have z1:w1.cell? ⟨w.heap.size+1+1+1,1,none⟩=some (.int .i64 0):=ahy.cell 1;have f1:=ahy.frozen 1;have z2:w1.cell? ⟨w.heap.size+1+1+1,2,none⟩=some (.string {data:=#[]}):=ahy.cell 2;have f2:=ahy.frozen 2;have z3:w1.cell? ⟨w.heap.size+1+1+1,3,none⟩=some (.slice none 0 0):=ahy.cell 3;have f3:=ahy.frozen 3;go_wp2_with fail
  have bN:Blk ((((w1.setCell ⟨w.heap.size+1+1+1,0,none⟩ (.int .i64 0)).setCell ⟨w.heap.size+1+1+1,1,none⟩ (.int .i64 0)).setCell ⟨w.heap.size+1+1+1,2,none⟩ (.string {data:=#[]})).setCell ⟨w.heap.size+1+1+1,3,none⟩ (.slice none 0 0)) (w.heap.size+1+1+1) 33 #[.int .i64 0,.int .i64 0,.string {data:=#[]},.slice none 0 0]:=by
   have:=(((ahy.l7 0 (.int .i64 0)).l7 1 (.int .i64 0)).l7 2 (.string {data:=#[]})).l7 3 (.slice none 0 0);simpa using this
  have n0:=bN.cell 0;have n1:=bN.cell 1;have n2:=bN.cell 2;have n3:=bN.cell 3
  have k1:Below w.heap.size w ((((w1.setCell ⟨w.heap.size+1+1+1,0,none⟩ (.int .i64 0)).setCell ⟨w.heap.size+1+1+1,1,none⟩ (.int .i64 0)).setCell ⟨w.heap.size+1+1+1,2,none⟩ (.string {data:=#[]})).setCell ⟨w.heap.size+1+1+1,3,none⟩ (.slice none 0 0)):=by
   iterate 4 (refine Below.setCell ?_ (by simp;try omega) _)
   exact hw1
  have hpost:TQ R w (.returned (.tuple #[.agg #[.int .i64 0,.int .i64 0,.string {data:=#[]},.slice none 0 0],.int .i64 1])) ((((w1.setCell ⟨w.heap.size+1+1+1,0,none⟩ (.int .i64 0)).setCell ⟨w.heap.size+1+1+1,1,none⟩ (.int .i64 0)).setCell ⟨w.heap.size+1+1+1,2,none⟩ (.string {data:=#[]})).setCell ⟨w.heap.size+1+1+1,3,none⟩ (.slice none 0 0)):=by
   show ∃ us,_;rw[HF.out];refine⟨[.int .i64 0,.int .i64 0,.string {data:=#[]},.slice none 0 0],rfl,?_,k1⟩;exact ahp (zql _)
  exact bodyPost_ret (v:=.tuple #[.agg #[.int .i64 0,.int .i64 0,.string {data:=#[]},.slice none 0 0],.int .i64 1]) (by simp[results,Tryz.results9,go_sem,n0,n1,n2,n3]) rfl hpost
 go_wp2_with fail
 refine(Hb.out w1 hw1).mono ?_;rintro e w2 ⟨rfl,ag6⟩;have hw2:=hw1.trans (ag6.mono hw1.size);have aml:=ajh.step ag6;have ai0:=ag5.step ag6;have aji:=ai1.step ag6;have ahz:=ahy.step ag6;clear pv0 pv1 pv2 pv3 pa0 pa1 pa2 pa3 pb0 pb1 pb2 pb3;cases yb
 case false=>
  have HF:Hid (R=(ael,1)):=by show _=_;rw[HR.out];rfl
  have z0:w2.cell? ⟨w.heap.size+1+1+1,0,none⟩=some (.int .i64 0):=ahz.cell 0;have f0:=ahz.frozen 0;have z1:w2.cell? ⟨w.heap.size+1+1+1,1,none⟩=some (.int .i64 0):=ahz.cell 1;have f1:=ahz.frozen 1;have z2:w2.cell? ⟨w.heap.size+1+1+1,2,none⟩=some (.string {data:=#[]}):=ahz.cell 2;have f2:=ahz.frozen 2;have z3:w2.cell? ⟨w.heap.size+1+1+1,3,none⟩=some (.slice none 0 0):=ahz.cell 3;have f3:=ahz.frozen 3;go_wp2_with fail
  have bN:Blk ((((w2.setCell ⟨w.heap.size+1+1+1,0,none⟩ (.int .i64 0)).setCell ⟨w.heap.size+1+1+1,1,none⟩ (.int .i64 0)).setCell ⟨w.heap.size+1+1+1,2,none⟩ (.string {data:=#[]})).setCell ⟨w.heap.size+1+1+1,3,none⟩ (.slice none 0 0)) (w.heap.size+1+1+1) 33 #[.int .i64 0,.int .i64 0,.string {data:=#[]},.slice none 0 0]:=by
   have:=(((ahz.l7 0 (.int .i64 0)).l7 1 (.int .i64 0)).l7 2 (.string {data:=#[]})).l7 3 (.slice none 0 0);simpa using this
  have n0:=bN.cell 0;have n1:=bN.cell 1;have n2:=bN.cell 2;have n3:=bN.cell 3
  have k1:Below w.heap.size w ((((w2.setCell ⟨w.heap.size+1+1+1,0,none⟩ (.int .i64 0)).setCell ⟨w.heap.size+1+1+1,1,none⟩ (.int .i64 0)).setCell ⟨w.heap.size+1+1+1,2,none⟩ (.string {data:=#[]})).setCell ⟨w.heap.size+1+1+1,3,none⟩ (.slice none 0 0)):=by
   iterate 4 (refine Below.setCell ?_ (by simp;try omega) _)
   exact hw2
  have hpost:TQ R w (.returned (.tuple #[.agg #[.int .i64 0,.int .i64 0,.string {data:=#[]},.slice none 0 0],.int .i64 1])) ((((w2.setCell ⟨w.heap.size+1+1+1,0,none⟩ (.int .i64 0)).setCell ⟨w.heap.size+1+1+1,1,none⟩ (.int .i64 0)).setCell ⟨w.heap.size+1+1+1,2,none⟩ (.string {data:=#[]})).setCell ⟨w.heap.size+1+1+1,3,none⟩ (.slice none 0 0)):=by
   show ∃ us,_;rw[HF.out];refine⟨[.int .i64 0,.int .i64 0,.string {data:=#[]},.slice none 0 0],rfl,?_,k1⟩;exact ahp (zql _)
  exact bodyPost_ret (v:=.tuple #[.agg #[.int .i64 0,.int .i64 0,.string {data:=#[]},.slice none 0 0],.int .i64 1]) (by simp[results,Tryz.results9,go_sem,n0,n1,n2,n3]) rfl hpost
 obtain⟨qv0,qv1,qv2,qv3⟩:=zc4 aml;obtain⟨qa0,qa1,qa2,qa3⟩:=zc4 ai0;obtain⟨qb0,qb1,qb2,qb3⟩:=zc4 aji;have HFu:=zqd (HFt.out (by first|rfl|trivial));go_wp2_with fail
 refine(HFu.out w2 hw2).mono ?_;rintro e w3 ⟨rfl,ait⟩;have hw3:=hw2.trans (ait.mono hw2.size);have anw:=aml.step ait;have amm:=ai0.step ait;have amn:=aji.step ait;have ah0:=ahz.step ait;clear qv0 qv1 qv2 qv3 qa0 qa1 qa2 qa3 qb0 qb1 qb2 qb3;cases yf
 case false=>
  have HF:Hid (R=(ael,7)):=by show _=_;rw[HR.out];rfl
  have z0:w3.cell? ⟨w.heap.size+1+1+1,0,none⟩=some (.int .i64 0):=ah0.cell 0;have f0:=ah0.frozen 0;have z1:w3.cell? ⟨w.heap.size+1+1+1,1,none⟩=some (.int .i64 0):=ah0.cell 1;have f1:=ah0.frozen 1;have z2:w3.cell? ⟨w.heap.size+1+1+1,2,none⟩=some (.string {data:=#[]}):=ah0.cell 2;have f2:=ah0.frozen 2;have z3:w3.cell? ⟨w.heap.size+1+1+1,3,none⟩=some (.slice none 0 0):=ah0.cell 3;have f3:=ah0.frozen 3;go_wp2_with fail
  have bN:Blk ((((w3.setCell ⟨w.heap.size+1+1+1,0,none⟩ (.int .i64 0)).setCell ⟨w.heap.size+1+1+1,1,none⟩ (.int .i64 0)).setCell ⟨w.heap.size+1+1+1,2,none⟩ (.string {data:=#[]})).setCell ⟨w.heap.size+1+1+1,3,none⟩ (.slice none 0 0)) (w.heap.size+1+1+1) 33 #[.int .i64 0,.int .i64 0,.string {data:=#[]},.slice none 0 0]:=by
   have:=(((ah0.l7 0 (.int .i64 0)).l7 1 (.int .i64 0)).l7 2 (.string {data:=#[]})).l7 3 (.slice none 0 0);simpa using this
  have n0:=bN.cell 0;have n1:=bN.cell 1;have n2:=bN.cell 2;have n3:=bN.cell 3
  have k1:Below w.heap.size w ((((w3.setCell ⟨w.heap.size+1+1+1,0,none⟩ (.int .i64 0)).setCell ⟨w.heap.size+1+1+1,1,none⟩ (.int .i64 0)).setCell ⟨w.heap.size+1+1+1,2,none⟩ (.string {data:=#[]})).setCell ⟨w.heap.size+1+1+1,3,none⟩ (.slice none 0 0)):=by
   iterate 4 (refine Below.setCell ?_ (by simp;try omega) _)
   exact hw3
  have hpost:TQ R w (.returned (.tuple #[.agg #[.int .i64 0,.int .i64 0,.string {data:=#[]},.slice none 0 0],.int .i64 7])) ((((w3.setCell ⟨w.heap.size+1+1+1,0,none⟩ (.int .i64 0)).setCell ⟨w.heap.size+1+1+1,1,none⟩ (.int .i64 0)).setCell ⟨w.heap.size+1+1+1,2,none⟩ (.string {data:=#[]})).setCell ⟨w.heap.size+1+1+1,3,none⟩ (.slice none 0 0)):=by
   show ∃ us,_;rw[HF.out];refine⟨[.int .i64 0,.int .i64 0,.string {data:=#[]},.slice none 0 0],rfl,?_,k1⟩;exact ahp (zql _)
  exact bodyPost_ret (v:=.tuple #[.agg #[.int .i64 0,.int .i64 0,.string {data:=#[]},.slice none 0 0],.int .i64 7]) (by simp[results,Tryz.results9,go_sem,n0,n1,n2,n3]) rfl hpost
 obtain⟨rv0,rv1,rv2,rv3⟩:=zc4 anw;obtain⟨ra0,ra1,ra2,ra3⟩:=zc4 amm;obtain⟨rb0,rb1,rb2,rb3⟩:=zc4 amn;have HMu:=zqd (HMy.out (by first|rfl|trivial) (by first|rfl|trivial));go_wp2_with fail
 refine(HMu.out w3 hw3).mono ?_;rintro e w4 ⟨rfl,alb⟩;have hw4:=hw3.trans (alb.mono hw3.size);have apt:=anw.step alb;have apu:=amm.step alb;have apv:=amn.step alb;have ahi:=ah0.step alb;clear rv0 rv1 rv2 rv3 ra0 ra1 ra2 ra3 rb0 rb1 rb2 rb3;cases ym
 case false=>
  have HF:Hid (R=(ael,7)):=by show _=_;rw[HR.out];rfl
  have z0:w4.cell? ⟨w.heap.size+1+1+1,0,none⟩=some (.int .i64 0):=ahi.cell 0;have f0:=ahi.frozen 0;have z1:w4.cell? ⟨w.heap.size+1+1+1,1,none⟩=some (.int .i64 0):=ahi.cell 1;have f1:=ahi.frozen 1;have z2:w4.cell? ⟨w.heap.size+1+1+1,2,none⟩=some (.string {data:=#[]}):=ahi.cell 2;have f2:=ahi.frozen 2;have z3:w4.cell? ⟨w.heap.size+1+1+1,3,none⟩=some (.slice none 0 0):=ahi.cell 3;have f3:=ahi.frozen 3;go_wp2_with fail
  have bN:Blk ((((w4.setCell ⟨w.heap.size+1+1+1,0,none⟩ (.int .i64 0)).setCell ⟨w.heap.size+1+1+1,1,none⟩ (.int .i64 0)).setCell ⟨w.heap.size+1+1+1,2,none⟩ (.string {data:=#[]})).setCell ⟨w.heap.size+1+1+1,3,none⟩ (.slice none 0 0)) (w.heap.size+1+1+1) 33 #[.int .i64 0,.int .i64 0,.string {data:=#[]},.slice none 0 0]:=by
   have:=(((ahi.l7 0 (.int .i64 0)).l7 1 (.int .i64 0)).l7 2 (.string {data:=#[]})).l7 3 (.slice none 0 0);simpa using this
  have n0:=bN.cell 0;have n1:=bN.cell 1;have n2:=bN.cell 2;have n3:=bN.cell 3
  have k1:Below w.heap.size w ((((w4.setCell ⟨w.heap.size+1+1+1,0,none⟩ (.int .i64 0)).setCell ⟨w.heap.size+1+1+1,1,none⟩ (.int .i64 0)).setCell ⟨w.heap.size+1+1+1,2,none⟩ (.string {data:=#[]})).setCell ⟨w.heap.size+1+1+1,3,none⟩ (.slice none 0 0)):=by
   iterate 4 (refine Below.setCell ?_ (by simp;try omega) _)
   exact hw4
  have hpost:TQ R w (.returned (.tuple #[.agg #[.int .i64 0,.int .i64 0,.string {data:=#[]},.slice none 0 0],.int .i64 7])) ((((w4.setCell ⟨w.heap.size+1+1+1,0,none⟩ (.int .i64 0)).setCell ⟨w.heap.size+1+1+1,1,none⟩ (.int .i64 0)).setCell ⟨w.heap.size+1+1+1,2,none⟩ (.string {data:=#[]})).setCell ⟨w.heap.size+1+1+1,3,none⟩ (.slice none 0 0)):=by
   show ∃ us,_;rw[HF.out];refine⟨[.int .i64 0,.int .i64 0,.string {data:=#[]},.slice none 0 0],rfl,?_,k1⟩;exact ahp (zql _)
  exact bodyPost_ret (v:=.tuple #[.agg #[.int .i64 0,.int .i64 0,.string {data:=#[]},.slice none 0 0],.int .i64 7]) (by simp[results,Tryz.results9,go_sem,n0,n1,n2,n3]) rfl hpost
 obtain⟨sv0,sv1,sv2,sv3⟩:=zc4 apt;obtain⟨sa0,sa1,sa2,sa3⟩:=zc4 apu;obtain⟨sb0,sb1,sb2,sb3⟩:=zc4 apv;have HTu:=zqd (HTk.out (by first|rfl|trivial) (by first|rfl|trivial) (by first|rfl|trivial) (by first|rfl|trivial));go_wp2_with fail
 refine(HTu.out w4 hw4).mono ?_;rintro e w5 ⟨us,rfl,hl,apw⟩;have hw5:=hw4.trans (apw.mono hw4.size);have aiu:=ahi.step apw;clear sv0 sv1 sv2 sv3 sa0 sa1 sa2 sa3 sb0 sb1 sb2 sb3;obtain⟨af9,ag7,t_text,a0a⟩:=T;obtain⟨tkA,tkN,tkC,rfl⟩:=Val.acv hl;have HL:=zqd hl;clear hl;have hs5:=apw.size;have byy:=hw4.size;have HF:Hid (R=(⟨af9,ag7,t_text,a0a⟩,0)):=by show _=_;rw[HR.out];rfl
 have z0:w5.cell? ⟨w.heap.size+1+1+1,0,none⟩=some (.int .i64 0):=aiu.cell 0;have f0:=aiu.frozen 0;have z1:w5.cell? ⟨w.heap.size+1+1+1,1,none⟩=some (.int .i64 0):=aiu.cell 1;have f1:=aiu.frozen 1;have z2:w5.cell? ⟨w.heap.size+1+1+1,2,none⟩=some (.string {data:=#[]}):=aiu.cell 2;have f2:=aiu.frozen 2;have z3:w5.cell? ⟨w.heap.size+1+1+1,3,none⟩=some (.slice none 0 0):=aiu.cell 3;have f3:=aiu.frozen 3;go_wp2_with fail
 have bN:Blk ((((w5.setCell ⟨w.heap.size+1+1+1,0,none⟩ (.int .i64 af9)).setCell ⟨w.heap.size+1+1+1,1,none⟩ (.int .i64 ag7)).setCell ⟨w.heap.size+1+1+1,2,none⟩ (.string t_text)).setCell ⟨w.heap.size+1+1+1,3,none⟩ (.slice tkA tkN tkC)) (w.heap.size+1+1+1) 33 #[.int .i64 af9,.int .i64 ag7,.string t_text,.slice tkA tkN tkC]:=by
  have:=(((aiu.l7 0 (.int .i64 af9)).l7 1 (.int .i64 ag7)).l7 2 (.string t_text)).l7 3 (.slice tkA tkN tkC);simpa using this
 have n0:=bN.cell 0;have n1:=bN.cell 1;have n2:=bN.cell 2;have n3:=bN.cell 3
 have k1:Below w.heap.size w ((((w5.setCell ⟨w.heap.size+1+1+1,0,none⟩ (.int .i64 af9)).setCell ⟨w.heap.size+1+1+1,1,none⟩ (.int .i64 ag7)).setCell ⟨w.heap.size+1+1+1,2,none⟩ (.string t_text)).setCell ⟨w.heap.size+1+1+1,3,none⟩ (.slice tkA tkN tkC)):=by
  iterate 4 (refine Below.setCell ?_ (by simp;try omega) _)
  exact hw5
 have hpost:TQ R w (.returned (.tuple #[.agg #[.int .i64 af9,.int .i64 ag7,.string t_text,.slice tkA tkN tkC],.int .i64 0])) ((((w5.setCell ⟨w.heap.size+1+1+1,0,none⟩ (.int .i64 af9)).setCell ⟨w.heap.size+1+1+1,1,none⟩ (.int .i64 ag7)).setCell ⟨w.heap.size+1+1+1,2,none⟩ (.string t_text)).setCell ⟨w.heap.size+1+1+1,3,none⟩ (.slice tkA tkN tkC)):=by
  show ∃ us,_;rw[HF.out];refine⟨[.int .i64 af9,.int .i64 ag7,.string t_text,.slice tkA tkN tkC],rfl,?_,k1⟩;refine LvC.low (lo2:=w4.heap.size) ?_ (by omega);refine LvC.more (hi:=w5.heap.size) ?_ (zql _) (by simp[World.setCell]) (zql _)
  iterate 4 (refine LvC.setCell ?_ (.inl (by have:=ahi.lt;simp;omega)) _)
  exact HL.out
 exact bodyPost_ret (v:=.tuple #[.agg #[.int .i64 af9,.int .i64 ag7,.string t_text,.slice tkA tkN tkC],.int .i64 0]) (by simp[results,Tryz.results9,go_sem,n0,n1,n2,n3]) rfl hpost
end Go.Proofs.YtfpannkadjdnaaaGreatDoor
