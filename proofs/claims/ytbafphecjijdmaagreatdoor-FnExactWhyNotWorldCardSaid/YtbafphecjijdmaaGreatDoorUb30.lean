/-
  The order of interfaces as impl reckons it (by program: gen_wdi.py). (and 1 more texts)
-/
import Derived.Test.YtbafphecjijdmaaGreatDoorUb29
import Derived.OrdersHeld
import Derived.Deep.RegionHeld3
import Derived.Test.YtbafphecjijdmaaGreatDoorUb22
import Derived.Test.YtbafphecjijdmaaGreatDoorUb14
import Derived.Deep.AppendLies
namespace Go.Proofs.YtbafphecjijdmaaGreatDoor
open Go.RowKit
set_option linter.all false
set_option maxRecDepth 16000
theorem bn1 {a b:Bool} (h:a=!b) (ha:a=true):b=false:=by cases b<;>simp_all
theorem bn2 {a b:Bool} (h:a=!b) (ha:a=false):b=true:=by cases b<;>simp_all
def amy (x y:ByteArray):Int:=if Op.bytesLess x.toList y.toList=true then -1 else if (x.toList ==y.toList)=true then 0 else 1
theorem a3y (x:ByteArray) (w:World):Calls Tryz.prog 152 #[.string x] w fun e w'=>e=.returned (.bool false)∧w=w':=by
 go_enter Tryz.func152,Tryz.ntmps152
 go_wp2_with fail
 go_ret
 exact⟨rfl,rfl⟩
theorem a8q (x y:ByteArray) (w:World):Calls Tryz.prog 130 #[.string x,.string y] w fun e w'=>e=.returned (.int .i64 (amy x y))∧w=w':=by
 obtain⟨R,hR⟩:∃ R:Int,R=amy x y:=⟨_,rfl⟩
 rw[← hR]
 have HR:=zqd hR
 clear hR
 go_enter Tryz.func130,Tryz.ntmps130
 go_wp2_with fail
 refine(a3y x w).mono ?_
 rintro e w1 ⟨rfl,rfl⟩
 go_wp2_with fail
 refine(a3y y w).mono ?_
 rintro e w1 ⟨rfl,rfl⟩
 cases h1:Op.bytesLess x.toList y.toList
 case true=>
  have HF:Hid (R=-1):=by show _=_;rw[HR.out,amy,if_pos h1]
  go_wp2_with fail
  go_ret
  exact⟨y7 HF.out.symm,rfl⟩
 have HN1:=zqd h1
 cases h2:(x.toList ==y.toList)
 case true=>
  have HF:Hid (R=0):=by show _=_;rw[HR.out,amy,if_neg (by rw[HN1.out];decide),if_pos h2]
  go_wp2_with fail
  go_ret
  exact⟨y7 HF.out.symm,rfl⟩
 case false=>
  have HF:Hid (R=1):=by show _=_;rw[HR.out,amy,if_neg (by rw[HN1.out];decide),if_neg (by rw[h2];decide)]
  go_wp2_with fail
  go_ret
  exact⟨y7 HF.out.symm,rfl⟩
def orN (a b:Int):Int:=if a=0 then b else a
theorem bgz (a b:Int) {g:Nat} (w:World) (h0:w.cell? ⟨g,0,none⟩=some (.int .i64 a)) (h1:w.cell? ⟨g,1,none⟩=some (.int .i64 b)):
  Calls Tryz.prog 129 #[.slice (some ⟨g,0,none⟩) 2 2] w fun e w'=>e=.returned (.int .i64 (orN a b))∧w=w':=by
 obtain⟨R,hR⟩:∃ R:Int,R=orN a b:=⟨_,rfl⟩
 rw[← hR]
 have HR:=zqd hR
 clear hR
 go_enter Tryz.func129,Tryz.ntmps129
 go_wp2_with fail
 go_loopw [8] (fun i wr=>((i=.int .i64 0)∨(i=.int .i64 1∧Hid (a=0))∨(i=.int .i64 2∧Hid (a=0∧b=0)))∧w=wr) (fun i _=>2 - (intOf i).toNat)
 case atStart=>exact⟨.inl rfl,rfl⟩
 case round=>
  obtain⟨hi,rfl⟩:=hrel
  rcases hi with rfl|⟨rfl,HA⟩|⟨rfl,HA⟩
  ·by_cases ha:a=0
   ·have HA:=zqd ha
    subst ha
    go_wp2_with fail
    go_roundw
    case rel=>exact⟨.inr (.inl ⟨rfl,zqd (by first|trivial|rfl)⟩),by first|trivial|rfl⟩
    case measure=>simp[intOf]
   ·have HF:Hid (R=a):=by show _=_;rw[HR.out,orN,if_neg ha]
    go_wp2_with fail
    go_ret
    exact⟨y7 HF.out.symm,rfl⟩
  ·by_cases hb:b=0
   ·subst hb
    go_wp2_with fail
    go_roundw
    case rel=>exact⟨.inr (.inr ⟨rfl,zqd ⟨HA.out,by first|trivial|rfl⟩⟩),by first|trivial|rfl⟩
    case measure=>simp[intOf]
   ·have HF:Hid (R=b):=by show _=_;rw[HR.out,orN,if_pos HA.out]
    go_wp2_with fail
    go_ret
    exact⟨y7 HF.out.symm,rfl⟩
  ·have HF:Hid (R=0):=by show _=_;rw[HR.out,orN,if_pos HA.out.1];exact HA.out.2
   go_wp2_with fail
   go_ret
   exact⟨y7 HF.out.symm,rfl⟩
def a2g (p n p2 n2:ByteArray):Int:=orN (amy p p2) (amy n n2)
theorem bn7 {y x:cu}:decide (0≤a2g y.package y.name x.package x.name)=!ah4 y x:=by
 have fl:ah4 y x=(Op.bytesLess y.package.toList x.package.toList ||(decide (y.package=x.package) && Op.bytesLess y.name.toList x.name.toList)):=rfl
 have c1:∀ {a b:ByteArray},Op.bytesLess a.toList b.toList=true→amy a b=-1:=fun h=>by rw[amy,if_pos h]
 have c2:∀ {a b:ByteArray},Op.bytesLess a.toList b.toList=false→(a.toList ==b.toList)=true→amy a b=0:=fun h k=>by rw[amy,if_neg (by rw[h];decide),if_pos k]
 have c3:∀ {a b:ByteArray},Op.bytesLess a.toList b.toList=false→(a.toList ==b.toList)=false→amy a b=1:=fun h k=>by rw[amy,if_neg (by rw[h];decide),if_neg (by rw[k];decide)]
 rw[fl,a2g]
 cases h1:Op.bytesLess y.package.toList x.package.toList
 ·cases h2:(y.package.toList ==x.package.toList)
  ·have ne:¬ y.package=x.package:=fun e=>by rw[e,beq_self_eq_true] at h2;cases h2
   rw[decide_eq_false ne,c3 h1 h2]
   rfl
  ·rw[decide_eq_true (toList_eq h2),c2 h1 h2]
   cases h3:Op.bytesLess y.name.toList x.name.toList
   ·cases h4:(y.name.toList ==x.name.toList)
    ·rw[c3 h3 h4];rfl
    ·rw[c2 h3 h4];rfl
   ·rw[c1 h3];rfl
 ·rw[c1 h1];rfl
set_option maxHeartbeats 1600000 in
theorem ayt (p n v p2 n2 v2:ByteArray) {A A' A2 A2':Option Addr} {l c l' c' l2 c2 l2' c2':Nat} (w:World):
  Calls Tryz.prog 100 #[.agg #[.string p,.string n,.string v,.slice A l c,.slice A' l' c'],.agg #[.string p2,.string n2,.string v2,.slice A2 l2 c2,.slice A2' l2' c2']] w fun e w'=>e=.returned (.int .i64 (a2g p n p2 n2))∧Below w.heap.size w w':=by
 obtain⟨R,hR⟩:∃ R:Int,R=a2g p n p2 n2:=⟨_,rfl⟩
 rw[← hR]
 have HR:=zqd hR
 obtain⟨X,hX⟩:∃ X:Int,amy p p2=X:=⟨_,rfl⟩
 obtain⟨Y,hY⟩:∃ Y:Int,amy n n2=Y:=⟨_,rfl⟩
 have HRX:Hid (R=orN X Y):=by show _=_;rw[HR.out,a2g,hX,hY]
 have HC1:=zqd (fun V:World=>a8q p p2 V)
 have HC2:=zqd (fun V:World=>a8q n n2 V)
 rw[hX] at HC1
 rw[hY] at HC2
 clear hR hX hY HR
 obtain⟨w0,hw0⟩:∃ V,V=(w.alloc (.cells #[.string p,.string n,.string v,.slice A l c,.slice A' l' c'] 30)).alloc (.cells #[.string p2,.string n2,.string v2,.slice A2 l2 c2,.slice A2' l2' c2'] 30):=⟨_,rfl⟩
 have bA:Blk w0 w.heap.size 30 #[.string p,.string n,.string v,.slice A l c,.slice A' l' c']:=by rw[hw0];exact(Blk.new w _ _).alloc _
 have bC:Blk w0 (w.heap.size+1) 30 #[.string p2,.string n2,.string v2,.slice A2 l2 c2,.slice A2' l2' c2']:=by rw[hw0];have:=Blk.new (w.alloc (.cells #[.string p,.string n,.string v,.slice A l c,.slice A' l' c'] 30)) 30 #[.string p2,.string n2,.string v2,.slice A2 l2 c2,.slice A2' l2' c2'];simpa using this
 have hB0:Below w.heap.size w w0:=by rw[hw0];exact((zqf _ _).alloc (zql _) _).alloc (by simp) _
 have HW0:=zqd hw0
 clear hw0
 go_enter Tryz.func100,Tryz.ntmps100
 go_wp2_with fail
 rw[← HW0.out]
 clear HW0
 have HS:Hid (∀ V,Below w0.heap.size w0 V→V.cell? ⟨w.heap.size,0,none⟩=some (.string p)∧V.cell? ⟨w.heap.size,1,none⟩=some (.string n)∧V.cell? ⟨w.heap.size+1,0,none⟩=some (.string p2)∧V.cell? ⟨w.heap.size+1,1,none⟩=some (.string n2)):=zqd fun V hV=>⟨(hV.cell (p:=⟨w.heap.size,0,none⟩) bA.lt).trans (bA.cell 0),(hV.cell (p:=⟨w.heap.size,1,none⟩) bA.lt).trans (bA.cell 1),(hV.cell (p:=⟨w.heap.size+1,0,none⟩) bC.lt).trans (bC.cell 0),(hV.cell (p:=⟨w.heap.size+1,1,none⟩) bC.lt).trans (bC.cell 1)⟩
 have HB0:=zqd hB0
 have hk0:Below w0.heap.size w0 w0.drew:=(zqf _ _).drew
 clear hB0 bA bC
 refine wp_region_held_drew (S:=(fun w'=>w'.cell? ⟨w.heap.size,0,none⟩=some (.string p)∧w'.cell? ⟨w.heap.size,1,none⟩=some (.string n)∧w'.cell? ⟨w.heap.size+1,0,none⟩=some (.string p2)∧w'.cell? ⟨w.heap.size+1,1,none⟩=some (.string n2))) (by kernel_rfl) (HS.out _ hk0) (fun hHeld=>?_)
 refine zqt 0 ?_
 try simp only[Act.put,zs1,zs2,zs3]
 refine zqt 1 ?_
 try simp only[Act.put,zs1,zs2,zs3]
 refine zqt 2 ?_
 try simp only[Act.put,zs1,zs2,zs3]
 refine zqt 3 ?_
 try simp only[Act.put,zs1,zs2,zs3]
 refine zqt 5 ?_
 try simp only[Act.put,zs1,zs2,zs3]
 refine zqt 6 ?_
 try simp only[Act.put,zs1,zs2,zs3]
 refine zqt 7 ?_
 try simp only[Act.put,zs1,zs2,zs3]
 refine zqt 8 ?_
 try simp only[Act.put,zs1,zs2,zs3]
 refine zqr 4 fun K hK=>?_
 go_simp
 go_at_call 130
 refine(HC1.out _).mono ?_
 rintro e wq ⟨rfl,rfl⟩
 refine hK.out _ _ (by first|exact(HS.out _ hk0)|go_keep) (fun hHeld=>?_)
 clear hK K
 try simp only[Act.put,zs1,zs2,zs3]
 refine zqr 9 fun K hK=>?_
 go_simp
 go_at_call 130
 refine(HC2.out _).mono ?_
 rintro e wq ⟨rfl,rfl⟩
 refine hK.out _ _ (by first|exact(HS.out _ hk0)|go_keep) (fun hHeld=>?_)
 clear hK K
 try simp only[Act.put,zs1,zs2,zs3]
 refine zqr 10 fun K hK=>?_
 go_simp
 refine hK.out _ _ (by first|exact(HS.out _ (hk0.alloc hk0.size _))|go_keep) (fun hHeld=>?_)
 clear hK K
 try simp only[Act.put,zs1,zs2,zs3]
 refine zqr 11 fun K hK=>?_
 go_simp
 go_at_call 129
 refine(bgz X Y _ (by simp) (by simp)).mono ?_
 rintro e wq ⟨rfl,rfl⟩
 refine hK.out _ _ (by first|exact(HS.out _ (hk0.alloc hk0.size _))|go_keep) (fun hHeld=>?_)
 clear hK K
 try simp only[Act.put,zs1,zs2,zs3]
 refine zqt 12 ?_
 try simp only[Act.put,zs1,zs2,zs3]
 refine wpAnyH_done (by kernel_rfl) ?_ _
 go_wp2_with fail
 go_ret
 exact⟨y7 HRX.out.symm,(HB0.out.trans ((hk0.alloc hk0.size _).mono HB0.out.size))⟩
end Go.Proofs.YtbafphecjijdmaaGreatDoor
namespace Go.Proofs.YtbafphecjijdmaaGreatDoor
open Go.RowKit
set_option linter.all false
theorem beb (w:World) (row:Option Nat):w.grownBy w row:=⟨rfl,rfl,rfl,zql _,fun _ _ _=>rfl⟩
def Grow (w wr:World) (lo:Nat) (e:TypeId) (sz n:Nat) (v:Value) (ds:List PD) (cs:List Value) (F:List Nat):Prop:=
 wr.ownsRow lo e sz v n cs∧uh wr ds cs F∧In F lo wr.heap.size∧(∀ g,v.ownBlock=some g→g ∉ F)∧Below w.heap.size w wr∧w.heap.size≤lo∧lo≤wr.heap.size
section
variable {w wr w1 w2 w3:World} {e:TypeId} {lo sz n m:Nat} {v v':Value} {ds es:List PD} {cs us:List Value} {F F2:List Nat}
theorem Grow.none_ (h:Below w.heap.size w wr):Grow w wr wr.heap.size e sz 0 (.slice none 0 0) [] [] []:=
 ⟨World.ownsRow_nil wr wr.heap.size e sz,uh.nil _,In.nil _ _,fun g hg=>by simp,h,h.size,zql _⟩
theorem Grow.step (h:Grow w wr lo e sz n v ds cs F) (hb:Below wr.heap.size wr w1):Grow w w1 lo e sz n v ds cs F:=by
 obtain⟨h1,h2,h3,h4,h5,h6,h7⟩:=h
 exact⟨agw h1 hb,uh.keep ds cs F h2 fun g hg=>hb.block g (h3.2 g hg).2,h3.more (zql _) hb.size,h4,h5.trans (hb.mono h5.size),h6,Nat.le_trans h7 hb.size⟩
theorem Grow.set (h:Grow w wr lo e sz n v ds cs F) {p:Addr} (hp:p.block < lo) (hw:w.heap.size≤p.block) (u:Value):Grow w (wr.setCell p u) lo e sz n v ds cs F:=by
 obtain⟨h1,h2,h3,h4,h5,h6,h7⟩:=h
 refine⟨⟨h1.1,?_⟩,uh.keep ds cs F h2 fun g hg=>Below.heap_setCell wr p u g (by have:=(h3.2 g hg).1;omega),by simpa [World.setCell] using h3,h4,h5.setCell hw u,h6,by simpa [World.setCell] using h7⟩
 rcases h1.2 with h|⟨g,cap,cur,rfl,hbb,hh,hr⟩
 ·exact .inl h
 ·exact .inr ⟨g,cap,cur,rfl,hbb,(Below.heap_setCell wr p u g (by omega)).trans hh,hr⟩
theorem Grow.next (h:Grow w wr lo e sz n v ds cs F) (hb1:Below wr.heap.size wr w1)
  (hh:uh w1 es us F2) (hi:In F2 wr.heap.size w1.heap.size) (hb2:Below w1.heap.size w1 w2) (hown:w3.ownsRow lo e sz v' (n+m) (cs ++us)) (hgrow:w2.grownBy w3 v.ownBlock)
  (hat:v'.ownBlock=v.ownBlock∨v'.ownBlock=some w2.heap.size):Grow w w3 lo e sz (n+m) v' (ds ++es) (cs ++us) (F ++F2):=by
 obtain⟨h1,h2,h3,h4,h5,h6,h7⟩:=h
 have s1:=hb1.size
 have s2:=hb2.size
 have s3:=hgrow.size
 have s5:=h5.size
 have hv:∀ g,v.ownBlock=some g→lo≤g∧g < wr.heap.size:=fun g hg=>h1.lt g hg
 have k1:∀ g ∈ F,w3.heap[g]?=wr.heap[g]?:=fun g hg=>by
  have:=h3.2 g hg
  rw[hgrow.block g (by omega) (fun hne=>h4 g hne.symm hg),hb2.block g (by omega),hb1.block g (by omega)]
 have k2:∀ g ∈ F2,w3.heap[g]?=w1.heap[g]?:=fun g hg=>by
  have:=hi.2 g hg
  rw[hgrow.block g (by omega) (fun hne=>by have:=hv g hne.symm;omega),hb2.block g (by omega)]
 refine⟨hown,(uh.keep ds cs F h2 k1).append (uh.keep es us F2 hh k2),(h3.append hi (zql _) (by omega) (by omega)).more (zql _) (by omega),fun g hg hm=>?_,?_,h6,by omega⟩
 ·rcases List.mem_append.1 hm with hm|hm
  ·rcases hat with hat|hat
   ·exact h4 g (hat ▸ hg) hm
   ·have h6:g=w2.heap.size:=by rw[hat] at hg;exact(Option.some.inj hg).symm
    have:=h3.2 g hm
    omega
  ·have h7:=hi.2 g hm
   rcases hat with hat|hat
   ·have:=hv g (hat ▸ hg);omega
   ·have h6:g=w2.heap.size:=by rw[hat] at hg;exact(Option.some.inj hg).symm
    omega
 ·exact((h5.trans (hb1.mono s5)).trans (hb2.mono (by omega))).grown hgrow (by omega) (fun g hg=>by have:=(hv g hg).1;omega)
theorem Grow.done (h:Grow w wr lo e sz n v ds cs F):Lv wr lo wr.heap.size (.row sz ds) v:=by
 obtain⟨h1,h2,h3,h4,h5,h6,h7⟩:=h
 have hlen:=h2.length
 rcases h1.2 with ⟨rfl,rfl⟩|⟨g,cap,cur,rfl,hbg,hg,hnc,hcm,hcs,ht⟩
 ·have hl:ds.length=0 * sz:=by rw[← hlen,h1.1]
  exact⟨[],by rw[Hold];exact⟨none,0,0,rfl,hl,zql _,by decide,.inl ⟨rfl,rfl⟩⟩,In.nil _ _,zql _⟩
 ·have hl:ds.length=n * sz:=by rw[← hlen,h1.1]
  have hgl:g < wr.heap.size:=(Array.getElem?_eq_some_iff.1 hg).1
  by_cases h0:n=0
  ·exact⟨[],by rw[Hold];exact⟨_,n,cap,rfl,hl,hnc,hcm,.inl ⟨h0,rfl⟩⟩,In.nil _ _,zql _⟩
  ·have hget:∀ (j:Nat) (u:Value),cs[j]?=some u→cur[0+j]?=some u:=fun j u hu=>by
    rw[← ht,List.getElem?_take] at hu
    split at hu
    ·simpa using hu
    ·cases hu
   refine⟨g ::F,by rw[Hold];exact⟨_,n,cap,rfl,hl,hnc,hcm,.inr ⟨by omega,g,0,F,cs,rfl,rfl,⟨cur,e,hg,hget⟩,h2⟩⟩,⟨List.nodup_cons.2 ⟨h4 g rfl,h3.1⟩,fun b hb=>?_⟩,zql _⟩
   rcases List.mem_cons.1 hb with rfl|hb
   ·exact⟨hbg,hgl⟩
   ·exact h3.2 b hb
end
def ate (w:World) (src:Value) (size m:Nat) (news:List Value):Prop:=
 (∃ c,src=.slice none 0 c∧m=0∧news=[])∨∃ ad c,src=.slice (some ad) m c∧news.length=m * size∧∀ j u,news[j]?=some u→w.cell? (ad.add j)=some u
section
variable {P:Program} {w:World}
theorem auw (base:Nat) (t ty e:TypeId) (i:TypeInfo) (size c:Nat) (ht:P.underlying t=some (.slice e)) (hi:P.info? e=some i)
  (v:Value) (n:Nat) (xs:List Value) (hown:w.ownsRow base e size v n xs):
  (Builtin.append_ #[t,t] ty #[v,.slice none 0 c]).run P w=.ok v w:=by
 rcases hown.2 with ⟨rfl,rfl⟩|⟨g,cap,cur,rfl,_,_,hnc,_⟩
 ·simp[Builtin.append_,run_underlying ht,sizeOf,typeInfo,hi,Builtin.lenOf,Builtin.firstCells]
 ·simp[Builtin.append_,run_underlying ht,sizeOf,typeInfo,hi,Builtin.lenOf,Builtin.firstCells,hnc,storeCells]
theorem a2h (base:Nat) (t ty e:TypeId) (i:TypeInfo) (z:Value) (size bytes:Nat) (ht:P.underlying t=some (.slice e)) (hi:P.info? e=some i) (hz:i.zero=some z)
  (hsize:i.size=size) (hby:i.bytes=bytes) (hzs:z.cells.size=size) (hsz:0 < size)
  (v:Value) (n:Nat) (xs:List Value) (hown:w.ownsRow base e size v n xs) (src:Value) (m:Nat) (news:List Value) (hsrc:ate w src size m news) (h1:∀ u ∈ news,u.oneCell'=true)
  (h63:n+m≤maxLen) (hbytes:(n+m) * bytes≤140737488355328) (hbase:base≤w.heap.size):
  ∃ v' w',(Builtin.append_ #[t,t] ty #[v,src]).run P w=.ok v' w'∧w'.ownsRow base e size v' (n+m) (xs ++news)∧w.grownBy w' v.ownBlock∧(v'.ownBlock=v.ownBlock∨v'.ownBlock=some w.heap.size):=by
 rcases hsrc with ⟨c,rfl,rfl,rfl⟩|⟨ad,c,rfl,hl,hnews⟩
 ·exact⟨v,w,auw base t ty e i size c ht hi v n xs hown,by simpa using hown,beb _ _,.inl rfl⟩
 ·obtain⟨v',w',hr,h2,h3,_,h5⟩:=run_append_own_at (P:=P) w base t ty e i z size bytes ht hi hz hsize hby hzs hsz v n xs hown ad m c news hl hnews h1 h63 hbytes hbase
  exact⟨v',w',hr,h2,h3,h5⟩
theorem aur {o:Oper} {a:Act} {K:Act→World→Prop} {Q:Exit→Act→World→Prop} (s x:Operand) (t:TypeId)
  (ho:o.op=.call {callee:=.builtin .append,args:=#[s,x],argTypes:=#[t,t]})
  (base:Nat) (e:TypeId) (i:TypeInfo) (z:Value) (size bytes:Nat) (ht:P.underlying t=some (.slice e)) (hi:P.info? e=some i) (hz:i.zero=some z)
  (hsize:i.size=size) (hby:i.bytes=bytes) (hzs:z.cells.size=size) (hsz:0 < size)
  (v:Value) (n:Nat) (xs:List Value) (hs:a.eval s=v) (hown:w.ownsRow base e size v n xs)
  (src:Value) (m:Nat) (news:List Value) (hx:a.eval x=src) (hsrc:ate w src size m news) (h1:∀ u ∈ news,u.oneCell'=true)
  (h63:n+m≤maxLen) (hbytes:(n+m) * bytes≤140737488355328) (hbase:base≤w.heap.size)
  (h:∀ v' w',w'.ownsRow base e size v' (n+m) (xs ++news)→w.grownBy w' v.ownBlock→(v'.ownBlock=v.ownBlock∨v'.ownBlock=some w.heap.size)→K (a.put o.dst v') w'):o.wp P a w K Q:=by
 obtain⟨v',w',hr,h2,h3,h4⟩:=a2h (P:=P) (w:=w) base t o.type e i z size bytes ht hi hz hsize hby hzs hsz v n xs hown src m news hsrc h1 h63 hbytes hbase
 unfold Oper.wp execOp
 simp only[ho,resolve,invoke,builtin,Sem.run_bind,Sem.run_pure,Result.andThen_ok,List.map_toArray,List.map_cons,List.map_nil,hs,hx,hr]
 exact h v' w' h2 h3 h4
theorem aj6 {ops:Array Oper} {rest:List Oper} {o:Oper} {a:Act} {Q:Exit→Act→World→Prop} (hgd:o.guard=none) (s x:Operand) (t:TypeId)
  (ho:o.op=.call {callee:=.builtin .append,args:=#[s,x],argTypes:=#[t,t]})
  (base:Nat) (e:TypeId) (i:TypeInfo) (z:Value) (size bytes:Nat) (ht:P.underlying t=some (.slice e)) (hi:P.info? e=some i) (hz:i.zero=some z)
  (hsize:i.size=size) (hby:i.bytes=bytes) (hzs:z.cells.size=size) (hsz:0 < size)
  (v:Value) (n:Nat) (xs:List Value) (hs:a.eval s=v) (hown:w.ownsRow base e size v n xs)
  (src:Value) (m:Nat) (news:List Value) (hx:a.eval x=src) (hsrc:ate w src size m news) (h1:∀ u ∈ news,u.oneCell'=true)
  (h63:n+m≤maxLen) (hbytes:(n+m) * bytes≤140737488355328) (hbase:base≤w.heap.size)
  (h:∀ v' w',w'.ownsRow base e size v' (n+m) (xs ++news)→w.grownBy w' v.ownBlock→(v'.ownBlock=v.ownBlock∨v'.ownBlock=some w.heap.size)→wpList P ops Q rest (a.put o.dst v') w'):wpList P ops Q (o ::rest) a w:=
 wpList_plain hgd fun _ hK=>aur s x t ho base e i z size bytes ht hi hz hsize hby hzs hsz v n xs hs hown src m news hx hsrc h1 h63 hbytes hbase fun v' w' h2 h3 h4=>hK _ _ (h v' w' h2 h3 h4)
theorem aga {ops:Array Oper} {o:Oper} {a:Act} {K:Act→World→Prop} {Q:Exit→Act→World→Prop} {E:Prop} (hgd:o.guard=none) (s x:Operand) (t:TypeId)
  (ho:o.op=.call {callee:=.builtin .append,args:=#[s,x],argTypes:=#[t,t]})
  (base:Nat) (e:TypeId) (i:TypeInfo) (z:Value) (size bytes:Nat) (ht:P.underlying t=some (.slice e)) (hi:P.info? e=some i) (hz:i.zero=some z)
  (hsize:i.size=size) (hby:i.bytes=bytes) (hzs:z.cells.size=size) (hsz:0 < size)
  (v:Value) (n:Nat) (xs:List Value) (hs:a.eval s=v) (hown:w.ownsRow base e size v n xs)
  (src:Value) (m:Nat) (news:List Value) (hx:a.eval x=src) (hsrc:ate w src size m news) (h1:∀ u ∈ news,u.oneCell'=true)
  (h63:n+m≤maxLen) (hbytes:(n+m) * bytes≤140737488355328) (hbase:base≤w.heap.size)
  (h:∀ v' w',w'.ownsRow base e size v' (n+m) (xs ++news)→w.grownBy w' v.ownBlock→(v'.ownBlock=v.ownBlock∨v'.ownBlock=some w.heap.size)→K (a.put o.dst v') w'):if Region.wanted o (yielded ops a.tmps)=true then Oper.wp P o a w K Q else E:=by
 have hw:Region.wanted o (yielded ops a.tmps)=true:=by simp[Region.wanted,hgd]
 rw[if_pos hw]
 exact aur s x t ho base e i z size bytes ht hi hz hsize hby hzs hsz v n xs hs hown src m news hx hsrc h1 h63 hbytes hbase h
end
theorem bco {w:World} {B:Nat} {v:Value} {xs:List ByteArray} (h:Rep w B (.row 1 (xs.flatMap qj)) v):ate w v 1 xs.length (strs xs):=by
 obtain⟨A,n,c,rfl,hnl,_,hat⟩:=ni aaz (by decide) h
 by_cases h0:0 < n
 ·obtain⟨g,off,rfl,hg,hc⟩:=hat h0
  refine .inr ⟨_,c,by rw[hnl],by simp[strs],fun j u hu=>?_⟩
  have hj:∃ s,xs[j]?=some s∧u=.string s:=by
   rw[strs,List.getElem?_map] at hu
   cases hx:xs[j]? with
   | none=>rw[hx] at hu;cases hu
   | some s=>rw[hx] at hu;cases hu;exact⟨s,rfl,rfl⟩
  obtain⟨s,hs,rfl⟩:=hj
  obtain⟨q,h1,h2⟩:=hc j 0 s _ hs rfl
  rw[h2.ad8] at h1
  have hadd:(⟨g,off,none⟩:Addr).add j=⟨g,off+j,none⟩:=by unfold Addr.add;split<;>simp_all
  rw[hadd]
  simpa using h1
 ·have hx:xs=[]:=List.eq_nil_of_length_eq_zero (by omega)
  subst hx
  have hn:n=0:=by omega
  subst hn
  cases A with
  | none=>exact .inl ⟨c,rfl,rfl,rfl⟩
  | some a=>exact .inr ⟨a,c,rfl,rfl,fun j u hu=>by simp[strs] at hu⟩
theorem amz (xs:List ByteArray):∀ u ∈ strs xs,u.oneCell'=true:=by
 intro u hu
 simp only[strs,List.mem_map] at hu
 obtain⟨x,_,rfl⟩:=hu
 rfl
theorem a0u (w:World):∀ xs:List ByteArray,uh w (xs.flatMap qj) (strs xs) []
 | []=>by simp only[List.flatMap_nil,strs,List.map_nil];rw[uh];exact⟨rfl,rfl⟩
 | x ::xs=>by
  rw[List.flatMap_cons,qj,List.singleton_append,uh]
  exact⟨_,_,[],[],rfl,rfl,by rw[Hold];exact⟨rfl,rfl⟩,a0u w xs⟩
theorem LvC.bs9 {w:World} {lo hi lo1 hi1 lo2 hi2:Nat} {d1 d2:PD} {v1 v2:Value} (k1:Lv w lo1 hi1 d1 v1) (k2:Lv w lo2 hi2 d2 v2) (h:hi1≤lo2∨hi2≤lo1) (hl1:lo≤lo1) (hl2:lo≤lo2) (hh1:hi1≤hi) (hh2:hi2≤hi) (hh:hi≤w.heap.size):LvC w lo hi [d1,d2] [v1,v2]:=by
 obtain⟨F1,a1,a2,a3⟩:=k1
 obtain⟨F2,b1,b2,b3⟩:=k2
 refine⟨F1 ++(F2 ++[]),uh.cons a1 (uh.cons b1 (uh.nil w)),⟨?_,fun g hg=>?_⟩,hh⟩
 ·rw[List.append_nil]
  refine List.nodup_append.2 ⟨a2.1,b2.1,fun x hx y hy e=>?_⟩
  have:=a2.2 x hx
  have:=b2.2 y hy
  omega
 ·rw[List.append_nil] at hg
  rcases List.mem_append.1 hg with hg|hg
  ·have:=a2.2 g hg;omega
  ·have:=b2.2 g hg;omega
end Go.Proofs.YtbafphecjijdmaaGreatDoor
