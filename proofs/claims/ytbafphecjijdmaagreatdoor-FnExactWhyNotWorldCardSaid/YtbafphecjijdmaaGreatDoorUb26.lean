/-
  The names of handles, as the reference finds them: l03PutText, l03Resources, l03Known.
-/
import Derived.Test.YtbafphecjijdmaaGreatDoorUb24
import Derived.Test.YtbafphecjijdmaaGreatDoorUb25
import Derived.Deep.RegionHeld3
namespace Go.Proofs.YtbafphecjijdmaaGreatDoor
open Go.RowKit
set_option linter.all false
set_option maxRecDepth 16000
theorem akg {w:World} {B:Nat} {xs:List ByteArray} {v:Value} (h:Rep w B (.row 1 (xs.flatMap qj)) v):
  ∃ A n c,v=.slice A n c∧n=xs.length∧n≤9223372036854775807∧(0 < n→∃ g off,A=some ⟨g,off,none⟩∧g < B∧∀ (k:Nat) (x:ByteArray),xs[k]?=some x→w.cell? ⟨g,off+k,none⟩=some (.string x)):=by
 obtain⟨A,n,c,rfl,hn,hm,hat⟩:=ni aaz (by decide) h
 unfold maxLen at hm
 refine⟨A,n,c,rfl,hn,by omega,fun h0=>?_⟩
 obtain⟨g,off,rfl,hg,hc⟩:=hat h0
 refine⟨g,off,rfl,hg,fun k x hx=>?_⟩
 obtain⟨u,hu,hr⟩:=hc k 0 x (.lit (.string x)) hx rfl
 rw[hr.ad8] at hu
 simpa using hu
theorem ba4 {w:World} {B:Nat} (A:Option Addr) (c:Nat):Rep w B (.row 1 (([]:List ByteArray).flatMap qj)) (.slice A 0 c):=by
 rw[Rep]
 exact⟨A,0,c,rfl,rfl,by simp[maxLen],fun h=>absurd h (by omega)⟩
def bre (P:ByteArray→Prop) (m:Nat) (w:World) (e:Ending) (w':World):Prop:=∃ (ys:List ByteArray) (v:Value),e=.returned v∧Rep w' w'.heap.size (.row 1 (ys.flatMap qj)) v∧(∀ y,y ∈ ys↔P y)∧ys.length≤m∧Below w.heap.size w w'
def an2 (xs:List ByteArray) (s:ByteArray) (k:Nat) (D:Bool) (m:Nat) (os:List ByteArray):Prop:=
 m=os.length∧(∀ y,y ∈ os→y ∈ xs∨y=s)∧(∀ y,y ∈ xs.take k→y ∈ os)∧(D=true→s ∈ os)∧m≤k+(if D then 1 else 0)
theorem an2.start (xs:List ByteArray) (s:ByteArray):an2 xs s 0 false 0 []:=⟨rfl,by simp,by simp,by simp,by simp⟩
theorem an2.add {xs os:List ByteArray} {s x:ByteArray} {k m:Nat} {D:Bool} (h:an2 xs s k D m os) (hx:xs[k]?=some x):an2 xs s (k+1) (D ||decide (x=s)) (m+1) (os ++[x]):=by
 obtain⟨h1,h2,h3,h4,h5⟩:=h
 refine⟨by simp[h1],fun y hy=>?_,fun y hy=>?_,fun hd=>?_,?_⟩
 ·rcases List.mem_append.1 hy with hy|hy
  ·exact h2 y hy
  ·rw[List.mem_singleton.1 hy];exact .inl (List.mem_of_getElem? hx)
 ·rw[List.take_add_one,hx] at hy
  rcases List.mem_append.1 hy with hy|hy
  ·exact List.mem_append_left _ (h3 y hy)
  ·exact List.mem_append_right _ hy
 ·rcases(show D=true∨decide (x=s)=true by simpa using hd)with hd|hd
  ·exact List.mem_append_left _ (h4 hd)
  ·rw[← (of_decide_eq_true hd:x=s)];exact List.mem_append_right _ (List.mem_singleton.2 rfl)
 ·cases D
  ·cases hq:decide (x=s)<;>simp at h5 ⊢<;>omega
  ·simp at h5 ⊢;omega
theorem an2.put {xs os:List ByteArray} {s:ByteArray} {k m:Nat} (h:an2 xs s k false m os):an2 xs s k true (m+1) (os ++[s]):=by
 obtain⟨h1,h2,h3,h4,h5⟩:=h
 refine⟨by simp[h1],fun y hy=>?_,fun y hy=>List.mem_append_left _ (h3 y hy),fun _=>List.mem_append_right _ (List.mem_singleton.2 rfl),by simpa using h5⟩
 rcases List.mem_append.1 hy with hy|hy
 ·exact h2 y hy
 ·exact .inr (List.mem_singleton.1 hy)
theorem an2.done {xs os:List ByteArray} {s:ByteArray} {k m:Nat} (h:an2 xs s k true m os) (hk:k=xs.length):(∀ y,y ∈ os↔y ∈ xs∨y=s)∧os.length≤xs.length+1:=by
 obtain⟨h1,h2,h3,h4,h5⟩:=h
 refine⟨fun y=>⟨h2 y,fun hy=>?_⟩,by simp at h5;omega⟩
 rcases hy with hy|rfl
 ·exact h3 y (by rw[hk,List.take_length];exact hy)
 ·exact h4 rfl
set_option maxHeartbeats 6400000 in
theorem bgs {xs:List ByteArray} (hx:xs.length≤1073741824) (s:ByteArray) {B:Nat} {v:Value} {w:World} (hB:B≤w.heap.size) (h:Rep w B (.row 1 (xs.flatMap qj)) v):
  Calls Tryz.prog 148 #[v,.string s] w fun e w'=>bre (fun y=>y ∈ xs∨y=s) (xs.length+1) w e w':=by
 obtain⟨i0,hi,hz0,hz1,hz2⟩:=info_parts amu
 obtain⟨A,n,c,rfl,hn,hm,hat⟩:=akg h
 have HN:=zqd hn
 have hn9:n≤1073741824:=by omega
 clear h hn hx hm
 have hE:(w.alloc (.cells #[] 9)).ownsRow w.heap.size 9 1 (.slice (some ⟨w.heap.size,0,none⟩) 0 0) 0 (strs []):=World.ownsRow_made w #[] 0 (zql _) (by simp) (by simp)
 have hb0:Below w.heap.size w (w.alloc (.cells #[] 9)):=(zqf _ _).alloc (zql _) _
 go_enter Tryz.func148,Tryz.ntmps148
 go_wp2_with fail
 go_loopw [5,6,7] (fun out d i wr=>∃ (k m:Nat) (D:Bool) (os:List ByteArray) (u:Value),u=out∧d=.bool D∧k≤n∧m≤n+1∧i=.int .i64 k∧Hid (an2 xs s k D m os)∧wr.ownsRow w.heap.size 9 1 u m (strs os)∧Below w.heap.size w wr) (fun _ _ i _=>n - (intOf i).toNat)
 case atStart=>exact⟨0,0,false,[],_,rfl,rfl,Nat.zero_le _,by omega,rfl,zqd (an2.start xs s),hE,hb0⟩
 case round=>
  clear hE hb0
  obtain⟨k,m,D,os,u,rfl,rfl,hk,hmn,rfl,HI,hown,hbr⟩:=hrel
  have hsz:=hbr.size
  by_cases hlt:k < n
  case neg=>
   have hkn:k=n:=by omega
   subst hkn
   cases D
   case true=>
    have HD:=zqd (an2.done HI.out HN.out)
    have HR:=zqd (ane hown)
    clear hown
    go_wp2_with fail
    go_ret
    exact⟨os,_,rfl,HR.out,HD.out.1,HD.out.2,hbr⟩
   case false=>
    have hs4:=hown.alloc (.cells #[Value.string s] 9)
    have hc1:=cell_one_new wr (Value.string s) 9
    have hB5:Below w.heap.size w (wr.alloc (.cells #[Value.string s] 9)):=hbr.alloc hsz _
    go_wp2_with (at_builtin;refine wpList_append_own _ rfl _ _ 22 rfl w.heap.size 9 i0 (.string {data:=#[]}) 1 16 Tryz.underlying22 hi hz0 hz1 hz2 rfl (by decide) _ _ _ rfl hs4 ⟨wr.heap.size,0,none⟩ 1 1 [_] rfl rfl hc1 (ajx _) (by simp only[maxLen];omega) (by omega) hB5.size ?_;intro v' w5 hown' hgrow _)
    have hB6:=hB5.grown hgrow hB5.size (fun g hg=>(hs4.lt g hg).1)
    have HD:=zqd (an2.done HI.out.put HN.out)
    have HR:Hid (Rep w5 w5.heap.size (.row 1 ((os ++[s]).flatMap qj)) v'):=ane (by rw[afs];exact hown')
    go_ret
    exact⟨os ++[s],_,rfl,HR.out,HD.out.1,HD.out.2,hB6⟩
  obtain⟨g,off,rfl,hg,hcell⟩:=hat (by omega)
  obtain⟨x,hx,_⟩:=um HN.out hlt
  have c_x:wr.cell? ⟨g,off+k,none⟩=some (.string x):=(hbr.cell (p:=⟨g,off+k,none⟩) (by simp only;omega)).trans (hcell k x hx)
  have HC:=zqd (hcell k x hx)
  have HX:=zqd hx
  clear hx hcell hat
  by_cases hxs:x=s
  ·have HQ:=zqd (HI.out.add HX.out)
   have hdd:(D ||decide (x=s))=true:=by rw[decide_eq_true hxs];simp
   rw[hdd] at HQ
   subst hxs
   have hs4:=hown.alloc (.cells #[Value.string x] 9)
   have hc1:=cell_one_new wr (Value.string x) 9
   have hB5:Below w.heap.size w (wr.alloc (.cells #[Value.string x] 9)):=hbr.alloc hsz _
   have hD2:Hid (m≤k+1):=by show _≤_;have:=HI.out.2.2.2.2;split at this<;>omega
   go_wp2_with (at_builtin;refine wpList_append_own _ rfl _ _ 22 rfl w.heap.size 9 i0 (.string {data:=#[]}) 1 16 Tryz.underlying22 hi hz0 hz1 hz2 rfl (by decide) _ _ _ rfl hs4 ⟨wr.heap.size,0,none⟩ 1 1 [_] rfl rfl hc1 (ajx _) (by simp only[maxLen];omega) (by omega) hB5.size ?_;intro v' w5 hown' hgrow _)
   have hB6:=hB5.grown hgrow hB5.size (fun g hg=>(hs4.lt g hg).1)
   have aky:=zqd hown'
   clear hs4 hc1 hown' hgrow
   go_roundw
   case rel=>exact⟨k+1,m+1,true,os ++[x],_,rfl,rfl,by omega,by have:=HQ.out.2.2.2.2;simp at this;omega,by go_num,HQ,by rw[afs];exact aky.out,hB6⟩
   case measure=>simp[intOf];omega
  have hne:(x.toList ==s.toList)=false:=aeu hxs
  have hdf:decide (x=s)=false:=decide_eq_false hxs
  cases D
  case true=>
   have HQ:=zqd (HI.out.add HX.out)
   rw[hdf,Bool.or_false] at HQ
   have hs4:=hown.alloc (.cells #[Value.string x] 9)
   have hc1:=cell_one_new wr (Value.string x) 9
   have hB5:Below w.heap.size w (wr.alloc (.cells #[Value.string x] 9)):=hbr.alloc hsz _
   clear hxs hdf
   go_wp2_with (at_builtin;refine wpList_append_own _ rfl _ _ 22 rfl w.heap.size 9 i0 (.string {data:=#[]}) 1 16 Tryz.underlying22 hi hz0 hz1 hz2 rfl (by decide) _ _ _ rfl hs4 ⟨wr.heap.size,0,none⟩ 1 1 [_] rfl rfl hc1 (ajx _) (by simp only[maxLen];omega) (by omega) hB5.size ?_;intro v' w5 hown' hgrow _)
   have hB6:=hB5.grown hgrow hB5.size (fun g hg=>(hs4.lt g hg).1)
   have aky:=zqd hown'
   clear hs4 hc1 hown' hgrow
   go_roundw
   case rel=>exact⟨k+1,m+1,true,os ++[x],_,rfl,rfl,by omega,by have:=HQ.out.2.2.2.2;simp at this;omega,by go_num,HQ,by rw[afs];exact aky.out,hB6⟩
   case measure=>simp[intOf];omega
  case false=>
   have hmk:Hid (m≤k):=by show _≤_;have:=HI.out.2.2.2.2;simpa using this
   cases hlx:Op.bytesLess x.toList s.toList
   case true=>
    have HQ:=zqd (HI.out.add HX.out)
    rw[hdf,Bool.or_false] at HQ
    have hs4:=hown.alloc (.cells #[Value.string x] 9)
    have hc1:=cell_one_new wr (Value.string x) 9
    have hB5:Below w.heap.size w (wr.alloc (.cells #[Value.string x] 9)):=hbr.alloc hsz _
    clear hxs hdf
    go_wp2_with (at_builtin;refine wpList_append_own _ rfl _ _ 22 rfl w.heap.size 9 i0 (.string {data:=#[]}) 1 16 Tryz.underlying22 hi hz0 hz1 hz2 rfl (by decide) _ _ _ rfl hs4 ⟨wr.heap.size,0,none⟩ 1 1 [_] rfl rfl hc1 (ajx _) (by simp only[maxLen];omega) (by omega) hB5.size ?_;intro v' w5 hown' hgrow _)
    have hB6:=hB5.grown hgrow hB5.size (fun g hg=>(hs4.lt g hg).1)
    have aky:=zqd hown'
    clear hs4 hc1 hown' hgrow
    go_roundw
    case rel=>exact⟨k+1,m+1,false,os ++[x],_,rfl,rfl,by omega,by have:=HQ.out.2.2.2.2;simp at this;omega,by go_num,HQ,by rw[afs];exact aky.out,hB6⟩
    case measure=>simp[intOf];omega
   case false=>
    have HQ:=zqd (HI.out.put.add HX.out)
    rw[Bool.true_or] at HQ
    have hs4:=hown.alloc (.cells #[Value.string s] 9)
    have hc1:=cell_one_new wr (Value.string s) 9
    have hB5:Below w.heap.size w (wr.alloc (.cells #[Value.string s] 9)):=hbr.alloc hsz _
    clear hxs hdf
    go_wp2_with (first|(at_builtin;refine wpList_append_own _ rfl _ _ 22 rfl w.heap.size 9 i0 (.string {data:=#[]}) 1 16 Tryz.underlying22 hi hz0 hz1 hz2 rfl (by decide) _ _ _ rfl hs4 ⟨wr.heap.size,0,none⟩ 1 1 [_] rfl rfl hc1 (ajx _) (by simp only[maxLen];omega) (by omega) hB5.size ?_;intro v' w5 hown' hgrow _;have hB6:=hB5.grown hgrow hB5.size (fun g hg=>(hs4.lt g hg).1);have b3c:w5.cell? ⟨g,off+k,none⟩=some (.string x):=(hB6.cell (p:=⟨g,off+k,none⟩) (by simp only;omega)).trans HC.out;have hs5:=hown'.alloc (.cells #[Value.string x] 9);have hc2:=cell_one_new w5 (Value.string x) 9;have hB7:Below w.heap.size w (w5.alloc (.cells #[Value.string x] 9)):=hB6.alloc hB6.size _)|(at_builtin;refine wpList_append_own _ rfl _ _ 22 rfl w.heap.size 9 i0 (.string {data:=#[]}) 1 16 Tryz.underlying22 hi hz0 hz1 hz2 rfl (by decide) _ _ _ rfl hs5 ⟨w5.heap.size,0,none⟩ 1 1 [_] rfl rfl hc2 (ajx _) (by simp only[maxLen];omega) (by omega) hB7.size ?_;intro v2 w6 hown2 hgrow2 _))
    have hB8:=hB7.grown hgrow2 hB7.size (fun g hg=>(hs5.lt g hg).1)
    have aky:=zqd hown2
    clear hs5 hc2 hown2 hgrow2
    go_roundw
    case rel=>exact⟨k+1,m+1+1,true,os ++[s] ++[x],_,rfl,rfl,by omega,by have:=HQ.out.2.2.2.2;simp at this;omega,by go_num,HQ,by rw[afs,afs];exact aky.out,hB8⟩
    case measure=>simp[intOf];omega
theorem bn0 {s:ByteArray} (h:0 < s.size):s.toList.isEmpty=false:=by
 cases hs:s.toList with
 | nil=>
  rw[Lib.toList_data] at hs
  have h2:s.size=0:=by have:=congrArg List.length hs;simpa using this
  omega
 | cons x l=>rfl
theorem bn3 {s:ByteArray} (h:s.size=0):s=⟨#[]⟩:=by
 apply ByteArray.ext
 exact Array.eq_empty_of_size_eq_zero h
def bjo (t:Ty):Prop:=∀ (B:Nat) (cs:List Value) (xs:List ByteArray) (v:Value) (w:World),B≤w.heap.size→lq w B (Ty.pd t) cs→t.shapes=true→xs.length+t.parts≤1073741824→Rep w w.heap.size (.row 1 (xs.flatMap qj)) v→
 Calls Tryz.prog 122 #[.agg cs.toArray,v] w fun e w'=>bre (fun y=>y ∈ xs∨y ∈ t.hN) (xs.length+t.parts) w e w'
set_option maxHeartbeats 3200000 in
theorem bd4 {kind:Int} {name:ByteArray} {labels:List ByteArray} {kids:List Ty} (ih:∀ t ∈ kids,bjo t):bjo ⟨kind,name,labels,kids⟩:=by
 intro B cs xs v w hB h hsh hxl hv
 obtain⟨iw,qw,rfl,bf,gu⟩:=Ty.open_ h
 have pz:=zqd bf
 clear bf
 have qo:=zqd gu
 clear gu
 obtain⟨A,n,c,rfl,hnl,hm,hat⟩:=ni Ty.jd (by decide) qo.out
 unfold maxLen at hm
 obtain⟨s1,s2,s3⟩:=ba3 hsh
 have HSH:=zqd s3
 have HN:=zqd hnl
 have HI:=zqd ih
 have HV:=zqd hv
 rw[Ty.parts] at hxl
 clear hnl ih h hsh s3 hv
 obtain⟨N0,hN0⟩:∃ N0,(if named kind then [name] else [])=N0:=⟨_,rfl⟩
 have HN0:=zqd hN0
 clear hN0
 cases hnk:named kind
 case false=>
  have hne:=bn3 (s2 hnk)
  have H0:Hid ((∀ y,y ∈ xs↔y ∈ xs∨y ∈ N0)∧xs.length≤xs.length+1):=by
   refine⟨fun y=>?_,by omega⟩
   rw[← HN0.out,hnk]
   simp
  subst hne
  clear s1 s2 hnk
  obtain⟨name,hname⟩:∃ s:ByteArray,s=⟨#[]⟩:=⟨_,rfl⟩
  have hemp:name.toList.isEmpty=true:=by rw[hname,Lib.toList_data];rfl
  rw[← hname] at HN0 ⊢
  clear hname
  obtain⟨ys0,bd5⟩:∃ ys,ys=xs:=⟨_,rfl⟩
  go_enter Tryz.func122,Tryz.ntmps122
  go_wp2_with fail
  obtain⟨w0,hw0⟩:=zqe w 60 #[.int .i64 kind,.string name,iw,.slice A n c]
  rw[← hw0]
  have bA:=zqn hw0
  have hB0:=zqb hw0
  clear hw0
  have HR0:Hid (Rep w0 w0.heap.size (.row 1 (ys0.flatMap qj)) v):=by rw[bd5];exact Rep.more hB0.size _ _ (HV.out.below (hB0.mono (zql _)))
  have hBa:=hB0
  have bAa:=bA
  rw[← bd5] at H0
  have H0:Hid ((∀ y,y ∈ ys0↔y ∈ xs∨y ∈ N0)∧ys0.length≤xs.length+1):=by show _∧_;have:=H0.out;rw[bd5] at this ⊢;exact this
  clear hB0 bA bd5
  go_loopw [1,5] (fun out i wr=>∃ (k:Nat) (u:Value) (ys:List ByteArray),u=out∧k≤n∧i=.int .i64 k∧Hid ((∀ y,y ∈ ys↔(y ∈ xs∨y ∈ N0)∨y ∈ (kids.take k).flatMap Ty.hN)∧ys.length≤xs.length+1+Ty.adh (kids.take k))∧Hid (Rep wr wr.heap.size (.row 1 (ys.flatMap qj)) u)∧Below w.heap.size w wr∧Blk wr w.heap.size 60 #[.int .i64 kind,.string name,iw,.slice A n c]) (fun _ i _=>n - (intOf i).toNat)
  case atStart=>exact⟨0,_,ys0,rfl,Nat.zero_le _,rfl,zqd ⟨fun y=>by rw[H0.out.1];simp,by have:=H0.out.2;simp[Ty.adh];omega⟩,HR0,hBa,bAa⟩
  case round=>
   obtain⟨k,u,ys,rfl,hk,rfl,HP,HR,hbr,bR⟩:=hrel
   clear hBa bAa HR0
   have aqi:wr.cell? ⟨w.heap.size,3,none⟩=some (.slice A n c):=bR.cell 3
   have hsz:=hbr.size
   by_cases hlt:k < n
   ·obtain⟨g,off,rfl,hg2,hcell2⟩:=hat (by omega)
    obtain⟨t2,hx2,ab1⟩:=um HN.out hlt
    obtain⟨kind2,name2,zu,abv⟩:=t2
    have aiw:wr.cell? ⟨g,off+k * 4,none⟩=some (.int .i64 kind2):=bg hbr (by omega) (hcell2 k 0 _ _ hx2 (by rw[Ty.aj];rfl))
    have ad5:wr.cell? ⟨g,off+k * 4+1,none⟩=some (.string name2):=bg hbr (by omega) (hcell2 k 1 _ _ hx2 (by rw[Ty.aj];rfl))
    obtain⟨adg,ahq,ace⟩:∃ u,wr.cell? ⟨g,off+k * 4+2,none⟩=some u∧Rep wr B (.row 1 (zu.flatMap qj)) u:=jc hbr (by omega) hB (hcell2 k 2 _ _ hx2 (by rw[Ty.aj];rfl))
    have adi:=zqd ace
    clear ace
    obtain⟨aez,ajc,ad6⟩:∃ u,wr.cell? ⟨g,off+k * 4+3,none⟩=some u∧Rep wr B (.row 4 (abv.flatMap Ty.pd)) u:=jc hbr (by omega) hB (hcell2 k 3 _ _ hx2 (by rw[Ty.aj];rfl))
    have aew:=zqd ad6
    clear ad6
    have HX2:=zqd hx2
    have HM2:=zqd ab1
    clear hx2 ab1
    clear hcell2
    have hpk:=ajr HX2.out
    have hpl:=ahy kids (k+1)
    have hz:ys.length+(Ty.mk kind2 name2 zu abv).parts≤1073741824:=by have:=HP.out.2;omega
    have hcall:=HI.out _ HM2.out B [.int .i64 kind2,.string name2,adg,aez] ys u wr (Nat.le_trans hB hbr.size) (Ty.close_ adi.out aew.out) (HSH.out _ HM2.out) hz HR.out
    obtain⟨t,ht⟩:∃ t:Ty,t=⟨kind2,name2,zu,abv⟩:=⟨_,rfl⟩
    have hx:=HX2.out
    rw[← ht] at hcall hx hpk
    have HX:=zqd hx
    have HPK:=zqd hpk
    have HC:=zqd hcall
    clear hcall ht hx hz hpl hpk
    go_wp2_with fail
    refine HC.out.mono ?_
    rintro e w1 ⟨ys1,v1,rfl,hr1,hm1,hl1,hb1⟩
    have bR1:=bR.step hb1
    have hB1:=hbr.trans (hb1.mono hbr.size)
    have HQ:Hid ((∀ y,y ∈ ys1↔(y ∈ xs∨y ∈ N0)∨y ∈ (kids.take (k+1)).flatMap Ty.hN)∧ys1.length≤xs.length+1+Ty.adh (kids.take (k+1))):=by
     refine⟨fun y=>?_,by have:=HP.out.2;have:=HPK.out;omega⟩
     refine(hm1 y).trans ?_
     show(_∨_)↔_
     rw[HP.out.1,alo HX.out,List.mem_append,or_assoc]
    have HR1:=zqd hr1
    clear hr1 hm1 hl1
    go_wp2_with fail
    go_roundw
    case rel=>exact⟨k+1,_,ys1,rfl,by omega,by go_num,HQ,HR1,hB1,bR1⟩
    case measure=>simp[intOf];omega
   ·have hkn:k=n:=by omega
    have HT:Hid (kids.take k=kids):=List.take_of_length_le (by have:=HN.out;omega)
    have HE:Hid ((∀ y,y ∈ ys↔y ∈ xs∨y ∈ Ty.hN ⟨kind,name,labels,kids⟩)∧ys.length≤xs.length+(Ty.mk kind name labels kids).parts):=by
     refine⟨fun y=>?_,by have:=HP.out.2;rw[HT.out] at this;rw[Ty.parts];omega⟩
     rw[HP.out.1,HT.out,aw0,HN0.out,List.mem_append,or_assoc]
    subst hkn
    go_wp2_with fail
    go_ret
    exact⟨ys,_,rfl,HR.out,HE.out.1,HE.out.2,hbr⟩
 case true=>
  have hemp:=bn0 (s1 hnk)
  clear s1 s2
  go_enter Tryz.func122,Tryz.ntmps122
  go_wp2_with fail
  obtain⟨w0,hw0⟩:=zqe w 60 #[.int .i64 kind,.string name,iw,.slice A n c]
  rw[← hw0]
  have bA:=zqn hw0
  have hB0:=zqb hw0
  clear hw0
  refine(bgs (by omega) name (zql _) (Rep.more hB0.size _ _ (HV.out.below (hB0.mono (zql _))))).mono ?_
  rintro e wa ⟨ys0,va,rfl,hra,hma,hla,hba⟩
  have H0:Hid ((∀ y,y ∈ ys0↔y ∈ xs∨y ∈ N0)∧ys0.length≤xs.length+1):=by
   refine⟨fun y=>?_,hla⟩
   refine(hma y).trans ?_
   show(_∨_)↔_
   rw[← HN0.out,hnk]
   simp
  have HR0:=zqd hra
  have hBa:=hB0.trans (hba.mono hB0.size)
  have bAa:=bA.step hba
  clear hB0 bA hra hma hla hba hnk hemp
  go_wp2_with fail
  go_loopw [1,5] (fun out i wr=>∃ (k:Nat) (u:Value) (ys:List ByteArray),u=out∧k≤n∧i=.int .i64 k∧Hid ((∀ y,y ∈ ys↔(y ∈ xs∨y ∈ N0)∨y ∈ (kids.take k).flatMap Ty.hN)∧ys.length≤xs.length+1+Ty.adh (kids.take k))∧Hid (Rep wr wr.heap.size (.row 1 (ys.flatMap qj)) u)∧Below w.heap.size w wr∧Blk wr w.heap.size 60 #[.int .i64 kind,.string name,iw,.slice A n c]) (fun _ i _=>n - (intOf i).toNat)
  case atStart=>exact⟨0,_,ys0,rfl,Nat.zero_le _,rfl,zqd ⟨fun y=>by rw[H0.out.1];simp,by have:=H0.out.2;simp[Ty.adh];omega⟩,HR0,hBa,bAa⟩
  case round=>
   obtain⟨k,u,ys,rfl,hk,rfl,HP,HR,hbr,bR⟩:=hrel
   clear hBa bAa HR0
   have aqi:wr.cell? ⟨w.heap.size,3,none⟩=some (.slice A n c):=bR.cell 3
   have hsz:=hbr.size
   by_cases hlt:k < n
   ·obtain⟨g,off,rfl,hg2,hcell2⟩:=hat (by omega)
    obtain⟨t2,hx2,ab1⟩:=um HN.out hlt
    obtain⟨kind2,name2,zu,abv⟩:=t2
    have aiw:wr.cell? ⟨g,off+k * 4,none⟩=some (.int .i64 kind2):=bg hbr (by omega) (hcell2 k 0 _ _ hx2 (by rw[Ty.aj];rfl))
    have ad5:wr.cell? ⟨g,off+k * 4+1,none⟩=some (.string name2):=bg hbr (by omega) (hcell2 k 1 _ _ hx2 (by rw[Ty.aj];rfl))
    obtain⟨adg,ahq,ace⟩:∃ u,wr.cell? ⟨g,off+k * 4+2,none⟩=some u∧Rep wr B (.row 1 (zu.flatMap qj)) u:=jc hbr (by omega) hB (hcell2 k 2 _ _ hx2 (by rw[Ty.aj];rfl))
    have adi:=zqd ace
    clear ace
    obtain⟨aez,ajc,ad6⟩:∃ u,wr.cell? ⟨g,off+k * 4+3,none⟩=some u∧Rep wr B (.row 4 (abv.flatMap Ty.pd)) u:=jc hbr (by omega) hB (hcell2 k 3 _ _ hx2 (by rw[Ty.aj];rfl))
    have aew:=zqd ad6
    clear ad6
    have HX2:=zqd hx2
    have HM2:=zqd ab1
    clear hx2 ab1
    clear hcell2
    have hpk:=ajr HX2.out
    have hpl:=ahy kids (k+1)
    have hz:ys.length+(Ty.mk kind2 name2 zu abv).parts≤1073741824:=by have:=HP.out.2;omega
    have hcall:=HI.out _ HM2.out B [.int .i64 kind2,.string name2,adg,aez] ys u wr (Nat.le_trans hB hbr.size) (Ty.close_ adi.out aew.out) (HSH.out _ HM2.out) hz HR.out
    obtain⟨t,ht⟩:∃ t:Ty,t=⟨kind2,name2,zu,abv⟩:=⟨_,rfl⟩
    have hx:=HX2.out
    rw[← ht] at hcall hx hpk
    have HX:=zqd hx
    have HPK:=zqd hpk
    have HC:=zqd hcall
    clear hcall ht hx hz hpl hpk
    go_wp2_with fail
    refine HC.out.mono ?_
    rintro e w1 ⟨ys1,v1,rfl,hr1,hm1,hl1,hb1⟩
    have bR1:=bR.step hb1
    have hB1:=hbr.trans (hb1.mono hbr.size)
    have HQ:Hid ((∀ y,y ∈ ys1↔(y ∈ xs∨y ∈ N0)∨y ∈ (kids.take (k+1)).flatMap Ty.hN)∧ys1.length≤xs.length+1+Ty.adh (kids.take (k+1))):=by
     refine⟨fun y=>?_,by have:=HP.out.2;have:=HPK.out;omega⟩
     refine(hm1 y).trans ?_
     show(_∨_)↔_
     rw[HP.out.1,alo HX.out,List.mem_append,or_assoc]
    have HR1:=zqd hr1
    clear hr1 hm1 hl1
    go_wp2_with fail
    go_roundw
    case rel=>exact⟨k+1,_,ys1,rfl,by omega,by go_num,HQ,HR1,hB1,bR1⟩
    case measure=>simp[intOf];omega
   ·have hkn:k=n:=by omega
    have HT:Hid (kids.take k=kids):=List.take_of_length_le (by have:=HN.out;omega)
    have HE:Hid ((∀ y,y ∈ ys↔y ∈ xs∨y ∈ Ty.hN ⟨kind,name,labels,kids⟩)∧ys.length≤xs.length+(Ty.mk kind name labels kids).parts):=by
     refine⟨fun y=>?_,by have:=HP.out.2;rw[HT.out] at this;rw[Ty.parts];omega⟩
     rw[HP.out.1,HT.out,aw0,HN0.out,List.mem_append,or_assoc]
    subst hkn
    go_wp2_with fail
    go_ret
    exact⟨ys,_,rfl,HR.out,HE.out.1,HE.out.2,hbr⟩
theorem a3w:∀ t:Ty,bjo t:=Ty.ai4 fun kind name labels kids ih=>bd4 ih
def an3 (ps:List Param):Nat:=(ps.map fun p=>p.typ.parts).sum
theorem ax1 {ps:List Param} {k:Nat} {p:Param} (h:ps[k]?=some p):an3 (ps.take (k+1))=an3 (ps.take k)+p.typ.parts:=by
 rw[an3,an3,List.take_add_one,h];simp
theorem avl {ps:List Param} (h:∀ p ∈ ps,p.typ.parts≤24):∀ k,an3 (ps.take k)≤24 * k
 | 0=>by simp[an3]
 | k+1=>by
  have ih:=avl h k
  cases hx:ps[k]? with
  | none=>rw[List.take_add_one,hx];simp;omega
  | some p=>rw[ax1 hx];have:=h p (List.mem_of_getElem? hx);omega
structure OkN (f:jh):Prop where
 par:∀ p ∈ f.params,p.typ.shapes=true∧p.typ.parts≤24
 res:f.result.shapes=true∧f.result.parts≤24
 len:f.params.length≤6
theorem bmn {t:Ty} (h:afp t=true):t.shapes=true∧t.parts≤24:=by
 simp only[afp,Bool.and_eq_true,decide_eq_true_eq] at h
 exact⟨h.2,h.1.2⟩
theorem a8f {f:jh} (h:ai7 f=true):OkN f:=by
 simp only[ai7,Bool.and_eq_true,decide_eq_true_eq] at h
 obtain⟨h1,h2,h3,h4,h5⟩:=h
 rw[Bool.not_eq_true',List.any_eq_false] at h4
 refine⟨fun p hp=>?_,bmn h2,h1⟩
 have hb:aln p=true:=by have:=h4 p hp;simpa using this
 simp only[aln,Bool.and_eq_true] at hb
 exact bmn hb.2.1
set_option maxHeartbeats 6400000 in
theorem ax2 (f:jh) (hf:OkN f) {res:List ByteArray} {B B2:Nat} {cs:List Value} {v:Value} {w:World} (hB:B≤w.heap.size) (hB2:B2≤w.heap.size) (h:lq w B (jh.pd f) cs) (hv:Rep w B2 (.row 1 (res.flatMap qj)) v):
  Calls Tryz.prog 90 #[.agg cs.toArray,v] w fun e w'=>e=.returned (.bool (akf f res))∧Below w.heap.size w w':=by
 obtain⟨params,⟨dh,dn,ku,ny⟩,async⟩:=f
 obtain⟨R,hR⟩:∃ R:Bool,R=akf ⟨params,⟨dh,dn,ku,ny⟩,async⟩ res:=⟨_,rfl⟩
 rw[← hR]
 have HR:=zqd hR
 have HOK:=zqd hf
 clear hR hf
 obtain⟨aeh,pq,uf,rfl,aea,aao,aa2⟩:=jh.open_ h
 have ags:=zqd aea
 clear aea
 have acs:=zqd aao
 clear aao
 have ado:=zqd aa2
 clear aa2
 obtain⟨A,n,c,rfl,hnl,hm,hat⟩:=ni Param.jd (by decide) ags.out
 obtain⟨LA,ln,lc,rfl,hln,hlm,hlat⟩:=akg hv
 unfold maxLen at hm
 have HN:=zqd hnl
 have HLN:=zqd hln
 clear h hnl hv hln
 have hn6:n≤6:=by have h1:params.length≤6:=HOK.out.len;have:=HN.out;omega
 have hrp:(Ty.mk dh dn ku ny).parts≤24:=HOK.out.res.2
 go_enter Tryz.func90,Tryz.ntmps90
 go_wp2_with fail
 obtain⟨w0,hw0⟩:=zqe w 62 #[.slice A n c,.int .i64 dh,.string dn,pq,uf,.bool async]
 rw[← hw0]
 have bA:=zqn hw0
 have hB0:=zqb hw0
 clear hw0
 obtain⟨wi,hwi⟩:=zqe w0 9 #[]
 rw[← hwi]
 have hBi:Below w.heap.size w wi:=by rw[hwi];exact hB0.alloc hB0.size _
 have bAi:Blk wi w.heap.size 62 #[.slice A n c,.int .i64 dh,.string dn,pq,uf,.bool async]:=by rw[hwi];exact bA.alloc _
 clear hwi bA hB0
 refine(a3w ⟨dh,dn,ku,ny⟩ B [.int .i64 dh,.string dn,pq,uf] [] _ wi (Nat.le_trans hB hBi.size) (Ty.close_ (acs.out.below (hBi.mono hB)) (ado.out.below (hBi.mono hB))) HOK.out.res.1 (by simp only[List.length_nil];omega) (ba4 _ _)).mono ?_
 rintro e wa ⟨ys0,va,rfl,hra,hma,hla,hba⟩
 have H0:Hid ((∀ y,y ∈ ys0↔y ∈ Ty.hN ⟨dh,dn,ku,ny⟩)∧ys0.length≤24):=by
  refine⟨fun y=>?_,by simp only[List.length_nil] at hla;omega⟩
  refine(hma y).trans ?_
  show(_∨_)↔_
  simp
 have HR0:=zqd hra
 have hBa:=hBi.trans (hba.mono hBi.size)
 have bAa:=bAi.step hba
 clear hBi bAi hra hma hla hba
 go_wp2_with fail
 go_loopw [5,6] (fun out i wr=>∃ (k:Nat) (u:Value) (ys:List ByteArray),u=out∧k≤n∧i=.int .i64 k∧Hid ((∀ y,y ∈ ys↔y ∈ Ty.hN ⟨dh,dn,ku,ny⟩∨y ∈ (params.take k).flatMap fun p=>p.typ.hN)∧ys.length≤24+an3 (params.take k))∧Hid (Rep wr wr.heap.size (.row 1 (ys.flatMap qj)) u)∧Below w.heap.size w wr∧Blk wr w.heap.size 62 #[.slice A n c,.int .i64 dh,.string dn,pq,uf,.bool async]) (fun _ i _=>n - (intOf i).toNat)
 case atStart=>exact⟨0,_,ys0,rfl,Nat.zero_le _,rfl,zqd ⟨fun y=>by rw[H0.out.1];simp,by have:=H0.out.2;simp[an3];omega⟩,HR0,hBa,bAa⟩
 case round=>
  obtain⟨k,u,ys,rfl,hk,rfl,HP,HRR,hbr,bR⟩:=hrel
  clear hBa bAa HR0
  have aqm:wr.cell? ⟨w.heap.size,0,none⟩=some (.slice A n c):=bR.cell 0
  have hsz:=hbr.size
  by_cases hlt:k < n
  ·obtain⟨g,off,rfl,hg,hcell⟩:=hat (by omega)
   obtain⟨t,hx,hmem⟩:=um HN.out hlt
   obtain⟨name,⟨je,jm,ou,uj⟩⟩:=t
   have ape:wr.cell? ⟨g,off+k * 5,none⟩=some (.string name):=bg hbr (by omega) (hcell k 0 _ _ hx (by rw[Param.aj];rfl))
   have al8:wr.cell? ⟨g,off+k * 5+1,none⟩=some (.int .i64 je):=bg hbr (by omega) (hcell k 1 _ _ hx (by rw[Param.aj];rfl))
   have al9:wr.cell? ⟨g,off+k * 5+2,none⟩=some (.string jm):=bg hbr (by omega) (hcell k 2 _ _ hx (by rw[Param.aj];rfl))
   obtain⟨aa0,ake,abo⟩:∃ u,wr.cell? ⟨g,off+k * 5+3,none⟩=some u∧Rep wr B (.row 1 (ou.flatMap qj)) u:=jc hbr (by omega) hB (hcell k 3 _ _ hx (by rw[Param.aj];rfl))
   have ac7:=zqd abo
   clear abo
   obtain⟨ab7,ama,acw⟩:∃ u,wr.cell? ⟨g,off+k * 5+4,none⟩=some u∧Rep wr B (.row 4 (uj.flatMap Ty.pd)) u:=jc hbr (by omega) hB (hcell k 4 _ _ hx (by rw[Param.aj];rfl))
   have aef:=zqd acw
   clear acw
   obtain⟨abr,abt,abu,rfl⟩:=ac7.out.form
   obtain⟨ac0,ac1,ac2,rfl⟩:=aef.out.form
   have HX:=zqd hx
   have HM:=zqd hmem
   clear hx hmem
   clear hcell
   have hpk:=ax1 HX.out
   have hpl:=avl (fun p hp=>(HOK.out.par p hp).2) k
   have hok:=HOK.out.par _ HM.out
   simp only at hok hpk hpl
   have hz:ys.length+(Ty.mk je jm ou uj).parts≤1073741824:=by have:=HP.out.2;omega
   have hcall:=a3w ⟨je,jm,ou,uj⟩ B [.int .i64 je,.string jm,.slice abr abt abu,.slice ac0 ac1 ac2] ys u wr (Nat.le_trans hB hbr.size) (Ty.close_ ac7.out aef.out) hok.1 hz HRR.out
   have HC:=zqd hcall
   have HPK:=zqd hpk
   clear hcall hz hpl hpk hok
   go_wp2_with fail
   refine HC.out.mono ?_
   rintro e w1 ⟨ys1,v1,rfl,hr1,hm1,hl1,hb1⟩
   have bR1:=bR.step hb1
   have hB1:=hbr.trans (hb1.mono hbr.size)
   have HQ:Hid ((∀ y,y ∈ ys1↔y ∈ Ty.hN ⟨dh,dn,ku,ny⟩∨y ∈ (params.take (k+1)).flatMap fun p=>p.typ.hN)∧ys1.length≤24+an3 (params.take (k+1))):=by
    refine⟨fun y=>?_,by have:=HP.out.2;have:=HPK.out;omega⟩
    refine(hm1 y).trans ?_
    show(_∨_)↔_
    rw[HP.out.1,alo HX.out,List.mem_append,or_assoc]
   have HR1:=zqd hr1
   clear hr1 hm1 hl1
   go_wp2_with fail
   go_roundw
   case rel=>exact⟨k+1,_,ys1,rfl,by omega,by go_num,HQ,HR1,hB1,bR1⟩
   case measure=>simp[intOf];omega
  have hkn:k=n:=by omega
  have HT:Hid (params.take k=params):=List.take_of_length_le (by have:=HN.out;omega)
  have hpl:=avl (fun p hp=>(HOK.out.par p hp).2) k
  simp only at hpl
  have brf:Hid (R=ys.all fun n=>res.any fun r=>decide (r=n)):=by
   show _=_
   rw[HR.out]
   refine(bgr fun y=>?_).symm
   rw[HP.out.1,HT.out,avk,List.mem_append]
  obtain⟨YA,yn,yc,rfl,hyn,hym,brg⟩:=akg HRR.out
  have hyl:yn≤168:=by have:=HP.out.2;omega
  have HYN:=zqd hyn
  clear hyn hpl
  subst hkn
  go_wp2_with fail
  obtain⟨W,rfl⟩:∃ V,V=wr:=⟨_,rfl⟩
  go_loopw [7] (fun i ws=>∃ m:Nat,m≤yn∧i=.int .i64 m∧Hid (∀ (j:Nat) (t:ByteArray),j < m→ys[j]?=some t→(fun n=>!res.any fun r=>decide (r=n)) t=false)∧∃ q,ws=W.drewN q) (fun i _=>yn - (intOf i).toNat)
  case atStart=>exact⟨0,Nat.zero_le _,rfl,zqd fun j t h=>absurd h (by omega),0,rfl⟩
  case round=>
   obtain⟨m,hm2,rfl,HM2,q,rfl⟩:=hrel
   by_cases hlt2:m < yn
   case neg=>
    have HF:Hid (R=true):=by
     show _=_
     rw[brf.out]
     refine all_true fun j x hx=>?_
     have hj:=(List.getElem?_eq_some_iff.1 hx).1
     have:=HM2.out j x (by have:=HYN.out;omega) hx
     simpa using this
    go_wp2_with fail
    go_ret
    exact⟨ah HF.out.symm,below_drewN hbr _⟩
   obtain⟨yg,bvo,rfl,hyg,bgt⟩:=brg (by omega)
   obtain⟨y,hy,_⟩:=um HYN.out hlt2
   have c_y:W.cell? ⟨yg,bvo+m,none⟩=some (.string y):=bgt m y hy
   have HY:=zqd hy
   clear hy bgt brg
   go_wp2_with fail
   obtain⟨q0,hq0⟩:∃ z:Nat,z=q:=⟨_,rfl⟩
   go_loopw [8,9] (fun d j ws=>∃ (i:Nat) (D:Bool),i≤ln∧d=.bool D∧j=.int .i64 i∧Hid (D=(res.take i).any fun r=>decide (r=y))∧∃ q,ws=W.drewN q) (fun _ j _=>ln - (intOf j).toNat)
   case atStart=>exact⟨0,false,Nat.zero_le _,rfl,rfl,zqd rfl,q0,by rw[hq0]⟩
   case round=>
    clear hq0
    obtain⟨i,D,hi,rfl,rfl,HD,q,rfl⟩:=hrel
    by_cases hlt3:i < ln
    case neg=>
     have HT3:Hid (res.take i=res):=List.take_of_length_le (by have:=HLN.out;omega)
     have HD2:Hid (D=res.any fun r=>decide (r=y)):=by show _=_;rw[HD.out,HT3.out]
     cases D
     case false=>
      have HF:Hid (R=false):=by show _=_;rw[brf.out];exact all_false HY.out HD2.out.symm
      go_wp2_with fail
      go_ret
      exact⟨ah HF.out.symm,below_drewN hbr _⟩
     case true=>
      have HQ:=zqd (agd HM2.out HY.out (by show(!_)=false;rw[← HD2.out];rfl))
      go_wp2_with fail
      go_roundw
      case rel=>exact⟨m+1,by omega,by go_num,HQ,_,rfl⟩
      case measure=>simp[intOf];omega
    obtain⟨lg,brh,rfl,hlg,bgu⟩:=hlat (by omega)
    obtain⟨r,hr,_⟩:=um HLN.out hlt3
    have c_r:W.cell? ⟨lg,brh+i,none⟩=some (.string r):=(hbr.cell (p:=⟨lg,brh+i,none⟩) (by simp only;omega)).trans (bgu i r hr)
    have HTK:Hid (((res.take (i+1)).any fun r=>decide (r=y))=(((res.take i).any fun r=>decide (r=y)) ||decide (r=y))):=by
     show _=_
     rw[List.take_add_one,hr,List.any_append]
     simp
    clear hr bgu hlat
    cases D
    case true=>
     have HQ:Hid (true=(res.take (i+1)).any fun r=>decide (r=y)):=by show _=_;rw[HTK.out,← HD.out];rfl
     go_wp2_with fail
     go_quiet (fail)
     go_wp2_with fail
     go_roundw
     case rel=>exact⟨i+1,true,by omega,rfl,by go_num,HQ,_,rfl⟩
     case measure=>simp[intOf];omega
    case false=>
     by_cases hry:r=y
     ·have HQ:Hid (true=(res.take (i+1)).any fun r=>decide (r=y)):=by show _=_;rw[HTK.out,decide_eq_true hry,Bool.or_true]
      have heq:(r.toList ==y.toList)=true:=by rw[hry];simp
      clear hry
      go_wp2_with fail
      go_quiet (fail)
      go_wp2_with fail
      go_roundw
      case rel=>exact⟨i+1,true,by omega,rfl,by go_num,HQ,_,rfl⟩
      case measure=>simp[intOf];omega
     ·have HQ:Hid (false=(res.take (i+1)).any fun r=>decide (r=y)):=by show _=_;rw[HTK.out,decide_eq_false hry,← HD.out];rfl
      have heq:=aeu hry
      clear hry
      go_wp2_with fail
      go_quiet (fail)
      go_wp2_with fail
      go_roundw
      case rel=>exact⟨i+1,false,by omega,rfl,by go_num,HQ,_,rfl⟩
      case measure=>simp[intOf];omega
end Go.Proofs.YtbafphecjijdmaaGreatDoor
