/-
  The names of handles, as the reference finds them: l03PutText, l03Resources, l03Known.
-/
import Derived.Test.YtbafphecjijdmaaGreatDoorWa26
import Derived.Test.YtbafphecjijdmaaGreatDoorWa27
import Derived.Deep.RegionHeld3
namespace Go.Proofs.YtbafphecjijdmaaGreatDoor
open Go.RowKit
set_option linter.unusedVariables false
set_option linter.unusedSimpArgs false
set_option linter.unnecessarySimpa false
set_option maxRecDepth 16000
theorem ajd {w:World} {B:Nat} {xs:List ByteArray} {v:Value} (h:Rep w B (.row 1 (xs.flatMap tu)) v):
  ∃ A n c,v=.slice A n c∧n=xs.length∧n≤9223372036854775807∧(0 < n→∃ g off,A=some ⟨g,off,none⟩∧g < B∧∀ (k:Nat) (x:ByteArray),xs[k]?=some x→w.cell? ⟨g,off+k,none⟩=some (.string x)):=by
 obtain⟨A,n,c,rfl,hn,hm,hat⟩:=ny aat (by decide) h
 unfold maxLen at hm
 refine⟨A,n,c,rfl,hn,by omega,fun h0=>?_⟩
 obtain⟨g,off,rfl,hg,hc⟩:=hat h0
 refine⟨g,off,rfl,hg,fun k x hx=>?_⟩
 obtain⟨u,hu,hr⟩:=hc k 0 x (.lit (.string x)) hx rfl
 rw[hr.ad8] at hu
 simpa using hu
theorem a4y {w:World} {B:Nat} (A:Option Addr) (c:Nat):Rep w B (.row 1 (([]:List ByteArray).flatMap tu)) (.slice A 0 c):=by
 rw[Rep]
 exact⟨A,0,c,rfl,rfl,by simp[maxLen],fun h=>absurd h (by omega)⟩
def bk8 (P:ByteArray→Prop) (m:Nat) (w:World) (e:Ending) (w':World):Prop:=∃ (ys:List ByteArray) (v:Value),e=.returned v∧Rep w' w'.heap.size (.row 1 (ys.flatMap tu)) v∧(∀ y,y ∈ ys↔P y)∧ys.length≤m∧Below w.heap.size w w'
def amw (xs:List ByteArray) (s:ByteArray) (k:Nat) (D:Bool) (m:Nat) (os:List ByteArray):Prop:=
 m=os.length∧(∀ y,y ∈ os→y ∈ xs∨y=s)∧(∀ y,y ∈ xs.take k→y ∈ os)∧(D=true→s ∈ os)∧m≤k+(if D then 1 else 0)
theorem amw.start (xs:List ByteArray) (s:ByteArray):amw xs s 0 false 0 []:=⟨rfl,by simp,by simp,by simp,by simp⟩
theorem amw.add {xs os:List ByteArray} {s x:ByteArray} {k m:Nat} {D:Bool} (h:amw xs s k D m os) (hx:xs[k]?=some x):amw xs s (k+1) (D ||decide (x=s)) (m+1) (os ++[x]):=by
 obtain⟨h1,h2,h3,h4,h5⟩:=h
 refine⟨by simp[h1],fun y hy=>?_,fun y hy=>?_,fun hd=>?_,?_⟩
 ·rcases List.mem_append.1 hy with hy|hy
  ·exact h2 y hy
  ·rw[List.mem_singleton.1 hy];exact .inl (List.mem_of_getElem? hx)
 ·rw[List.take_add_one,hx] at hy
  rcases List.mem_append.1 hy with hy|hy
  ·exact List.mem_append_left _ (h3 y hy)
  ·exact List.mem_append_right _ hy
 ·rcases(show D=true∨decide (x=s)=true by simpa using hd)with hd|hd
  ·exact List.mem_append_left _ (h4 hd)
  ·rw[← (of_decide_eq_true hd:x=s)];exact List.mem_append_right _ (List.mem_singleton.2 rfl)
 ·cases D
  ·cases hq:decide (x=s)<;>simp at h5 ⊢<;>omega
  ·simp at h5 ⊢;omega
theorem amw.put {xs os:List ByteArray} {s:ByteArray} {k m:Nat} (h:amw xs s k false m os):amw xs s k true (m+1) (os ++[s]):=by
 obtain⟨h1,h2,h3,h4,h5⟩:=h
 refine⟨by simp[h1],fun y hy=>?_,fun y hy=>List.mem_append_left _ (h3 y hy),fun _=>List.mem_append_right _ (List.mem_singleton.2 rfl),by simpa using h5⟩
 rcases List.mem_append.1 hy with hy|hy
 ·exact h2 y hy
 ·exact .inr (List.mem_singleton.1 hy)
theorem amw.done {xs os:List ByteArray} {s:ByteArray} {k m:Nat} (h:amw xs s k true m os) (hk:k=xs.length):(∀ y,y ∈ os↔y ∈ xs∨y=s)∧os.length≤xs.length+1:=by
 obtain⟨h1,h2,h3,h4,h5⟩:=h
 refine⟨fun y=>⟨h2 y,fun hy=>?_⟩,by simp at h5;omega⟩
 rcases hy with hy|rfl
 ·exact h3 y (by rw[hk,List.take_length];exact hy)
 ·exact h4 rfl
set_option maxHeartbeats 6400000 in
theorem bay {xs:List ByteArray} (hx:xs.length≤1073741824) (s:ByteArray) {B:Nat} {v:Value} {w:World} (hB:B≤w.heap.size) (h:Rep w B (.row 1 (xs.flatMap tu)) v):
  Calls Tryz.prog 148 #[v,.string s] w fun e w'=>bk8 (fun y=>y ∈ xs∨y=s) (xs.length+1) w e w':=by
 obtain⟨i0,hi,hz0,hz1,hz2⟩:=info_parts alu
 obtain⟨A,n,c,rfl,hn,hm,hat⟩:=ajd h
 have HN:=Lib.hid hn
 have hn9:n≤1073741824:=by omega
 clear h hn hx hm
 have hE:(w.alloc (.cells #[] 9)).ownsRow w.heap.size 9 1 (.slice (some ⟨w.heap.size,0,none⟩) 0 0) 0 (strs []):=World.ownsRow_made w #[] 0 (Nat.le_refl _) (by simp) (by simp)
 have hb0:Below w.heap.size w (w.alloc (.cells #[] 9)):=(Below.refl _ _).alloc (Nat.le_refl _) _
 go_enter Tryz.func148,Tryz.ntmps148
 go_wp2_with fail
 go_loopw [5,6,7] (fun out d i wr=>∃ (k m:Nat) (D:Bool) (os:List ByteArray) (u:Value),u=out∧d=.bool D∧k≤n∧m≤n+1∧i=.int .i64 k∧Hid (amw xs s k D m os)∧wr.ownsRow w.heap.size 9 1 u m (strs os)∧Below w.heap.size w wr) (fun _ _ i _=>n - (intOf i).toNat)
 case atStart=>exact⟨0,0,false,[],_,rfl,rfl,Nat.zero_le _,by omega,rfl,Lib.hid (amw.start xs s),hE,hb0⟩
 case round=>
  clear hE hb0
  obtain⟨k,m,D,os,u,rfl,rfl,hk,hmn,rfl,HI,hown,hbr⟩:=hrel
  have hsz:=hbr.size
  by_cases hlt:k < n
  case neg=>
   have hkn:k=n:=by omega
   subst hkn
   cases D
   case true=>
    have HD:=Lib.hid (amw.done HI.out HN.out)
    have HR:=Lib.hid (amb hown)
    clear hown
    go_wp2_with fail
    go_ret
    exact⟨os,_,rfl,HR.out,HD.out.1,HD.out.2,hbr⟩
   case false=>
    have hs4:=hown.alloc (.cells #[Value.string s] 9)
    have hc1:=cell_one_new wr (Value.string s) 9
    have hB5:Below w.heap.size w (wr.alloc (.cells #[Value.string s] 9)):=hbr.alloc hsz _
    go_wp2_with (at_builtin;refine wpList_append_own _ rfl _ _ 22 rfl w.heap.size 9 i0 (.string {data:=#[]}) 1 16 Tryz.underlying22 hi hz0 hz1 hz2 rfl (by decide) _ _ _ rfl hs4 ⟨wr.heap.size,0,none⟩ 1 1 [_] rfl rfl hc1 (ai0 _) (by simp only[maxLen];omega) (by omega) hB5.size ?_;intro v' w5 hown' hgrow _)
    have hB6:=hB5.grown hgrow hB5.size (fun g hg=>(hs4.lt g hg).1)
    have HD:=Lib.hid (amw.done HI.out.put HN.out)
    have HR:Hid (Rep w5 w5.heap.size (.row 1 ((os ++[s]).flatMap tu)) v'):=amb (by rw[afc];exact hown')
    go_ret
    exact⟨os ++[s],_,rfl,HR.out,HD.out.1,HD.out.2,hB6⟩
  obtain⟨g,off,rfl,hg,hcell⟩:=hat (by omega)
  obtain⟨x,hx,_⟩:=xg HN.out hlt
  have c_x:wr.cell? ⟨g,off+k,none⟩=some (.string x):=(hbr.cell (p:=⟨g,off+k,none⟩) (by simp only;omega)).trans (hcell k x hx)
  have HC:=Lib.hid (hcell k x hx)
  have HX:=Lib.hid hx
  clear hx hcell hat
  by_cases hxs:x=s
  ·have HQ:=Lib.hid (HI.out.add HX.out)
   have hdd:(D ||decide (x=s))=true:=by rw[decide_eq_true hxs];simp
   rw[hdd] at HQ
   subst hxs
   have hs4:=hown.alloc (.cells #[Value.string x] 9)
   have hc1:=cell_one_new wr (Value.string x) 9
   have hB5:Below w.heap.size w (wr.alloc (.cells #[Value.string x] 9)):=hbr.alloc hsz _
   have hD2:Hid (m≤k+1):=by show _≤_;have:=HI.out.2.2.2.2;split at this<;>omega
   go_wp2_with (at_builtin;refine wpList_append_own _ rfl _ _ 22 rfl w.heap.size 9 i0 (.string {data:=#[]}) 1 16 Tryz.underlying22 hi hz0 hz1 hz2 rfl (by decide) _ _ _ rfl hs4 ⟨wr.heap.size,0,none⟩ 1 1 [_] rfl rfl hc1 (ai0 _) (by simp only[maxLen];omega) (by omega) hB5.size ?_;intro v' w5 hown' hgrow _)
   have hB6:=hB5.grown hgrow hB5.size (fun g hg=>(hs4.lt g hg).1)
   have ajx:=Lib.hid hown'
   clear hs4 hc1 hown' hgrow
   go_roundw
   case rel=>exact⟨k+1,m+1,true,os ++[x],_,rfl,rfl,by omega,by have:=HQ.out.2.2.2.2;simp at this;omega,by go_num,HQ,by rw[afc];exact ajx.out,hB6⟩
   case measure=>simp[intOf];omega
  have hne:(x.toList ==s.toList)=false:=ae0 hxs
  have hdf:decide (x=s)=false:=decide_eq_false hxs
  cases D
  case true=>
   have HQ:=Lib.hid (HI.out.add HX.out)
   rw[hdf,Bool.or_false] at HQ
   have hs4:=hown.alloc (.cells #[Value.string x] 9)
   have hc1:=cell_one_new wr (Value.string x) 9
   have hB5:Below w.heap.size w (wr.alloc (.cells #[Value.string x] 9)):=hbr.alloc hsz _
   clear hxs hdf
   go_wp2_with (at_builtin;refine wpList_append_own _ rfl _ _ 22 rfl w.heap.size 9 i0 (.string {data:=#[]}) 1 16 Tryz.underlying22 hi hz0 hz1 hz2 rfl (by decide) _ _ _ rfl hs4 ⟨wr.heap.size,0,none⟩ 1 1 [_] rfl rfl hc1 (ai0 _) (by simp only[maxLen];omega) (by omega) hB5.size ?_;intro v' w5 hown' hgrow _)
   have hB6:=hB5.grown hgrow hB5.size (fun g hg=>(hs4.lt g hg).1)
   have ajx:=Lib.hid hown'
   clear hs4 hc1 hown' hgrow
   go_roundw
   case rel=>exact⟨k+1,m+1,true,os ++[x],_,rfl,rfl,by omega,by have:=HQ.out.2.2.2.2;simp at this;omega,by go_num,HQ,by rw[afc];exact ajx.out,hB6⟩
   case measure=>simp[intOf];omega
  case false=>
   have hmk:Hid (m≤k):=by show _≤_;have:=HI.out.2.2.2.2;simpa using this
   cases hlx:Op.bytesLess x.toList s.toList
   case true=>
    have HQ:=Lib.hid (HI.out.add HX.out)
    rw[hdf,Bool.or_false] at HQ
    have hs4:=hown.alloc (.cells #[Value.string x] 9)
    have hc1:=cell_one_new wr (Value.string x) 9
    have hB5:Below w.heap.size w (wr.alloc (.cells #[Value.string x] 9)):=hbr.alloc hsz _
    clear hxs hdf
    go_wp2_with (at_builtin;refine wpList_append_own _ rfl _ _ 22 rfl w.heap.size 9 i0 (.string {data:=#[]}) 1 16 Tryz.underlying22 hi hz0 hz1 hz2 rfl (by decide) _ _ _ rfl hs4 ⟨wr.heap.size,0,none⟩ 1 1 [_] rfl rfl hc1 (ai0 _) (by simp only[maxLen];omega) (by omega) hB5.size ?_;intro v' w5 hown' hgrow _)
    have hB6:=hB5.grown hgrow hB5.size (fun g hg=>(hs4.lt g hg).1)
    have ajx:=Lib.hid hown'
    clear hs4 hc1 hown' hgrow
    go_roundw
    case rel=>exact⟨k+1,m+1,false,os ++[x],_,rfl,rfl,by omega,by have:=HQ.out.2.2.2.2;simp at this;omega,by go_num,HQ,by rw[afc];exact ajx.out,hB6⟩
    case measure=>simp[intOf];omega
   case false=>
    have HQ:=Lib.hid (HI.out.put.add HX.out)
    rw[Bool.true_or] at HQ
    have hs4:=hown.alloc (.cells #[Value.string s] 9)
    have hc1:=cell_one_new wr (Value.string s) 9
    have hB5:Below w.heap.size w (wr.alloc (.cells #[Value.string s] 9)):=hbr.alloc hsz _
    clear hxs hdf
    go_wp2_with (first|(at_builtin;refine wpList_append_own _ rfl _ _ 22 rfl w.heap.size 9 i0 (.string {data:=#[]}) 1 16 Tryz.underlying22 hi hz0 hz1 hz2 rfl (by decide) _ _ _ rfl hs4 ⟨wr.heap.size,0,none⟩ 1 1 [_] rfl rfl hc1 (ai0 _) (by simp only[maxLen];omega) (by omega) hB5.size ?_;intro v' w5 hown' hgrow _;have hB6:=hB5.grown hgrow hB5.size (fun g hg=>(hs4.lt g hg).1);have bvs:w5.cell? ⟨g,off+k,none⟩=some (.string x):=(hB6.cell (p:=⟨g,off+k,none⟩) (by simp only;omega)).trans HC.out;have hs5:=hown'.alloc (.cells #[Value.string x] 9);have hc2:=cell_one_new w5 (Value.string x) 9;have hB7:Below w.heap.size w (w5.alloc (.cells #[Value.string x] 9)):=hB6.alloc hB6.size _)|(at_builtin;refine wpList_append_own _ rfl _ _ 22 rfl w.heap.size 9 i0 (.string {data:=#[]}) 1 16 Tryz.underlying22 hi hz0 hz1 hz2 rfl (by decide) _ _ _ rfl hs5 ⟨w5.heap.size,0,none⟩ 1 1 [_] rfl rfl hc2 (ai0 _) (by simp only[maxLen];omega) (by omega) hB7.size ?_;intro v2 w6 hown2 hgrow2 _))
    have hB8:=hB7.grown hgrow2 hB7.size (fun g hg=>(hs5.lt g hg).1)
    have ajx:=Lib.hid hown2
    clear hs5 hc2 hown2 hgrow2
    go_roundw
    case rel=>exact⟨k+1,m+1+1,true,os ++[s] ++[x],_,rfl,rfl,by omega,by have:=HQ.out.2.2.2.2;simp at this;omega,by go_num,HQ,by rw[afc,afc];exact ajx.out,hB8⟩
    case measure=>simp[intOf];omega
theorem bhr {s:ByteArray} (h:0 < s.size):s.toList.isEmpty=false:=by
 cases hs:s.toList with
 | nil=>
  rw[Lib.toList_data] at hs
  have h2:s.size=0:=by have:=congrArg List.length hs;simpa using this
  omega
 | cons x l=>rfl
theorem bhs {s:ByteArray} (h:s.size=0):s=⟨#[]⟩:=by
 apply ByteArray.ext
 exact Array.eq_empty_of_size_eq_zero h
def bds (t:Ty):Prop:=∀ (B:Nat) (cs:List Value) (xs:List ByteArray) (v:Value) (w:World),B≤w.heap.size→jy w B (Ty.pd t) cs→t.shapes=true→xs.length+t.parts≤1073741824→Rep w w.heap.size (.row 1 (xs.flatMap tu)) v→
 Calls Tryz.prog 122 #[.agg cs.toArray,v] w fun e w'=>bk8 (fun y=>y ∈ xs∨y ∈ t.hN) (xs.length+t.parts) w e w'
set_option maxHeartbeats 3200000 in
theorem a8d {kind:Int} {name:ByteArray} {labels:List ByteArray} {kids:List Ty} (ih:∀ t ∈ kids,bds t):bds ⟨kind,name,labels,kids⟩:=by
 intro B cs xs v w hB h hsh hxl hv
 obtain⟨iq,qp,rfl,bf,eu⟩:=Ty.open_ h
 have pq:=Lib.hid bf
 clear bf
 have qm:=Lib.hid eu
 clear eu
 obtain⟨A,n,c,rfl,hnl,hm,hat⟩:=ny Ty.jw (by decide) qm.out
 unfold maxLen at hm
 obtain⟨s1,s2,s3⟩:=a4x hsh
 have HSH:=Lib.hid s3
 have HN:=Lib.hid hnl
 have HI:=Lib.hid ih
 have HV:=Lib.hid hv
 rw[Ty.parts] at hxl
 clear hnl ih h hsh s3 hv
 obtain⟨N0,hN0⟩:∃ N0,(if named kind then [name] else [])=N0:=⟨_,rfl⟩
 have HN0:=Lib.hid hN0
 clear hN0
 cases hnk:named kind
 case false=>
  have hne:=bhs (s2 hnk)
  have H0:Hid ((∀ y,y ∈ xs↔y ∈ xs∨y ∈ N0)∧xs.length≤xs.length+1):=by
   refine⟨fun y=>?_,by omega⟩
   rw[← HN0.out,hnk]
   simp
  subst hne
  clear s1 s2 hnk
  obtain⟨name,hname⟩:∃ s:ByteArray,s=⟨#[]⟩:=⟨_,rfl⟩
  have hemp:name.toList.isEmpty=true:=by rw[hname,Lib.toList_data];rfl
  rw[← hname] at HN0 ⊢
  clear hname
  obtain⟨ys0,a8e⟩:∃ ys,ys=xs:=⟨_,rfl⟩
  go_enter Tryz.func122,Tryz.ntmps122
  go_wp2_with fail
  obtain⟨w0,hw0⟩:∃ W,W=w.alloc (.cells #[.int .i64 kind,.string name,iq,.slice A n c] 60):=⟨_,rfl⟩
  rw[← hw0]
  have bA:Blk w0 w.heap.size 60 #[.int .i64 kind,.string name,iq,.slice A n c]:=by rw[hw0];exact Blk.new w _ _
  have hB0:Below w.heap.size w w0:=by rw[hw0];exact(Below.refl _ _).alloc (Nat.le_refl _) _
  clear hw0
  have HR0:Hid (Rep w0 w0.heap.size (.row 1 (ys0.flatMap tu)) v):=by rw[a8e];exact Rep.more hB0.size _ _ (HV.out.below (hB0.mono (Nat.le_refl _)))
  have hBa:=hB0
  have bAa:=bA
  rw[← a8e] at H0
  have H0:Hid ((∀ y,y ∈ ys0↔y ∈ xs∨y ∈ N0)∧ys0.length≤xs.length+1):=by show _∧_;have:=H0.out;rw[a8e] at this ⊢;exact this
  clear hB0 bA a8e
  go_loopw [1,5] (fun out i wr=>∃ (k:Nat) (u:Value) (ys:List ByteArray),u=out∧k≤n∧i=.int .i64 k∧Hid ((∀ y,y ∈ ys↔(y ∈ xs∨y ∈ N0)∨y ∈ (kids.take k).flatMap Ty.hN)∧ys.length≤xs.length+1+Ty.ac1 (kids.take k))∧Hid (Rep wr wr.heap.size (.row 1 (ys.flatMap tu)) u)∧Below w.heap.size w wr∧Blk wr w.heap.size 60 #[.int .i64 kind,.string name,iq,.slice A n c]) (fun _ i _=>n - (intOf i).toNat)
  case atStart=>exact⟨0,_,ys0,rfl,Nat.zero_le _,rfl,Lib.hid ⟨fun y=>by rw[H0.out.1];simp,by have:=H0.out.2;simp[Ty.ac1];omega⟩,HR0,hBa,bAa⟩
  case round=>
   obtain⟨k,u,ys,rfl,hk,rfl,HP,HR,hbr,bR⟩:=hrel
   clear hBa bAa HR0
   have aox:wr.cell? ⟨w.heap.size,3,none⟩=some (.slice A n c):=bR.cell 3
   have hsz:=hbr.size
   by_cases hlt:k < n
   ·obtain⟨g,off,rfl,hg2,hcell2⟩:=hat (by omega)
    obtain⟨t2,hx2,ac9⟩:=xg HN.out hlt
    obtain⟨kind2,name2,zh,abl⟩:=t2
    have aht:wr.cell? ⟨g,off+k * 4,none⟩=some (.int .i64 kind2):=gq hbr (by omega) (hcell2 k 0 _ _ hx2 (by rw[Ty.ay];rfl))
    have afe:wr.cell? ⟨g,off+k * 4+1,none⟩=some (.string name2):=gq hbr (by omega) (hcell2 k 1 _ _ hx2 (by rw[Ty.ay];rfl))
    obtain⟨ac0,ag3,ab2⟩:∃ u,wr.cell? ⟨g,off+k * 4+2,none⟩=some u∧Rep wr B (.row 1 (zh.flatMap tu)) u:=ku hbr (by omega) hB (hcell2 k 2 _ _ hx2 (by rw[Ty.ay];rfl))
    have ac2:=Lib.hid ab2
    clear ab2
    obtain⟨aeh,ah9,adr⟩:∃ u,wr.cell? ⟨g,off+k * 4+3,none⟩=some u∧Rep wr B (.row 4 (abl.flatMap Ty.pd)) u:=ku hbr (by omega) hB (hcell2 k 3 _ _ hx2 (by rw[Ty.ay];rfl))
    have aee:=Lib.hid adr
    clear adr
    have HX2:=Lib.hid hx2
    have HM2:=Lib.hid ac9
    clear hx2 ac9
    clear hcell2
    have hpk:=aiu HX2.out
    have hpl:=ag7 kids (k+1)
    have hz:ys.length+(Ty.mk kind2 name2 zh abl).parts≤1073741824:=by have:=HP.out.2;omega
    have hcall:=HI.out _ HM2.out B [.int .i64 kind2,.string name2,ac0,aeh] ys u wr (Nat.le_trans hB hbr.size) (Ty.close_ ac2.out aee.out) (HSH.out _ HM2.out) hz HR.out
    obtain⟨t,ht⟩:∃ t:Ty,t=⟨kind2,name2,zh,abl⟩:=⟨_,rfl⟩
    have hx:=HX2.out
    rw[← ht] at hcall hx hpk
    have HX:=Lib.hid hx
    have HPK:=Lib.hid hpk
    have HC:=Lib.hid hcall
    clear hcall ht hx hz hpl hpk
    go_wp2_with fail
    refine HC.out.mono ?_
    rintro e w1 ⟨ys1,v1,rfl,hr1,hm1,hl1,hb1⟩
    have bR1:=bR.step hb1
    have hB1:=hbr.trans (hb1.mono hbr.size)
    have HQ:Hid ((∀ y,y ∈ ys1↔(y ∈ xs∨y ∈ N0)∨y ∈ (kids.take (k+1)).flatMap Ty.hN)∧ys1.length≤xs.length+1+Ty.ac1 (kids.take (k+1))):=by
     refine⟨fun y=>?_,by have:=HP.out.2;have:=HPK.out;omega⟩
     refine(hm1 y).trans ?_
     show(_∨_)↔_
     rw[HP.out.1,akp HX.out,List.mem_append,or_assoc]
    have HR1:=Lib.hid hr1
    clear hr1 hm1 hl1
    go_wp2_with fail
    go_roundw
    case rel=>exact⟨k+1,_,ys1,rfl,by omega,by go_num,HQ,HR1,hB1,bR1⟩
    case measure=>simp[intOf];omega
   ·have hkn:k=n:=by omega
    have HT:Hid (kids.take k=kids):=List.take_of_length_le (by have:=HN.out;omega)
    have HE:Hid ((∀ y,y ∈ ys↔y ∈ xs∨y ∈ Ty.hN ⟨kind,name,labels,kids⟩)∧ys.length≤xs.length+(Ty.mk kind name labels kids).parts):=by
     refine⟨fun y=>?_,by have:=HP.out.2;rw[HT.out] at this;rw[Ty.parts];omega⟩
     rw[HP.out.1,HT.out,aun,HN0.out,List.mem_append,or_assoc]
    subst hkn
    go_wp2_with fail
    go_ret
    exact⟨ys,_,rfl,HR.out,HE.out.1,HE.out.2,hbr⟩
 case true=>
  have hemp:=bhr (s1 hnk)
  clear s1 s2
  go_enter Tryz.func122,Tryz.ntmps122
  go_wp2_with fail
  obtain⟨w0,hw0⟩:∃ W,W=w.alloc (.cells #[.int .i64 kind,.string name,iq,.slice A n c] 60):=⟨_,rfl⟩
  rw[← hw0]
  have bA:Blk w0 w.heap.size 60 #[.int .i64 kind,.string name,iq,.slice A n c]:=by rw[hw0];exact Blk.new w _ _
  have hB0:Below w.heap.size w w0:=by rw[hw0];exact(Below.refl _ _).alloc (Nat.le_refl _) _
  clear hw0
  refine(bay (by omega) name (Nat.le_refl _) (Rep.more hB0.size _ _ (HV.out.below (hB0.mono (Nat.le_refl _))))).mono ?_
  rintro e wa ⟨ys0,va,rfl,hra,hma,hla,hba⟩
  have H0:Hid ((∀ y,y ∈ ys0↔y ∈ xs∨y ∈ N0)∧ys0.length≤xs.length+1):=by
   refine⟨fun y=>?_,hla⟩
   refine(hma y).trans ?_
   show(_∨_)↔_
   rw[← HN0.out,hnk]
   simp
  have HR0:=Lib.hid hra
  have hBa:=hB0.trans (hba.mono hB0.size)
  have bAa:=bA.step hba
  clear hB0 bA hra hma hla hba hnk hemp
  go_wp2_with fail
  go_loopw [1,5] (fun out i wr=>∃ (k:Nat) (u:Value) (ys:List ByteArray),u=out∧k≤n∧i=.int .i64 k∧Hid ((∀ y,y ∈ ys↔(y ∈ xs∨y ∈ N0)∨y ∈ (kids.take k).flatMap Ty.hN)∧ys.length≤xs.length+1+Ty.ac1 (kids.take k))∧Hid (Rep wr wr.heap.size (.row 1 (ys.flatMap tu)) u)∧Below w.heap.size w wr∧Blk wr w.heap.size 60 #[.int .i64 kind,.string name,iq,.slice A n c]) (fun _ i _=>n - (intOf i).toNat)
  case atStart=>exact⟨0,_,ys0,rfl,Nat.zero_le _,rfl,Lib.hid ⟨fun y=>by rw[H0.out.1];simp,by have:=H0.out.2;simp[Ty.ac1];omega⟩,HR0,hBa,bAa⟩
  case round=>
   obtain⟨k,u,ys,rfl,hk,rfl,HP,HR,hbr,bR⟩:=hrel
   clear hBa bAa HR0
   have aox:wr.cell? ⟨w.heap.size,3,none⟩=some (.slice A n c):=bR.cell 3
   have hsz:=hbr.size
   by_cases hlt:k < n
   ·obtain⟨g,off,rfl,hg2,hcell2⟩:=hat (by omega)
    obtain⟨t2,hx2,ac9⟩:=xg HN.out hlt
    obtain⟨kind2,name2,zh,abl⟩:=t2
    have aht:wr.cell? ⟨g,off+k * 4,none⟩=some (.int .i64 kind2):=gq hbr (by omega) (hcell2 k 0 _ _ hx2 (by rw[Ty.ay];rfl))
    have afe:wr.cell? ⟨g,off+k * 4+1,none⟩=some (.string name2):=gq hbr (by omega) (hcell2 k 1 _ _ hx2 (by rw[Ty.ay];rfl))
    obtain⟨ac0,ag3,ab2⟩:∃ u,wr.cell? ⟨g,off+k * 4+2,none⟩=some u∧Rep wr B (.row 1 (zh.flatMap tu)) u:=ku hbr (by omega) hB (hcell2 k 2 _ _ hx2 (by rw[Ty.ay];rfl))
    have ac2:=Lib.hid ab2
    clear ab2
    obtain⟨aeh,ah9,adr⟩:∃ u,wr.cell? ⟨g,off+k * 4+3,none⟩=some u∧Rep wr B (.row 4 (abl.flatMap Ty.pd)) u:=ku hbr (by omega) hB (hcell2 k 3 _ _ hx2 (by rw[Ty.ay];rfl))
    have aee:=Lib.hid adr
    clear adr
    have HX2:=Lib.hid hx2
    have HM2:=Lib.hid ac9
    clear hx2 ac9
    clear hcell2
    have hpk:=aiu HX2.out
    have hpl:=ag7 kids (k+1)
    have hz:ys.length+(Ty.mk kind2 name2 zh abl).parts≤1073741824:=by have:=HP.out.2;omega
    have hcall:=HI.out _ HM2.out B [.int .i64 kind2,.string name2,ac0,aeh] ys u wr (Nat.le_trans hB hbr.size) (Ty.close_ ac2.out aee.out) (HSH.out _ HM2.out) hz HR.out
    obtain⟨t,ht⟩:∃ t:Ty,t=⟨kind2,name2,zh,abl⟩:=⟨_,rfl⟩
    have hx:=HX2.out
    rw[← ht] at hcall hx hpk
    have HX:=Lib.hid hx
    have HPK:=Lib.hid hpk
    have HC:=Lib.hid hcall
    clear hcall ht hx hz hpl hpk
    go_wp2_with fail
    refine HC.out.mono ?_
    rintro e w1 ⟨ys1,v1,rfl,hr1,hm1,hl1,hb1⟩
    have bR1:=bR.step hb1
    have hB1:=hbr.trans (hb1.mono hbr.size)
    have HQ:Hid ((∀ y,y ∈ ys1↔(y ∈ xs∨y ∈ N0)∨y ∈ (kids.take (k+1)).flatMap Ty.hN)∧ys1.length≤xs.length+1+Ty.ac1 (kids.take (k+1))):=by
     refine⟨fun y=>?_,by have:=HP.out.2;have:=HPK.out;omega⟩
     refine(hm1 y).trans ?_
     show(_∨_)↔_
     rw[HP.out.1,akp HX.out,List.mem_append,or_assoc]
    have HR1:=Lib.hid hr1
    clear hr1 hm1 hl1
    go_wp2_with fail
    go_roundw
    case rel=>exact⟨k+1,_,ys1,rfl,by omega,by go_num,HQ,HR1,hB1,bR1⟩
    case measure=>simp[intOf];omega
   ·have hkn:k=n:=by omega
    have HT:Hid (kids.take k=kids):=List.take_of_length_le (by have:=HN.out;omega)
    have HE:Hid ((∀ y,y ∈ ys↔y ∈ xs∨y ∈ Ty.hN ⟨kind,name,labels,kids⟩)∧ys.length≤xs.length+(Ty.mk kind name labels kids).parts):=by
     refine⟨fun y=>?_,by have:=HP.out.2;rw[HT.out] at this;rw[Ty.parts];omega⟩
     rw[HP.out.1,HT.out,aun,HN0.out,List.mem_append,or_assoc]
    subst hkn
    go_wp2_with fail
    go_ret
    exact⟨ys,_,rfl,HR.out,HE.out.1,HE.out.2,hbr⟩
theorem azo:∀ t:Ty,bds t:=Ty.ahy fun kind name labels kids ih=>a8d ih
def amx (ps:List Param):Nat:=(ps.map fun p=>p.typ.parts).sum
theorem avf {ps:List Param} {k:Nat} {p:Param} (h:ps[k]?=some p):amx (ps.take (k+1))=amx (ps.take k)+p.typ.parts:=by
 rw[amx,amx,List.take_add_one,h];simp
theorem atb {ps:List Param} (h:∀ p ∈ ps,p.typ.parts≤24):∀ k,amx (ps.take k)≤24 * k
 | 0=>by simp[amx]
 | k+1=>by
  have ih:=atb h k
  cases hx:ps[k]? with
  | none=>rw[List.take_add_one,hx];simp;omega
  | some p=>rw[avf hx];have:=h p (List.mem_of_getElem? hx);omega
structure OkN (f:jh):Prop where
 par:∀ p ∈ f.params,p.typ.shapes=true∧p.typ.parts≤24
 res:f.result.shapes=true∧f.result.parts≤24
 len:f.params.length≤6
theorem bgi {t:Ty} (h:ae9 t=true):t.shapes=true∧t.parts≤24:=by
 simp only[ae9,Bool.and_eq_true,decide_eq_true_eq] at h
 exact⟨h.2,h.1.2⟩
theorem a2p {f:jh} (h:ah5 f=true):OkN f:=by
 simp only[ah5,Bool.and_eq_true,decide_eq_true_eq] at h
 obtain⟨h1,h2,h3,h4,h5⟩:=h
 rw[Bool.not_eq_true',List.any_eq_false] at h4
 refine⟨fun p hp=>?_,bgi h2,h1⟩
 have hb:ako p=true:=by have:=h4 p hp;simpa using this
 simp only[ako,Bool.and_eq_true] at hb
 exact bgi hb.2.1
set_option maxHeartbeats 6400000 in
theorem avg (f:jh) (hf:OkN f) {res:List ByteArray} {B B2:Nat} {cs:List Value} {v:Value} {w:World} (hB:B≤w.heap.size) (hB2:B2≤w.heap.size) (h:jy w B (jh.pd f) cs) (hv:Rep w B2 (.row 1 (res.flatMap tu)) v):
  Calls Tryz.prog 90 #[.agg cs.toArray,v] w fun e w'=>e=.returned (.bool (ajc f res))∧Below w.heap.size w w':=by
 obtain⟨params,⟨bg,cu,jv,mg⟩,async⟩:=f
 obtain⟨R,hR⟩:∃ R:Bool,R=ajc ⟨params,⟨bg,cu,jv,mg⟩,async⟩ res:=⟨_,rfl⟩
 rw[← hR]
 have HR:=Lib.hid hR
 have HOK:=Lib.hid hf
 clear hR hf
 obtain⟨ad3,oq,ug,rfl,adu,aaf,aaw⟩:=jh.open_ h
 have af5:=Lib.hid adu
 clear adu
 have ab9:=Lib.hid aaf
 clear aaf
 have ac6:=Lib.hid aaw
 clear aaw
 obtain⟨A,n,c,rfl,hnl,hm,hat⟩:=ny Param.jw (by decide) af5.out
 obtain⟨LA,ln,lc,rfl,hln,hlm,hlat⟩:=ajd hv
 unfold maxLen at hm
 have HN:=Lib.hid hnl
 have HLN:=Lib.hid hln
 clear h hnl hv hln
 have hn6:n≤6:=by have h1:params.length≤6:=HOK.out.len;have:=HN.out;omega
 have hrp:(Ty.mk bg cu jv mg).parts≤24:=HOK.out.res.2
 go_enter Tryz.func90,Tryz.ntmps90
 go_wp2_with fail
 obtain⟨w0,hw0⟩:∃ W,W=w.alloc (.cells #[.slice A n c,.int .i64 bg,.string cu,oq,ug,.bool async] 62):=⟨_,rfl⟩
 rw[← hw0]
 have bA:Blk w0 w.heap.size 62 #[.slice A n c,.int .i64 bg,.string cu,oq,ug,.bool async]:=by rw[hw0];exact Blk.new w _ _
 have hB0:Below w.heap.size w w0:=by rw[hw0];exact(Below.refl _ _).alloc (Nat.le_refl _) _
 clear hw0
 obtain⟨wi,hwi⟩:∃ W,W=w0.alloc (.cells #[] 9):=⟨_,rfl⟩
 rw[← hwi]
 have hBi:Below w.heap.size w wi:=by rw[hwi];exact hB0.alloc hB0.size _
 have bAi:Blk wi w.heap.size 62 #[.slice A n c,.int .i64 bg,.string cu,oq,ug,.bool async]:=by rw[hwi];exact bA.alloc _
 clear hwi bA hB0
 refine(azo ⟨bg,cu,jv,mg⟩ B [.int .i64 bg,.string cu,oq,ug] [] _ wi (Nat.le_trans hB hBi.size) (Ty.close_ (ab9.out.below (hBi.mono hB)) (ac6.out.below (hBi.mono hB))) HOK.out.res.1 (by simp only[List.length_nil];omega) (a4y _ _)).mono ?_
 rintro e wa ⟨ys0,va,rfl,hra,hma,hla,hba⟩
 have H0:Hid ((∀ y,y ∈ ys0↔y ∈ Ty.hN ⟨bg,cu,jv,mg⟩)∧ys0.length≤24):=by
  refine⟨fun y=>?_,by simp only[List.length_nil] at hla;omega⟩
  refine(hma y).trans ?_
  show(_∨_)↔_
  simp
 have HR0:=Lib.hid hra
 have hBa:=hBi.trans (hba.mono hBi.size)
 have bAa:=bAi.step hba
 clear hBi bAi hra hma hla hba
 go_wp2_with fail
 go_loopw [5,6] (fun out i wr=>∃ (k:Nat) (u:Value) (ys:List ByteArray),u=out∧k≤n∧i=.int .i64 k∧Hid ((∀ y,y ∈ ys↔y ∈ Ty.hN ⟨bg,cu,jv,mg⟩∨y ∈ (params.take k).flatMap fun p=>p.typ.hN)∧ys.length≤24+amx (params.take k))∧Hid (Rep wr wr.heap.size (.row 1 (ys.flatMap tu)) u)∧Below w.heap.size w wr∧Blk wr w.heap.size 62 #[.slice A n c,.int .i64 bg,.string cu,oq,ug,.bool async]) (fun _ i _=>n - (intOf i).toNat)
 case atStart=>exact⟨0,_,ys0,rfl,Nat.zero_le _,rfl,Lib.hid ⟨fun y=>by rw[H0.out.1];simp,by have:=H0.out.2;simp[amx];omega⟩,HR0,hBa,bAa⟩
 case round=>
  obtain⟨k,u,ys,rfl,hk,rfl,HP,HRR,hbr,bR⟩:=hrel
  clear hBa bAa HR0
  have ao1:wr.cell? ⟨w.heap.size,0,none⟩=some (.slice A n c):=bR.cell 0
  have hsz:=hbr.size
  by_cases hlt:k < n
  ·obtain⟨g,off,rfl,hg,hcell⟩:=hat (by omega)
   obtain⟨t,hx,hmem⟩:=xg HN.out hlt
   obtain⟨name,⟨iy,ji,og,um⟩⟩:=t
   have an3:wr.cell? ⟨g,off+k * 5,none⟩=some (.string name):=gq hbr (by omega) (hcell k 0 _ _ hx (by rw[Param.ay];rfl))
   have ak5:wr.cell? ⟨g,off+k * 5+1,none⟩=some (.int .i64 iy):=gq hbr (by omega) (hcell k 1 _ _ hx (by rw[Param.ay];rfl))
   have ak6:wr.cell? ⟨g,off+k * 5+2,none⟩=some (.string ji):=gq hbr (by omega) (hcell k 2 _ _ hx (by rw[Param.ay];rfl))
   obtain⟨aau,ajb,abd⟩:∃ u,wr.cell? ⟨g,off+k * 5+3,none⟩=some u∧Rep wr B (.row 1 (og.flatMap tu)) u:=ku hbr (by omega) hB (hcell k 3 _ _ hx (by rw[Param.ay];rfl))
   have acs:=Lib.hid abd
   clear abd
   obtain⟨abx,ak7,ace⟩:∃ u,wr.cell? ⟨g,off+k * 5+4,none⟩=some u∧Rep wr B (.row 4 (um.flatMap Ty.pd)) u:=ku hbr (by omega) hB (hcell k 4 _ _ hx (by rw[Param.ay];rfl))
   have adz:=Lib.hid ace
   clear ace
   obtain⟨abh,abj,abk,rfl⟩:=acs.out.form
   obtain⟨aci,acj,acn,rfl⟩:=adz.out.form
   have HX:=Lib.hid hx
   have HM:=Lib.hid hmem
   clear hx hmem
   clear hcell
   have hpk:=avf HX.out
   have hpl:=atb (fun p hp=>(HOK.out.par p hp).2) k
   have hok:=HOK.out.par _ HM.out
   simp only at hok hpk hpl
   have hz:ys.length+(Ty.mk iy ji og um).parts≤1073741824:=by have:=HP.out.2;omega
   have hcall:=azo ⟨iy,ji,og,um⟩ B [.int .i64 iy,.string ji,.slice abh abj abk,.slice aci acj acn] ys u wr (Nat.le_trans hB hbr.size) (Ty.close_ acs.out adz.out) hok.1 hz HRR.out
   have HC:=Lib.hid hcall
   have HPK:=Lib.hid hpk
   clear hcall hz hpl hpk hok
   go_wp2_with fail
   refine HC.out.mono ?_
   rintro e w1 ⟨ys1,v1,rfl,hr1,hm1,hl1,hb1⟩
   have bR1:=bR.step hb1
   have hB1:=hbr.trans (hb1.mono hbr.size)
   have HQ:Hid ((∀ y,y ∈ ys1↔y ∈ Ty.hN ⟨bg,cu,jv,mg⟩∨y ∈ (params.take (k+1)).flatMap fun p=>p.typ.hN)∧ys1.length≤24+amx (params.take (k+1))):=by
    refine⟨fun y=>?_,by have:=HP.out.2;have:=HPK.out;omega⟩
    refine(hm1 y).trans ?_
    show(_∨_)↔_
    rw[HP.out.1,akp HX.out,List.mem_append,or_assoc]
   have HR1:=Lib.hid hr1
   clear hr1 hm1 hl1
   go_wp2_with fail
   go_roundw
   case rel=>exact⟨k+1,_,ys1,rfl,by omega,by go_num,HQ,HR1,hB1,bR1⟩
   case measure=>simp[intOf];omega
  have hkn:k=n:=by omega
  have HT:Hid (params.take k=params):=List.take_of_length_le (by have:=HN.out;omega)
  have hpl:=atb (fun p hp=>(HOK.out.par p hp).2) k
  simp only at hpl
  have bk9:Hid (R=ys.all fun n=>res.any fun r=>decide (r=n)):=by
   show _=_
   rw[HR.out]
   refine(baw fun y=>?_).symm
   rw[HP.out.1,HT.out,ata,List.mem_append]
  obtain⟨YA,yn,yc,rfl,hyn,hym,blb⟩:=ajd HRR.out
  have hyl:yn≤168:=by have:=HP.out.2;omega
  have HYN:=Lib.hid hyn
  clear hyn hpl
  subst hkn
  go_wp2_with fail
  obtain⟨W,rfl⟩:∃ V,V=wr:=⟨_,rfl⟩
  go_loopw [7] (fun i ws=>∃ m:Nat,m≤yn∧i=.int .i64 m∧Hid (∀ (j:Nat) (t:ByteArray),j < m→ys[j]?=some t→(fun n=>!res.any fun r=>decide (r=n)) t=false)∧∃ q,ws=W.drewN q) (fun i _=>yn - (intOf i).toNat)
  case atStart=>exact⟨0,Nat.zero_le _,rfl,Lib.hid fun j t h=>absurd h (by omega),0,rfl⟩
  case round=>
   obtain⟨m,hm2,rfl,HM2,q,rfl⟩:=hrel
   by_cases hlt2:m < yn
   case neg=>
    have HF:Hid (R=true):=by
     show _=_
     rw[bk9.out]
     refine all_true fun j x hx=>?_
     have hj:=(List.getElem?_eq_some_iff.1 hx).1
     have:=HM2.out j x (by have:=HYN.out;omega) hx
     simpa using this
    go_wp2_with fail
    go_ret
    exact⟨ah HF.out.symm,below_drewN hbr _⟩
   obtain⟨yg,bo7,rfl,hyg,ba0⟩:=blb (by omega)
   obtain⟨y,hy,_⟩:=xg HYN.out hlt2
   have c_y:W.cell? ⟨yg,bo7+m,none⟩=some (.string y):=ba0 m y hy
   have HY:=Lib.hid hy
   clear hy ba0 blb
   go_wp2_with fail
   obtain⟨q0,hq0⟩:∃ z:Nat,z=q:=⟨_,rfl⟩
   go_loopw [8,9] (fun d j ws=>∃ (i:Nat) (D:Bool),i≤ln∧d=.bool D∧j=.int .i64 i∧Hid (D=(res.take i).any fun r=>decide (r=y))∧∃ q,ws=W.drewN q) (fun _ j _=>ln - (intOf j).toNat)
   case atStart=>exact⟨0,false,Nat.zero_le _,rfl,rfl,Lib.hid rfl,q0,by rw[hq0]⟩
   case round=>
    clear hq0
    obtain⟨i,D,hi,rfl,rfl,HD,q,rfl⟩:=hrel
    by_cases hlt3:i < ln
    case neg=>
     have HT3:Hid (res.take i=res):=List.take_of_length_le (by have:=HLN.out;omega)
     have HD2:Hid (D=res.any fun r=>decide (r=y)):=by show _=_;rw[HD.out,HT3.out]
     cases D
     case false=>
      have HF:Hid (R=false):=by show _=_;rw[bk9.out];exact all_false HY.out HD2.out.symm
      go_wp2_with fail
      go_ret
      exact⟨ah HF.out.symm,below_drewN hbr _⟩
     case true=>
      have HQ:=Lib.hid (afr HM2.out HY.out (by show(!_)=false;rw[← HD2.out];rfl))
      go_wp2_with fail
      go_roundw
      case rel=>exact⟨m+1,by omega,by go_num,HQ,_,rfl⟩
      case measure=>simp[intOf];omega
    obtain⟨lg,blc,rfl,hlg,ba1⟩:=hlat (by omega)
    obtain⟨r,hr,_⟩:=xg HLN.out hlt3
    have c_r:W.cell? ⟨lg,blc+i,none⟩=some (.string r):=(hbr.cell (p:=⟨lg,blc+i,none⟩) (by simp only;omega)).trans (ba1 i r hr)
    have HTK:Hid (((res.take (i+1)).any fun r=>decide (r=y))=(((res.take i).any fun r=>decide (r=y)) ||decide (r=y))):=by
     show _=_
     rw[List.take_add_one,hr,List.any_append]
     simp
    clear hr ba1 hlat
    cases D
    case true=>
     have HQ:Hid (true=(res.take (i+1)).any fun r=>decide (r=y)):=by show _=_;rw[HTK.out,← HD.out];rfl
     go_wp2_with fail
     go_quiet (fail)
     go_wp2_with fail
     go_roundw
     case rel=>exact⟨i+1,true,by omega,rfl,by go_num,HQ,_,rfl⟩
     case measure=>simp[intOf];omega
    case false=>
     by_cases hry:r=y
     ·have HQ:Hid (true=(res.take (i+1)).any fun r=>decide (r=y)):=by show _=_;rw[HTK.out,decide_eq_true hry,Bool.or_true]
      have heq:(r.toList ==y.toList)=true:=by rw[hry];simp
      clear hry
      go_wp2_with fail
      go_quiet (fail)
      go_wp2_with fail
      go_roundw
      case rel=>exact⟨i+1,true,by omega,rfl,by go_num,HQ,_,rfl⟩
      case measure=>simp[intOf];omega
     ·have HQ:Hid (false=(res.take (i+1)).any fun r=>decide (r=y)):=by show _=_;rw[HTK.out,decide_eq_false hry,← HD.out];rfl
      have heq:=ae0 hry
      clear hry
      go_wp2_with fail
      go_quiet (fail)
      go_wp2_with fail
      go_roundw
      case rel=>exact⟨i+1,false,by omega,rfl,by go_num,HQ,_,rfl⟩
      case measure=>simp[intOf];omega
end Go.Proofs.YtbafphecjijdmaaGreatDoor
