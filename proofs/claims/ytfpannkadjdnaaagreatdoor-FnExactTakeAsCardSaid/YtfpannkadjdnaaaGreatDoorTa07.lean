/-
  The laws' own helpers 'eq..' over the program's types (by program: tygen2.py, tyfam.py). (and 1 more texts)
-/
import Derived.Test.YtfpannkadjdnaaaGreatDoorTa04
import Derived.Test.YtfpannkadjdnaaaGreatDoorRows
import Derived.Test.YtfpannkadjdnaaaGreatDoorTa03
import Derived.Laws.BytesArg
namespace Go.Proofs.YtfpannkadjdnaaaGreatDoor
open Go.RowKit
set_option linter.all false
set_option maxRecDepth 100000
set_option maxHeartbeats 1600000 in
theorem avi {ts:List ByteArray}:EqR 30 (.row 1 (ts.flatMap aam)):=by
 intro B v u w hB h h';obtain⟨A,n,c,rfl,hnl,hm,hat⟩:=bf jo (by decide) h;obtain⟨A',n',c',rfl,ak2,_,hat'⟩:=bf jo (by decide) h';have hnn:n'=n:=by omega
 subst hnn;unfold maxLen at hm;have HN:=zqd hnl;clear h h' hnl ak2;go_enter Tryz.func30,Tryz.ntmps30
 go_wp2_with fail
 go_loopw [5] (fun i wr=>∃ k:Nat,k≤n'∧i=.int .i64 k∧Below w.heap.size w wr) (fun i _=>n' - (intOf i).toNat)
 case atStart=>exact⟨0,Nat.zero_le _,rfl,zqf _ _⟩
 case round=>
  obtain⟨k,hk,rfl,hbr⟩:=hrel;by_cases hlt:k < n'
  ·obtain⟨g,off,rfl,hg,hcell⟩:=hat (by omega)
   obtain⟨g',off',rfl,hg',hcell'⟩:=hat' (by omega);obtain⟨t,hx,hmem⟩:=uo HN.out hlt;have c0:wr.cell? ⟨g,off+k,none⟩=some (.string t):=ng hbr (by omega) (by have:=hcell k 0 _ _ hx rfl;simpa using this);have d0':wr.cell? ⟨g',off'+k,none⟩=some (.string t):=ng hbr (by omega) (by have:=hcell' k 0 _ _ hx rfl;simpa using this);have hlt':(k:Int) < (n':Int):=by omega
   have hgw:g < wr.heap.size:=by have:=hbr.size;omega
   have aof:g' < wr.heap.size:=by have:=hbr.size;omega
   clear hx hcell hcell' hmem;go_wp2_with fail
   go_quiet (fail)
   have hbn:=below_drewN hbr;clear hbr c0 d0';go_wp2_with fail
   go_roundw
   case rel=>exact⟨k+1,by omega,by go_num,hbn _⟩
   case measure=>simp[intOf];omega
  ·have hkn:k=n':=by omega
   subst hkn;go_wp2_with fail
   go_ret
   exact⟨rfl,hbr⟩
set_option maxHeartbeats 1600000 in
theorem ayr {ts:List Ty} (ih:∀ t ∈ ts,EqC 11 (Ty.pd t)):EqR 31 (.row 4 (ts.flatMap Ty.pd)):=by
 intro B v u w hB h h';obtain⟨A,n,c,rfl,hnl,hm,hat⟩:=bf Ty.ay (by decide) h;obtain⟨A',n',c',rfl,ak2,_,hat'⟩:=bf Ty.ay (by decide) h';have hnn:n'=n:=by omega
 subst hnn;unfold maxLen at hm;have HN:=zqd hnl;have HI:=zqd ih;clear ih;clear h h' hnl ak2;go_enter Tryz.func31,Tryz.ntmps31
 go_wp2_with fail
 go_loopw [5] (fun i wr=>∃ k:Nat,k≤n'∧i=.int .i64 k∧Below w.heap.size w wr) (fun i _=>n' - (intOf i).toNat)
 case atStart=>exact⟨0,Nat.zero_le _,rfl,zqf _ _⟩
 case round=>
  obtain⟨k,hk,rfl,hbr⟩:=hrel;by_cases hlt:k < n'
  ·obtain⟨g,off,rfl,hg,hcell⟩:=hat (by omega)
   obtain⟨g',off',rfl,hg',hcell'⟩:=hat' (by omega);obtain⟨t,hx,hmem⟩:=uo HN.out hlt;obtain⟨kind,name,labels,kids⟩:=t;have c0:wr.cell? ⟨g,off+k * 4,none⟩=some (.int .i64 kind):=ng hbr (by omega) (hcell k 0 _ _ hx (by rw[Ty.ji];rfl));have c1:wr.cell? ⟨g,off+k * 4+1,none⟩=some (.string name):=ng hbr (by omega) (hcell k 1 _ _ hx (by rw[Ty.ji];rfl));obtain⟨iy,c2,hr2⟩:∃ u,wr.cell? ⟨g,off+k * 4+2,none⟩=some u∧Rep wr B (.row 1 (labels.flatMap aam)) u:=xq hbr (by omega) hB (hcell k 2 _ _ hx (by rw[Ty.ji];rfl));have HR2:=zqd hr2;clear hr2;obtain⟨iw,c3,hr3⟩:∃ u,wr.cell? ⟨g,off+k * 4+3,none⟩=some u∧Rep wr B (.row 4 (kids.flatMap Ty.pd)) u:=xq hbr (by omega) hB (hcell k 3 _ _ hx (by rw[Ty.ji];rfl));have HR3:=zqd hr3;clear hr3;have d0':wr.cell? ⟨g',off'+k * 4,none⟩=some (.int .i64 kind):=ng hbr (by omega) (hcell' k 0 _ _ hx (by rw[Ty.ji];rfl));have d1':wr.cell? ⟨g',off'+k * 4+1,none⟩=some (.string name):=ng hbr (by omega) (hcell' k 1 _ _ hx (by rw[Ty.ji];rfl));obtain⟨aj6,d2',hr2'⟩:∃ u,wr.cell? ⟨g',off'+k * 4+2,none⟩=some u∧Rep wr B (.row 1 (labels.flatMap aam)) u:=xq hbr (by omega) hB (hcell' k 2 _ _ hx (by rw[Ty.ji];rfl));have bx4:=zqd hr2';clear hr2';obtain⟨agu,d3',ays⟩:∃ u,wr.cell? ⟨g',off'+k * 4+3,none⟩=some u∧Rep wr B (.row 4 (kids.flatMap Ty.pd)) u:=xq hbr (by omega) hB (hcell' k 3 _ _ hx (by rw[Ty.ji];rfl));have bcz:=zqd ays;clear ays;have hlt':(k:Int) < (n':Int):=by omega
   have hgw:g < wr.heap.size:=by have:=hbr.size;omega
   have aof:g' < wr.heap.size:=by have:=hbr.size;omega
   have HM:=zqd hmem;have HBW:=zqd (Nat.le_trans hB hbr.size);clear hx hcell hcell' hmem;go_wp2_with fail
   have HC:=zqd (HI.out _ HM.out B [.int .i64 kind,.string name,iy,iw] [.int .i64 kind,.string name,aj6,agu] wr.drew HBW.out (Ty.close_ HR2.out.drew HR3.out.drew) (Ty.close_ bx4.out.drew bcz.out.drew))
   go_region_held3 (fun w'=>w'.cell? ⟨g,off+k * 4,none⟩=some (.int .i64 kind)∧w'.cell? ⟨g,off+k * 4+1,none⟩=some (.string name)∧w'.cell? ⟨g,off+k * 4+2,none⟩=some (iy)∧w'.cell? ⟨g,off+k * 4+3,none⟩=some (iw)∧w'.cell? ⟨g',off'+k * 4,none⟩=some (.int .i64 kind)∧w'.cell? ⟨g',off'+k * 4+1,none⟩=some (.string name)∧w'.cell? ⟨g',off'+k * 4+2,none⟩=some (aj6)∧w'.cell? ⟨g',off'+k * 4+3,none⟩=some (agu))
    (first|go_keep|exact⟨(hbq.cell (p:=⟨g,off+k * 4,none⟩) hgw).trans c0,(hbq.cell (p:=⟨g,off+k * 4+1,none⟩) hgw).trans c1,(hbq.cell (p:=⟨g,off+k * 4+2,none⟩) hgw).trans c2,(hbq.cell (p:=⟨g,off+k * 4+3,none⟩) hgw).trans c3,(hbq.cell (p:=⟨g',off'+k * 4,none⟩) aof).trans d0',(hbq.cell (p:=⟨g',off'+k * 4+1,none⟩) aof).trans d1',(hbq.cell (p:=⟨g',off'+k * 4+2,none⟩) aof).trans d2',(hbq.cell (p:=⟨g',off'+k * 4+3,none⟩) aof).trans d3'⟩)
    (first|(go_at_call 11;refine HC.out.mono ?_;rintro e wq ⟨rfl,hbq⟩))
   have hbn:Below w.heap.size w wq:=hbr.drew.trans (hbq.mono hbr.size);clear hbq hbr c0 c1 c2 c3 d0' d1' d2' d3';go_wp2_with fail
   go_roundw
   case rel=>exact⟨k+1,by omega,by go_num,hbn⟩
   case measure=>simp[intOf];omega
  ·have hkn:k=n':=by omega
   subst hkn;go_wp2_with fail
   go_ret
   exact⟨rfl,hbr⟩
set_option maxHeartbeats 1600000 in
theorem a0u {kind:Int} {name:ByteArray} {labels:List ByteArray} {kids:List Ty} (ai5:EqR 30 (.row 1 (labels.flatMap aam))) (afq:EqR 31 (.row 4 (kids.flatMap Ty.pd))):EqC 11 (Ty.pd ⟨kind,name,labels,kids⟩):=by
 intro B cs us w hB h h';obtain⟨iy,iw,rfl,dh,dn⟩:=Ty.open_ h;obtain⟨aj6,agu,rfl,adp,aeh⟩:=Ty.open_ h';have pz:=zqd dh;have bc4:=zqd adp;clear dh adp;have pq:=zqd dn;have ayt:=zqd aeh;clear dn aeh;go_enter Tryz.func11,Tryz.ntmps11
 go_wp2_with fail
 obtain⟨w0,hw0⟩:∃ w0,w0=(w.alloc (.cells #[.int .i64 kind,.string name,iy,iw] 39)).alloc (.cells #[.int .i64 kind,.string name,aj6,agu] 39):=⟨_,rfl⟩;rw[← hw0];have bA:Blk w0 w.heap.size 39 #[.int .i64 kind,.string name,iy,iw]:=by rw[hw0];exact(Blk.new w _ _).alloc _
 have bB:=zn21 hw0;have hB0:Below w.heap.size w w0:=by rw[hw0];exact((zqf _ _).alloc (zql _) _).alloc (by simp) _
 clear hw0;refine(ai5 B iy aj6 _ (by have:=hB0.size;omega) (pz.out.below (hB0.mono hB)) (bc4.out.below (hB0.mono hB))).mono ?_;rintro e w1 ⟨rfl,hb1⟩;have hB1:=hB0.trans (hb1.mono hB0.size);replace bA:=bA.step hb1;replace bB:=bB.step hb1;have aan:w1.cell? ⟨w.heap.size,3,none⟩=some (iw):=bA.cell 3;have b33:w1.cell? ⟨w.heap.size+1,3,none⟩=some (agu):=bB.cell 3;go_wp2_with fail
 refine(afq B iw agu _ (by have:=hB1.size;omega) (pq.out.below (hB1.mono hB)) (ayt.out.below (hB1.mono hB))).mono ?_;rintro e w2 ⟨rfl,hb2⟩;have hB2:=hB1.trans (hb2.mono hB1.size);replace bA:=bA.step hb2;replace bB:=bB.step hb2;go_wp2_with fail
 go_ret
 exact⟨rfl,hB2⟩
mutual
theorem ao5:∀ t:Ty,EqC 11 (Ty.pd t)
 | .mk kind name labels kids=>a0u avi (ayr (aue kids))
theorem aue:∀ ts:List Ty,∀ t ∈ ts,EqC 11 (Ty.pd t)
 | [],x,hx=>absurd hx (by simp)
 | t ::r,x,hx=>(List.mem_cons.1 hx).elim (fun e=>e ▸ ao5 t) (fun h=>aue r x h)
end
set_option maxHeartbeats 1600000 in
theorem axj {ts:List Val} (ih:∀ t ∈ ts,EqC 10 (Val.pd t)):EqR 29 (.row 4 (ts.flatMap Val.pd)):=by
 intro B v u w hB h h';obtain⟨A,n,c,rfl,hnl,hm,hat⟩:=bf Val.ay (by decide) h;obtain⟨A',n',c',rfl,ak2,_,hat'⟩:=bf Val.ay (by decide) h';have hnn:n'=n:=by omega
 subst hnn;unfold maxLen at hm;have HN:=zqd hnl;have HI:=zqd ih;clear ih;clear h h' hnl ak2;go_enter Tryz.func29,Tryz.ntmps29
 go_wp2_with fail
 go_loopw [5] (fun i wr=>∃ k:Nat,k≤n'∧i=.int .i64 k∧Below w.heap.size w wr) (fun i _=>n' - (intOf i).toNat)
 case atStart=>exact⟨0,Nat.zero_le _,rfl,zqf _ _⟩
 case round=>
  obtain⟨k,hk,rfl,hbr⟩:=hrel;by_cases hlt:k < n'
  ·obtain⟨g,off,rfl,hg,hcell⟩:=hat (by omega)
   obtain⟨g',off',rfl,hg',hcell'⟩:=hat' (by omega);obtain⟨t,hx,hmem⟩:=uo HN.out hlt;obtain⟨kind,num,text,kids⟩:=t;have c0:wr.cell? ⟨g,off+k * 4,none⟩=some (.int .i64 kind):=ng hbr (by omega) (hcell k 0 _ _ hx (by rw[Val.ji];rfl));have c1:wr.cell? ⟨g,off+k * 4+1,none⟩=some (.int .i64 num):=ng hbr (by omega) (hcell k 1 _ _ hx (by rw[Val.ji];rfl));have c2:wr.cell? ⟨g,off+k * 4+2,none⟩=some (.string text):=ng hbr (by omega) (hcell k 2 _ _ hx (by rw[Val.ji];rfl));obtain⟨iw,c3,hr3⟩:∃ u,wr.cell? ⟨g,off+k * 4+3,none⟩=some u∧Rep wr B (.row 4 (kids.flatMap Val.pd)) u:=xq hbr (by omega) hB (hcell k 3 _ _ hx (by rw[Val.ji];rfl));have HR3:=zqd hr3;clear hr3;have d0':wr.cell? ⟨g',off'+k * 4,none⟩=some (.int .i64 kind):=ng hbr (by omega) (hcell' k 0 _ _ hx (by rw[Val.ji];rfl));have d1':wr.cell? ⟨g',off'+k * 4+1,none⟩=some (.int .i64 num):=ng hbr (by omega) (hcell' k 1 _ _ hx (by rw[Val.ji];rfl));have d2':wr.cell? ⟨g',off'+k * 4+2,none⟩=some (.string text):=ng hbr (by omega) (hcell' k 2 _ _ hx (by rw[Val.ji];rfl));obtain⟨agu,d3',ays⟩:∃ u,wr.cell? ⟨g',off'+k * 4+3,none⟩=some u∧Rep wr B (.row 4 (kids.flatMap Val.pd)) u:=xq hbr (by omega) hB (hcell' k 3 _ _ hx (by rw[Val.ji];rfl));have bcz:=zqd ays;clear ays;have hlt':(k:Int) < (n':Int):=by omega
   have hgw:g < wr.heap.size:=by have:=hbr.size;omega
   have aof:g' < wr.heap.size:=by have:=hbr.size;omega
   have HM:=zqd hmem;have HBW:=zqd (Nat.le_trans hB hbr.size);clear hx hcell hcell' hmem;go_wp2_with fail
   have HC:=zqd (HI.out _ HM.out B [.int .i64 kind,.int .i64 num,.string text,iw] [.int .i64 kind,.int .i64 num,.string text,agu] wr.drew HBW.out (Val.close_ HR3.out.drew) (Val.close_ bcz.out.drew))
   go_region_held3 (fun w'=>w'.cell? ⟨g,off+k * 4,none⟩=some (.int .i64 kind)∧w'.cell? ⟨g,off+k * 4+1,none⟩=some (.int .i64 num)∧w'.cell? ⟨g,off+k * 4+2,none⟩=some (.string text)∧w'.cell? ⟨g,off+k * 4+3,none⟩=some (iw)∧w'.cell? ⟨g',off'+k * 4,none⟩=some (.int .i64 kind)∧w'.cell? ⟨g',off'+k * 4+1,none⟩=some (.int .i64 num)∧w'.cell? ⟨g',off'+k * 4+2,none⟩=some (.string text)∧w'.cell? ⟨g',off'+k * 4+3,none⟩=some (agu))
    (first|go_keep|exact⟨(hbq.cell (p:=⟨g,off+k * 4,none⟩) hgw).trans c0,(hbq.cell (p:=⟨g,off+k * 4+1,none⟩) hgw).trans c1,(hbq.cell (p:=⟨g,off+k * 4+2,none⟩) hgw).trans c2,(hbq.cell (p:=⟨g,off+k * 4+3,none⟩) hgw).trans c3,(hbq.cell (p:=⟨g',off'+k * 4,none⟩) aof).trans d0',(hbq.cell (p:=⟨g',off'+k * 4+1,none⟩) aof).trans d1',(hbq.cell (p:=⟨g',off'+k * 4+2,none⟩) aof).trans d2',(hbq.cell (p:=⟨g',off'+k * 4+3,none⟩) aof).trans d3'⟩)
    (first|(go_at_call 10;refine HC.out.mono ?_;rintro e wq ⟨rfl,hbq⟩))
   have hbn:Below w.heap.size w wq:=hbr.drew.trans (hbq.mono hbr.size);clear hbq hbr c0 c1 c2 c3 d0' d1' d2' d3';go_wp2_with fail
   go_roundw
   case rel=>exact⟨k+1,by omega,by go_num,hbn⟩
   case measure=>simp[intOf];omega
  ·have hkn:k=n':=by omega
   subst hkn;go_wp2_with fail
   go_ret
   exact⟨rfl,hbr⟩
set_option maxHeartbeats 1600000 in
theorem ayu {kind:Int} {num:Int} {text:ByteArray} {kids:List Val} (afq:EqR 29 (.row 4 (kids.flatMap Val.pd))):EqC 10 (Val.pd ⟨kind,num,text,kids⟩):=by
 intro B cs us w hB h h';obtain⟨iw,rfl,dn⟩:=Val.open_ h;obtain⟨agu,rfl,aeh⟩:=Val.open_ h';have pq:=zqd dn;have ayt:=zqd aeh;clear dn aeh;go_enter Tryz.func10,Tryz.ntmps10
 go_wp2_with fail
 obtain⟨w0,hw0⟩:∃ w0,w0=(w.alloc (.cells #[.int .i64 kind,.int .i64 num,.string text,iw] 33)).alloc (.cells #[.int .i64 kind,.int .i64 num,.string text,agu] 33):=⟨_,rfl⟩;rw[← hw0];have bA:Blk w0 w.heap.size 33 #[.int .i64 kind,.int .i64 num,.string text,iw]:=by rw[hw0];exact(Blk.new w _ _).alloc _
 have bB:=zn21 hw0;have hB0:Below w.heap.size w w0:=by rw[hw0];exact((zqf _ _).alloc (zql _) _).alloc (by simp) _
 clear hw0;refine(afq B iw agu _ (by have:=hB0.size;omega) (pq.out.below (hB0.mono hB)) (ayt.out.below (hB0.mono hB))).mono ?_;rintro e w1 ⟨rfl,hb1⟩;have hB1:=hB0.trans (hb1.mono hB0.size);replace bA:=bA.step hb1;replace bB:=bB.step hb1;go_wp2_with fail
 go_ret
 exact⟨rfl,hB1⟩
mutual
theorem ajw:∀ t:Val,EqC 10 (Val.pd t)
 | .mk kind num text kids=>ayu (axj (ar7 kids))
theorem ar7:∀ ts:List Val,∀ t ∈ ts,EqC 10 (Val.pd t)
 | [],x,hx=>absurd hx (by simp)
 | t ::r,x,hx=>(List.mem_cons.1 hx).elim (fun e=>e ▸ ajw t) (fun h=>ar7 r x h)
end
end Go.Proofs.YtfpannkadjdnaaaGreatDoor
namespace Go.Proofs.YtfpannkadjdnaaaGreatDoor
open Go.RowKit
set_option linter.all false
theorem boy (w:World) (xs:List Int) (n:Nat) (C:Array Value) (hn:xs.length=n) (hC:C=(xs.map (Value.int .u8)).toArray):
  (convert 94 9 (.slice (some ⟨w.heap.size,0,none⟩) n n)).run Tryz.prog (w.alloc (.cells C 5))=.ok (.string (strOfNums xs)) (w.alloc (.cells C 5)):=by
 subst hC;refine run_convert_bytes_arg _ _ _ Tryz.underlying94 Tryz.underlying5 _ 0 n n xs hn (fun i hi=>?_) _ Tryz.underlying9;refine(Blk.cell (Blk.new w 5 _) (0+i)).trans ?_;have:i < xs.length:=by omega
 simp[this]
theorem ar8 (a b:List Int):strOfNums a ++strOfNums b=strOfNums (a ++b):=by
 apply ByteArray.ext;simp[strOfNums,ByteArray.data_append]
theorem amv (a:List Int):(strOfNums a).size=a.length:=by simp[strOfNums,ByteArray.size]
set_option maxHeartbeats 800000 in
theorem ak3 (k:Int) (w:World) (h0:0≤k) (h1:k≤1099511627776):
  Calls Tryz.prog 48 #[.int .i64 k] w fun e w'=>e=.returned (.string (markT k))∧Below w.heap.size w w':=by
 by_cases hk:k≤0
 ·have HK:Hid (markT k=strOfNums [109,48]):=by show _=_;rw[markT,if_pos hk]
  go_enter Tryz.func48,Tryz.ntmps48
  go_wp2_with fail
  go_ret
  exact⟨a1a HK.out.symm,zqf _ _⟩
 ·obtain⟨n,rfl⟩:=Int.eq_ofNat_of_zero_le h0
  have HK:Hid (markT (n:Int)=strOfNums (109 ::aod n [])):=by show _=_;rw[markT,if_neg hk];rfl
  have hn:0 < n:=by omega
  have hn1:n≤1099511627776:=by omega
  clear h0 h1;go_enter Tryz.func48,Tryz.ntmps48
  go_wp2_with fail
  go_loopw [0,3] (fun kk o wr=>∃ (m:Nat) (l:List Int),kk=.int .i64 m∧o=.string (strOfNums l)∧Hid (aod m l=aod n [])∧l.length+m≤n∧Below w.heap.size w wr) (fun kk _ _=>(intOf kk).toNat)
  case atStart=>exact⟨n,[],rfl,rfl,zqd rfl,by simp,zqf _ _⟩
  case round=>
   obtain⟨m,l,rfl,rfl,HD,hl,hb⟩:=hrel;have hsz:=amv l;have HZ:=zqd hsz;by_cases hm:0 < m
   ·have k1:=boy wr [48+(m:Int) % 10] 1 #[.int .u8 (48+(m:Int) % 10)] rfl rfl
    have e1:IntKind.u8.wrap (48+(m:Int) % 10)=48+(m:Int) % 10:=by rw[IntKind.wrap_u8];omega
    have hs1:(strOfNums [48+(m:Int) % 10]).size≤4:=by rw[amv];simp
    have hs2:(strOfNums l).size≤1099511627776:=by rw[amv];omega
    clear hsz;go_wp2_with fail
    go_roundw
    case rel=>exact⟨m / 10,(48+(m:Int) % 10) ::l,by go_num,by rw[ar8];rfl,zqd (by rw[← HD.out,a4t hm l];simp),by simp;omega,(hb.alloc hb.size _)⟩
    case measure=>simp[intOf];omega
   ·have hm0:m=0:=by omega
    subst hm0;have hs2:(strOfNums l).size≤1099511627776:=by rw[amv];omega
    clear hsz;go_wp2_with fail
    go_ret
    refine⟨a1a ?_,hb⟩;rw[HK.out,← HD.out,a4s,show(109:Int) ::l=[109] ++l from rfl,← ar8];rfl
end Go.Proofs.YtfpannkadjdnaaaGreatDoor
