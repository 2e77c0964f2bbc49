/-
  specplain (by program: gen_shape.py).
-/
import Derived.Test.YtfpannkadjdnaaaGreatDoorTa16
namespace Go.Proofs.YtfpannkadjdnaaaGreatDoor
open Go.RowKit
set_option linter.all false
set_option maxHeartbeats 4000000 in
theorem anf {kind:Int} {name:ByteArray} {labels:List ByteArray} {kids:List Ty} {B n n' c c':Nat} {A A':Option Addr} {w:World} (HT:Hid (aja B n n' c c' A A' name labels kids w)) (hp:Plain kind) (hbad:¬ name.size=0∨¬ n'=0):Calls Tryz.prog 87 #[.agg #[.int .i64 kind,.string name,.slice A' n' c',.slice A n c]] w fun e w'=>e=.returned (.bool (aag ⟨kind,name,labels,kids⟩))∧Below w.heap.size w w':=by
 have hn:=HT.out.hn;have hn':=HT.out.hn';have H16:=zqd hp.lab;have k20:=hp.n20;have k21:=hp.n21;have hlab:=hp.lab
 have HF:Hid (aag ⟨kind,name,labels,kids⟩=false):=by
  show _=_;have g2:=HT.out.HN';rw[lu,show named kind=false by simp[named,k20,k21],hlab];rcases hbad with h|h
  ·simp[h]
  ·rw[decide_eq_false (show ¬ labels.length=0 by omega)];simp
 clear hp hlab;by_cases hl:n'=0
 ·have hz:¬ name.size=0:=hbad.resolve_right (fun h=>h hl)
  have hE:=adw hz;have hE2:=adl hz;subst hl;clear hz hbad;go_enter Tryz.func87,Tryz.ntmps87
  go_wp2_with fail
  obtain⟨w0,hw0⟩:=zqe w 39 #[.int .i64 kind,.string name,.slice A' 0 c',.slice A n c];rw[← hw0];have bA:=zqn hw0;have hB0:=zqb hw0;clear hw0;obtain⟨aby,abz,ab1,abt⟩:=zc4 bA;refine(oz _ _ _ _).mono ?_;rintro e w' ⟨rfl,rfl⟩;rw[H16.out];go_wp2_with fail
  go_ret
  exact⟨au HF.out.symm,hB0⟩
 ·have hl1:0 < n':=by omega
  clear hbad hl;by_cases hz:name.size=0
  ·obtain rfl:=ad3 hz
   clear hz;go_enter Tryz.func87,Tryz.ntmps87
   go_wp2_with fail
   obtain⟨w0,hw0⟩:=zqe w 39 #[.int .i64 kind,.string {data:=#[]},.slice A' n' c',.slice A n c];rw[← hw0];have bA:=zqn hw0;have hB0:=zqb hw0;clear hw0;obtain⟨aby,abz,ab1,abt⟩:=zc4 bA;refine(oz _ _ _ _).mono ?_;rintro e w' ⟨rfl,rfl⟩;rw[H16.out];go_wp2_with fail
   go_ret
   exact⟨au HF.out.symm,hB0⟩
  ·have hE:=adw hz
   have hE2:=adl hz;clear hz;go_enter Tryz.func87,Tryz.ntmps87
   go_wp2_with fail
   obtain⟨w0,hw0⟩:=zqe w 39 #[.int .i64 kind,.string name,.slice A' n' c',.slice A n c];rw[← hw0];have bA:=zqn hw0;have hB0:=zqb hw0;clear hw0;obtain⟨aby,abz,ab1,abt⟩:=zc4 bA;refine(oz _ _ _ _).mono ?_;rintro e w' ⟨rfl,rfl⟩;rw[H16.out];go_wp2_with fail
   go_ret
   exact⟨au HF.out.symm,hB0⟩
set_option maxHeartbeats 6000000 in
theorem as2 {kind:Int} {name:ByteArray} {labels:List ByteArray} {kids:List Ty} {B n n' c c':Nat} {A A':Option Addr} {w:World} (HT:Hid (aja B n n' c c' A A' name labels kids w)) (hp:Plain kind) (hz:name.size=0) (hl:n'=0):Calls Tryz.prog 87 #[.agg #[.int .i64 kind,.string name,.slice A' n' c',.slice A n c]] w fun e w'=>e=.returned (.bool (aag ⟨kind,name,labels,kids⟩))∧Below w.heap.size w w':=by
 have hn:=HT.out.hn;have H16:=zqd hp.lab;obtain rfl:=ad3 hz;subst hl;clear hz;have hlab:=hp.lab;have k20:=hp.n20;have k21:=hp.n21;clear hp;rcases ase kind with rfl|rfl|rfl|rfl|rfl|rfl|⟨k12,k13,k22,k23,k14,k15⟩
 ·clear hlab k20 k21
  by_cases hk0:n=1
  ·have hkk:((n:Int) ==1)=true:=by simp;omega
   cases hu:aa4 kids
   ·have hx0:=True.intro
    have HF:Hid (aag ⟨12,{data:=#[]},labels,kids⟩=false):=by
     show _=_;have g1:=HT.out.HN;have g2:=HT.out.HN';rw[lu];have g0:({data:=#[]}:ByteArray).size=0:=rfl;have g3:labels.length=0:=g2.symm;clear g2
     simp_all [named,inB,jk]
    have HU:=zqd hu;clear hu hk0 hx0;go_enter Tryz.func87,Tryz.ntmps87
    go_wp2_with fail
    obtain⟨w0,hw0⟩:=zqe w 39 #[.int .i64 12,.string {data:=#[]},.slice A' 0 c',.slice A n c];rw[← hw0];have bA:=zqn hw0;have hB0:=zqb hw0;clear hw0;obtain⟨aby,abz,ab1,abt⟩:=zc4 bA;refine(oz _ _ _ _).mono ?_;rintro e w' ⟨rfl,rfl⟩;rw[H16.out];go_wp2_with fail
    refine(aga ⟨12,{data:=#[]},labels,kids⟩ (HT.out.c (kind:=0) hB0).1 (HT.out.c hB0).2).mono ?_;rintro e w1 ⟨rfl,hb1⟩;rw[show aa4 (Ty.kids ⟨12,{data:=#[]},labels,kids⟩)=_ from HU.out];have hB1:=hB0.trans (hb1.mono hB0.size);replace bA:=bA.step hb1;obtain⟨aap,aaq,aar,aan⟩:=zc4 bA;go_wp2_with fail
    go_ret
    exact⟨au HF.out.symm,hB1⟩
   ·have hx0:=True.intro
    have HF:Hid (aag ⟨12,{data:=#[]},labels,kids⟩=true):=by
     show _=_;have g1:=HT.out.HN;have g2:=HT.out.HN';rw[lu];have g0:({data:=#[]}:ByteArray).size=0:=rfl;have g3:labels.length=0:=g2.symm;clear g2
     simp_all [named,inB,jk]
    have HU:=zqd hu;clear hu hk0 hx0;go_enter Tryz.func87,Tryz.ntmps87
    go_wp2_with fail
    obtain⟨w0,hw0⟩:=zqe w 39 #[.int .i64 12,.string {data:=#[]},.slice A' 0 c',.slice A n c];rw[← hw0];have bA:=zqn hw0;have hB0:=zqb hw0;clear hw0;obtain⟨aby,abz,ab1,abt⟩:=zc4 bA;refine(oz _ _ _ _).mono ?_;rintro e w' ⟨rfl,rfl⟩;rw[H16.out];go_wp2_with fail
    refine(aga ⟨12,{data:=#[]},labels,kids⟩ (HT.out.c (kind:=0) hB0).1 (HT.out.c hB0).2).mono ?_;rintro e w1 ⟨rfl,hb1⟩;rw[show aa4 (Ty.kids ⟨12,{data:=#[]},labels,kids⟩)=_ from HU.out];have hB1:=hB0.trans (hb1.mono hB0.size);replace bA:=bA.step hb1;obtain⟨aap,aaq,aar,aan⟩:=zc4 bA;go_wp2_with fail
    go_ret
    exact⟨au HF.out.symm,hB1⟩
  ·have hkk:((n:Int) ==1)=false:=by simp;omega
   have HF:Hid (aag ⟨12,{data:=#[]},labels,kids⟩=false):=by
    show _=_;have g1:=HT.out.HN;have g2:=HT.out.HN';rw[lu];have g0:({data:=#[]}:ByteArray).size=0:=rfl;have g3:labels.length=0:=g2.symm;clear g2
    simp_all [named,inB,jk]
   clear hk0;go_enter Tryz.func87,Tryz.ntmps87
   go_wp2_with fail
   obtain⟨w0,hw0⟩:=zqe w 39 #[.int .i64 12,.string {data:=#[]},.slice A' 0 c',.slice A n c];rw[← hw0];have bA:=zqn hw0;have hB0:=zqb hw0;clear hw0;obtain⟨aby,abz,ab1,abt⟩:=zc4 bA;refine(oz _ _ _ _).mono ?_;rintro e w' ⟨rfl,rfl⟩;rw[H16.out];go_wp2_with fail
   go_ret
   exact⟨au HF.out.symm,hB0⟩
 ·clear hlab k20 k21
  by_cases hk0:n=1
  ·have hkk:((n:Int) ==1)=true:=by simp;omega
   cases hu:aa4 kids
   ·have hx0:=True.intro
    have HF:Hid (aag ⟨13,{data:=#[]},labels,kids⟩=false):=by
     show _=_;have g1:=HT.out.HN;have g2:=HT.out.HN';rw[lu];have g0:({data:=#[]}:ByteArray).size=0:=rfl;have g3:labels.length=0:=g2.symm;clear g2
     simp_all [named,inB,jk]
    have HU:=zqd hu;clear hu hk0 hx0;go_enter Tryz.func87,Tryz.ntmps87
    go_wp2_with fail
    obtain⟨w0,hw0⟩:=zqe w 39 #[.int .i64 13,.string {data:=#[]},.slice A' 0 c',.slice A n c];rw[← hw0];have bA:=zqn hw0;have hB0:=zqb hw0;clear hw0;obtain⟨aby,abz,ab1,abt⟩:=zc4 bA;refine(oz _ _ _ _).mono ?_;rintro e w' ⟨rfl,rfl⟩;rw[H16.out];go_wp2_with fail
    refine(aga ⟨13,{data:=#[]},labels,kids⟩ (HT.out.c (kind:=0) hB0).1 (HT.out.c hB0).2).mono ?_;rintro e w1 ⟨rfl,hb1⟩;rw[show aa4 (Ty.kids ⟨13,{data:=#[]},labels,kids⟩)=_ from HU.out];have hB1:=hB0.trans (hb1.mono hB0.size);replace bA:=bA.step hb1;obtain⟨aap,aaq,aar,aan⟩:=zc4 bA;go_wp2_with fail
    go_ret
    exact⟨au HF.out.symm,hB1⟩
   ·have hx0:=True.intro
    have HF:Hid (aag ⟨13,{data:=#[]},labels,kids⟩=true):=by
     show _=_;have g1:=HT.out.HN;have g2:=HT.out.HN';rw[lu];have g0:({data:=#[]}:ByteArray).size=0:=rfl;have g3:labels.length=0:=g2.symm;clear g2
     simp_all [named,inB,jk]
    have HU:=zqd hu;clear hu hk0 hx0;go_enter Tryz.func87,Tryz.ntmps87
    go_wp2_with fail
    obtain⟨w0,hw0⟩:=zqe w 39 #[.int .i64 13,.string {data:=#[]},.slice A' 0 c',.slice A n c];rw[← hw0];have bA:=zqn hw0;have hB0:=zqb hw0;clear hw0;obtain⟨aby,abz,ab1,abt⟩:=zc4 bA;refine(oz _ _ _ _).mono ?_;rintro e w' ⟨rfl,rfl⟩;rw[H16.out];go_wp2_with fail
    refine(aga ⟨13,{data:=#[]},labels,kids⟩ (HT.out.c (kind:=0) hB0).1 (HT.out.c hB0).2).mono ?_;rintro e w1 ⟨rfl,hb1⟩;rw[show aa4 (Ty.kids ⟨13,{data:=#[]},labels,kids⟩)=_ from HU.out];have hB1:=hB0.trans (hb1.mono hB0.size);replace bA:=bA.step hb1;obtain⟨aap,aaq,aar,aan⟩:=zc4 bA;go_wp2_with fail
    go_ret
    exact⟨au HF.out.symm,hB1⟩
  ·have hkk:((n:Int) ==1)=false:=by simp;omega
   have HF:Hid (aag ⟨13,{data:=#[]},labels,kids⟩=false):=by
    show _=_;have g1:=HT.out.HN;have g2:=HT.out.HN';rw[lu];have g0:({data:=#[]}:ByteArray).size=0:=rfl;have g3:labels.length=0:=g2.symm;clear g2
    simp_all [named,inB,jk]
   clear hk0;go_enter Tryz.func87,Tryz.ntmps87
   go_wp2_with fail
   obtain⟨w0,hw0⟩:=zqe w 39 #[.int .i64 13,.string {data:=#[]},.slice A' 0 c',.slice A n c];rw[← hw0];have bA:=zqn hw0;have hB0:=zqb hw0;clear hw0;obtain⟨aby,abz,ab1,abt⟩:=zc4 bA;refine(oz _ _ _ _).mono ?_;rintro e w' ⟨rfl,rfl⟩;rw[H16.out];go_wp2_with fail
   go_ret
   exact⟨au HF.out.symm,hB0⟩
 ·clear hlab k20 k21
  by_cases hk0:n=1
  ·have hkk:((n:Int) ==1)=true:=by simp;omega
   obtain⟨t,ht⟩:∃ t,kids=[t]:=by have g1:=HT.out.HN;rw[hk0] at g1;exact List.length_eq_one_iff.1 g1.symm
   cases hu:t.has 21 21
   ·have hx0:=True.intro
    have HF:Hid (aag ⟨22,{data:=#[]},labels,kids⟩=true):=by
     show _=_;have g1:=HT.out.HN;have g2:=HT.out.HN';rw[lu];have g0:({data:=#[]}:ByteArray).size=0:=rfl;have g3:labels.length=0:=g2.symm;clear g2;clear g1
     simp_all [named,inB,jk]
    have HU:=zqd hu;have hxk:kids[0]?=some t:=by rw[ht];rfl
    clear hu hx0 ht;obtain⟨g,off,rfl,hg,hcell⟩:=ahn Ty.ay (by decide) HT.out.RK (by omega);have hpos:0 < n:=by omega
    clear hk0;obtain⟨kind2,name2,aa5,aa1⟩:=t;have hHB:=HT.out.hB;go_enter Tryz.func87,Tryz.ntmps87
    go_wp2_with fail
    obtain⟨w0,hw0⟩:=zqe w 39 #[.int .i64 22,.string {data:=#[]},.slice A' 0 c',.slice (some ⟨g,off,none⟩) n c];rw[← hw0];have bA:=zqn hw0;have hB0:=zqb hw0;clear hw0;obtain⟨aby,abz,ab1,abt⟩:=zc4 bA;have c0:w0.cell? ⟨g,off,none⟩=some (.int .i64 kind2):=by have:=ng (B:=B) hB0 (by omega) (hcell 0 0 _ _ hxk (by rw[Ty.ji];rfl));simpa using this
    have c1:w0.cell? ⟨g,off+1,none⟩=some (.string name2):=by have:=ng (B:=B) hB0 (by omega) (hcell 0 1 _ _ hxk (by rw[Ty.ji];rfl));simpa using this
    obtain⟨adf,c2',r2⟩:∃ u,w0.cell? ⟨g,off+2,none⟩=some u∧Rep w0 B (.row 1 (aa5.flatMap aam)) u:=by have:=xq (B:=B) hB0 (by omega) hHB (hcell 0 2 _ _ hxk (by rw[Ty.ji];rfl));simpa using this
    obtain⟨ad1,c3',r3⟩:∃ u,w0.cell? ⟨g,off+3,none⟩=some u∧Rep w0 B (.row 4 (aa1.flatMap Ty.pd)) u:=by have:=xq (B:=B) hB0 (by omega) hHB (hcell 0 3 _ _ hxk (by rw[Ty.ji];rfl));simpa using this
    have R2:=zqd r2;have R3:=zqd r3;have aph:=zqd hcell;clear r2 r3 hcell;refine(oz _ _ _ _).mono ?_;rintro e w' ⟨rfl,rfl⟩;rw[H16.out];go_wp2_with fail
    refine(al0 21 21 ⟨kind2,name2,aa5,aa1⟩ B [.int .i64 kind2,.string name2,adf,ad1] _ (Nat.le_trans hHB hB0.size) (Ty.close_ R2.out R3.out)).mono ?_;rintro e w1 ⟨rfl,hb1⟩;rw[HU.out];have hB1:=hB0.trans (hb1.mono hB0.size);replace bA:=bA.step hb1;obtain⟨aap,aaq,aar,aan⟩:=zc4 bA;go_wp2_with fail
    go_ret
    exact⟨au HF.out.symm,hB1⟩
   ·have hx0:=True.intro
    have HF:Hid (aag ⟨22,{data:=#[]},labels,kids⟩=false):=by
     show _=_;have g1:=HT.out.HN;have g2:=HT.out.HN';rw[lu];have g0:({data:=#[]}:ByteArray).size=0:=rfl;have g3:labels.length=0:=g2.symm;clear g2;clear g1
     simp_all [named,inB,jk]
    have HU:=zqd hu;have hxk:kids[0]?=some t:=by rw[ht];rfl
    clear hu hx0 ht;obtain⟨g,off,rfl,hg,hcell⟩:=ahn Ty.ay (by decide) HT.out.RK (by omega);have hpos:0 < n:=by omega
    clear hk0;obtain⟨kind2,name2,aa5,aa1⟩:=t;have hHB:=HT.out.hB;go_enter Tryz.func87,Tryz.ntmps87
    go_wp2_with fail
    obtain⟨w0,hw0⟩:=zqe w 39 #[.int .i64 22,.string {data:=#[]},.slice A' 0 c',.slice (some ⟨g,off,none⟩) n c];rw[← hw0];have bA:=zqn hw0;have hB0:=zqb hw0;clear hw0;obtain⟨aby,abz,ab1,abt⟩:=zc4 bA;have c0:w0.cell? ⟨g,off,none⟩=some (.int .i64 kind2):=by have:=ng (B:=B) hB0 (by omega) (hcell 0 0 _ _ hxk (by rw[Ty.ji];rfl));simpa using this
    have c1:w0.cell? ⟨g,off+1,none⟩=some (.string name2):=by have:=ng (B:=B) hB0 (by omega) (hcell 0 1 _ _ hxk (by rw[Ty.ji];rfl));simpa using this
    obtain⟨adf,c2',r2⟩:∃ u,w0.cell? ⟨g,off+2,none⟩=some u∧Rep w0 B (.row 1 (aa5.flatMap aam)) u:=by have:=xq (B:=B) hB0 (by omega) hHB (hcell 0 2 _ _ hxk (by rw[Ty.ji];rfl));simpa using this
    obtain⟨ad1,c3',r3⟩:∃ u,w0.cell? ⟨g,off+3,none⟩=some u∧Rep w0 B (.row 4 (aa1.flatMap Ty.pd)) u:=by have:=xq (B:=B) hB0 (by omega) hHB (hcell 0 3 _ _ hxk (by rw[Ty.ji];rfl));simpa using this
    have R2:=zqd r2;have R3:=zqd r3;have aph:=zqd hcell;clear r2 r3 hcell;refine(oz _ _ _ _).mono ?_;rintro e w' ⟨rfl,rfl⟩;rw[H16.out];go_wp2_with fail
    refine(al0 21 21 ⟨kind2,name2,aa5,aa1⟩ B [.int .i64 kind2,.string name2,adf,ad1] _ (Nat.le_trans hHB hB0.size) (Ty.close_ R2.out R3.out)).mono ?_;rintro e w1 ⟨rfl,hb1⟩;rw[HU.out];have hB1:=hB0.trans (hb1.mono hB0.size);replace bA:=bA.step hb1;obtain⟨aap,aaq,aar,aan⟩:=zc4 bA;go_wp2_with fail
    go_ret
    exact⟨au HF.out.symm,hB1⟩
  ·have hkk:((n:Int) ==1)=false:=by simp;omega
   have HF:Hid (aag ⟨22,{data:=#[]},labels,kids⟩=false):=by
    show _=_;have g1:=HT.out.HN;have g2:=HT.out.HN';rw[lu];have g0:({data:=#[]}:ByteArray).size=0:=rfl;have g3:labels.length=0:=g2.symm;clear g2
    simp_all [named,inB,jk]
   clear hk0;go_enter Tryz.func87,Tryz.ntmps87
   go_wp2_with fail
   obtain⟨w0,hw0⟩:=zqe w 39 #[.int .i64 22,.string {data:=#[]},.slice A' 0 c',.slice A n c];rw[← hw0];have bA:=zqn hw0;have hB0:=zqb hw0;clear hw0;obtain⟨aby,abz,ab1,abt⟩:=zc4 bA;refine(oz _ _ _ _).mono ?_;rintro e w' ⟨rfl,rfl⟩;rw[H16.out];go_wp2_with fail
   go_ret
   exact⟨au HF.out.symm,hB0⟩
 ·clear hlab k20 k21
  by_cases hk0:n=1
  ·have hkk:((n:Int) ==1)=true:=by simp;omega
   obtain⟨t,ht⟩:∃ t,kids=[t]:=by have g1:=HT.out.HN;rw[hk0] at g1;exact List.length_eq_one_iff.1 g1.symm
   cases hu:t.has 21 21
   ·have hx0:=True.intro
    have HF:Hid (aag ⟨23,{data:=#[]},labels,kids⟩=true):=by
     show _=_;have g1:=HT.out.HN;have g2:=HT.out.HN';rw[lu];have g0:({data:=#[]}:ByteArray).size=0:=rfl;have g3:labels.length=0:=g2.symm;clear g2;clear g1
     simp_all [named,inB,jk]
    have HU:=zqd hu;have hxk:kids[0]?=some t:=by rw[ht];rfl
    clear hu hx0 ht;obtain⟨g,off,rfl,hg,hcell⟩:=ahn Ty.ay (by decide) HT.out.RK (by omega);have hpos:0 < n:=by omega
    clear hk0;obtain⟨kind2,name2,aa5,aa1⟩:=t;have hHB:=HT.out.hB;go_enter Tryz.func87,Tryz.ntmps87
    go_wp2_with fail
    obtain⟨w0,hw0⟩:=zqe w 39 #[.int .i64 23,.string {data:=#[]},.slice A' 0 c',.slice (some ⟨g,off,none⟩) n c];rw[← hw0];have bA:=zqn hw0;have hB0:=zqb hw0;clear hw0;obtain⟨aby,abz,ab1,abt⟩:=zc4 bA;have c0:w0.cell? ⟨g,off,none⟩=some (.int .i64 kind2):=by have:=ng (B:=B) hB0 (by omega) (hcell 0 0 _ _ hxk (by rw[Ty.ji];rfl));simpa using this
    have c1:w0.cell? ⟨g,off+1,none⟩=some (.string name2):=by have:=ng (B:=B) hB0 (by omega) (hcell 0 1 _ _ hxk (by rw[Ty.ji];rfl));simpa using this
    obtain⟨adf,c2',r2⟩:∃ u,w0.cell? ⟨g,off+2,none⟩=some u∧Rep w0 B (.row 1 (aa5.flatMap aam)) u:=by have:=xq (B:=B) hB0 (by omega) hHB (hcell 0 2 _ _ hxk (by rw[Ty.ji];rfl));simpa using this
    obtain⟨ad1,c3',r3⟩:∃ u,w0.cell? ⟨g,off+3,none⟩=some u∧Rep w0 B (.row 4 (aa1.flatMap Ty.pd)) u:=by have:=xq (B:=B) hB0 (by omega) hHB (hcell 0 3 _ _ hxk (by rw[Ty.ji];rfl));simpa using this
    have R2:=zqd r2;have R3:=zqd r3;have aph:=zqd hcell;clear r2 r3 hcell;refine(oz _ _ _ _).mono ?_;rintro e w' ⟨rfl,rfl⟩;rw[H16.out];go_wp2_with fail
    refine(al0 21 21 ⟨kind2,name2,aa5,aa1⟩ B [.int .i64 kind2,.string name2,adf,ad1] _ (Nat.le_trans hHB hB0.size) (Ty.close_ R2.out R3.out)).mono ?_;rintro e w1 ⟨rfl,hb1⟩;rw[HU.out];have hB1:=hB0.trans (hb1.mono hB0.size);replace bA:=bA.step hb1;obtain⟨aap,aaq,aar,aan⟩:=zc4 bA;go_wp2_with fail
    go_ret
    exact⟨au HF.out.symm,hB1⟩
   ·have hx0:=True.intro
    have HF:Hid (aag ⟨23,{data:=#[]},labels,kids⟩=false):=by
     show _=_;have g1:=HT.out.HN;have g2:=HT.out.HN';rw[lu];have g0:({data:=#[]}:ByteArray).size=0:=rfl;have g3:labels.length=0:=g2.symm;clear g2;clear g1
     simp_all [named,inB,jk]
    have HU:=zqd hu;have hxk:kids[0]?=some t:=by rw[ht];rfl
    clear hu hx0 ht;obtain⟨g,off,rfl,hg,hcell⟩:=ahn Ty.ay (by decide) HT.out.RK (by omega);have hpos:0 < n:=by omega
    clear hk0;obtain⟨kind2,name2,aa5,aa1⟩:=t;have hHB:=HT.out.hB;go_enter Tryz.func87,Tryz.ntmps87
    go_wp2_with fail
    obtain⟨w0,hw0⟩:=zqe w 39 #[.int .i64 23,.string {data:=#[]},.slice A' 0 c',.slice (some ⟨g,off,none⟩) n c];rw[← hw0];have bA:=zqn hw0;have hB0:=zqb hw0;clear hw0;obtain⟨aby,abz,ab1,abt⟩:=zc4 bA;have c0:w0.cell? ⟨g,off,none⟩=some (.int .i64 kind2):=by have:=ng (B:=B) hB0 (by omega) (hcell 0 0 _ _ hxk (by rw[Ty.ji];rfl));simpa using this
    have c1:w0.cell? ⟨g,off+1,none⟩=some (.string name2):=by have:=ng (B:=B) hB0 (by omega) (hcell 0 1 _ _ hxk (by rw[Ty.ji];rfl));simpa using this
    obtain⟨adf,c2',r2⟩:∃ u,w0.cell? ⟨g,off+2,none⟩=some u∧Rep w0 B (.row 1 (aa5.flatMap aam)) u:=by have:=xq (B:=B) hB0 (by omega) hHB (hcell 0 2 _ _ hxk (by rw[Ty.ji];rfl));simpa using this
    obtain⟨ad1,c3',r3⟩:∃ u,w0.cell? ⟨g,off+3,none⟩=some u∧Rep w0 B (.row 4 (aa1.flatMap Ty.pd)) u:=by have:=xq (B:=B) hB0 (by omega) hHB (hcell 0 3 _ _ hxk (by rw[Ty.ji];rfl));simpa using this
    have R2:=zqd r2;have R3:=zqd r3;have aph:=zqd hcell;clear r2 r3 hcell;refine(oz _ _ _ _).mono ?_;rintro e w' ⟨rfl,rfl⟩;rw[H16.out];go_wp2_with fail
    refine(al0 21 21 ⟨kind2,name2,aa5,aa1⟩ B [.int .i64 kind2,.string name2,adf,ad1] _ (Nat.le_trans hHB hB0.size) (Ty.close_ R2.out R3.out)).mono ?_;rintro e w1 ⟨rfl,hb1⟩;rw[HU.out];have hB1:=hB0.trans (hb1.mono hB0.size);replace bA:=bA.step hb1;obtain⟨aap,aaq,aar,aan⟩:=zc4 bA;go_wp2_with fail
    go_ret
    exact⟨au HF.out.symm,hB1⟩
  ·have hkk:((n:Int) ==1)=false:=by simp;omega
   have HF:Hid (aag ⟨23,{data:=#[]},labels,kids⟩=false):=by
    show _=_;have g1:=HT.out.HN;have g2:=HT.out.HN';rw[lu];have g0:({data:=#[]}:ByteArray).size=0:=rfl;have g3:labels.length=0:=g2.symm;clear g2
    simp_all [named,inB,jk]
   clear hk0;go_enter Tryz.func87,Tryz.ntmps87
   go_wp2_with fail
   obtain⟨w0,hw0⟩:=zqe w 39 #[.int .i64 23,.string {data:=#[]},.slice A' 0 c',.slice A n c];rw[← hw0];have bA:=zqn hw0;have hB0:=zqb hw0;clear hw0;obtain⟨aby,abz,ab1,abt⟩:=zc4 bA;refine(oz _ _ _ _).mono ?_;rintro e w' ⟨rfl,rfl⟩;rw[H16.out];go_wp2_with fail
   go_ret
   exact⟨au HF.out.symm,hB0⟩
 ·clear hlab k20 k21
  by_cases hk0:n=2
  ·have hkk:((n:Int) ==2)=true:=by simp;omega
   have HF:Hid (aag ⟨14,{data:=#[]},labels,kids⟩=true):=by
    show _=_;have g1:=HT.out.HN;have g2:=HT.out.HN';rw[lu];have g0:({data:=#[]}:ByteArray).size=0:=rfl;have g3:labels.length=0:=g2.symm;clear g2
    simp_all [named,inB,jk]
   clear hk0;go_enter Tryz.func87,Tryz.ntmps87
   go_wp2_with fail
   obtain⟨w0,hw0⟩:=zqe w 39 #[.int .i64 14,.string {data:=#[]},.slice A' 0 c',.slice A n c];rw[← hw0];have bA:=zqn hw0;have hB0:=zqb hw0;clear hw0;obtain⟨aby,abz,ab1,abt⟩:=zc4 bA;refine(oz _ _ _ _).mono ?_;rintro e w' ⟨rfl,rfl⟩;rw[H16.out];go_wp2_with fail
   go_ret
   exact⟨au HF.out.symm,hB0⟩
  ·have hkk:((n:Int) ==2)=false:=by simp;omega
   have HF:Hid (aag ⟨14,{data:=#[]},labels,kids⟩=false):=by
    show _=_;have g1:=HT.out.HN;have g2:=HT.out.HN';rw[lu];have g0:({data:=#[]}:ByteArray).size=0:=rfl;have g3:labels.length=0:=g2.symm;clear g2
    simp_all [named,inB,jk]
   clear hk0;go_enter Tryz.func87,Tryz.ntmps87
   go_wp2_with fail
   obtain⟨w0,hw0⟩:=zqe w 39 #[.int .i64 14,.string {data:=#[]},.slice A' 0 c',.slice A n c];rw[← hw0];have bA:=zqn hw0;have hB0:=zqb hw0;clear hw0;obtain⟨aby,abz,ab1,abt⟩:=zc4 bA;refine(oz _ _ _ _).mono ?_;rintro e w' ⟨rfl,rfl⟩;rw[H16.out];go_wp2_with fail
   go_ret
   exact⟨au HF.out.symm,hB0⟩
 ·clear hlab k20 k21
  by_cases hk0:1≤n∧n≤6
  ·obtain⟨hk1,hk2⟩:=hk0
   have H15:Hid (inB (n:Int) 1 6=true):=afp (by omega) (by omega);cases hu:aa4 kids
   ·have hx0:=True.intro
    have HF:Hid (aag ⟨15,{data:=#[]},labels,kids⟩=false):=by
     show _=_;have g1:=HT.out.HN;have g2:=HT.out.HN';rw[lu];have g0:({data:=#[]}:ByteArray).size=0:=rfl;have g3:labels.length=0:=g2.symm;clear g2;have g5:=H15.out;rw[g1] at g5;simp[named,jk,g0,g3,g5,hu,show inB 15 16 19=false from rfl]
    have HU:=zqd hu;clear hu hx0;go_enter Tryz.func87,Tryz.ntmps87
    go_wp2_with fail
    obtain⟨w0,hw0⟩:=zqe w 39 #[.int .i64 15,.string {data:=#[]},.slice A' 0 c',.slice A n c];rw[← hw0];have bA:=zqn hw0;have hB0:=zqb hw0;clear hw0;obtain⟨aby,abz,ab1,abt⟩:=zc4 bA;refine(oz _ _ _ _).mono ?_;rintro e w' ⟨rfl,rfl⟩;rw[H16.out];go_wp2_with fail
    refine(aga ⟨15,{data:=#[]},labels,kids⟩ (HT.out.c (kind:=0) hB0).1 (HT.out.c hB0).2).mono ?_;rintro e w1 ⟨rfl,hb1⟩;rw[show aa4 (Ty.kids ⟨15,{data:=#[]},labels,kids⟩)=_ from HU.out];have hB1:=hB0.trans (hb1.mono hB0.size);replace bA:=bA.step hb1;obtain⟨aap,aaq,aar,aan⟩:=zc4 bA;go_wp2_with fail
    go_ret
    exact⟨au HF.out.symm,hB1⟩
   ·have hx0:=True.intro
    have HF:Hid (aag ⟨15,{data:=#[]},labels,kids⟩=true):=by
     show _=_;have g1:=HT.out.HN;have g2:=HT.out.HN';rw[lu];have g0:({data:=#[]}:ByteArray).size=0:=rfl;have g3:labels.length=0:=g2.symm;clear g2;have g5:=H15.out;rw[g1] at g5;simp[named,jk,g0,g3,g5,hu,show inB 15 16 19=false from rfl]
    have HU:=zqd hu;clear hu hx0;go_enter Tryz.func87,Tryz.ntmps87
    go_wp2_with fail
    obtain⟨w0,hw0⟩:=zqe w 39 #[.int .i64 15,.string {data:=#[]},.slice A' 0 c',.slice A n c];rw[← hw0];have bA:=zqn hw0;have hB0:=zqb hw0;clear hw0;obtain⟨aby,abz,ab1,abt⟩:=zc4 bA;refine(oz _ _ _ _).mono ?_;rintro e w' ⟨rfl,rfl⟩;rw[H16.out];go_wp2_with fail
    refine(aga ⟨15,{data:=#[]},labels,kids⟩ (HT.out.c (kind:=0) hB0).1 (HT.out.c hB0).2).mono ?_;rintro e w1 ⟨rfl,hb1⟩;rw[show aa4 (Ty.kids ⟨15,{data:=#[]},labels,kids⟩)=_ from HU.out];have hB1:=hB0.trans (hb1.mono hB0.size);replace bA:=bA.step hb1;obtain⟨aap,aaq,aar,aan⟩:=zc4 bA;go_wp2_with fail
    go_ret
    exact⟨au HF.out.symm,hB1⟩
  ·have H15:Hid (inB (n:Int) 1 6=false):=aec.2 (by omega)
   have HF:Hid (aag ⟨15,{data:=#[]},labels,kids⟩=false):=by
    show _=_;have g1:=HT.out.HN;have g2:=HT.out.HN';rw[lu];have g0:({data:=#[]}:ByteArray).size=0:=rfl;have g3:labels.length=0:=g2.symm;clear g2;have g5:=H15.out;rw[g1] at g5;simp[named,jk,g0,g3,g5,show inB 15 16 19=false from rfl]
   by_cases hk1:1≤n
   ·have hk2:6 < n:=by omega
    clear hk0;go_enter Tryz.func87,Tryz.ntmps87
    go_wp2_with fail
    obtain⟨w0,hw0⟩:=zqe w 39 #[.int .i64 15,.string {data:=#[]},.slice A' 0 c',.slice A n c];rw[← hw0];have bA:=zqn hw0;have hB0:=zqb hw0;clear hw0;obtain⟨aby,abz,ab1,abt⟩:=zc4 bA;refine(oz _ _ _ _).mono ?_;rintro e w' ⟨rfl,rfl⟩;rw[H16.out];go_wp2_with fail
    go_ret
    exact⟨au HF.out.symm,hB0⟩
   ·have hk2:(n:Int) < 1:=by omega
    clear hk0 hk1;go_enter Tryz.func87,Tryz.ntmps87
    go_wp2_with fail
    obtain⟨w0,hw0⟩:=zqe w 39 #[.int .i64 15,.string {data:=#[]},.slice A' 0 c',.slice A n c];rw[← hw0];have bA:=zqn hw0;have hB0:=zqb hw0;clear hw0;obtain⟨aby,abz,ab1,abt⟩:=zc4 bA;refine(oz _ _ _ _).mono ?_;rintro e w' ⟨rfl,rfl⟩;rw[H16.out];go_wp2_with fail
    go_ret
    exact⟨au HF.out.symm,hB0⟩
 ·have hne:¬ (kind=12∨kind=13)∧¬ (kind=22∨kind=23)∧¬ kind=14∧¬ kind=15∧¬ kind=16∧¬ kind=17:=by simp at k12 k13 k22 k23 k14 k15;have:=aec.1 hlab;omega
  have k16:(kind ==16)=false:=by simp;omega
  have k17:(kind ==17)=false:=by simp;omega
  have HR:Hid (aag ⟨kind,{data:=#[]},labels,kids⟩=(inB kind 1 23 && decide (kids.length=0))):=by
   show _=_;have g2:=HT.out.HN';rw[lu,show named kind=false by simp[named,k20,k21],hlab,jk,if_neg hne.1,if_neg hne.2.1,if_neg hne.2.2.1,if_neg hne.2.2.2.1,if_neg hne.2.2.2.2.1,if_neg hne.2.2.2.2.2,← g2];simp[show({data:=#[]}:ByteArray).size=0 from rfl]
  clear hne hlab;cases h23:inB kind 1 23
  ·have H23:=zqd h23
   have HF:Hid (aag ⟨kind,{data:=#[]},labels,kids⟩=false):=by show _=_;rw[HR.out,H23.out];rfl
   clear h23;go_enter Tryz.func87,Tryz.ntmps87
   go_wp2_with fail
   obtain⟨w0,hw0⟩:=zqe w 39 #[.int .i64 kind,.string {data:=#[]},.slice A' 0 c',.slice A n c];rw[← hw0];have bA:=zqn hw0;have hB0:=zqb hw0;clear hw0;obtain⟨aby,abz,ab1,abt⟩:=zc4 bA;refine(oz _ _ _ _).mono ?_;rintro e w' ⟨rfl,rfl⟩;rw[H16.out];go_wp2_with fail
   refine(oz _ _ _ _).mono ?_;rintro e w' ⟨rfl,rfl⟩;rw[H23.out];go_wp2_with fail
   go_ret
   exact⟨au HF.out.symm,hB0⟩
  ·have H23:=zqd h23
   by_cases hk0:n=0
   ·have hkk:((n:Int) ==0)=true:=by simp;omega
    have HF:Hid (aag ⟨kind,{data:=#[]},labels,kids⟩=true):=by show _=_;rw[HR.out,H23.out];have g1:=HT.out.HN;rw[decide_eq_true (by omega)];rfl
    clear h23 hk0;go_enter Tryz.func87,Tryz.ntmps87
    go_wp2_with fail
    obtain⟨w0,hw0⟩:=zqe w 39 #[.int .i64 kind,.string {data:=#[]},.slice A' 0 c',.slice A n c];rw[← hw0];have bA:=zqn hw0;have hB0:=zqb hw0;clear hw0;obtain⟨aby,abz,ab1,abt⟩:=zc4 bA;refine(oz _ _ _ _).mono ?_;rintro e w' ⟨rfl,rfl⟩;rw[H16.out];go_wp2_with fail
    refine(oz _ _ _ _).mono ?_;rintro e w' ⟨rfl,rfl⟩;rw[H23.out];go_wp2_with fail
    go_ret
    exact⟨au HF.out.symm,hB0⟩
   ·have hkk:((n:Int) ==0)=false:=by simp;omega
    have HF:Hid (aag ⟨kind,{data:=#[]},labels,kids⟩=false):=by show _=_;rw[HR.out,H23.out];have g1:=HT.out.HN;rw[decide_eq_false (by omega)];rfl
    clear h23 hk0;go_enter Tryz.func87,Tryz.ntmps87
    go_wp2_with fail
    obtain⟨w0,hw0⟩:=zqe w 39 #[.int .i64 kind,.string {data:=#[]},.slice A' 0 c',.slice A n c];rw[← hw0];have bA:=zqn hw0;have hB0:=zqb hw0;clear hw0;obtain⟨aby,abz,ab1,abt⟩:=zc4 bA;refine(oz _ _ _ _).mono ?_;rintro e w' ⟨rfl,rfl⟩;rw[H16.out];go_wp2_with fail
    refine(oz _ _ _ _).mono ?_;rintro e w' ⟨rfl,rfl⟩;rw[H23.out];go_wp2_with fail
    go_ret
    exact⟨au HF.out.symm,hB0⟩
end Go.Proofs.YtfpannkadjdnaaaGreatDoor
