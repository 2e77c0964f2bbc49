/-
  speclab (by program: gen_shape.py).
-/
import Derived.Test.YtfpannkadjdnaaaGreatDoorTa16
namespace Go.Proofs.YtfpannkadjdnaaaGreatDoor
open Go.RowKit
set_option linter.all false
set_option maxHeartbeats 4000000 in
theorem aqi {kind:Int} {name:ByteArray} {labels:List ByteArray} {kids:List Ty} {B n n' c c':Nat} {A A':Option Addr} {w:World} (HT:Hid (aja B n n' c c' A A' name labels kids w)) (hk:kind=16∨kind=17∨kind=18∨kind=19):Calls Tryz.prog 87 #[.agg #[.int .i64 kind,.string name,.slice A' n' c',.slice A n c]] w fun e w'=>e=.returned (.bool (aag ⟨kind,name,labels,kids⟩))∧Below w.heap.size w w':=by
 have hn:=HT.out.hn;have hn':=HT.out.hn';have H16:Hid (inB kind 16 19=true):=afp (by omega) (by omega);have H23:Hid (inB kind 1 23=true):=afp (by omega) (by omega);rcases hk with rfl|rfl|rfl|rfl
 ·cases hlo:aaj labels
  ·have hx0:=True.intro
   have HF:Hid (aag ⟨16,name,labels,kids⟩=false):=by
    show _=_;have g1:=HT.out.HN;have g2:=HT.out.HN';rw[lu]
    simp_all [named,inB,jk]
   have HLO:=zqd hlo;clear hlo hx0;by_cases hz:name.size=0
   ·obtain rfl:=ad3 hz
    clear hz;by_cases hl:n'=0
    ·subst hl
     go_enter Tryz.func87,Tryz.ntmps87
     go_wp2_with fail
     obtain⟨w0,hw0⟩:=zqe w 39 #[.int .i64 16,.string {data:=#[]},.slice A' 0 c',.slice A n c];rw[← hw0];have bA:=zqn hw0;have hB0:=zqb hw0;clear hw0;obtain⟨aby,abz,ab1,abt⟩:=zc4 bA;refine(oz _ _ _ _).mono ?_;rintro e w' ⟨rfl,rfl⟩;rw[H16.out];go_wp2_with fail
     go_ret
     exact⟨au HF.out.symm,hB0⟩
    ·have hl1:0 < n':=by omega
     clear hl;go_enter Tryz.func87,Tryz.ntmps87
     go_wp2_with fail
     obtain⟨w0,hw0⟩:=zqe w 39 #[.int .i64 16,.string {data:=#[]},.slice A' n' c',.slice A n c];rw[← hw0];have bA:=zqn hw0;have hB0:=zqb hw0;clear hw0;obtain⟨aby,abz,ab1,abt⟩:=zc4 bA;refine(oz _ _ _ _).mono ?_;rintro e w' ⟨rfl,rfl⟩;rw[H16.out];go_wp2_with fail
     refine(ac8 (HT.out.c (kind:=0) hB0).1 HT.out.HS2 (HT.out.l hB0)).mono ?_;rintro e w1 ⟨rfl,hb1⟩;rw[HLO.out];have hB1:=hB0.trans (hb1.mono hB0.size);replace bA:=bA.step hb1;obtain⟨aap,aaq,aar,aan⟩:=zc4 bA;go_wp2_with fail
     go_ret
     exact⟨au HF.out.symm,hB1⟩
   ·have hE:=adw hz
    have hE2:=adl hz;clear hz;go_enter Tryz.func87,Tryz.ntmps87
    go_wp2_with fail
    obtain⟨w0,hw0⟩:=zqe w 39 #[.int .i64 16,.string name,.slice A' n' c',.slice A n c];rw[← hw0];have bA:=zqn hw0;have hB0:=zqb hw0;clear hw0;obtain⟨aby,abz,ab1,abt⟩:=zc4 bA;refine(oz _ _ _ _).mono ?_;rintro e w' ⟨rfl,rfl⟩;rw[H16.out];go_wp2_with fail
    go_ret
    exact⟨au HF.out.symm,hB0⟩
  ·have hl1:0 < n':=by have g2:=HT.out.HN';have h2:=hlo;simp only[aaj,Bool.and_eq_true,abm] at h2;omega
   by_cases hz:name.size=0
   case neg=>
    have hE:=adw hz;have hE2:=adl hz
    have HF:Hid (aag ⟨16,name,labels,kids⟩=false):=by
     show _=_;have g1:=HT.out.HN;have g2:=HT.out.HN';rw[lu]
     simp_all [named,inB,jk]
    have HLO:=zqd hlo;clear hlo hz;go_enter Tryz.func87,Tryz.ntmps87
    go_wp2_with fail
    obtain⟨w0,hw0⟩:=zqe w 39 #[.int .i64 16,.string name,.slice A' n' c',.slice A n c];rw[← hw0];have bA:=zqn hw0;have hB0:=zqb hw0;clear hw0;obtain⟨aby,abz,ab1,abt⟩:=zc4 bA;refine(oz _ _ _ _).mono ?_;rintro e w' ⟨rfl,rfl⟩;rw[H16.out];go_wp2_with fail
    go_ret
    exact⟨au HF.out.symm,hB0⟩
   obtain rfl:=ad3 hz;clear hz;by_cases hk0:n=n'
   ·have hkk:((n:Int) ==(n':Int))=true:=by rw[beq_iff_eq];omega
    cases hu:aa4 kids
    ·have hx0:=True.intro
     have HF:Hid (aag ⟨16,{data:=#[]},labels,kids⟩=false):=by
      show _=_;have g1:=HT.out.HN;have g2:=HT.out.HN';rw[lu];have g0:({data:=#[]}:ByteArray).size=0:=rfl
      simp_all [named,inB,jk]
     have HLO:=zqd hlo;have HU:=zqd hu;clear hlo hu hk0 hx0;go_enter Tryz.func87,Tryz.ntmps87
     go_wp2_with fail
     obtain⟨w0,hw0⟩:=zqe w 39 #[.int .i64 16,.string {data:=#[]},.slice A' n' c',.slice A n c];rw[← hw0];have bA:=zqn hw0;have hB0:=zqb hw0;clear hw0;obtain⟨aby,abz,ab1,abt⟩:=zc4 bA;refine(oz _ _ _ _).mono ?_;rintro e w' ⟨rfl,rfl⟩;rw[H16.out];go_wp2_with fail
     refine(ac8 (HT.out.c (kind:=0) hB0).1 HT.out.HS2 (HT.out.l hB0)).mono ?_;rintro e w1 ⟨rfl,hb1⟩;rw[HLO.out];have hB1:=hB0.trans (hb1.mono hB0.size);replace bA:=bA.step hb1;obtain⟨aap,aaq,aar,aan⟩:=zc4 bA;go_wp2_with fail
     refine(aga ⟨16,{data:=#[]},labels,kids⟩ (HT.out.c (kind:=0) hB1).1 (HT.out.c hB1).2).mono ?_;rintro e w2 ⟨rfl,hb2⟩;rw[show aa4 (Ty.kids ⟨16,{data:=#[]},labels,kids⟩)=_ from HU.out];have hB2:=hB1.trans (hb2.mono hB1.size);replace bA:=bA.step hb2;obtain⟨aen,aeo,aep,aer⟩:=zc4 bA;go_wp2_with fail
     go_ret
     exact⟨au HF.out.symm,hB2⟩
    ·have hx0:=True.intro
     have HF:Hid (aag ⟨16,{data:=#[]},labels,kids⟩=true):=by
      show _=_;have g1:=HT.out.HN;have g2:=HT.out.HN';rw[lu];have g0:({data:=#[]}:ByteArray).size=0:=rfl
      simp_all [named,inB,jk]
     have HLO:=zqd hlo;have HU:=zqd hu;clear hlo hu hk0 hx0;go_enter Tryz.func87,Tryz.ntmps87
     go_wp2_with fail
     obtain⟨w0,hw0⟩:=zqe w 39 #[.int .i64 16,.string {data:=#[]},.slice A' n' c',.slice A n c];rw[← hw0];have bA:=zqn hw0;have hB0:=zqb hw0;clear hw0;obtain⟨aby,abz,ab1,abt⟩:=zc4 bA;refine(oz _ _ _ _).mono ?_;rintro e w' ⟨rfl,rfl⟩;rw[H16.out];go_wp2_with fail
     refine(ac8 (HT.out.c (kind:=0) hB0).1 HT.out.HS2 (HT.out.l hB0)).mono ?_;rintro e w1 ⟨rfl,hb1⟩;rw[HLO.out];have hB1:=hB0.trans (hb1.mono hB0.size);replace bA:=bA.step hb1;obtain⟨aap,aaq,aar,aan⟩:=zc4 bA;go_wp2_with fail
     refine(aga ⟨16,{data:=#[]},labels,kids⟩ (HT.out.c (kind:=0) hB1).1 (HT.out.c hB1).2).mono ?_;rintro e w2 ⟨rfl,hb2⟩;rw[show aa4 (Ty.kids ⟨16,{data:=#[]},labels,kids⟩)=_ from HU.out];have hB2:=hB1.trans (hb2.mono hB1.size);replace bA:=bA.step hb2;obtain⟨aen,aeo,aep,aer⟩:=zc4 bA;go_wp2_with fail
     go_ret
     exact⟨au HF.out.symm,hB2⟩
   ·have hkk:((n:Int) ==(n':Int))=false:=by rw[beq_eq_false_iff_ne];omega
    have HF:Hid (aag ⟨16,{data:=#[]},labels,kids⟩=false):=by
     show _=_;have g1:=HT.out.HN;have g2:=HT.out.HN';rw[lu];have g0:({data:=#[]}:ByteArray).size=0:=rfl
     simp_all [named,inB,jk]
    have HLO:=zqd hlo;clear hlo hk0;go_enter Tryz.func87,Tryz.ntmps87
    go_wp2_with fail
    obtain⟨w0,hw0⟩:=zqe w 39 #[.int .i64 16,.string {data:=#[]},.slice A' n' c',.slice A n c];rw[← hw0];have bA:=zqn hw0;have hB0:=zqb hw0;clear hw0;obtain⟨aby,abz,ab1,abt⟩:=zc4 bA;refine(oz _ _ _ _).mono ?_;rintro e w' ⟨rfl,rfl⟩;rw[H16.out];go_wp2_with fail
    refine(ac8 (HT.out.c (kind:=0) hB0).1 HT.out.HS2 (HT.out.l hB0)).mono ?_;rintro e w1 ⟨rfl,hb1⟩;rw[HLO.out];have hB1:=hB0.trans (hb1.mono hB0.size);replace bA:=bA.step hb1;obtain⟨aap,aaq,aar,aan⟩:=zc4 bA;go_wp2_with fail
    go_ret
    exact⟨au HF.out.symm,hB1⟩
 ·cases hlo:aaj labels
  ·have hx0:=True.intro
   have HF:Hid (aag ⟨17,name,labels,kids⟩=false):=by
    show _=_;have g1:=HT.out.HN;have g2:=HT.out.HN';rw[lu]
    simp_all [named,inB,jk]
   have HLO:=zqd hlo;clear hlo hx0;by_cases hz:name.size=0
   ·obtain rfl:=ad3 hz
    clear hz;by_cases hl:n'=0
    ·subst hl
     go_enter Tryz.func87,Tryz.ntmps87
     go_wp2_with fail
     obtain⟨w0,hw0⟩:=zqe w 39 #[.int .i64 17,.string {data:=#[]},.slice A' 0 c',.slice A n c];rw[← hw0];have bA:=zqn hw0;have hB0:=zqb hw0;clear hw0;obtain⟨aby,abz,ab1,abt⟩:=zc4 bA;refine(oz _ _ _ _).mono ?_;rintro e w' ⟨rfl,rfl⟩;rw[H16.out];go_wp2_with fail
     go_ret
     exact⟨au HF.out.symm,hB0⟩
    ·have hl1:0 < n':=by omega
     clear hl;go_enter Tryz.func87,Tryz.ntmps87
     go_wp2_with fail
     obtain⟨w0,hw0⟩:=zqe w 39 #[.int .i64 17,.string {data:=#[]},.slice A' n' c',.slice A n c];rw[← hw0];have bA:=zqn hw0;have hB0:=zqb hw0;clear hw0;obtain⟨aby,abz,ab1,abt⟩:=zc4 bA;refine(oz _ _ _ _).mono ?_;rintro e w' ⟨rfl,rfl⟩;rw[H16.out];go_wp2_with fail
     refine(ac8 (HT.out.c (kind:=0) hB0).1 HT.out.HS2 (HT.out.l hB0)).mono ?_;rintro e w1 ⟨rfl,hb1⟩;rw[HLO.out];have hB1:=hB0.trans (hb1.mono hB0.size);replace bA:=bA.step hb1;obtain⟨aap,aaq,aar,aan⟩:=zc4 bA;go_wp2_with fail
     go_ret
     exact⟨au HF.out.symm,hB1⟩
   ·have hE:=adw hz
    have hE2:=adl hz;clear hz;go_enter Tryz.func87,Tryz.ntmps87
    go_wp2_with fail
    obtain⟨w0,hw0⟩:=zqe w 39 #[.int .i64 17,.string name,.slice A' n' c',.slice A n c];rw[← hw0];have bA:=zqn hw0;have hB0:=zqb hw0;clear hw0;obtain⟨aby,abz,ab1,abt⟩:=zc4 bA;refine(oz _ _ _ _).mono ?_;rintro e w' ⟨rfl,rfl⟩;rw[H16.out];go_wp2_with fail
    go_ret
    exact⟨au HF.out.symm,hB0⟩
  ·have hl1:0 < n':=by have g2:=HT.out.HN';have h2:=hlo;simp only[aaj,Bool.and_eq_true,abm] at h2;omega
   by_cases hz:name.size=0
   case neg=>
    have hE:=adw hz;have hE2:=adl hz
    have HF:Hid (aag ⟨17,name,labels,kids⟩=false):=by
     show _=_;have g1:=HT.out.HN;have g2:=HT.out.HN';rw[lu]
     simp_all [named,inB,jk]
    have HLO:=zqd hlo;clear hlo hz;go_enter Tryz.func87,Tryz.ntmps87
    go_wp2_with fail
    obtain⟨w0,hw0⟩:=zqe w 39 #[.int .i64 17,.string name,.slice A' n' c',.slice A n c];rw[← hw0];have bA:=zqn hw0;have hB0:=zqb hw0;clear hw0;obtain⟨aby,abz,ab1,abt⟩:=zc4 bA;refine(oz _ _ _ _).mono ?_;rintro e w' ⟨rfl,rfl⟩;rw[H16.out];go_wp2_with fail
    go_ret
    exact⟨au HF.out.symm,hB0⟩
   obtain rfl:=ad3 hz;clear hz;by_cases hk0:n=n'
   ·have hkk:((n:Int) ==(n':Int))=true:=by rw[beq_iff_eq];omega
    have HF:Hid (aag ⟨17,{data:=#[]},labels,kids⟩=true):=by
     show _=_;have g1:=HT.out.HN;have g2:=HT.out.HN';rw[lu];have g0:({data:=#[]}:ByteArray).size=0:=rfl
     simp_all [named,inB,jk]
    have HLO:=zqd hlo;clear hlo hk0;go_enter Tryz.func87,Tryz.ntmps87
    go_wp2_with fail
    obtain⟨w0,hw0⟩:=zqe w 39 #[.int .i64 17,.string {data:=#[]},.slice A' n' c',.slice A n c];rw[← hw0];have bA:=zqn hw0;have hB0:=zqb hw0;clear hw0;obtain⟨aby,abz,ab1,abt⟩:=zc4 bA;refine(oz _ _ _ _).mono ?_;rintro e w' ⟨rfl,rfl⟩;rw[H16.out];go_wp2_with fail
    refine(ac8 (HT.out.c (kind:=0) hB0).1 HT.out.HS2 (HT.out.l hB0)).mono ?_;rintro e w1 ⟨rfl,hb1⟩;rw[HLO.out];have hB1:=hB0.trans (hb1.mono hB0.size);replace bA:=bA.step hb1;obtain⟨aap,aaq,aar,aan⟩:=zc4 bA;go_wp2_with fail
    go_ret
    exact⟨au HF.out.symm,hB1⟩
   ·have hkk:((n:Int) ==(n':Int))=false:=by rw[beq_eq_false_iff_ne];omega
    have HF:Hid (aag ⟨17,{data:=#[]},labels,kids⟩=false):=by
     show _=_;have g1:=HT.out.HN;have g2:=HT.out.HN';rw[lu];have g0:({data:=#[]}:ByteArray).size=0:=rfl
     simp_all [named,inB,jk]
    have HLO:=zqd hlo;clear hlo hk0;go_enter Tryz.func87,Tryz.ntmps87
    go_wp2_with fail
    obtain⟨w0,hw0⟩:=zqe w 39 #[.int .i64 17,.string {data:=#[]},.slice A' n' c',.slice A n c];rw[← hw0];have bA:=zqn hw0;have hB0:=zqb hw0;clear hw0;obtain⟨aby,abz,ab1,abt⟩:=zc4 bA;refine(oz _ _ _ _).mono ?_;rintro e w' ⟨rfl,rfl⟩;rw[H16.out];go_wp2_with fail
    refine(ac8 (HT.out.c (kind:=0) hB0).1 HT.out.HS2 (HT.out.l hB0)).mono ?_;rintro e w1 ⟨rfl,hb1⟩;rw[HLO.out];have hB1:=hB0.trans (hb1.mono hB0.size);replace bA:=bA.step hb1;obtain⟨aap,aaq,aar,aan⟩:=zc4 bA;go_wp2_with fail
    go_ret
    exact⟨au HF.out.symm,hB1⟩
 ·cases hlo:aaj labels
  ·have hx0:=True.intro
   have HF:Hid (aag ⟨18,name,labels,kids⟩=false):=by
    show _=_;have g1:=HT.out.HN;have g2:=HT.out.HN';rw[lu]
    simp_all [named,inB,jk]
   have HLO:=zqd hlo;clear hlo hx0;by_cases hz:name.size=0
   ·obtain rfl:=ad3 hz
    clear hz;by_cases hl:n'=0
    ·subst hl
     go_enter Tryz.func87,Tryz.ntmps87
     go_wp2_with fail
     obtain⟨w0,hw0⟩:=zqe w 39 #[.int .i64 18,.string {data:=#[]},.slice A' 0 c',.slice A n c];rw[← hw0];have bA:=zqn hw0;have hB0:=zqb hw0;clear hw0;obtain⟨aby,abz,ab1,abt⟩:=zc4 bA;refine(oz _ _ _ _).mono ?_;rintro e w' ⟨rfl,rfl⟩;rw[H16.out];go_wp2_with fail
     go_ret
     exact⟨au HF.out.symm,hB0⟩
    ·have hl1:0 < n':=by omega
     clear hl;go_enter Tryz.func87,Tryz.ntmps87
     go_wp2_with fail
     obtain⟨w0,hw0⟩:=zqe w 39 #[.int .i64 18,.string {data:=#[]},.slice A' n' c',.slice A n c];rw[← hw0];have bA:=zqn hw0;have hB0:=zqb hw0;clear hw0;obtain⟨aby,abz,ab1,abt⟩:=zc4 bA;refine(oz _ _ _ _).mono ?_;rintro e w' ⟨rfl,rfl⟩;rw[H16.out];go_wp2_with fail
     refine(ac8 (HT.out.c (kind:=0) hB0).1 HT.out.HS2 (HT.out.l hB0)).mono ?_;rintro e w1 ⟨rfl,hb1⟩;rw[HLO.out];have hB1:=hB0.trans (hb1.mono hB0.size);replace bA:=bA.step hb1;obtain⟨aap,aaq,aar,aan⟩:=zc4 bA;go_wp2_with fail
     go_ret
     exact⟨au HF.out.symm,hB1⟩
   ·have hE:=adw hz
    have hE2:=adl hz;clear hz;go_enter Tryz.func87,Tryz.ntmps87
    go_wp2_with fail
    obtain⟨w0,hw0⟩:=zqe w 39 #[.int .i64 18,.string name,.slice A' n' c',.slice A n c];rw[← hw0];have bA:=zqn hw0;have hB0:=zqb hw0;clear hw0;obtain⟨aby,abz,ab1,abt⟩:=zc4 bA;refine(oz _ _ _ _).mono ?_;rintro e w' ⟨rfl,rfl⟩;rw[H16.out];go_wp2_with fail
    go_ret
    exact⟨au HF.out.symm,hB0⟩
  ·have hl1:0 < n':=by have g2:=HT.out.HN';have h2:=hlo;simp only[aaj,Bool.and_eq_true,abm] at h2;omega
   by_cases hz:name.size=0
   case neg=>
    have hE:=adw hz;have hE2:=adl hz
    have HF:Hid (aag ⟨18,name,labels,kids⟩=false):=by
     show _=_;have g1:=HT.out.HN;have g2:=HT.out.HN';rw[lu]
     simp_all [named,inB,jk]
    have HLO:=zqd hlo;clear hlo hz;go_enter Tryz.func87,Tryz.ntmps87
    go_wp2_with fail
    obtain⟨w0,hw0⟩:=zqe w 39 #[.int .i64 18,.string name,.slice A' n' c',.slice A n c];rw[← hw0];have bA:=zqn hw0;have hB0:=zqb hw0;clear hw0;obtain⟨aby,abz,ab1,abt⟩:=zc4 bA;refine(oz _ _ _ _).mono ?_;rintro e w' ⟨rfl,rfl⟩;rw[H16.out];go_wp2_with fail
    go_ret
    exact⟨au HF.out.symm,hB0⟩
   obtain rfl:=ad3 hz;clear hz;by_cases hk0:n=0
   ·have hkk:((n:Int) ==0)=true:=by simp;omega
    have HF:Hid (aag ⟨18,{data:=#[]},labels,kids⟩=true):=by
     show _=_;have g1:=HT.out.HN;have g2:=HT.out.HN';rw[lu];have g0:({data:=#[]}:ByteArray).size=0:=rfl
     simp_all [named,inB,jk]
    have HLO:=zqd hlo;clear hlo hk0;go_enter Tryz.func87,Tryz.ntmps87
    go_wp2_with fail
    obtain⟨w0,hw0⟩:=zqe w 39 #[.int .i64 18,.string {data:=#[]},.slice A' n' c',.slice A n c];rw[← hw0];have bA:=zqn hw0;have hB0:=zqb hw0;clear hw0;obtain⟨aby,abz,ab1,abt⟩:=zc4 bA;refine(oz _ _ _ _).mono ?_;rintro e w' ⟨rfl,rfl⟩;rw[H16.out];go_wp2_with fail
    refine(ac8 (HT.out.c (kind:=0) hB0).1 HT.out.HS2 (HT.out.l hB0)).mono ?_;rintro e w1 ⟨rfl,hb1⟩;rw[HLO.out];have hB1:=hB0.trans (hb1.mono hB0.size);replace bA:=bA.step hb1;obtain⟨aap,aaq,aar,aan⟩:=zc4 bA;go_wp2_with fail
    refine(oz _ _ _ _).mono ?_;rintro e w' ⟨rfl,rfl⟩;rw[H23.out];go_wp2_with fail
    go_ret
    exact⟨au HF.out.symm,hB1⟩
   ·have hkk:((n:Int) ==0)=false:=by simp;omega
    have HF:Hid (aag ⟨18,{data:=#[]},labels,kids⟩=false):=by
     show _=_;have g1:=HT.out.HN;have g2:=HT.out.HN';rw[lu];have g0:({data:=#[]}:ByteArray).size=0:=rfl
     simp_all [named,inB,jk]
    have HLO:=zqd hlo;clear hlo hk0;go_enter Tryz.func87,Tryz.ntmps87
    go_wp2_with fail
    obtain⟨w0,hw0⟩:=zqe w 39 #[.int .i64 18,.string {data:=#[]},.slice A' n' c',.slice A n c];rw[← hw0];have bA:=zqn hw0;have hB0:=zqb hw0;clear hw0;obtain⟨aby,abz,ab1,abt⟩:=zc4 bA;refine(oz _ _ _ _).mono ?_;rintro e w' ⟨rfl,rfl⟩;rw[H16.out];go_wp2_with fail
    refine(ac8 (HT.out.c (kind:=0) hB0).1 HT.out.HS2 (HT.out.l hB0)).mono ?_;rintro e w1 ⟨rfl,hb1⟩;rw[HLO.out];have hB1:=hB0.trans (hb1.mono hB0.size);replace bA:=bA.step hb1;obtain⟨aap,aaq,aar,aan⟩:=zc4 bA;go_wp2_with fail
    refine(oz _ _ _ _).mono ?_;rintro e w' ⟨rfl,rfl⟩;rw[H23.out];go_wp2_with fail
    go_ret
    exact⟨au HF.out.symm,hB1⟩
 ·cases hlo:aaj labels
  ·have hx0:=True.intro
   have HF:Hid (aag ⟨19,name,labels,kids⟩=false):=by
    show _=_;have g1:=HT.out.HN;have g2:=HT.out.HN';rw[lu]
    simp_all [named,inB,jk]
   have HLO:=zqd hlo;clear hlo hx0;by_cases hz:name.size=0
   ·obtain rfl:=ad3 hz
    clear hz;by_cases hl:n'=0
    ·subst hl
     go_enter Tryz.func87,Tryz.ntmps87
     go_wp2_with fail
     obtain⟨w0,hw0⟩:=zqe w 39 #[.int .i64 19,.string {data:=#[]},.slice A' 0 c',.slice A n c];rw[← hw0];have bA:=zqn hw0;have hB0:=zqb hw0;clear hw0;obtain⟨aby,abz,ab1,abt⟩:=zc4 bA;refine(oz _ _ _ _).mono ?_;rintro e w' ⟨rfl,rfl⟩;rw[H16.out];go_wp2_with fail
     go_ret
     exact⟨au HF.out.symm,hB0⟩
    ·have hl1:0 < n':=by omega
     clear hl;go_enter Tryz.func87,Tryz.ntmps87
     go_wp2_with fail
     obtain⟨w0,hw0⟩:=zqe w 39 #[.int .i64 19,.string {data:=#[]},.slice A' n' c',.slice A n c];rw[← hw0];have bA:=zqn hw0;have hB0:=zqb hw0;clear hw0;obtain⟨aby,abz,ab1,abt⟩:=zc4 bA;refine(oz _ _ _ _).mono ?_;rintro e w' ⟨rfl,rfl⟩;rw[H16.out];go_wp2_with fail
     refine(ac8 (HT.out.c (kind:=0) hB0).1 HT.out.HS2 (HT.out.l hB0)).mono ?_;rintro e w1 ⟨rfl,hb1⟩;rw[HLO.out];have hB1:=hB0.trans (hb1.mono hB0.size);replace bA:=bA.step hb1;obtain⟨aap,aaq,aar,aan⟩:=zc4 bA;go_wp2_with fail
     go_ret
     exact⟨au HF.out.symm,hB1⟩
   ·have hE:=adw hz
    have hE2:=adl hz;clear hz;go_enter Tryz.func87,Tryz.ntmps87
    go_wp2_with fail
    obtain⟨w0,hw0⟩:=zqe w 39 #[.int .i64 19,.string name,.slice A' n' c',.slice A n c];rw[← hw0];have bA:=zqn hw0;have hB0:=zqb hw0;clear hw0;obtain⟨aby,abz,ab1,abt⟩:=zc4 bA;refine(oz _ _ _ _).mono ?_;rintro e w' ⟨rfl,rfl⟩;rw[H16.out];go_wp2_with fail
    go_ret
    exact⟨au HF.out.symm,hB0⟩
  ·have hl1:0 < n':=by have g2:=HT.out.HN';have h2:=hlo;simp only[aaj,Bool.and_eq_true,abm] at h2;omega
   by_cases hz:name.size=0
   case neg=>
    have hE:=adw hz;have hE2:=adl hz
    have HF:Hid (aag ⟨19,name,labels,kids⟩=false):=by
     show _=_;have g1:=HT.out.HN;have g2:=HT.out.HN';rw[lu]
     simp_all [named,inB,jk]
    have HLO:=zqd hlo;clear hlo hz;go_enter Tryz.func87,Tryz.ntmps87
    go_wp2_with fail
    obtain⟨w0,hw0⟩:=zqe w 39 #[.int .i64 19,.string name,.slice A' n' c',.slice A n c];rw[← hw0];have bA:=zqn hw0;have hB0:=zqb hw0;clear hw0;obtain⟨aby,abz,ab1,abt⟩:=zc4 bA;refine(oz _ _ _ _).mono ?_;rintro e w' ⟨rfl,rfl⟩;rw[H16.out];go_wp2_with fail
    go_ret
    exact⟨au HF.out.symm,hB0⟩
   obtain rfl:=ad3 hz;clear hz;by_cases hk0:n=0
   ·have hkk:((n:Int) ==0)=true:=by simp;omega
    have HF:Hid (aag ⟨19,{data:=#[]},labels,kids⟩=true):=by
     show _=_;have g1:=HT.out.HN;have g2:=HT.out.HN';rw[lu];have g0:({data:=#[]}:ByteArray).size=0:=rfl
     simp_all [named,inB,jk]
    have HLO:=zqd hlo;clear hlo hk0;go_enter Tryz.func87,Tryz.ntmps87
    go_wp2_with fail
    obtain⟨w0,hw0⟩:=zqe w 39 #[.int .i64 19,.string {data:=#[]},.slice A' n' c',.slice A n c];rw[← hw0];have bA:=zqn hw0;have hB0:=zqb hw0;clear hw0;obtain⟨aby,abz,ab1,abt⟩:=zc4 bA;refine(oz _ _ _ _).mono ?_;rintro e w' ⟨rfl,rfl⟩;rw[H16.out];go_wp2_with fail
    refine(ac8 (HT.out.c (kind:=0) hB0).1 HT.out.HS2 (HT.out.l hB0)).mono ?_;rintro e w1 ⟨rfl,hb1⟩;rw[HLO.out];have hB1:=hB0.trans (hb1.mono hB0.size);replace bA:=bA.step hb1;obtain⟨aap,aaq,aar,aan⟩:=zc4 bA;go_wp2_with fail
    refine(oz _ _ _ _).mono ?_;rintro e w' ⟨rfl,rfl⟩;rw[H23.out];go_wp2_with fail
    go_ret
    exact⟨au HF.out.symm,hB1⟩
   ·have hkk:((n:Int) ==0)=false:=by simp;omega
    have HF:Hid (aag ⟨19,{data:=#[]},labels,kids⟩=false):=by
     show _=_;have g1:=HT.out.HN;have g2:=HT.out.HN';rw[lu];have g0:({data:=#[]}:ByteArray).size=0:=rfl
     simp_all [named,inB,jk]
    have HLO:=zqd hlo;clear hlo hk0;go_enter Tryz.func87,Tryz.ntmps87
    go_wp2_with fail
    obtain⟨w0,hw0⟩:=zqe w 39 #[.int .i64 19,.string {data:=#[]},.slice A' n' c',.slice A n c];rw[← hw0];have bA:=zqn hw0;have hB0:=zqb hw0;clear hw0;obtain⟨aby,abz,ab1,abt⟩:=zc4 bA;refine(oz _ _ _ _).mono ?_;rintro e w' ⟨rfl,rfl⟩;rw[H16.out];go_wp2_with fail
    refine(ac8 (HT.out.c (kind:=0) hB0).1 HT.out.HS2 (HT.out.l hB0)).mono ?_;rintro e w1 ⟨rfl,hb1⟩;rw[HLO.out];have hB1:=hB0.trans (hb1.mono hB0.size);replace bA:=bA.step hb1;obtain⟨aap,aaq,aar,aan⟩:=zc4 bA;go_wp2_with fail
    refine(oz _ _ _ _).mono ?_;rintro e w' ⟨rfl,rfl⟩;rw[H23.out];go_wp2_with fail
    go_ret
    exact⟨au HF.out.symm,hB1⟩
end Go.Proofs.YtfpannkadjdnaaaGreatDoor
