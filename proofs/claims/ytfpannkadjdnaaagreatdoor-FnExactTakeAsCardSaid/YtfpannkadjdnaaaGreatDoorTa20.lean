/-
  impllab (by program: gen_shape.py).
-/
import Derived.Test.YtfpannkadjdnaaaGreatDoorTa16
namespace Go.Proofs.YtfpannkadjdnaaaGreatDoor
open Go.RowKit
set_option linter.all false
set_option maxHeartbeats 4000000 in
theorem aqj {kind:Int} {name:ByteArray} {labels:List ByteArray} {kids:List Ty} {B n n' c c':Nat} {A A':Option Addr} {w:World} (HT:Hid (aja B n n' c c' A A' name labels kids w)) (HI:Hid (∀ t ∈ kids,aku t)) (HW:Hid (∀ t ∈ kids,PD.wfL (Ty.pd t))) (HK:Hid ((kids.any fun t=>!t.shapes)=false)) (hk:kind=16∨kind=17∨kind=18∨kind=19):Calls Tryz.prog 42 #[.agg #[.int .i64 kind,.string name,.slice A' n' c',.slice A n c]] w fun e w'=>e=.returned (.bool (Ty.shapes ⟨kind,name,labels,kids⟩))∧Below w.heap.size w w':=by
 have hn:=HT.out.hn;have hn':=HT.out.hn';have H16:Hid (inB kind 16 19=true):=afp (by omega) (by omega);have H23:Hid (inB kind 1 23=true):=afp (by omega) (by omega);rcases hk with rfl|rfl|rfl|rfl
 ·cases hlo:aaj labels
  ·have hx0:=True.intro
   have HF:Hid (Ty.shapes ⟨16,name,labels,kids⟩=false):=by
    show _=_;have g1:=HT.out.HN;have g2:=HT.out.HN';rw[Ty.shapes,uw HK.out,Bool.and_true];rw[lu]
    simp_all [named,inB,jk]
   have HLO:=zqd hlo;clear hlo hx0;go_enter Tryz.func42,Tryz.ntmps42
   go_wp2_with fail
   obtain⟨w0,hw0⟩:=zqe w 39 #[.int .i64 16,.string name,.slice A' n' c',.slice A n c];rw[← hw0];have bA:=zqn hw0;have hB0:=zqb hw0;clear hw0;refine(ql 0 HT HI HW hB0).mono ?_;rintro e w1 ⟨rfl,hb1⟩;rw[HK.out];have hB1:=hB0.trans (hb1.mono hB0.size);replace bA:=bA.step hb1;obtain⟨aap,aaq,aar,aan⟩:=zc4 bA;go_wp2_with fail
   refine(ny _ _ _ _).mono ?_;rintro e w' ⟨rfl,rfl⟩;rw[H16.out];go_wp2_with fail
   refine(abn (HT.out.c (kind:=0) hB1).1 HT.out.HS2 (HT.out.l hB1)).mono ?_;rintro e w2 ⟨rfl,hb2⟩;rw[HLO.out];have hB2:=hB1.trans (hb2.mono hB1.size);replace bA:=bA.step hb2;obtain⟨aen,aeo,aep,aer⟩:=zc4 bA;go_wp2_with fail
   go_ret
   exact⟨au HF.out.symm,hB2⟩
  ·have hl1:0 < n':=by have g2:=HT.out.HN';have h2:=hlo;simp only[aaj,Bool.and_eq_true,abm] at h2;omega
   by_cases hz:name.size=0
   case neg=>
    have hE:=adw hz;have hE2:=adl hz
    have HF:Hid (Ty.shapes ⟨16,name,labels,kids⟩=false):=by
     show _=_;have g1:=HT.out.HN;have g2:=HT.out.HN';rw[Ty.shapes,uw HK.out,Bool.and_true];rw[lu]
     simp_all [named,inB,jk]
    have HLO:=zqd hlo;clear hlo hz;go_enter Tryz.func42,Tryz.ntmps42
    go_wp2_with fail
    obtain⟨w0,hw0⟩:=zqe w 39 #[.int .i64 16,.string name,.slice A' n' c',.slice A n c];rw[← hw0];have bA:=zqn hw0;have hB0:=zqb hw0;clear hw0;refine(ql 0 HT HI HW hB0).mono ?_;rintro e w1 ⟨rfl,hb1⟩;rw[HK.out];have hB1:=hB0.trans (hb1.mono hB0.size);replace bA:=bA.step hb1;obtain⟨aap,aaq,aar,aan⟩:=zc4 bA;go_wp2_with fail
    refine(ny _ _ _ _).mono ?_;rintro e w' ⟨rfl,rfl⟩;rw[H16.out];go_wp2_with fail
    refine(abn (HT.out.c (kind:=0) hB1).1 HT.out.HS2 (HT.out.l hB1)).mono ?_;rintro e w2 ⟨rfl,hb2⟩;rw[HLO.out];have hB2:=hB1.trans (hb2.mono hB1.size);replace bA:=bA.step hb2;obtain⟨aen,aeo,aep,aer⟩:=zc4 bA;go_wp2_with fail
    go_ret
    exact⟨au HF.out.symm,hB2⟩
   obtain rfl:=ad3 hz;clear hz;by_cases hk0:n=n'
   ·have hkk:((n:Int) ==(n':Int))=true:=by rw[beq_iff_eq];omega
    cases hu:aa4 kids
    ·have hx0:=True.intro
     have HF:Hid (Ty.shapes ⟨16,{data:=#[]},labels,kids⟩=false):=by
      show _=_;have g1:=HT.out.HN;have g2:=HT.out.HN';rw[Ty.shapes,uw HK.out,Bool.and_true];rw[lu];have g0:({data:=#[]}:ByteArray).size=0:=rfl
      simp_all [named,inB,jk]
     have HLO:=zqd hlo;have HU:Hid ((decide ((kids.length:Int)=(n':Int)) && aa4 kids)=false):=by show _=_;have g1:=HT.out.HN;rw[hu,decide_eq_true (by omega)];rfl
     clear hlo hu hk0 hx0;go_enter Tryz.func42,Tryz.ntmps42
     go_wp2_with fail
     obtain⟨w0,hw0⟩:=zqe w 39 #[.int .i64 16,.string {data:=#[]},.slice A' n' c',.slice A n c];rw[← hw0];have bA:=zqn hw0;have hB0:=zqb hw0;clear hw0;refine(ql 0 HT HI HW hB0).mono ?_;rintro e w1 ⟨rfl,hb1⟩;rw[HK.out];have hB1:=hB0.trans (hb1.mono hB0.size);replace bA:=bA.step hb1;obtain⟨aap,aaq,aar,aan⟩:=zc4 bA;go_wp2_with fail
     refine(ny _ _ _ _).mono ?_;rintro e w' ⟨rfl,rfl⟩;rw[H16.out];go_wp2_with fail
     refine(abn (HT.out.c (kind:=0) hB1).1 HT.out.HS2 (HT.out.l hB1)).mono ?_;rintro e w2 ⟨rfl,hb2⟩;rw[HLO.out];have hB2:=hB1.trans (hb2.mono hB1.size);replace bA:=bA.step hb2;obtain⟨aen,aeo,aep,aer⟩:=zc4 bA;go_wp2_with fail
     have hA3:=bA.lt;have hBd:=hB2.drew
     go_region_held3 (fun w'=>w'.cell? ⟨w.heap.size,0,none⟩=some (.int .i64 16)∧w'.cell? ⟨w.heap.size,1,none⟩=some (.string {data:=#[]})∧w'.cell? ⟨w.heap.size,2,none⟩=some (.slice A' n' c')∧w'.cell? ⟨w.heap.size,3,none⟩=some (.slice A n c))
      (first|go_keep|exact⟨(hbq.cell (p:=⟨w.heap.size,0,none⟩) hA3).trans aen,(hbq.cell (p:=⟨w.heap.size,1,none⟩) hA3).trans aeo,(hbq.cell (p:=⟨w.heap.size,2,none⟩) hA3).trans aep,(hbq.cell (p:=⟨w.heap.size,3,none⟩) hA3).trans aer⟩)
      (first|(go_at_call 72;refine(ai9 (HT.out.l hBd)).mono ?_;rintro e w' ⟨rfl,rfl⟩;rw[← HT.out.HN'])|(go_at_call 70;refine(af5 ⟨16,{data:=#[]},labels,kids⟩ n' (HT.out.c (kind:=0) hBd).1 (HT.out.c hBd).2).mono ?_;rintro e wq ⟨rfl,hbq⟩;rw[show(decide (((Ty.kids ⟨16,{data:=#[]},labels,kids⟩).length:Int)=n') && aa4 (Ty.kids ⟨16,{data:=#[]},labels,kids⟩))=_ from HU.out]))
     have hB3:Below w.heap.size w wq:=hBd.trans (hbq.mono hB2.size);go_wp2_with fail
     go_ret
     exact⟨au HF.out.symm,hB3⟩
    ·have hx0:=True.intro
     have HF:Hid (Ty.shapes ⟨16,{data:=#[]},labels,kids⟩=true):=by
      show _=_;have g1:=HT.out.HN;have g2:=HT.out.HN';rw[Ty.shapes,uw HK.out,Bool.and_true];rw[lu];have g0:({data:=#[]}:ByteArray).size=0:=rfl
      simp_all [named,inB,jk]
     have HLO:=zqd hlo;have HU:Hid ((decide ((kids.length:Int)=(n':Int)) && aa4 kids)=true):=by show _=_;have g1:=HT.out.HN;rw[hu,decide_eq_true (by omega)];rfl
     clear hlo hu hk0 hx0;go_enter Tryz.func42,Tryz.ntmps42
     go_wp2_with fail
     obtain⟨w0,hw0⟩:=zqe w 39 #[.int .i64 16,.string {data:=#[]},.slice A' n' c',.slice A n c];rw[← hw0];have bA:=zqn hw0;have hB0:=zqb hw0;clear hw0;refine(ql 0 HT HI HW hB0).mono ?_;rintro e w1 ⟨rfl,hb1⟩;rw[HK.out];have hB1:=hB0.trans (hb1.mono hB0.size);replace bA:=bA.step hb1;obtain⟨aap,aaq,aar,aan⟩:=zc4 bA;go_wp2_with fail
     refine(ny _ _ _ _).mono ?_;rintro e w' ⟨rfl,rfl⟩;rw[H16.out];go_wp2_with fail
     refine(abn (HT.out.c (kind:=0) hB1).1 HT.out.HS2 (HT.out.l hB1)).mono ?_;rintro e w2 ⟨rfl,hb2⟩;rw[HLO.out];have hB2:=hB1.trans (hb2.mono hB1.size);replace bA:=bA.step hb2;obtain⟨aen,aeo,aep,aer⟩:=zc4 bA;go_wp2_with fail
     have hA3:=bA.lt;have hBd:=hB2.drew
     go_region_held3 (fun w'=>w'.cell? ⟨w.heap.size,0,none⟩=some (.int .i64 16)∧w'.cell? ⟨w.heap.size,1,none⟩=some (.string {data:=#[]})∧w'.cell? ⟨w.heap.size,2,none⟩=some (.slice A' n' c')∧w'.cell? ⟨w.heap.size,3,none⟩=some (.slice A n c))
      (first|go_keep|exact⟨(hbq.cell (p:=⟨w.heap.size,0,none⟩) hA3).trans aen,(hbq.cell (p:=⟨w.heap.size,1,none⟩) hA3).trans aeo,(hbq.cell (p:=⟨w.heap.size,2,none⟩) hA3).trans aep,(hbq.cell (p:=⟨w.heap.size,3,none⟩) hA3).trans aer⟩)
      (first|(go_at_call 72;refine(ai9 (HT.out.l hBd)).mono ?_;rintro e w' ⟨rfl,rfl⟩;rw[← HT.out.HN'])|(go_at_call 70;refine(af5 ⟨16,{data:=#[]},labels,kids⟩ n' (HT.out.c (kind:=0) hBd).1 (HT.out.c hBd).2).mono ?_;rintro e wq ⟨rfl,hbq⟩;rw[show(decide (((Ty.kids ⟨16,{data:=#[]},labels,kids⟩).length:Int)=n') && aa4 (Ty.kids ⟨16,{data:=#[]},labels,kids⟩))=_ from HU.out]))
     have hB3:Below w.heap.size w wq:=hBd.trans (hbq.mono hB2.size);go_wp2_with fail
     go_ret
     exact⟨au HF.out.symm,hB3⟩
   ·have hkk:((n:Int) ==(n':Int))=false:=by rw[beq_eq_false_iff_ne];omega
    have HF:Hid (Ty.shapes ⟨16,{data:=#[]},labels,kids⟩=false):=by
     show _=_;have g1:=HT.out.HN;have g2:=HT.out.HN';rw[Ty.shapes,uw HK.out,Bool.and_true];rw[lu];have g0:({data:=#[]}:ByteArray).size=0:=rfl
     simp_all [named,inB,jk]
    have HLO:=zqd hlo;have HU:Hid ((decide ((kids.length:Int)=(n':Int)) && aa4 kids)=false):=by show _=_;have g1:=HT.out.HN;rw[decide_eq_false (by omega)];rfl
    clear hlo hk0;go_enter Tryz.func42,Tryz.ntmps42
    go_wp2_with fail
    obtain⟨w0,hw0⟩:=zqe w 39 #[.int .i64 16,.string {data:=#[]},.slice A' n' c',.slice A n c];rw[← hw0];have bA:=zqn hw0;have hB0:=zqb hw0;clear hw0;refine(ql 0 HT HI HW hB0).mono ?_;rintro e w1 ⟨rfl,hb1⟩;rw[HK.out];have hB1:=hB0.trans (hb1.mono hB0.size);replace bA:=bA.step hb1;obtain⟨aap,aaq,aar,aan⟩:=zc4 bA;go_wp2_with fail
    refine(ny _ _ _ _).mono ?_;rintro e w' ⟨rfl,rfl⟩;rw[H16.out];go_wp2_with fail
    refine(abn (HT.out.c (kind:=0) hB1).1 HT.out.HS2 (HT.out.l hB1)).mono ?_;rintro e w2 ⟨rfl,hb2⟩;rw[HLO.out];have hB2:=hB1.trans (hb2.mono hB1.size);replace bA:=bA.step hb2;obtain⟨aen,aeo,aep,aer⟩:=zc4 bA;go_wp2_with fail
    have hA3:=bA.lt;have hBd:=hB2.drew
    go_region_held3 (fun w'=>w'.cell? ⟨w.heap.size,0,none⟩=some (.int .i64 16)∧w'.cell? ⟨w.heap.size,1,none⟩=some (.string {data:=#[]})∧w'.cell? ⟨w.heap.size,2,none⟩=some (.slice A' n' c')∧w'.cell? ⟨w.heap.size,3,none⟩=some (.slice A n c))
     (first|go_keep|exact⟨(hbq.cell (p:=⟨w.heap.size,0,none⟩) hA3).trans aen,(hbq.cell (p:=⟨w.heap.size,1,none⟩) hA3).trans aeo,(hbq.cell (p:=⟨w.heap.size,2,none⟩) hA3).trans aep,(hbq.cell (p:=⟨w.heap.size,3,none⟩) hA3).trans aer⟩)
     (first|(go_at_call 72;refine(ai9 (HT.out.l hBd)).mono ?_;rintro e w' ⟨rfl,rfl⟩;rw[← HT.out.HN'])|(go_at_call 70;refine(af5 ⟨16,{data:=#[]},labels,kids⟩ n' (HT.out.c (kind:=0) hBd).1 (HT.out.c hBd).2).mono ?_;rintro e wq ⟨rfl,hbq⟩;rw[show(decide (((Ty.kids ⟨16,{data:=#[]},labels,kids⟩).length:Int)=n') && aa4 (Ty.kids ⟨16,{data:=#[]},labels,kids⟩))=_ from HU.out]))
    have hB3:Below w.heap.size w wq:=hBd.trans (hbq.mono hB2.size);go_wp2_with fail
    go_ret
    exact⟨au HF.out.symm,hB3⟩
 ·cases hlo:aaj labels
  ·have hx0:=True.intro
   have HF:Hid (Ty.shapes ⟨17,name,labels,kids⟩=false):=by
    show _=_;have g1:=HT.out.HN;have g2:=HT.out.HN';rw[Ty.shapes,uw HK.out,Bool.and_true];rw[lu]
    simp_all [named,inB,jk]
   have HLO:=zqd hlo;clear hlo hx0;go_enter Tryz.func42,Tryz.ntmps42
   go_wp2_with fail
   obtain⟨w0,hw0⟩:=zqe w 39 #[.int .i64 17,.string name,.slice A' n' c',.slice A n c];rw[← hw0];have bA:=zqn hw0;have hB0:=zqb hw0;clear hw0;refine(ql 0 HT HI HW hB0).mono ?_;rintro e w1 ⟨rfl,hb1⟩;rw[HK.out];have hB1:=hB0.trans (hb1.mono hB0.size);replace bA:=bA.step hb1;obtain⟨aap,aaq,aar,aan⟩:=zc4 bA;go_wp2_with fail
   refine(ny _ _ _ _).mono ?_;rintro e w' ⟨rfl,rfl⟩;rw[H16.out];go_wp2_with fail
   refine(abn (HT.out.c (kind:=0) hB1).1 HT.out.HS2 (HT.out.l hB1)).mono ?_;rintro e w2 ⟨rfl,hb2⟩;rw[HLO.out];have hB2:=hB1.trans (hb2.mono hB1.size);replace bA:=bA.step hb2;obtain⟨aen,aeo,aep,aer⟩:=zc4 bA;go_wp2_with fail
   go_ret
   exact⟨au HF.out.symm,hB2⟩
  ·have hl1:0 < n':=by have g2:=HT.out.HN';have h2:=hlo;simp only[aaj,Bool.and_eq_true,abm] at h2;omega
   by_cases hz:name.size=0
   case neg=>
    have hE:=adw hz;have hE2:=adl hz
    have HF:Hid (Ty.shapes ⟨17,name,labels,kids⟩=false):=by
     show _=_;have g1:=HT.out.HN;have g2:=HT.out.HN';rw[Ty.shapes,uw HK.out,Bool.and_true];rw[lu]
     simp_all [named,inB,jk]
    have HLO:=zqd hlo;clear hlo hz;go_enter Tryz.func42,Tryz.ntmps42
    go_wp2_with fail
    obtain⟨w0,hw0⟩:=zqe w 39 #[.int .i64 17,.string name,.slice A' n' c',.slice A n c];rw[← hw0];have bA:=zqn hw0;have hB0:=zqb hw0;clear hw0;refine(ql 0 HT HI HW hB0).mono ?_;rintro e w1 ⟨rfl,hb1⟩;rw[HK.out];have hB1:=hB0.trans (hb1.mono hB0.size);replace bA:=bA.step hb1;obtain⟨aap,aaq,aar,aan⟩:=zc4 bA;go_wp2_with fail
    refine(ny _ _ _ _).mono ?_;rintro e w' ⟨rfl,rfl⟩;rw[H16.out];go_wp2_with fail
    refine(abn (HT.out.c (kind:=0) hB1).1 HT.out.HS2 (HT.out.l hB1)).mono ?_;rintro e w2 ⟨rfl,hb2⟩;rw[HLO.out];have hB2:=hB1.trans (hb2.mono hB1.size);replace bA:=bA.step hb2;obtain⟨aen,aeo,aep,aer⟩:=zc4 bA;go_wp2_with fail
    go_ret
    exact⟨au HF.out.symm,hB2⟩
   obtain rfl:=ad3 hz;clear hz;by_cases hk0:n=n'
   ·have hkk:((n:Int) ==(n':Int))=true:=by rw[beq_iff_eq];omega
    have HF:Hid (Ty.shapes ⟨17,{data:=#[]},labels,kids⟩=true):=by
     show _=_;have g1:=HT.out.HN;have g2:=HT.out.HN';rw[Ty.shapes,uw HK.out,Bool.and_true];rw[lu];have g0:({data:=#[]}:ByteArray).size=0:=rfl
     simp_all [named,inB,jk]
    have HLO:=zqd hlo;clear hlo hk0;go_enter Tryz.func42,Tryz.ntmps42
    go_wp2_with fail
    obtain⟨w0,hw0⟩:=zqe w 39 #[.int .i64 17,.string {data:=#[]},.slice A' n' c',.slice A n c];rw[← hw0];have bA:=zqn hw0;have hB0:=zqb hw0;clear hw0;refine(ql 0 HT HI HW hB0).mono ?_;rintro e w1 ⟨rfl,hb1⟩;rw[HK.out];have hB1:=hB0.trans (hb1.mono hB0.size);replace bA:=bA.step hb1;obtain⟨aap,aaq,aar,aan⟩:=zc4 bA;go_wp2_with fail
    refine(ny _ _ _ _).mono ?_;rintro e w' ⟨rfl,rfl⟩;rw[H16.out];go_wp2_with fail
    refine(abn (HT.out.c (kind:=0) hB1).1 HT.out.HS2 (HT.out.l hB1)).mono ?_;rintro e w2 ⟨rfl,hb2⟩;rw[HLO.out];have hB2:=hB1.trans (hb2.mono hB1.size);replace bA:=bA.step hb2;obtain⟨aen,aeo,aep,aer⟩:=zc4 bA;go_wp2_with fail
    go_ret
    exact⟨au HF.out.symm,hB2⟩
   ·have hkk:((n:Int) ==(n':Int))=false:=by rw[beq_eq_false_iff_ne];omega
    have HF:Hid (Ty.shapes ⟨17,{data:=#[]},labels,kids⟩=false):=by
     show _=_;have g1:=HT.out.HN;have g2:=HT.out.HN';rw[Ty.shapes,uw HK.out,Bool.and_true];rw[lu];have g0:({data:=#[]}:ByteArray).size=0:=rfl
     simp_all [named,inB,jk]
    have HLO:=zqd hlo;clear hlo hk0;go_enter Tryz.func42,Tryz.ntmps42
    go_wp2_with fail
    obtain⟨w0,hw0⟩:=zqe w 39 #[.int .i64 17,.string {data:=#[]},.slice A' n' c',.slice A n c];rw[← hw0];have bA:=zqn hw0;have hB0:=zqb hw0;clear hw0;refine(ql 0 HT HI HW hB0).mono ?_;rintro e w1 ⟨rfl,hb1⟩;rw[HK.out];have hB1:=hB0.trans (hb1.mono hB0.size);replace bA:=bA.step hb1;obtain⟨aap,aaq,aar,aan⟩:=zc4 bA;go_wp2_with fail
    refine(ny _ _ _ _).mono ?_;rintro e w' ⟨rfl,rfl⟩;rw[H16.out];go_wp2_with fail
    refine(abn (HT.out.c (kind:=0) hB1).1 HT.out.HS2 (HT.out.l hB1)).mono ?_;rintro e w2 ⟨rfl,hb2⟩;rw[HLO.out];have hB2:=hB1.trans (hb2.mono hB1.size);replace bA:=bA.step hb2;obtain⟨aen,aeo,aep,aer⟩:=zc4 bA;go_wp2_with fail
    go_ret
    exact⟨au HF.out.symm,hB2⟩
 ·cases hlo:aaj labels
  ·have hx0:=True.intro
   have HF:Hid (Ty.shapes ⟨18,name,labels,kids⟩=false):=by
    show _=_;have g1:=HT.out.HN;have g2:=HT.out.HN';rw[Ty.shapes,uw HK.out,Bool.and_true];rw[lu]
    simp_all [named,inB,jk]
   have HLO:=zqd hlo;clear hlo hx0;go_enter Tryz.func42,Tryz.ntmps42
   go_wp2_with fail
   obtain⟨w0,hw0⟩:=zqe w 39 #[.int .i64 18,.string name,.slice A' n' c',.slice A n c];rw[← hw0];have bA:=zqn hw0;have hB0:=zqb hw0;clear hw0;refine(ql 0 HT HI HW hB0).mono ?_;rintro e w1 ⟨rfl,hb1⟩;rw[HK.out];have hB1:=hB0.trans (hb1.mono hB0.size);replace bA:=bA.step hb1;obtain⟨aap,aaq,aar,aan⟩:=zc4 bA;go_wp2_with fail
   refine(ny _ _ _ _).mono ?_;rintro e w' ⟨rfl,rfl⟩;rw[H16.out];go_wp2_with fail
   refine(abn (HT.out.c (kind:=0) hB1).1 HT.out.HS2 (HT.out.l hB1)).mono ?_;rintro e w2 ⟨rfl,hb2⟩;rw[HLO.out];have hB2:=hB1.trans (hb2.mono hB1.size);replace bA:=bA.step hb2;obtain⟨aen,aeo,aep,aer⟩:=zc4 bA;go_wp2_with fail
   go_ret
   exact⟨au HF.out.symm,hB2⟩
  ·have hl1:0 < n':=by have g2:=HT.out.HN';have h2:=hlo;simp only[aaj,Bool.and_eq_true,abm] at h2;omega
   by_cases hz:name.size=0
   case neg=>
    have hE:=adw hz;have hE2:=adl hz
    have HF:Hid (Ty.shapes ⟨18,name,labels,kids⟩=false):=by
     show _=_;have g1:=HT.out.HN;have g2:=HT.out.HN';rw[Ty.shapes,uw HK.out,Bool.and_true];rw[lu]
     simp_all [named,inB,jk]
    have HLO:=zqd hlo;clear hlo hz;go_enter Tryz.func42,Tryz.ntmps42
    go_wp2_with fail
    obtain⟨w0,hw0⟩:=zqe w 39 #[.int .i64 18,.string name,.slice A' n' c',.slice A n c];rw[← hw0];have bA:=zqn hw0;have hB0:=zqb hw0;clear hw0;refine(ql 0 HT HI HW hB0).mono ?_;rintro e w1 ⟨rfl,hb1⟩;rw[HK.out];have hB1:=hB0.trans (hb1.mono hB0.size);replace bA:=bA.step hb1;obtain⟨aap,aaq,aar,aan⟩:=zc4 bA;go_wp2_with fail
    refine(ny _ _ _ _).mono ?_;rintro e w' ⟨rfl,rfl⟩;rw[H16.out];go_wp2_with fail
    refine(abn (HT.out.c (kind:=0) hB1).1 HT.out.HS2 (HT.out.l hB1)).mono ?_;rintro e w2 ⟨rfl,hb2⟩;rw[HLO.out];have hB2:=hB1.trans (hb2.mono hB1.size);replace bA:=bA.step hb2;obtain⟨aen,aeo,aep,aer⟩:=zc4 bA;go_wp2_with fail
    go_ret
    exact⟨au HF.out.symm,hB2⟩
   obtain rfl:=ad3 hz;clear hz;by_cases hk0:n=0
   ·have hkk:((n:Int) ==0)=true:=by simp;omega
    have HF:Hid (Ty.shapes ⟨18,{data:=#[]},labels,kids⟩=true):=by
     show _=_;have g1:=HT.out.HN;have g2:=HT.out.HN';rw[Ty.shapes,uw HK.out,Bool.and_true];rw[lu];have g0:({data:=#[]}:ByteArray).size=0:=rfl
     simp_all [named,inB,jk]
    have HLO:=zqd hlo;clear hlo hk0;go_enter Tryz.func42,Tryz.ntmps42
    go_wp2_with fail
    obtain⟨w0,hw0⟩:=zqe w 39 #[.int .i64 18,.string {data:=#[]},.slice A' n' c',.slice A n c];rw[← hw0];have bA:=zqn hw0;have hB0:=zqb hw0;clear hw0;refine(ql 0 HT HI HW hB0).mono ?_;rintro e w1 ⟨rfl,hb1⟩;rw[HK.out];have hB1:=hB0.trans (hb1.mono hB0.size);replace bA:=bA.step hb1;obtain⟨aap,aaq,aar,aan⟩:=zc4 bA;go_wp2_with fail
    refine(ny _ _ _ _).mono ?_;rintro e w' ⟨rfl,rfl⟩;rw[H16.out];go_wp2_with fail
    refine(abn (HT.out.c (kind:=0) hB1).1 HT.out.HS2 (HT.out.l hB1)).mono ?_;rintro e w2 ⟨rfl,hb2⟩;rw[HLO.out];have hB2:=hB1.trans (hb2.mono hB1.size);replace bA:=bA.step hb2;obtain⟨aen,aeo,aep,aer⟩:=zc4 bA;go_wp2_with fail
    refine(ny _ _ _ _).mono ?_;rintro e w' ⟨rfl,rfl⟩;rw[H23.out];go_wp2_with fail
    go_ret
    exact⟨au HF.out.symm,hB2⟩
   ·have hkk:((n:Int) ==0)=false:=by simp;omega
    have HF:Hid (Ty.shapes ⟨18,{data:=#[]},labels,kids⟩=false):=by
     show _=_;have g1:=HT.out.HN;have g2:=HT.out.HN';rw[Ty.shapes,uw HK.out,Bool.and_true];rw[lu];have g0:({data:=#[]}:ByteArray).size=0:=rfl
     simp_all [named,inB,jk]
    have HLO:=zqd hlo;clear hlo hk0;go_enter Tryz.func42,Tryz.ntmps42
    go_wp2_with fail
    obtain⟨w0,hw0⟩:=zqe w 39 #[.int .i64 18,.string {data:=#[]},.slice A' n' c',.slice A n c];rw[← hw0];have bA:=zqn hw0;have hB0:=zqb hw0;clear hw0;refine(ql 0 HT HI HW hB0).mono ?_;rintro e w1 ⟨rfl,hb1⟩;rw[HK.out];have hB1:=hB0.trans (hb1.mono hB0.size);replace bA:=bA.step hb1;obtain⟨aap,aaq,aar,aan⟩:=zc4 bA;go_wp2_with fail
    refine(ny _ _ _ _).mono ?_;rintro e w' ⟨rfl,rfl⟩;rw[H16.out];go_wp2_with fail
    refine(abn (HT.out.c (kind:=0) hB1).1 HT.out.HS2 (HT.out.l hB1)).mono ?_;rintro e w2 ⟨rfl,hb2⟩;rw[HLO.out];have hB2:=hB1.trans (hb2.mono hB1.size);replace bA:=bA.step hb2;obtain⟨aen,aeo,aep,aer⟩:=zc4 bA;go_wp2_with fail
    refine(ny _ _ _ _).mono ?_;rintro e w' ⟨rfl,rfl⟩;rw[H23.out];go_wp2_with fail
    go_ret
    exact⟨au HF.out.symm,hB2⟩
 ·cases hlo:aaj labels
  ·have hx0:=True.intro
   have HF:Hid (Ty.shapes ⟨19,name,labels,kids⟩=false):=by
    show _=_;have g1:=HT.out.HN;have g2:=HT.out.HN';rw[Ty.shapes,uw HK.out,Bool.and_true];rw[lu]
    simp_all [named,inB,jk]
   have HLO:=zqd hlo;clear hlo hx0;go_enter Tryz.func42,Tryz.ntmps42
   go_wp2_with fail
   obtain⟨w0,hw0⟩:=zqe w 39 #[.int .i64 19,.string name,.slice A' n' c',.slice A n c];rw[← hw0];have bA:=zqn hw0;have hB0:=zqb hw0;clear hw0;refine(ql 0 HT HI HW hB0).mono ?_;rintro e w1 ⟨rfl,hb1⟩;rw[HK.out];have hB1:=hB0.trans (hb1.mono hB0.size);replace bA:=bA.step hb1;obtain⟨aap,aaq,aar,aan⟩:=zc4 bA;go_wp2_with fail
   refine(ny _ _ _ _).mono ?_;rintro e w' ⟨rfl,rfl⟩;rw[H16.out];go_wp2_with fail
   refine(abn (HT.out.c (kind:=0) hB1).1 HT.out.HS2 (HT.out.l hB1)).mono ?_;rintro e w2 ⟨rfl,hb2⟩;rw[HLO.out];have hB2:=hB1.trans (hb2.mono hB1.size);replace bA:=bA.step hb2;obtain⟨aen,aeo,aep,aer⟩:=zc4 bA;go_wp2_with fail
   go_ret
   exact⟨au HF.out.symm,hB2⟩
  ·have hl1:0 < n':=by have g2:=HT.out.HN';have h2:=hlo;simp only[aaj,Bool.and_eq_true,abm] at h2;omega
   by_cases hz:name.size=0
   case neg=>
    have hE:=adw hz;have hE2:=adl hz
    have HF:Hid (Ty.shapes ⟨19,name,labels,kids⟩=false):=by
     show _=_;have g1:=HT.out.HN;have g2:=HT.out.HN';rw[Ty.shapes,uw HK.out,Bool.and_true];rw[lu]
     simp_all [named,inB,jk]
    have HLO:=zqd hlo;clear hlo hz;go_enter Tryz.func42,Tryz.ntmps42
    go_wp2_with fail
    obtain⟨w0,hw0⟩:=zqe w 39 #[.int .i64 19,.string name,.slice A' n' c',.slice A n c];rw[← hw0];have bA:=zqn hw0;have hB0:=zqb hw0;clear hw0;refine(ql 0 HT HI HW hB0).mono ?_;rintro e w1 ⟨rfl,hb1⟩;rw[HK.out];have hB1:=hB0.trans (hb1.mono hB0.size);replace bA:=bA.step hb1;obtain⟨aap,aaq,aar,aan⟩:=zc4 bA;go_wp2_with fail
    refine(ny _ _ _ _).mono ?_;rintro e w' ⟨rfl,rfl⟩;rw[H16.out];go_wp2_with fail
    refine(abn (HT.out.c (kind:=0) hB1).1 HT.out.HS2 (HT.out.l hB1)).mono ?_;rintro e w2 ⟨rfl,hb2⟩;rw[HLO.out];have hB2:=hB1.trans (hb2.mono hB1.size);replace bA:=bA.step hb2;obtain⟨aen,aeo,aep,aer⟩:=zc4 bA;go_wp2_with fail
    go_ret
    exact⟨au HF.out.symm,hB2⟩
   obtain rfl:=ad3 hz;clear hz;by_cases hk0:n=0
   ·have hkk:((n:Int) ==0)=true:=by simp;omega
    have HF:Hid (Ty.shapes ⟨19,{data:=#[]},labels,kids⟩=true):=by
     show _=_;have g1:=HT.out.HN;have g2:=HT.out.HN';rw[Ty.shapes,uw HK.out,Bool.and_true];rw[lu];have g0:({data:=#[]}:ByteArray).size=0:=rfl
     simp_all [named,inB,jk]
    have HLO:=zqd hlo;clear hlo hk0;go_enter Tryz.func42,Tryz.ntmps42
    go_wp2_with fail
    obtain⟨w0,hw0⟩:=zqe w 39 #[.int .i64 19,.string {data:=#[]},.slice A' n' c',.slice A n c];rw[← hw0];have bA:=zqn hw0;have hB0:=zqb hw0;clear hw0;refine(ql 0 HT HI HW hB0).mono ?_;rintro e w1 ⟨rfl,hb1⟩;rw[HK.out];have hB1:=hB0.trans (hb1.mono hB0.size);replace bA:=bA.step hb1;obtain⟨aap,aaq,aar,aan⟩:=zc4 bA;go_wp2_with fail
    refine(ny _ _ _ _).mono ?_;rintro e w' ⟨rfl,rfl⟩;rw[H16.out];go_wp2_with fail
    refine(abn (HT.out.c (kind:=0) hB1).1 HT.out.HS2 (HT.out.l hB1)).mono ?_;rintro e w2 ⟨rfl,hb2⟩;rw[HLO.out];have hB2:=hB1.trans (hb2.mono hB1.size);replace bA:=bA.step hb2;obtain⟨aen,aeo,aep,aer⟩:=zc4 bA;go_wp2_with fail
    refine(ny _ _ _ _).mono ?_;rintro e w' ⟨rfl,rfl⟩;rw[H23.out];go_wp2_with fail
    go_ret
    exact⟨au HF.out.symm,hB2⟩
   ·have hkk:((n:Int) ==0)=false:=by simp;omega
    have HF:Hid (Ty.shapes ⟨19,{data:=#[]},labels,kids⟩=false):=by
     show _=_;have g1:=HT.out.HN;have g2:=HT.out.HN';rw[Ty.shapes,uw HK.out,Bool.and_true];rw[lu];have g0:({data:=#[]}:ByteArray).size=0:=rfl
     simp_all [named,inB,jk]
    have HLO:=zqd hlo;clear hlo hk0;go_enter Tryz.func42,Tryz.ntmps42
    go_wp2_with fail
    obtain⟨w0,hw0⟩:=zqe w 39 #[.int .i64 19,.string {data:=#[]},.slice A' n' c',.slice A n c];rw[← hw0];have bA:=zqn hw0;have hB0:=zqb hw0;clear hw0;refine(ql 0 HT HI HW hB0).mono ?_;rintro e w1 ⟨rfl,hb1⟩;rw[HK.out];have hB1:=hB0.trans (hb1.mono hB0.size);replace bA:=bA.step hb1;obtain⟨aap,aaq,aar,aan⟩:=zc4 bA;go_wp2_with fail
    refine(ny _ _ _ _).mono ?_;rintro e w' ⟨rfl,rfl⟩;rw[H16.out];go_wp2_with fail
    refine(abn (HT.out.c (kind:=0) hB1).1 HT.out.HS2 (HT.out.l hB1)).mono ?_;rintro e w2 ⟨rfl,hb2⟩;rw[HLO.out];have hB2:=hB1.trans (hb2.mono hB1.size);replace bA:=bA.step hb2;obtain⟨aen,aeo,aep,aer⟩:=zc4 bA;go_wp2_with fail
    refine(ny _ _ _ _).mono ?_;rintro e w' ⟨rfl,rfl⟩;rw[H23.out];go_wp2_with fail
    go_ret
    exact⟨au HF.out.symm,hB2⟩
end Go.Proofs.YtfpannkadjdnaaaGreatDoor
