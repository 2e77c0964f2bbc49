/-
  FnExactReadModule: the law's walk (by program: lawgen2.py).
  ReadModule's row: its variables as the walk wants them.
  The row's wrap that hands on both the listed variables and the world's shape.
  A fact of the whole program, apart: mayEnter (a great seat's wrap of a row outgrows the lid on memory with all of them in one).
  A fact of the whole program, apart: liftsFinal (a great seat's wrap of a row outgrows the lid on memory with all of them in one).
  A fact of the whole program, apart: make (a great seat's wrap of a row outgrows the lid on memory with all of them in one).
-/
import Derived.Test.YtlpcocfadppkhaaGreatDoorRa03
import Derived.Test.YtlpcocfadppkhaaGreatDoorRa02
import Derived.Test.YtlpcocfadppkhaaGreatDoorRa04
import Derived.Test.YtlpcocfadppkhaaGreatDoorRa05
import Derived.Test.YtlpcocfadppkhaaGreatDoorRa26
import Derived.Test.YtlpcocfadppkhaaGreatDoorRows
import Derived.Handed
import Derived.HandedShaped
import Derived.Shelf.Vars
import Derived.WalkKit
import Derived.ProofKit
import Derived.OpenShut
namespace Go.Proofs.YtlpcocfadppkhaaGreatDoor
open Go.RowKit
set_option linter.unusedVariables false
set_option linter.unusedSimpArgs false
set_option linter.unnecessarySimpa false
set_option maxRecDepth 100000
set_option maxHeartbeats 6400000 in
theorem afi (w:World) (hT:aa1 w) (s:ByteArray) (h_s:s.size≤maxLen):
  Calls Tryz.prog 3 #[.string s] w fun e w'=>e=.returned (.bool true)∧Below w.heap.size w w':=by
 unfold maxLen at h_s
 by_cases aza:s.size≤1048576
 case neg=>
  go_enter Tryz.func3,Tryz.ntmps3
  go_wp2_with fail
  go_ret
  exact⟨rfl,Below.refl _ _⟩
 replace h_s:=aza
 clear aza
 have SP:=ah3 s h_s
 have IM:=ah4 s h_s
 obtain⟨rr,hrr⟩:∃ r:Mod,r=(tq s).1:=⟨_,rfl⟩
 have hrb:=aqo s
 rw[← hrr] at SP IM hrb
 clear hrr
 obtain⟨dw,gq,je⟩:=rr
 obtain⟨r1,hrr⟩:∃ r:Int,r=(tq s).2:=⟨_,rfl⟩
 rw[← hrr] at SP IM
 clear hrr
 have hne1:(r1 != r1)=false:=by simp
 obtain⟨m,hm⟩:∃ m:Nat,m=qh (Mod.pd ⟨dw,gq,je⟩):=⟨_,rfl⟩
 rw[← hm] at hrb
 have M:=Lib.hid hm
 clear hm
 have SP':=Lib.hid SP
 have IM':=Lib.hid IM
 clear SP IM
 go_enter Tryz.func3,Tryz.ntmps3
 go_wp2_with fail
 obtain⟨w0,hw0⟩:∃ W,W=w:=⟨_,rfl⟩
 rw[← hw0]
 have hB0:Below w.heap.size w w0:=by rw[hw0];exact Below.refl _ _
 clear hw0
 have hs0:=hB0.size
 refine(SP'.out w0.heap.size _ (Nat.le_refl _) (hT.below hB0)).mono ?_
 rintro e w1 ⟨vw,rfl,Gw,hb1⟩
 have hs1:=hb1.size
 have hB1:=hB0.trans (hb1.mono hB0.size)
 have Kw:=Gw
 obtain⟨ug,uh,uj,yc,yg,yh,rfl⟩:=Mod.apo Kw
 clear Kw
 obtain⟨w2,hw2⟩:∃ W,W=(w1.alloc (.cells #[.int .i64 dw,.slice ug uh uj,.slice yc yg yh] 25)):=⟨_,rfl⟩
 have hb2:Below w1.heap.size w1 w2:=by rw[hw2];exact(Below.refl _ _).alloc (Nat.le_refl _) _
 have bW:Blk w2 w1.heap.size 25 #[.int .i64 dw,.slice ug uh uj,.slice yc yg yh]:=by rw[hw2];exact Blk.new w1 _ _
 have HW2:=Lib.hid hw2
 clear hw2
 have lb2:=bW.lt
 have hs2:=hb2.size
 have hB2:=hB1.trans (hb2.mono hB1.size)
 replace Gw:=Gw.step hb2
 have azb:(w1.alloc (.cells #[.int .i64 dw,.slice ug uh uj,.slice yc yg yh] 25)).cell? ⟨w1.heap.size,0,none⟩=some (.int .i64 dw):=by rw[← HW2.out];exact bW.cell 0
 have azc:(w1.alloc (.cells #[.int .i64 dw,.slice ug uh uj,.slice yc yg yh] 25)).cell? ⟨w1.heap.size,1,none⟩=some (.slice ug uh uj):=by rw[← HW2.out];exact bW.cell 1
 have azd:(w1.alloc (.cells #[.int .i64 dw,.slice ug uh uj,.slice yc yg yh] 25)).cell? ⟨w1.heap.size,2,none⟩=some (.slice yc yg yh):=by rw[← HW2.out];exact bW.cell 2
 go_wp2_with fail
 rw[← HW2.out]
 clear azb azc azd
 clear HW2
 refine(IM'.out w2.heap.size _ (Nat.le_refl _) (hT.below hB2)).mono ?_
 rintro e w3 ⟨vg,rfl,Gg,hb3⟩
 have hs3:=hb3.size
 have hB3:=hB2.trans (hb3.mono hB2.size)
 replace Gw:=Gw.step hb3
 replace bW:=bW.step hb3
 have Kg:=Gg
 obtain⟨ku,lg,lq,qp,qw,qx,rfl⟩:=Mod.apo Kg
 clear Kg
 obtain⟨w4,hw4⟩:∃ W,W=(w3.alloc (.cells #[.int .i64 dw,.slice ku lg lq,.slice qp qw qx] 25)):=⟨_,rfl⟩
 have hb4:Below w3.heap.size w3 w4:=by rw[hw4];exact(Below.refl _ _).alloc (Nat.le_refl _) _
 have bG:Blk w4 w3.heap.size 25 #[.int .i64 dw,.slice ku lg lq,.slice qp qw qx]:=by rw[hw4];exact Blk.new w3 _ _
 have HW4:=Lib.hid hw4
 clear hw4
 have lb4:=bG.lt
 have hs4:=hb4.size
 have hB4:=hB3.trans (hb4.mono hB3.size)
 replace Gw:=Gw.step hb4
 replace Gg:=Gg.step hb4
 replace bW:=bW.step hb4
 have aze:(w3.alloc (.cells #[.int .i64 dw,.slice ku lg lq,.slice qp qw qx] 25)).cell? ⟨w1.heap.size,0,none⟩=some (.int .i64 dw):=by rw[← HW4.out];exact bW.cell 0
 have azf:(w3.alloc (.cells #[.int .i64 dw,.slice ku lg lq,.slice qp qw qx] 25)).cell? ⟨w1.heap.size,1,none⟩=some (.slice ug uh uj):=by rw[← HW4.out];exact bW.cell 1
 have azg:(w3.alloc (.cells #[.int .i64 dw,.slice ku lg lq,.slice qp qw qx] 25)).cell? ⟨w1.heap.size,2,none⟩=some (.slice yc yg yh):=by rw[← HW4.out];exact bW.cell 2
 have azh:(w3.alloc (.cells #[.int .i64 dw,.slice ku lg lq,.slice qp qw qx] 25)).cell? ⟨w3.heap.size,0,none⟩=some (.int .i64 dw):=by rw[← HW4.out];exact bG.cell 0
 have azi:(w3.alloc (.cells #[.int .i64 dw,.slice ku lg lq,.slice qp qw qx] 25)).cell? ⟨w3.heap.size,1,none⟩=some (.slice ku lg lq):=by rw[← HW4.out];exact bG.cell 1
 have azj:(w3.alloc (.cells #[.int .i64 dw,.slice ku lg lq,.slice qp qw qx] 25)).cell? ⟨w3.heap.size,2,none⟩=some (.slice qp qw qx):=by rw[← HW4.out];exact bG.cell 2
 go_wp2_with fail
 rw[← HW4.out]
 clear aze azf azg azh azi azj
 clear HW4
 refine(ag3 (⟨dw,gq,je⟩:Mod) w4.heap.size _ _ _ (Nat.le_refl _) Gg.is Gw.is).mono ?_
 rintro e w5 ⟨rfl,hb5⟩
 have hs5:=hb5.size
 have hB5:=hB4.trans (hb5.mono hB4.size)
 replace Gw:=Gw.step hb5
 replace Gg:=Gg.step hb5
 replace bW:=bW.step hb5
 replace bG:=bG.step hb5
 have av9:w5.cell? ⟨w1.heap.size,0,none⟩=some (.int .i64 dw):=bW.cell 0
 have awc:w5.cell? ⟨w1.heap.size,1,none⟩=some (.slice ug uh uj):=bW.cell 1
 have awd:w5.cell? ⟨w1.heap.size,2,none⟩=some (.slice yc yg yh):=bW.cell 2
 have awe:w5.cell? ⟨w3.heap.size,0,none⟩=some (.int .i64 dw):=bG.cell 0
 have awf:w5.cell? ⟨w3.heap.size,1,none⟩=some (.slice ku lg lq):=bG.cell 1
 have awg:w5.cell? ⟨w3.heap.size,2,none⟩=some (.slice qp qw qx):=bG.cell 2
 go_wp2_with fail
 clear av9 awc awd awe awf awg
 obtain⟨Fg,hg1,hg2,hg3⟩:=Gg
 refine(ako (⟨dw,gq,je⟩:Mod) [.int .i64 dw,.slice ku lg lq,.slice qp qw qx] Fg _ 1 (by omega) (by rw[← M.out];omega) hg1 hg2.1 (fun b hb=>Nat.lt_of_lt_of_le (hg2.2 b hb).2 hg3)).mono ?_
 rintro e w6 ⟨rfl,hgm,kf⟩
 rw[← M.out]
 have hs6:=kf.size
 have kk:Keep _ _ w5 w6:=kf.keep hg2.2
 have hB6:=hB5.trans ((kk.below (by omega)).mono (by omega))
 replace Gw:=Gw.kept kk (by omega)
 replace bW:=bW.ame kf (fun hm=>by have:=hg2.2 _ hm;omega)
 replace bG:=bG.ame kf (fun hm=>by have:=hg2.2 _ hm;omega)
 have Gm:LvC w6 _ _ (xw (Mod.pd ⟨dw,gq,je⟩) 1) [.int .i64 dw,.slice ku lg lq,.slice qp qw qx]:=⟨Fg,hgm,hg2,Nat.le_trans hg3 kf.size⟩
 clear kf kk hg1 hg2 hg3 hgm
 have hk1:¬ (1+(m:Int)) < 0:=by omega
 have hqm:((1+(m:Int)) != (1+(m:Int)))=false:=by simp
 have awh:w6.cell? ⟨w1.heap.size,0,none⟩=some (.int .i64 dw):=bW.cell 0
 have awi:w6.cell? ⟨w1.heap.size,1,none⟩=some (.slice ug uh uj):=bW.cell 1
 have awj:w6.cell? ⟨w1.heap.size,2,none⟩=some (.slice yc yg yh):=bW.cell 2
 have awk:w6.cell? ⟨w3.heap.size,0,none⟩=some (.int .i64 dw):=bG.cell 0
 have awl:w6.cell? ⟨w3.heap.size,1,none⟩=some (.slice ku lg lq):=bG.cell 1
 have awm:w6.cell? ⟨w3.heap.size,2,none⟩=some (.slice qp qw qx):=bG.cell 2
 go_wp2_with fail
 clear awh awi awj awk awl awm
 refine(afm (⟨dw,gq,je⟩:Mod) w6.heap.size _ _ 1 (by omega) (by rw[← M.out];omega) (Nat.le_refl _) Gm.is).mono ?_
 rintro e w7 ⟨rfl,hb7⟩
 have hs7:=hb7.size
 have hB7:=hB6.trans (hb7.mono hB6.size)
 replace Gw:=Gw.step hb7
 replace Gm:=Gm.step hb7
 replace bW:=bW.step hb7
 replace bG:=bG.step hb7
 rw[← M.out]
 have awn:w7.cell? ⟨w1.heap.size,0,none⟩=some (.int .i64 dw):=bW.cell 0
 have awo:w7.cell? ⟨w1.heap.size,1,none⟩=some (.slice ug uh uj):=bW.cell 1
 have awp:w7.cell? ⟨w1.heap.size,2,none⟩=some (.slice yc yg yh):=bW.cell 2
 have awq:w7.cell? ⟨w3.heap.size,0,none⟩=some (.int .i64 dw):=bG.cell 0
 have awr:w7.cell? ⟨w3.heap.size,1,none⟩=some (.slice ku lg lq):=bG.cell 1
 have aws:w7.cell? ⟨w3.heap.size,2,none⟩=some (.slice qp qw qx):=bG.cell 2
 go_wp2_with fail
 clear awn awo awp awq awr aws
 refine(IM'.out w7.heap.size _ (Nat.le_refl _) (hT.below hB7)).mono ?_
 rintro e w8 ⟨vh,rfl,Gh,hb8⟩
 have hs8:=hb8.size
 have hB8:=hB7.trans (hb8.mono hB7.size)
 replace Gw:=Gw.step hb8
 replace Gm:=Gm.step hb8
 replace bW:=bW.step hb8
 replace bG:=bG.step hb8
 have Kh:=Gh
 obtain⟨qj,ql,qm,xk,xq,xu,rfl⟩:=Mod.apo Kh
 clear Kh
 obtain⟨w9,hw9⟩:∃ W,W=(w8.alloc (.cells #[.int .i64 dw,.slice qj ql qm,.slice xk xq xu] 25)):=⟨_,rfl⟩
 have hb9:Below w8.heap.size w8 w9:=by rw[hw9];exact(Below.refl _ _).alloc (Nat.le_refl _) _
 have bH:Blk w9 w8.heap.size 25 #[.int .i64 dw,.slice qj ql qm,.slice xk xq xu]:=by rw[hw9];exact Blk.new w8 _ _
 have HW9:=Lib.hid hw9
 clear hw9
 have lb9:=bH.lt
 have hs9:=hb9.size
 have hB9:=hB8.trans (hb9.mono hB8.size)
 replace Gw:=Gw.step hb9
 replace Gm:=Gm.step hb9
 replace Gh:=Gh.step hb9
 replace bW:=bW.step hb9
 replace bG:=bG.step hb9
 have awt:(w8.alloc (.cells #[.int .i64 dw,.slice qj ql qm,.slice xk xq xu] 25)).cell? ⟨w1.heap.size,0,none⟩=some (.int .i64 dw):=by rw[← HW9.out];exact bW.cell 0
 have awu:(w8.alloc (.cells #[.int .i64 dw,.slice qj ql qm,.slice xk xq xu] 25)).cell? ⟨w1.heap.size,1,none⟩=some (.slice ug uh uj):=by rw[← HW9.out];exact bW.cell 1
 have awv:(w8.alloc (.cells #[.int .i64 dw,.slice qj ql qm,.slice xk xq xu] 25)).cell? ⟨w1.heap.size,2,none⟩=some (.slice yc yg yh):=by rw[← HW9.out];exact bW.cell 2
 have aww:(w8.alloc (.cells #[.int .i64 dw,.slice qj ql qm,.slice xk xq xu] 25)).cell? ⟨w3.heap.size,0,none⟩=some (.int .i64 dw):=by rw[← HW9.out];exact bG.cell 0
 have awx:(w8.alloc (.cells #[.int .i64 dw,.slice qj ql qm,.slice xk xq xu] 25)).cell? ⟨w3.heap.size,1,none⟩=some (.slice ku lg lq):=by rw[← HW9.out];exact bG.cell 1
 have awy:(w8.alloc (.cells #[.int .i64 dw,.slice qj ql qm,.slice xk xq xu] 25)).cell? ⟨w3.heap.size,2,none⟩=some (.slice qp qw qx):=by rw[← HW9.out];exact bG.cell 2
 have awz:(w8.alloc (.cells #[.int .i64 dw,.slice qj ql qm,.slice xk xq xu] 25)).cell? ⟨w8.heap.size,0,none⟩=some (.int .i64 dw):=by rw[← HW9.out];exact bH.cell 0
 have aw0:(w8.alloc (.cells #[.int .i64 dw,.slice qj ql qm,.slice xk xq xu] 25)).cell? ⟨w8.heap.size,1,none⟩=some (.slice qj ql qm):=by rw[← HW9.out];exact bH.cell 1
 have aw1:(w8.alloc (.cells #[.int .i64 dw,.slice qj ql qm,.slice xk xq xu] 25)).cell? ⟨w8.heap.size,2,none⟩=some (.slice xk xq xu):=by rw[← HW9.out];exact bH.cell 2
 go_wp2_with fail
 rw[← HW9.out]
 clear awt awu awv aww awx awy awz aw0 aw1
 clear HW9
 refine(ag3 (⟨dw,gq,je⟩:Mod) w9.heap.size _ _ _ (Nat.le_refl _) Gh.is Gw.is).mono ?_
 rintro e w10 ⟨rfl,agu⟩
 have hs10:=agu.size
 have azk:=hB9.trans (agu.mono hB9.size)
 replace Gw:=Gw.step agu
 replace Gm:=Gm.step agu
 replace Gh:=Gh.step agu
 replace bW:=bW.step agu
 replace bG:=bG.step agu
 replace bH:=bH.step agu
 have aw2:w10.cell? ⟨w1.heap.size,0,none⟩=some (.int .i64 dw):=bW.cell 0
 have aw3:w10.cell? ⟨w1.heap.size,1,none⟩=some (.slice ug uh uj):=bW.cell 1
 have aw4:w10.cell? ⟨w1.heap.size,2,none⟩=some (.slice yc yg yh):=bW.cell 2
 have aw5:w10.cell? ⟨w3.heap.size,0,none⟩=some (.int .i64 dw):=bG.cell 0
 have aw6:w10.cell? ⟨w3.heap.size,1,none⟩=some (.slice ku lg lq):=bG.cell 1
 have aw7:w10.cell? ⟨w3.heap.size,2,none⟩=some (.slice qp qw qx):=bG.cell 2
 have aw8:w10.cell? ⟨w8.heap.size,0,none⟩=some (.int .i64 dw):=bH.cell 0
 have aw9:w10.cell? ⟨w8.heap.size,1,none⟩=some (.slice qj ql qm):=bH.cell 1
 have axa:w10.cell? ⟨w8.heap.size,2,none⟩=some (.slice xk xq xu):=bH.cell 2
 go_wp2_with fail
 clear aw2 aw3 aw4 aw5 aw6 aw7 aw8 aw9 axa
 refine(afm (⟨dw,gq,je⟩:Mod) w10.heap.size _ _ 1 (by omega) (by rw[← M.out];omega) (Nat.le_refl _) Gm.is).mono ?_
 rintro e w11 ⟨rfl,ahu⟩
 have hs11:=ahu.size
 have a15:=azk.trans (ahu.mono azk.size)
 replace Gw:=Gw.step ahu
 replace Gm:=Gm.step ahu
 replace Gh:=Gh.step ahu
 replace bW:=bW.step ahu
 replace bG:=bG.step ahu
 replace bH:=bH.step ahu
 rw[← M.out]
 go_wp2_with fail
 go_ret
 exact⟨rfl,a15⟩
end Go.Proofs.YtlpcocfadppkhaaGreatDoor
namespace Go.Proofs.YtlpcocfadppkhaaGreatDoor
open Go.RowKit
set_option linter.unusedVariables false
set_option linter.unusedSimpArgs false
def ahv:List (String×DataW Unit):=[("math/bits.deBruijn32tab",Rows.laid_math_bits_deBruijn32tab),("math/bits.deBruijn64tab",Rows.laid_math_bits_deBruijn64tab),("internal/strconv.uint64pow10",Rows.laid_internal_strconv_uint64pow10),("unicode/utf8.acceptRanges",Rows.laid_unicode_utf8_acceptRanges),("strconv.ErrRange",Rows.laid_strconv_ErrRange),("strconv.ErrSyntax",Rows.laid_strconv_ErrSyntax),("unicode.White_Space",Rows.laid_unicode_White_Space),("strings.asciiSpace",Rows.laid_strings_asciiSpace),("unicode/utf8.first",Rows.laid_unicode_utf8_first)]
theorem auk {w:World} (h:laidMetH Tryz.prog ahv w) (hs:w.ShapedOpen Tryz.prog):aa1 w:=
 ⟨ap1 (by kernel_rfl) (.tail _ (.tail _ (.tail _ (.tail _ (.tail _ (.tail _ (.tail _ (.head _)))))))) (.tail _ (.tail _ (.head _))) h,
  cell_of_shapedOpen_int (P:=Tryz.prog) (g:=0) (t:=3) (zero:=#[.int .i64 0]) hs (of_decide_eq_true (by kernel_rfl)) (by kernel_rfl) rfl (by kernel_rfl) (by kernel_rfl) Tryz.underlying3,
  am3 (g:=2) (t:=80) (by kernel_rfl) (by kernel_rfl) Tryz.underlying80 (Lib.laidMet.reads (by rw[MakeChecks.laidMetH_plain _ _ _ (by kernel_rfl)] at h;exact h) (.tail _ (.tail _ (.tail _ (.tail _ (.tail _ (.head _))))))),
  am3 (g:=3) (t:=80) (by kernel_rfl) (by kernel_rfl) Tryz.underlying80 (Lib.laidMet.reads (by rw[MakeChecks.laidMetH_plain _ _ _ (by kernel_rfl)] at h;exact h) (.tail _ (.tail _ (.tail _ (.tail _ (.head _))))))⟩
end Go.Proofs.YtlpcocfadppkhaaGreatDoor
namespace Go.Proofs.YtlpcocfadppkhaaGreatDoor
open Go
theorem ah5 {H:Type} {enc:TypeId×Value→H} {a:Assume} {C:Checked} {os:Os} {f:FuncId} {fn:Func} {s:ChangeSpec} {conds:List PathCond} {apart fresh handsOn again:Bool} {X:World→Array Value→Prop}
  (hX:∀ (w w':World) (args:Array Value),w.heap=w'.heap→X w args→X w' args)
  (own:ownKnob C.prog.godebug=none) (started:os.Started) (noInit:C.prog.inits.idxOf? f=none) (hfn:C.prog.funcs[f]?=some fn)
  (witness:∃ (w:World) (tape:Tape) (i:Input),w.os=os∧(w.forCall tape i).Shaped C.prog∧i.vars=[]∧Input.okWide C.prog (w.forCall tape i) .any w.heap.size f i∧
   ((s.pre enc C.prog fn conds apart (w.forCall tape i).memory i.args∧X (w.forCall tape i).memory i.args)∧sizedMet enc C.prog fn (OpenSpec.ofChange s) apart (w.forCall tape i).memory i.args)∧a.holds C.prog (lone (Frame.enter C.prog f i.args .normal) [] (w.forCall tape i)))
  (contract:∀ (W:World) (base:Nat) (args:Array Value) (ds gs:List (DataW H)) (before:List MemPlace),
   (∀ (j:Nat) t v,fn.params[j]?=some t→args[j]?=some v→Value.okWide C.prog W .any base t v)→
   DataW.Whole enc C.prog fn.params.toList s.vars apart W args.toList ds gs before→
   conds.all (PathCond.test C.prog ⟨fn.params.toList,ds,s.plain.varTypes C.prog,gs⟩)=true→
   (DataW.weightsEach C.prog (fn.params.toList ++s.plain.varTypes C.prog) (ds ++gs)).all (·≤reachBytes)=true→X W args→W.ShapedOpen C.prog→
   a.holds C.prog (lone (Frame.enter C.prog f args .normal) [] W)→
   Calls C.prog f args W fun e W'=>∃ v,e=.returned v∧s.post enc C.prog fn apart fresh handsOn again W args v W'):
  ReturnsInHanded a C os f .any (fun w args=>(s.pre enc C.prog fn conds apart w args∧X w args)∧sizedMet enc C.prog fn (OpenSpec.ofChange s) apart w args) (s.post enc C.prog fn apart fresh handsOn again):=by
 refine returnsInHanded_of_calls own started noInit witness ?_
 intro w tape i _ hsh _ hok hpre hholds
 obtain⟨_,_,_,fn',hfn',_,_,_,_,hval⟩:=hok
 have e:fn'=fn:=Option.some.inj (hfn'.symm.trans hfn)
 subst e
 obtain⟨⟨⟨ds,gs,before,hw,hc⟩,hx⟩,hz⟩:=hpre
 have hw':=DataW.Whole.of_heap (w':=w.forCall tape i) (by rfl) hw
 refine(contract (w.forCall tape i) w.heap.size i.args ds gs before hval hw' hc (hz.weights hw) (hX _ _ _ (by rfl) hx) hsh hholds).mono fun e W' ⟨v,he,hp⟩=>?_
 subst he
 exact ChangeSpec.post_blind hp
end Go.Proofs.YtlpcocfadppkhaaGreatDoor
namespace Go.Proofs.YtlpcocfadppkhaaGreatDoor
open Go.ChangeShapes Go.WideShapes Go.ChangeAt Go.RowKit
theorem may_enter:Tryz.pinned.checked.prog.mayEnter=true:=by kernel_rfl
theorem aoy:Tryz.pinned.checked.prog.liftsFinal=Rows.fnExactReadModuleRow.lifted:=by kernel_rfl
theorem make_is:Tryz.pinned.checked.prog.make=some Rows.fnExactReadModuleRow.make:=by kernel_rfl
end Go.Proofs.YtlpcocfadppkhaaGreatDoor
