/-
  spec.WordOk and impl.WordOk return the same bool.
  What it means that a module is well-formed, in plain Lean.
  A table of numbers that a row lists, in the world.
  The mnemonics: spec.l15Words, impl.opWords (strings.Fields), OpWord (by program: gen_words.py).
-/
import Derived.Test.YtlpcocfadppkhaaGreatDoorRa05
import Derived.Test.YtlpcocfadppkhaaGreatDoorRa03
import Derived.Test.YtlpcocfadppkhaaGreatDoorRa01
import Derived.Lib.LaidU8
import Derived.LaidMore
import Derived.MakeChecks
import Derived.Shelf.Strings.Fields
namespace Go.Proofs.YtlpcocfadppkhaaGreatDoor
open Go.RowKit
set_option linter.unusedVariables false
set_option linter.unusedSimpArgs false
set_option linter.unnecessarySimpa false
def zq (u:UInt8):Bool:=inB u.toNat 97 122 ||inB u.toNat 48 57 ||u.toNat ==45 ||u.toNat ==46 ||u.toNat ==47
def jv (s:ByteArray):Bool:=s.data.toList.all zq && inB s.size 1 40
theorem byte_at {s:ByteArray} {k:Nat} (h:k < s.size):s.data.toList[k]?=some s[k]:=by
 rw[List.getElem?_eq_getElem (by simpa using h)]
 rfl
theorem ajq (u:UInt8):(zq u=true∧(97≤u.toNat∧u.toNat≤122∨48≤u.toNat∧u.toNat≤57∨u.toNat=45∨u.toNat=46∨u.toNat=47))∨
  (zq u=false∧(u.toNat < 45∨57 < u.toNat∧u.toNat < 97∨122 < u.toNat)):=by
 by_cases h:97≤u.toNat∧u.toNat≤122∨48≤u.toNat∧u.toNat≤57∨u.toNat=45∨u.toNat=46∨u.toNat=47
 ·refine .inl ⟨?_,h⟩
  simp only[zq,inB,Bool.or_eq_true,Bool.and_eq_true,decide_eq_true_eq,beq_iff_eq]
  omega
 ·refine .inr ⟨?_,by omega⟩
  rw[Bool.eq_false_iff]
  simp only[zq,inB,ne_eq,Bool.or_eq_true,Bool.and_eq_true,decide_eq_true_eq,beq_iff_eq]
  omega
theorem ae6 {s:ByteArray} {k:Nat} (h:k < s.size) (hp:∀ (j:Nat) (u:UInt8),j < k→s.data.toList[j]?=some u→zq u=true) (hu:zq s[k]=true):
  ∀ (j:Nat) (u:UInt8),j < k+1→s.data.toList[j]?=some u→zq u=true:=by
 intro j u hj hg
 by_cases e:j=k
 ·subst e
  rw[byte_at h] at hg
  injection hg with hg
  rw[← hg];exact hu
 ·exact hp j u (by omega) hg
theorem amo {s:ByteArray} (hp:∀ (j:Nat) (u:UInt8),j < s.size→s.data.toList[j]?=some u→zq u=true):jv s=inB s.size 1 40:=by
 have:s.data.toList.all zq=true:=all_true fun j x hx=>hp j x (by have:=(List.getElem?_eq_some_iff.1 hx).1;simpa using this) hx
 simp[jv,this]
theorem alh {s:ByteArray} {k:Nat} (h:k < s.size) (hu:zq s[k]=false):jv s=false:=by
 simp[jv,all_false (byte_at h) hu]
theorem ag4 (s:ByteArray) (hs:s.size≤maxLen) (w:World):
  Calls Tryz.prog 27 #[.string s] w fun e w'=>e=.returned (.bool (jv s))∧w=w':=by
 unfold maxLen at hs
 go_enter Tryz.func27,Tryz.ntmps27
 go_wp2_with fail
 go_loop [3] (fun i=>∃ k:Nat,k≤s.size∧i=.int .i64 k∧∀ (j:Nat) (u:UInt8),j < k→s.data.toList[j]?=some u→zq u=true) (fun i=>s.size - (intOf i).toNat)
 case atStart=>exact⟨0,Nat.zero_le _,rfl,fun j x h=>absurd h (by omega)⟩
 case round=>
  obtain⟨k,hk,rfl,hpre⟩:=hrel
  have HP:=Lib.hid hpre
  clear hpre
  by_cases hlt:k < s.size
  ·have HC:=Lib.hid (ajq s[k])
   rcases HC.out with ⟨hb,h|h|h|h|h⟩|⟨hb,h|h|h⟩
   iterate 5
    ·have HB:=Lib.hid (ae6 hlt HP.out hb)
     clear hb HC
     go_wp2_with fail
     go_round
     case rel=>exact⟨k+1,by omega,by go_num,HB.out⟩
     case measure=>simp[intOf];omega
   iterate 3
    ·have HB:=Lib.hid (alh hlt hb)
     have e45:((s[k].toNat:Int) ==45)=false:=by simp;omega
     have e46:((s[k].toNat:Int) ==46)=false:=by simp;omega
     have e47:((s[k].toNat:Int) ==47)=false:=by simp;omega
     try(have e57:decide ((s[k].toNat:Int)≤57)=false:=by(simp;omega))
     try(have a6v:decide ((s[k].toNat:Int)≤122)=false:=by(simp;omega))
     clear hb HC
     go_wp2_with fail
     go_ret
     exact⟨dn HB.out.symm,rfl⟩
  ·have hkn:k=s.size:=by omega
   have HK:=Lib.hid hkn
   have HW:=Lib.hid (amo (by rw[hkn] at HP;exact HP.out))
   clear hkn
   by_cases h1:1≤s.size<;>by_cases h2:s.size≤40
   all_goals go_wp2_with fail
   all_goals go_ret
   all_goals exact⟨dn (by rw[HW.out];simp[inB];omega),rfl⟩
theorem ad1 (c:Int) (w:World):Calls Tryz.prog 105 #[.int .u8 c] w fun e w'=>e=.returned (.bool (inB c 97 122))∧w=w':=by
 by_cases h1:97≤c<;>by_cases h2:c≤122
 all_goals
  go_enter Tryz.func105,Tryz.ntmps105
  go_wp2
  go_ret
  exact⟨dn (by simp[inB,h1,h2]),rfl⟩
theorem ag5 (c:Int) (w:World):Calls Tryz.prog 106 #[.int .u8 c] w fun e w'=>e=.returned (.bool (inB c 48 57))∧w=w':=by
 by_cases h1:48≤c<;>by_cases h2:c≤57
 all_goals
  go_enter Tryz.func106,Tryz.ntmps106
  go_wp2
  go_ret
  exact⟨dn (by simp[inB,h1,h2]),rfl⟩
theorem apv (s:ByteArray) (hs:s.size≤maxLen) (w:World):Calls Tryz.prog 107 #[.string s] w fun e w'=>e=.returned (.int .i64 s.size)∧w=w':=by
 unfold maxLen at hs
 go_enter Tryz.func107,Tryz.ntmps107
 go_wp2
 go_ret
 exact⟨rfl,rfl⟩
theorem ar6 (u:UInt8):(Lib.indexByte [45,46,47] u < 0)↔¬ (u.toNat=45∨u.toNat=46∨u.toNat=47):=by
 have h45:(45:UInt8)=u↔u.toNat=45:=⟨fun h=>by rw[← h];rfl,fun h=>UInt8.toNat_inj.1 h.symm⟩
 have h46:(46:UInt8)=u↔u.toNat=46:=⟨fun h=>by rw[← h];rfl,fun h=>UInt8.toNat_inj.1 h.symm⟩
 have h47:(47:UInt8)=u↔u.toNat=47:=⟨fun h=>by rw[← h];rfl,fun h=>UInt8.toNat_inj.1 h.symm⟩
 simp only[Lib.indexByte,beq_iff_eq,h45,h46,h47]
 repeat' split
 all_goals first|omega|simp_all
theorem aks (s:ByteArray) (hs:s.size≤maxLen) (w:World):
  Calls Tryz.prog 84 #[.string s] w fun e w'=>e=.returned (.bool (jv s))∧w=w':=by
 have HL:=Lib.hid (fun W=>apv s hs W)
 unfold maxLen at hs
 go_enter Tryz.func84,Tryz.ntmps84
 go_wp2_with fail
 go_loop [6] (fun i=>∃ k:Nat,k≤s.size∧i=.int .i64 k∧∀ (j:Nat) (u:UInt8),j < k→s.data.toList[j]?=some u→zq u=true) (fun i=>s.size - (intOf i).toNat)
 case atStart=>exact⟨0,Nat.zero_le _,rfl,fun j x h=>absurd h (by omega)⟩
 case round=>
  obtain⟨k,hk,rfl,hpre⟩:=hrel
  have HP:=Lib.hid hpre
  clear hpre
  by_cases hlt:k < s.size
  ·cases h1:inB (s[k].toNat:Int) 97 122
   ·cases h2:inB (s[k].toNat:Int) 48 57
    ·have HI:=Lib.hid (ar6 s[k])
     by_cases h3:Lib.indexByte [45,46,47] s[k] < 0
     ·have hd:decide (Lib.indexByte [45,46,47] s[k] < 0)=true:=by simp[h3]
      have HB:Hid (jv s=false):=alh hlt (by
       have:=HI.out.1 h3
       simp only[zq,h1,h2,Bool.false_or,Bool.or_eq_false_iff,beq_eq_false_iff_ne,ne_eq]
       omega)
      clear h3
      go_wp2_with (first|(go_at_call 105;refine(ad1 _ _).mono ?_;rintro e w' ⟨rfl,rfl⟩)|(go_at_call 106;refine(ag5 _ _).mono ?_;rintro e w' ⟨rfl,rfl⟩)|(go_at_call 35;refine(adv _ _ _).mono ?_;rintro e w' ⟨rfl,rfl⟩;rw[ao2]))
      go_ret
      exact⟨dn HB.out.symm,rfl⟩
     ·have hd:decide (Lib.indexByte [45,46,47] s[k] < 0)=false:=by simpa using h3
      have HB:=Lib.hid (ae6 hlt HP.out (by
       have:=mt HI.out.2 h3
       simp only[zq,Bool.or_eq_true,beq_iff_eq]
       omega))
      clear h3
      go_wp2_with (first|(go_at_call 105;refine(ad1 _ _).mono ?_;rintro e w' ⟨rfl,rfl⟩)|(go_at_call 106;refine(ag5 _ _).mono ?_;rintro e w' ⟨rfl,rfl⟩)|(go_at_call 35;refine(adv _ _ _).mono ?_;rintro e w' ⟨rfl,rfl⟩;rw[ao2]))
      go_round
      case rel=>exact⟨k+1,by omega,by go_num,HB.out⟩
      case measure=>simp[intOf];omega
    ·have HB:=Lib.hid (ae6 hlt HP.out (by simp[zq,h2]))
     go_wp2_with (first|(go_at_call 105;refine(ad1 _ _).mono ?_;rintro e w' ⟨rfl,rfl⟩)|(go_at_call 106;refine(ag5 _ _).mono ?_;rintro e w' ⟨rfl,rfl⟩))
     go_round
     case rel=>exact⟨k+1,by omega,by go_num,HB.out⟩
     case measure=>simp[intOf];omega
   ·have HB:=Lib.hid (ae6 hlt HP.out (by simp[zq,h1]))
    go_wp2_with (first|(go_at_call 105;refine(ad1 _ _).mono ?_;rintro e w' ⟨rfl,rfl⟩))
    go_round
    case rel=>exact⟨k+1,by omega,by go_num,HB.out⟩
    case measure=>simp[intOf];omega
  ·have hkn:k=s.size:=by omega
   have HW:=Lib.hid (amo (by rw[hkn] at HP;exact HP.out))
   go_wp2_with (first|(go_at_call 107;refine(HL.out _).mono ?_;rintro e w' ⟨rfl,rfl⟩)|(go_at_call 61;refine(abp _ _ _ _).mono ?_;rintro e w' ⟨rfl,rfl⟩))
   go_ret
   exact⟨dn HW.out.symm,rfl⟩
def af0 (i:Ins):Bool:=gy i.op i.a
def yt (c:Core):Bool:=inB c.params 0 8 && (inB c.locals 0 8 && (decide (c.code.length≤120) && !c.code.any fun i=>!af0 i))
def oq (ns:List ByteArray):Bool:=decide ns.Nodup && !ns.any fun n=>!jv n
def ada (x:Imp):Bool:=inB x.params 0 8
def uy (m:Mod):Bool:=inB m.pages 1 16 && (decide (m.imports.length≤12) && (decide (m.cores.length≤8) && (!m.imports.any (fun x=>!ada x) && (!m.cores.any (fun c=>!yt c) && (oq (m.imports.map Imp.name) && oq (m.cores.map Core.name))))))
def partAt {α:Type} (ok:α→Bool) (name:α→ByteArray) (xs:List α) (k:Nat):Bool:=match xs[k]? with
 | none=>true
 | some x=>jv (name x) && (ok x && decide (oz (fun y=>decide (name y=name x)) (xs.take k) < 0))
theorem ao3 {α:Type} (p:α→Bool) (xs:List α):decide (oz p xs < 0)=!xs.any p:=by
 have h1:=afz p xs
 have h2:=ao1 p xs
 cases h:xs.any p
 ·rw[h] at h1
  simp at h1 ⊢
  omega
 ·rw[h] at h1
  simp at h1 ⊢
  omega
theorem af2 {α:Type} {ok:α→Bool} {name:α→ByteArray} {xs:List α} (h:∀ k,k < xs.length→partAt ok name xs k=true):(xs.any fun x=>!ok x)=false∧oq (xs.map name)=true:=by
 have hk:∀ (k:Nat) (hk:k < xs.length),jv (name xs[k])=true∧ok xs[k]=true∧∀ (j:Nat) (hj:j < k),name (xs[j]'(by omega))≠name xs[k]:=fun k hk=>by
  have h1:=h k hk
  rw[partAt,List.getElem?_eq_getElem hk] at h1
  simp only[Bool.and_eq_true] at h1
  obtain⟨h2,h3,h4⟩:=h1
  refine⟨h2,h3,fun j hj e=>?_⟩
  rw[ao3,Bool.not_eq_true',List.any_eq_false] at h4
  refine h4 (xs[j]'(by omega)) (List.mem_take_iff_getElem.2 ⟨j,by omega,rfl⟩) ?_
  simpa using e
 refine⟨List.any_eq_false.2 fun x hx=>?_,?_⟩
 ·obtain⟨k,hk',rfl⟩:=List.getElem_of_mem hx
  simp[(hk k hk').2.1]
 ·rw[oq,Bool.and_eq_true]
  refine⟨decide_eq_true (List.pairwise_iff_getElem.2 fun i j hi hj hij=>?_),?_⟩
  ·rw[List.getElem_map,List.getElem_map]
   exact(hk j (by simpa using hj)).2.2 i hij
  ·rw[Bool.not_eq_true',List.any_eq_false]
   intro n hn
   obtain⟨x,hx,rfl⟩:=List.mem_map.1 hn
   obtain⟨k,hk',rfl⟩:=List.getElem_of_mem hx
   simp[(hk k hk').1]
theorem ali {α:Type} {ok:α→Bool} {name:α→ByteArray} {xs:List α} {k:Nat} (h:partAt ok name xs k=false):(xs.any fun x=>!ok x)=true∨oq (xs.map name)=false:=by
 rw[partAt] at h
 cases hx:xs[k]? with
 | none=>rw[hx] at h;simp at h
 | some x=>
  rw[hx] at h
  simp only at h
  obtain⟨hk,hxe⟩:=List.getElem?_eq_some_iff.1 hx
  have hmem:x ∈ xs:=List.mem_of_getElem? hx
  cases h1:jv (name x)
  ·right
   rw[oq]
   have:((xs.map name).any fun n=>!jv n)=true:=List.any_eq_true.2 ⟨name x,List.mem_map.2 ⟨x,hmem,rfl⟩,by simp[h1]⟩
   rw[this]
   simp
  cases h2:ok x
  ·left
   exact List.any_eq_true.2 ⟨x,hmem,by simp[h2]⟩
  rw[h1,h2,ao3] at h
  simp only[Bool.true_and,Bool.not_eq_false'] at h
  obtain⟨y,hy,he⟩:=List.any_eq_true.1 h
  obtain⟨j,hj,hje⟩:=List.mem_take_iff_getElem.1 hy
  right
  rw[oq]
  have:¬ (xs.map name).Nodup:=fun hn=>by
   have:=List.pairwise_iff_getElem.1 hn j k (by simp;omega) (by simpa using hk) (by omega)
   rw[List.getElem_map,List.getElem_map,hje,hxe] at this
   exact this (by simpa using he)
  rw[decide_eq_false this,Bool.false_and]
theorem alj {α:Type} {ok:α→Bool} {name:α→ByteArray} {xs:List α} {k:Nat} (hp:∀ j,j < k→partAt ok name xs j=true) (h:partAt ok name xs k=true):∀ j,j < k+1→partAt ok name xs j=true:=fun j hj=>by
 by_cases e:j=k
 ·subst e;exact h
 ·exact hp j (by omega)
theorem ao4 {α:Type} {ok:α→Bool} {name:α→ByteArray} {xs:List α} {k:Nat} {x:α} (hx:xs[k]?=some x):partAt ok name xs k=(jv (name x) && (ok x && decide (oz (fun y=>decide (name y=name x)) (xs.take k) < 0))):=by rw[partAt,hx]
theorem amq {α:Type} {f:α→List PD} {sz:Nat} {w:World} {B:Nat} {ts:List α} {A:Option Addr} {n c:Nat} (hf:∀ t,(f t).length=sz) (hsz:0 < sz) (h:Rep w B (.row sz (ts.flatMap f)) (.slice A n c)) {k:Nat} (hk:k≤n):Rep w B (.row sz ((ts.take k).flatMap f)) (.slice A k c):=by
 have h0:=h
 rw[Rep] at h0 ⊢
 obtain⟨A',n',c',e,hl,hm,hx⟩:=h0
 cases e
 rw[iq hf] at hl
 have hln:ts.length=n:=Nat.eq_of_mul_eq_mul_right hsz hl
 refine⟨A,k,c,rfl,by rw[iq hf,List.length_take];congr 1;omega,by omega,fun h1=>?_⟩
 obtain⟨g,off,hA,hg,hr⟩:=hx (by omega)
 refine⟨g,off,hA,hg,abz.2 fun j x hj=>abz.1 hr j x ?_⟩
 have hsplit:ts.flatMap f=(ts.take k).flatMap f ++(ts.drop k).flatMap f:=by rw[← List.flatMap_append,List.take_append_drop]
 rw[hsplit,List.getElem?_append_left (List.getElem?_eq_some_iff.1 hj).1]
 exact hj
end Go.Proofs.YtlpcocfadppkhaaGreatDoor
namespace Go.Proofs.YtlpcocfadppkhaaGreatDoor
open Go.RowKit Go.Shelf
set_option linter.unusedVariables false
set_option linter.unusedSimpArgs false
set_option linter.unnecessarySimpa false
theorem ah7 {P:Program} {W:World} {name:String} {k:IntKind} {zs:List Int} {g:Nat} {t e:TypeId} {n:Nat}
  (hg:P.globalNamed name=some g) (hty:(P.globals[g]?).map (·.type)=some t) (ht:P.underlying t=some (.array n e)) (he:P.underlying e=some (.int k)) (hce:P.cellsOf e=1) (hct:P.cellsOf t=n)
  (h:Lib.VarReads P W name (Lib.tabData k zs)):Lib.TabIs P W name k zs:=by
 obtain⟨g',t',cs,fuel,p,hg',ht',hvar,hd⟩:=h
 obtain rfl:=Option.some.inj (hg.symm.trans hg')
 obtain rfl:=Option.some.inj (hty.symm.trans ht')
 unfold Lib.TabIs
 rw[hvar,← Lib.cells_of_tab ht he hce hct hd]
theorem ah8 {P:Program} {w w':World} {name:String} {k:IntKind} {zs:List Int} (h:Lib.TabIs P w name k zs) (hb:Below w.heap.size w w'):Lib.TabIs P w' name k zs:=by
 unfold Lib.TabIs World.var? at *
 cases hg:P.globalNamed name with
 | none=>simp[hg] at h
 | some g=>
  simp only[hg,Option.bind_some] at h ⊢
  have hlt:g < w.heap.size:=by
   rcases Nat.lt_or_ge g w.heap.size with h'|h'
   ·exact h'
   ·rw[Array.getElem?_eq_none h'] at h;simp at h
  rw[hb.block g hlt]
  exact h
end Go.Proofs.YtlpcocfadppkhaaGreatDoor
namespace Go.Proofs.YtlpcocfadppkhaaGreatDoor
open Go.RowKit Go.Shelf
set_option linter.unusedVariables false
set_option linter.unusedSimpArgs false
set_option linter.unnecessarySimpa false
set_option maxRecDepth 16000
def words:List ByteArray:=[⟨#[99,111,110,115,116]⟩,⟨#[103,101,116]⟩,⟨#[115,101,116]⟩,⟨#[116,101,101]⟩,⟨#[100,114,111,112]⟩,⟨#[97,100,100]⟩,⟨#[115,117,98]⟩,⟨#[109,117,108]⟩,⟨#[100,105,118]⟩,⟨#[114,101,109]⟩,⟨#[97,110,100]⟩,⟨#[111,114]⟩,⟨#[120,111,114]⟩,⟨#[115,104,108]⟩,⟨#[115,104,114]⟩,⟨#[101,113]⟩,⟨#[110,101]⟩,⟨#[108,116]⟩,⟨#[103,116]⟩,⟨#[108,101]⟩,⟨#[103,101]⟩,⟨#[101,113,122]⟩,⟨#[115,101,108,101,99,116]⟩,⟨#[98,108,111,99,107]⟩,⟨#[108,111,111,112]⟩,⟨#[105,102]⟩,⟨#[101,108,115,101]⟩,⟨#[101,110,100]⟩,⟨#[98,114]⟩,⟨#[98,114,105,102]⟩,⟨#[114,101,116,117,114,110]⟩,⟨#[99,97,108,108]⟩,⟨#[104,111,115,116]⟩,⟨#[108,111,97,100,56]⟩,⟨#[108,111,97,100,51,50]⟩,⟨#[108,111,97,100,54,52]⟩,⟨#[115,116,111,114,101,56]⟩,⟨#[115,116,111,114,101,51,50]⟩,⟨#[115,116,111,114,101,54,52]⟩,⟨#[116,114,97,112]⟩]
theorem ag6:words.length=40:=rfl
def aik (w:World):Prop:=Lib.TabIs Tryz.prog w "strings.asciiSpace" .u8 Lib.asciiSpaceTab
theorem aik.below {w w':World} (h:aik w) (hb:Below w.heap.size w w'):aik w':=ah8 h hb
theorem apw:(Rows.laid_strings_asciiSpace:DataW Unit)=Lib.tabData .u8 Lib.asciiSpaceTab:=by kernel_rfl
theorem apx {l:List (String×DataW Unit)} (hp:(l.all fun x=>x.2.handleName?.isNone)=true) (hm:("strings.asciiSpace",(Rows.laid_strings_asciiSpace:DataW Unit)) ∈ l) {w:World} (h:laidMetH Tryz.prog l w):aik w:=by
 rw[MakeChecks.laidMetH_plain _ _ _ hp] at h
 have h1:=Lib.laidMet.reads h hm
 rw[apw] at h1
 exact ah7 (g:=1) (t:=116) (e:=5) (n:=256) (by kernel_rfl) (by kernel_rfl) (by kernel_rfl) (by kernel_rfl) (by kernel_rfl) (by kernel_rfl) h1
def aqz:Go.Shelf.Ren:=⟨fun
  | 157=>77|199=>99|229=>98|261=>123|311=>134|312=>135|n=>n,fun
  | 0=>0|3=>3|4=>4|5=>5|9=>9|21=>21|31=>32|40=>118|46=>112|49=>162|51=>141|119=>116|141=>143|152=>138|154=>140|193=>158|194=>159|196=>161|198=>164|201=>167|226=>172|227=>173|n=>n,fun
  | 0=>1|6=>4|n=>n⟩
set_option maxHeartbeats 4000000 in
theorem au1:Lays.n157 Tryz.prog aqz where
 mixed:=by kernel_rfl
 f157:=Tryz.func77.trans (congrArg some (by kernel_rfl))
 f199:=Tryz.func99.trans (congrArg some (by kernel_rfl))
 f229:=Tryz.func98.trans (congrArg some (by kernel_rfl))
 f261:=Tryz.func123.trans (congrArg some (by kernel_rfl))
 f311:=Tryz.func134.trans (congrArg some (by kernel_rfl))
 f312:=Tryz.func135.trans (congrArg some (by kernel_rfl))
 t0:=by kernel_rfl
 a0:=fun _=>by kernel_rfl
 z0:=fun _=>by kernel_rfl
 v0:=fun _=>by kernel_rfl
 t3:=by kernel_rfl
 a3:=fun _=>by kernel_rfl
 z3:=fun _=>by kernel_rfl
 v3:=fun _=>by kernel_rfl
 t4:=by kernel_rfl
 a4:=fun _=>by kernel_rfl
 z4:=fun _=>by kernel_rfl
 v4:=fun _=>by kernel_rfl
 t5:=by kernel_rfl
 a5:=fun _=>by kernel_rfl
 z5:=fun _=>by kernel_rfl
 v5:=fun _=>by kernel_rfl
 t9:=by kernel_rfl
 a9:=fun _=>by kernel_rfl
 z9:=fun _=>by kernel_rfl
 v9:=fun _=>by kernel_rfl
 t21:=by kernel_rfl
 a21:=fun _=>by kernel_rfl
 z21:=fun _=>by kernel_rfl
 v21:=fun _=>by kernel_rfl
 t31:=by kernel_rfl
 a31:=fun _=>by kernel_rfl
 z31:=fun _=>by kernel_rfl
 v31:=fun _=>by kernel_rfl
 t40:=by kernel_rfl
 a40:=fun _=>by kernel_rfl
 z40:=fun _=>by kernel_rfl
 v40:=fun _=>by kernel_rfl
 t46:=by kernel_rfl
 a46:=fun _=>by kernel_rfl
 z46:=fun _=>by kernel_rfl
 v46:=fun _=>by kernel_rfl
 t49:=by kernel_rfl
 a49:=fun _=>by kernel_rfl
 z49:=fun _=>by kernel_rfl
 v49:=fun _=>by kernel_rfl
 t51:=by kernel_rfl
 a51:=fun _=>by kernel_rfl
 z51:=fun _=>by kernel_rfl
 v51:=fun _=>by kernel_rfl
 t119:=by kernel_rfl
 a119:=fun _=>by kernel_rfl
 z119:=fun _=>by kernel_rfl
 t141:=by kernel_rfl
 a141:=fun _=>by kernel_rfl
 z141:=fun _=>by kernel_rfl
 v141:=fun _=>by kernel_rfl
 t152:=by kernel_rfl
 a152:=fun _=>by kernel_rfl
 z152:=fun _=>by kernel_rfl
 v152:=fun _=>by kernel_rfl
 t154:=by kernel_rfl
 a154:=fun _=>by kernel_rfl
 z154:=fun _=>by kernel_rfl
 v154:=fun _=>by kernel_rfl
 t193:=by kernel_rfl
 a193:=fun _=>by kernel_rfl
 z193:=fun _=>by kernel_rfl
 v193:=fun _=>by kernel_rfl
 t194:=by kernel_rfl
 a194:=fun _=>by kernel_rfl
 z194:=fun _=>by kernel_rfl
 v194:=fun _=>by kernel_rfl
 t196:=by kernel_rfl
 a196:=fun _=>by kernel_rfl
 z196:=fun _=>by kernel_rfl
 v196:=fun _=>by kernel_rfl
 t198:=by kernel_rfl
 a198:=fun _=>by kernel_rfl
 z198:=fun _=>by kernel_rfl
 v198:=fun _=>by kernel_rfl
 t201:=by kernel_rfl
 a201:=fun _=>by kernel_rfl
 z201:=fun _=>by kernel_rfl
 v201:=fun _=>by kernel_rfl
 t226:=by kernel_rfl
 a226:=fun _=>by kernel_rfl
 z226:=fun _=>by kernel_rfl
 v226:=fun _=>by kernel_rfl
 t227:=by kernel_rfl
 a227:=fun _=>by kernel_rfl
 z227:=fun _=>by kernel_rfl
 v227:=fun _=>by kernel_rfl
 g0:=by kernel_rfl
 g6:=by kernel_rfl
theorem fi9:(Tryz.prog.info? (aqz.t 9)).map (fun i=>(i.zero,i.size,i.bytes))=some (some (.string ByteArray.empty),1,16):=by kernel_rfl
def amr (s:ByteArray) (W:List (List UInt8)):Bool:=decide (s.size < 4294967281) && s.data.toList.all (fun b=>decide (b.toNat < 128)) && (Lib.fields s.data.toList ==W)
def afn:List ByteArray:=⟨#[45]⟩ ::words
theorem apy (s:ByteArray) (h:amr s (afn.map fun x=>x.data.toList)=true) (w:World) (hT:aik w):Calls Tryz.prog 77 #[.string s] w fun e w'=>e=.returned (.slice (some ⟨w.heap.size,0,none⟩) 41 41)∧(∀ (j:Nat) (x:ByteArray),afn[j]?=some x→w'.cell? ⟨w.heap.size,j,none⟩=some (.string x))∧Below w.heap.size w w':=by
 simp only[amr,Bool.and_eq_true,decide_eq_true_eq,List.all_eq_true,beq_iff_eq] at h
 obtain⟨⟨h1,h2⟩,h3⟩:=h
 refine(Any.strings_Fields au1 fi9 (by kernel_rfl) s w h1 (fun j b hj=>h2 b (List.mem_of_getElem? hj)) hT).mono ?_
 rintro e w' ⟨he,rfl⟩
 rw[h3] at he ⊢
 refine⟨he,fun j x hx=>?_,(Below.refl _ _).alloc (Nat.le_refl _) _⟩
 refine(Blk.cell (Blk.new w _ _) j).trans ?_
 simp[hx]
theorem ah9 (w:World) (hT:aik w):Calls Tryz.prog 58 #[] w fun e w'=>e=.returned (.slice (some ⟨w.heap.size,0,none⟩) 41 41)∧(∀ (j:Nat) (x:ByteArray),afn[j]?=some x→w'.cell? ⟨w.heap.size,j,none⟩=some (.string x))∧Below w.heap.size w w':=by
 go_enter Tryz.func58,Tryz.ntmps58
 go_wp2_with fail
 refine(apy _ (by kernel_rfl) w hT).mono ?_
 rintro e w1 ⟨rfl,hc,hb1⟩
 go_wp2_with fail
 go_ret
 exact⟨rfl,hc,hb1⟩
theorem aei (w:World):Calls Tryz.prog 50 #[] w fun e w'=>e=.returned (.slice (some ⟨w.heap.size,0,none⟩) 40 40)∧(∀ (j:Nat) (x:ByteArray),words[j]?=some x→w'.cell? ⟨w.heap.size,j,none⟩=some (.string x))∧Below w.heap.size w w':=by
 go_enter Tryz.func50,Tryz.ntmps50
 go_wp2_with fail
 go_ret
 refine⟨rfl,fun j x hx=>?_,(Below.refl _ _).alloc (Nat.le_refl _) _⟩
 refine(Blk.cell (Blk.new w _ _) j).trans ?_
 show(words.map Value.string).toArray[j]?=_
 simp[hx]
def ab7 (n:Int):ByteArray:=if inB n 1 40=true then (words[(n - 1).toNat]?).getD ⟨#[]⟩else ⟨#[]⟩
theorem acz {j:Nat} {x:ByteArray} (h:words[j]?=some x):ab7 ((j+1:Nat):Int)=x:=by
 have hj:=(List.getElem?_eq_some_iff.1 h).1
 rw[ag6] at hj
 rw[ab7,if_pos (aut (by omega) (by omega)),show(((j+1:Nat):Int) - 1).toNat=j by omega,h];rfl
theorem aej {n:Int} (h:inB n 1 40=true):∃ (j:Nat) (x:ByteArray),n=((j+1:Nat):Int)∧j < 40∧words[j]?=some x:=by
 have:=auu.1 h
 obtain⟨x,hx,_⟩:=l7 (xs:=words) (k:=(n - 1).toNat) (n:=40) rfl (by omega)
 exact⟨(n - 1).toNat,x,by omega,by omega,hx⟩
end Go.Proofs.YtlpcocfadppkhaaGreatDoor
