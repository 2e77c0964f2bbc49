/-
  A module that is read holds what Go can hold. No program in sight.
  A text that is cut at a byte; decimal numerals read back: plain. No program in sight.
  strings.Split at one byte, laid; what it answers.
  A line of a module's text, as impl reads it: words, the closure 'number'.
-/
import Derived.Test.YtlpcocfadppkhaaGreatDoorRa12
import Derived.Test.YtlpcocfadppkhaaGreatDoorRa15
import Derived.Test.YtlpcocfadppkhaaGreatDoorRa08
import Derived.Test.YtlpcocfadppkhaaGreatDoorRa07
import Derived.Lib.SplitLaws
import Derived.Lib.IndexBytes
import Derived.Test.YtlpcocfadppkhaaGreatDoorRa11
import Derived.Test.YtlpcocfadppkhaaGreatDoorRa05
import Derived.Test.YtlpcocfadppkhaaGreatDoorRa01
import Derived.Shelf.Strings.Split
import Derived.Shelf.Vars
import Derived.Lib.CutLaws
namespace Go.Proofs.YtlpcocfadppkhaaGreatDoor
open Go.RowKit
set_option linter.unusedVariables false
set_option linter.unusedSimpArgs false
set_option linter.unnecessarySimpa false
def I64 (n:Int):Prop:=-9223372036854775808≤n∧n≤9223372036854775807
def aqd (i:Ins):Prop:=I64 i.op∧I64 i.a
def a06 (x:Imp):Prop:=x.name.size≤1048576∧I64 x.params
def aj7 (c:Core):Prop:=c.name.size≤1048576∧I64 c.params∧I64 c.locals∧∀ i ∈ c.code,aqd i
def ab2 (m:Mod):Prop:=I64 m.pages∧(∀ x ∈ m.imports,a06 x)∧∀ c ∈ m.cores,aj7 c
theorem I64.wf {n:Int} (h:I64 n):(PD.lit (.int .i64 n)).wf:=by
 unfold I64 at h
 have h1:IntKind.i64.min=-9223372036854775808:=by decide
 have h2:IntKind.i64.max=9223372036854775807:=by decide
 simp[PD.wf,Lit.wf,h1,h2]
 omega
theorem ab2.wf {m:Mod} (h:ab2 m):PD.wfL (Mod.pd m):=by
 obtain⟨p,is,cs⟩:=m
 obtain⟨h1,h2,h3⟩:=h
 have hs:∀ s:ByteArray,s.size≤1048576→(PD.lit (.string s)).wf:=fun s hs=>by rw[PD.wf];simp only[maxLen];omega
 rw[Mod.aj]
 rw[PD.wfL,PD.wfL,PD.wfL,PD.wfL]
 rw[PD.wf,PD.wf]
 refine⟨h1.wf,abd.2 fun x hx=>?_,abd.2 fun c hc=>?_,trivial⟩
 ·obtain⟨k1,k2⟩:=h2 x hx
  obtain⟨name,params,r⟩:=x
  rw[Imp.aj,PD.wfL,PD.wfL,PD.wfL,PD.wfL]
  exact⟨hs _ k1,k2.wf,by simp[PD.wf],trivial⟩
 ·obtain⟨k1,k2,k3,k4⟩:=h3 c hc
  obtain⟨name,params,locals,r,code⟩:=c
  rw[Core.aj,PD.wfL,PD.wfL,PD.wfL,PD.wfL,PD.wfL,PD.wfL]
  refine⟨hs _ k1,k2.wf,k3.wf,by simp[PD.wf],?_,trivial⟩
  rw[PD.wf]
  refine abd.2 fun i hi=>?_
  obtain⟨l1,l2⟩:=k4 i hi
  obtain⟨op,a⟩:=i
  rw[Ins.aj,PD.wfL,PD.wfL,PD.wfL]
  exact⟨l1.wf,l2.wf,trivial⟩
theorem ah1:I64 0:=by unfold I64;omega
theorem ahj (t:ByteArray):I64 (l9 t).1:=amw t
theorem apf {s:ByteArray} {op a:Int} (h1:I64 op) (h2:I64 a):aqd ⟨(zn s op a).1,(zn s op a).2.1⟩:=by
 rw[zn]
 split
 ·exact⟨h1,h2⟩
 ·exact⟨ah1,ah1⟩
theorem aya (t:ByteArray):I64 (opI words 0 t:Nat):=by
 have:=aq6 words 0 t
 have h:words.length=40:=by rfl
 unfold I64
 omega
theorem aup (s:ByteArray):aqd ⟨(rdS s).1,(rdS s).2.1⟩:=by
 cases hp:(bn 32 s)[1]? with
 | none=>rw[af7 hp];exact apf (aya _) ah1
 | some p=>
  cases hb:(l9 p).2 with
  | false=>rw[akz hp hb];exact⟨ah1,ah1⟩
  | true=>rw[af8 hp hb];exact apf (aya _) (ahj _)
theorem ark:ab2 jk:=⟨ah1,fun x hx=>by simp[jk] at hx,fun c hc=>by simp[jk] at hc⟩
theorem arl {cs:List Core} {i:Ins} (h:∀ c ∈ cs,aj7 c) (hi:aqd i):∀ c ∈ xg i cs,aj7 c:=by
 rcases List.eq_nil_or_concat cs with rfl|⟨L,b,e⟩
 ·intro c hc;simp[xg] at hc
 ·have e:cs=L ++[b]:=by simpa using e
  subst e
  rw[qc]
  intro c hc
  rcases List.mem_append.1 hc with hc|hc
  ·exact h c (by simp[hc])
  ·simp at hc
   subst hc
   obtain⟨k1,k2,k3,k4⟩:=h b (by simp)
   refine⟨k1,k2,k3,fun j hj=>?_⟩
   rcases List.mem_append.1 hj with hj|hj
   ·exact k4 j hj
   ·simp at hj;subst hj;exact hi
theorem amh {α:Type} {P:α→Prop} {xs:List α} {x:α} (h:∀ y ∈ xs,P y) (hx:P x):∀ y ∈ xs ++[x],P y:=fun y hy=>by
 rcases List.mem_append.1 hy with hy|hy
 ·exact h y hy
 ·simp at hy;subst hy;exact hx
theorem avy {m:Mod} {l:ByteArray} (hl:l.size≤1048576) (h:ab2 m):ab2 (lineS m l):=by
 obtain⟨h1,h2,h3⟩:=h
 have hw:∀ i,(wAt (bn 32 l) i).size≤1048576:=fun i=>Nat.le_trans (ab1 l i) hl
 rw[lineS]
 split
 ·exact⟨ahj _,h2,h3⟩
 split
 ·exact⟨h1,amh h2 ⟨hw 1,ahj _⟩,h3⟩
 split
 ·exact⟨h1,h2,amh h3 ⟨hw 1,ahj _,ahj _,fun i hi=>by simp at hi⟩⟩
 ·exact⟨h1,h2,arl h3 (aup l)⟩
theorem anh {f:Mod→ByteArray→Mod} (hf:∀ m l,l.size≤1048576→ab2 m→ab2 (f m l)):∀ (ls:List ByteArray) (m:Mod),(∀ l ∈ ls,l.size≤1048576)→ab2 m→ab2 (ls.foldl f m)
 | [],_,_,h=>h
 | l ::ls,m,hl,h=>anh hf ls _ (fun x hx=>hl x (by simp[hx])) (hf m l (hl l (by simp)) h)
theorem ahk {s:ByteArray} (hs:s.size≤1048576) (sep:Int):∀ l ∈ bn sep s,l.size≤1048576:=fun l hl=>Nat.le_trans (afs hl) hs
theorem ai9 {s:ByteArray} (hs:s.size≤1048576):ab2 (aaf s):=anh (fun _ _ hl h=>avy hl h) _ _ (ahk hs 10) ark
theorem ayb {cs:List Core} (h:∀ c ∈ cs,aj7 c):∀ c ∈ ach cs,aj7 c:=by
 rcases List.eq_nil_or_concat cs with rfl|⟨L,b,e⟩
 ·intro c hc;simp[ach] at hc
 ·have e:cs=L ++[b]:=by simpa using e
  subst e
  rw[aa6]
  intro c hc
  rcases List.mem_append.1 hc with hc|hc
  ·exact h c (by simp[hc])
  ·simp at hc
   subst hc
   obtain⟨k1,k2,k3,k4⟩:=h b (by simp)
   exact⟨k1,k2,k3,fun j hj=>k4 j (List.dropLast_subset _ hj)⟩
theorem ak6 {m:Mod} (h:ab2 m):ab2 (trimS m):=⟨h.1,h.2.1,ayb h.2.2⟩
def tq (s:ByteArray):Mod×Int:=if 30000 < s.size then (jk,4)else match afc s with
 | some m=>(m,0)
 | none=>(jk,6)
theorem ac5 {s:ByteArray} (h:30000 < s.size):tq s=(jk,4):=by rw[tq,if_pos h]
theorem aci {s:ByteArray} (h:¬ 30000 < s.size) (hb:uy (trimS (aaf s))=false):tq s=(jk,6):=by rw[tq,if_neg h,afc,if_neg (by rw[hb];simp)]
theorem acj {s:ByteArray} (h:¬ 30000 < s.size) (ht:¬ aak (trimS (aaf s))=s):tq s=(jk,6):=by rw[tq,if_neg h,afc,if_neg (fun k=>ht k.2)]
theorem ahl {s:ByteArray} (h:¬ 30000 < s.size) (hb:uy (trimS (aaf s))=true) (ht:aak (trimS (aaf s))=s):tq s=(trimS (aaf s),0):=by rw[tq,if_neg h,afc,if_pos ⟨hb,ht⟩]
theorem agl {m:Mod} {k:Nat} (h:aao m k):aao (trimS m) k:=by
 obtain⟨h1,h2,h3⟩:=h
 obtain⟨p,is,cs⟩:=m
 rcases List.eq_nil_or_concat cs with rfl|⟨L,b,e⟩
 ·exact⟨h1,by simp[trimS,ach],fun c hc=>by simp[trimS,ach] at hc⟩
 ·have e:cs=L ++[b]:=by simpa using e
  subst e
  refine⟨h1,?_,fun c hc=>?_⟩
  ·rw[trimS,aa6];simpa using h2
  ·rw[trimS,aa6] at hc
   rcases List.mem_append.1 hc with hc|hc
   ·exact h3 c (by simp[hc])
   ·simp at hc
    subst hc
    have:=h3 b (by simp)
    simp
    omega
theorem abu {s:ByteArray} {k:Nat} (h:(bn 10 s).length≤k):aao (aaf s) k:=by
 have:=ahi (bn 10 s) (bn 10 s).length
 rw[List.take_length] at this
 obtain⟨h1,h2,h3⟩:=this
 exact⟨Nat.le_trans h1 h,Nat.le_trans h2 h,fun c hc=>Nat.le_trans (h3 c hc) h⟩
theorem agm (c:Int) (s:ByteArray):(bn c s).length≤s.size+1:=by
 rw[bn,List.length_map]
 have h1:=ais c (byt s)
 rw[ru] at h1
 exact h1
theorem arn {W:World} (xs:List ByteArray):ah W (xs.flatMap aa3) (strs xs) []:=by
 induction xs with
 | nil=>exact ah.nil W
 | cons x xs ih=>
  have:=ah.cons (Hold.afe W (.string x)) ih
  simpa [aa3,strs] using this
theorem abe (W:World) {lo:Nat}:LvC W lo W.heap.size (Mod.pd jk) [.int .i64 0,.slice none 0 0,.slice none 0 0]:=(GM.new lo W 0).done
def ab3 (c:UInt8):List UInt8→List (List UInt8)
 | []=>[[]]
 | x ::r=>if x=c then [] ::ab3 c r else match ab3 c r with
  | []=>[[x]]
  | p ::ps=>(x ::p) ::ps
theorem avz (c:UInt8):∀ l,ab3 c l≠[]
 | []=>by simp[ab3]
 | x ::r=>by
  rw[ab3]
  split
  ·simp
  ·split<;>simp
theorem av1 {x c:UInt8} (h:x≠c) (r:List UInt8):Lib.indexByte (x ::r) c=if Lib.indexByte r c ==-1 then -1 else Lib.indexByte r c+1:=by
 have hx:(x ==c)=false:=by simpa using h
 rw[Lib.indexByte,hx]
 rfl
theorem aon {x c:UInt8} (h:x≠c):∀ (k:Nat) (r p:List UInt8) (ps:List (List UInt8)),Lib.splitK [c] 0 k r=p ::ps→Lib.splitK [c] 0 k (x ::r)=(x ::p) ::ps
 | 0,r,p,ps,e=>by
  rw[Lib.splitK] at e
  injection e with e1 e2
  subst e1 e2
  rfl
 | k+1,r,p,ps,e=>by
  rw[Lib.splitK,Lib.index_one] at e
  rw[Lib.splitK,Lib.index_one,av1 h]
  have hg:=Lib.indexByte_ge r c
  by_cases hi:Lib.indexByte r c=-1
  ·rw[hi] at e ⊢
   simp at e ⊢
   exact e
  ·obtain⟨i,hi2⟩:∃ i:Nat,Lib.indexByte r c=i:=⟨(Lib.indexByte r c).toNat,by omega⟩
   rw[hi2] at e ⊢
   have hne:¬ ((i:Int) ==-1)=true:=by simp<;>omega
   have hne2:¬ ((i:Int)+1 ==-1)=true:=by simp<;>omega
   have ht:((i:Int)+1).toNat=i+1:=by omega
   have ht2:((i:Int)).toNat=i:=by omega
   rw[if_neg hne,ht2] at e
   rw[if_neg hne,if_neg hne2,ht]
   simp only[List.length_cons,List.length_nil,Nat.add_zero,Nat.zero_add] at e ⊢
   injection e with e1 e2
   subst e1 e2
   simp
theorem agn (c:UInt8):∀ l:List UInt8,Lib.splitK [c] 0 (l.count c) l=ab3 c l
 | []=>by simp[Lib.splitK,ab3]
 | x ::r=>by
  by_cases h:x=c
  ·subst h
   rw[List.count_cons_self,Lib.splitK,Lib.index_one,Lib.indexByte,ab3]
   simp[agn x r]
  ·have ih:=agn c r
   rw[List.count_cons_of_ne h,ab3,if_neg h]
   cases hc:ab3 c r with
   | nil=>exact absurd hc (avz c r)
   | cons p ps=>rw[hc] at ih;exact aon h _ r p ps ih
theorem aro (c:UInt8) (s:ByteArray):(Lib.splitB ⟨#[c]⟩ 0 (Lib.countB s ⟨#[c]⟩) s).map (·.data.toList)=ab3 c s.data.toList:=by
 rw[Lib.splitB_data]
 have:Lib.countB s ⟨#[c]⟩=s.data.toList.count c:=by
  show Lib.count s.data.toList [c]=_
  exact Lib.count_one c _
 rw[this]
 exact agn c _
end Go.Proofs.YtlpcocfadppkhaaGreatDoor
namespace Go.Proofs.YtlpcocfadppkhaaGreatDoor
open Go.RowKit Go.Shelf
set_option linter.unusedVariables false
set_option linter.unusedSimpArgs false
set_option linter.unnecessarySimpa false
set_option maxRecDepth 100000
def ayc:Go.Shelf.Ren:=⟨fun
  | 138=>71|143=>72|146=>36|195=>88|197=>89|217=>52|218=>90|219=>91|221=>53|224=>112|225=>111|260=>110|266=>69|267=>113|268=>70|314=>127|n=>n,fun
  | 0=>0|3=>3|4=>4|5=>5|9=>9|21=>21|31=>32|46=>112|51=>141|105=>106|119=>116|138=>146|139=>147|146=>148|n=>n,fun
  | 1=>0|3=>5|4=>6|n=>n⟩
set_option maxHeartbeats 4000000 in
theorem av2:Lays.n146 Tryz.prog ayc where
 mixed:=by kernel_rfl
 f138:=Tryz.func71.trans (congrArg some (by kernel_rfl))
 f143:=Tryz.func72.trans (congrArg some (by kernel_rfl))
 f146:=Tryz.func36.trans (congrArg some (by kernel_rfl))
 f195:=Tryz.func88.trans (congrArg some (by kernel_rfl))
 f197:=Tryz.func89.trans (congrArg some (by kernel_rfl))
 f217:=Tryz.func52.trans (congrArg some (by kernel_rfl))
 f218:=Tryz.func90.trans (congrArg some (by kernel_rfl))
 f219:=Tryz.func91.trans (congrArg some (by kernel_rfl))
 f221:=Tryz.func53.trans (congrArg some (by kernel_rfl))
 f224:=Tryz.func112.trans (congrArg some (by kernel_rfl))
 f225:=Tryz.func111.trans (congrArg some (by kernel_rfl))
 f260:=Tryz.func110.trans (congrArg some (by kernel_rfl))
 f266:=Tryz.func69.trans (congrArg some (by kernel_rfl))
 f267:=Tryz.func113.trans (congrArg some (by kernel_rfl))
 f268:=Tryz.func70.trans (congrArg some (by kernel_rfl))
 f314:=Tryz.func127.trans (congrArg some (by kernel_rfl))
 t0:=by kernel_rfl
 a0:=fun _=>by kernel_rfl
 z0:=fun _=>by kernel_rfl
 v0:=fun _=>by kernel_rfl
 t3:=by kernel_rfl
 a3:=fun _=>by kernel_rfl
 z3:=fun _=>by kernel_rfl
 v3:=fun _=>by kernel_rfl
 t4:=by kernel_rfl
 a4:=fun _=>by kernel_rfl
 z4:=fun _=>by kernel_rfl
 v4:=fun _=>by kernel_rfl
 t5:=by kernel_rfl
 a5:=fun _=>by kernel_rfl
 z5:=fun _=>by kernel_rfl
 v5:=fun _=>by kernel_rfl
 t9:=by kernel_rfl
 a9:=fun _=>by kernel_rfl
 z9:=fun _=>by kernel_rfl
 v9:=fun _=>by kernel_rfl
 t21:=by kernel_rfl
 a21:=fun _=>by kernel_rfl
 z21:=fun _=>by kernel_rfl
 v21:=fun _=>by kernel_rfl
 t31:=by kernel_rfl
 a31:=fun _=>by kernel_rfl
 z31:=fun _=>by kernel_rfl
 v31:=fun _=>by kernel_rfl
 t46:=by kernel_rfl
 a46:=fun _=>by kernel_rfl
 z46:=fun _=>by kernel_rfl
 v46:=fun _=>by kernel_rfl
 t51:=by kernel_rfl
 a51:=fun _=>by kernel_rfl
 z51:=fun _=>by kernel_rfl
 v51:=fun _=>by kernel_rfl
 t105:=by kernel_rfl
 a105:=fun _=>by kernel_rfl
 z105:=fun _=>by kernel_rfl
 v105:=fun _=>by kernel_rfl
 t119:=by kernel_rfl
 a119:=fun _=>by kernel_rfl
 z119:=fun _=>by kernel_rfl
 t138:=by kernel_rfl
 a138:=fun _=>by kernel_rfl
 z138:=fun _=>by kernel_rfl
 v138:=fun _=>by kernel_rfl
 t139:=by kernel_rfl
 a139:=fun _=>by kernel_rfl
 z139:=fun _=>by kernel_rfl
 v139:=fun _=>by kernel_rfl
 t146:=by kernel_rfl
 a146:=fun _=>by kernel_rfl
 z146:=fun _=>by kernel_rfl
 v146:=fun _=>by kernel_rfl
 g1:=by kernel_rfl
 g3:=by kernel_rfl
 g4:=by kernel_rfl
theorem arp (s sep:ByteArray) (hs:s.size≤1048576) (h1:1≤sep.size) (w:World) (hm:ahw w):Calls Tryz.prog 36 #[.string s,.string sep] w fun e w'=>
  e=.returned (.slice (some ⟨w.heap.size,0,none⟩) (Lib.countB s sep+1) (Lib.countB s sep+1))∧w'=w.alloc (.cells ((Lib.splitB sep 0 (Lib.countB s sep) s).map Value.string).toArray 9):=by
 obtain⟨m,hm⟩:=hm
 exact Any.strings_Split av2 (by kernel_rfl) s sep m w (by omega) hm h1
end Go.Proofs.YtlpcocfadppkhaaGreatDoor
namespace Go.Proofs.YtlpcocfadppkhaaGreatDoor
open Go.RowKit
set_option linter.unusedVariables false
set_option linter.unusedSimpArgs false
set_option linter.unnecessarySimpa false
theorem ani (c:UInt8):∀ l:List UInt8,oh (c.toNat:Int) (l.map fun b=>(b.toNat:Int))=(ab3 c l).map (·.map fun b=>(b.toNat:Int))
 | []=>rfl
 | x ::r=>by
  have ih:=ani c r
  have hc:((x.toNat:Int)=(c.toNat:Int))↔x=c:=by
   constructor
   ·intro h;exact UInt8.toNat_inj.1 (by omega)
   ·rintro rfl;rfl
  rw[List.map_cons,oh,ab3,ih]
  by_cases h:x=c
  ·rw[if_pos (hc.2 h),if_pos h];rfl
  ·rw[if_neg (fun k=>h (hc.1 k)),if_neg h]
   cases ab3 c r<;>rfl
theorem ayd (c:UInt8) (s:ByteArray):bn (c.toNat:Int) s=(ab3 c s.data.toList).map fun l=>(⟨l.toArray⟩:ByteArray):=by
 rw[bn,show byt s=s.data.toList.map (fun b=>(b.toNat:Int))from rfl,ani,List.map_map]
 refine List.map_congr_left fun l _=>?_
 have:=jy ⟨l.toArray⟩
 rw[show byt ⟨l.toArray⟩=l.map (fun b=>(b.toNat:Int))from by simp[byt]] at this
 exact this
theorem apg (s:ByteArray):Lib.splitB ⟨#[32]⟩ 0 (Lib.countB s ⟨#[32]⟩) s=bn 32 s:=by
 have h:=aro 32 s
 rw[show(32:Int)=((32:UInt8).toNat:Int)from rfl,ayd,← h,List.map_map]
 conv=>lhs;rw[← List.map_id (Lib.splitB ⟨#[32]⟩ 0 (Lib.countB s ⟨#[32]⟩) s)]
 refine List.map_congr_left fun x _=>?_
 simp
theorem aoo (s:ByteArray):Lib.countB s ⟨#[32]⟩+1=(bn 32 s).length:=by rw[← apg,Lib.splitB_all ⟨#[32]⟩ (by decide) 0 _ s rfl]
theorem aye (t:ByteArray):I64 (uq t).1:=am4 t
theorem aj8 (ws:List ByteArray) (k:Nat):I64 (zy ws k):=by
 rw[zy]
 split
 ·unfold I64;omega
 ·exact aye _
theorem av3 {m:Mod} {l:ByteArray} (hl:l.size≤1048576) (h:ab2 m):ab2 (aan m l):=by
 obtain⟨h1,h2,h3⟩:=h
 have hw:∀ i,(wAt (bn 32 l) i).size≤1048576:=fun i=>Nat.le_trans (ab1 l i) hl
 rw[aan]
 split
 ·exact⟨aj8 _ _,h2,h3⟩
 split
 ·exact⟨h1,amh h2 ⟨hw 1,aj8 _ _⟩,h3⟩
 split
 ·exact⟨h1,h2,amh h3 ⟨hw 1,aj8 _ _,aj8 _ _,fun i hi=>by simp at hi⟩⟩
 ·exact⟨h1,h2,arl h3 (by rw[avt];exact aup l)⟩
theorem arq {m:Mod} {k:Nat} (h:aao m k) (l:ByteArray):aao (aan m l) (k+1):=by
 obtain⟨h1,h2,h3⟩:=h
 have h4:∀ c ∈ m.cores,c.code.length≤k+1:=fun c hc=>by have:=h3 c hc;omega
 rw[aan]
 split
 ·exact⟨by show m.imports.length≤_;omega,by show m.cores.length≤_;omega,h4⟩
 split
 ·exact⟨by simp;omega,by show m.cores.length≤_;omega,h4⟩
 split
 ·exact⟨by show m.imports.length≤_;omega,by simp;omega,fun c hc=>by
   rcases List.mem_append.1 hc with hc|hc
   ·exact h4 c hc
   ·simp at hc;subst hc;exact Nat.zero_le _⟩
 ·have:=aic (i:=⟨(rdI l).1,(rdI l).2.1⟩) h2 h3
  exact⟨by show m.imports.length≤_;omega,by show(xg _ _).length≤_;omega,this.2⟩
end Go.Proofs.YtlpcocfadppkhaaGreatDoor
