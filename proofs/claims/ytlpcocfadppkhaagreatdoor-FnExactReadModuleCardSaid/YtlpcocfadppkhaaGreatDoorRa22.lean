/-
  The lines of a text, each with its newline; and without. Plain. No program in sight.
  strings.Lines as an iterator; strings.TrimSuffix at a newline.
  Types as data: what it means that one is right. No program in sight.
  slices.Sort at []string: the shelf's contract laid over this program (by program: gen_sort.py).
-/
import Derived.Test.YtlpcocfadppkhaaGreatDoorRa12
import Derived.Lib.IndexLaws
import Derived.Test.YtlpcocfadppkhaaGreatDoorRa13
import Derived.Test.YtlpcocfadppkhaaGreatDoorRa05
import Derived.Shelf.Abstract
import Derived.WalkKit
import Derived.OwnWalkIn
import Derived.TacticsInMore
import Derived.LoopNIn
import Derived.LoopIn
import Derived.DefersIn
import Derived.Test.YtlpcocfadppkhaaGreatDoorRa03
import Derived.Test.YtlpcocfadppkhaaGreatDoorRows
import Derived.Shelf.SortM.Plain
import Derived.Shelf.SortM.SortNone
namespace Go.Proofs.YtlpcocfadppkhaaGreatDoor
open Go.RowKit
set_option linter.unusedVariables false
set_option linter.unusedSimpArgs false
set_option linter.unnecessarySimpa false
def aam:List Int→List (List Int)
 | []=>[]
 | x ::r=>if x=10 then [10] ::aam r else match aam r with
  | []=>[[x]]
  | p ::ps=>(x ::p) ::ps
theorem ahp:∀ {p:List Int},(∀ x ∈ p,x≠10)→p≠[]→aam p=[p]
 | [],_,h=>absurd rfl h
 | [x],h,_=>by rw[aam,if_neg (h x (by simp))];rfl
 | x ::y ::r,h,_=>by
  rw[aam,if_neg (h x (by simp)),ahp (p:=y ::r) (fun z hz=>h z (List.mem_cons_of_mem _ hz)) (by simp)]
theorem ahq:∀ {p r:List Int},(∀ x ∈ p,x≠10)→aam (p ++10 ::r)=(p ++[10]) ::aam r
 | [],r,_=>by rw[List.nil_append,aam,if_pos rfl];rfl
 | x ::p,r,h=>by
  rw[List.cons_append,aam,if_neg (h x (by simp)),ahq (fun z hz=>h z (List.mem_cons_of_mem _ hz))]
  rfl
theorem ad5:∀ {l p:List Int},p ∈ aam l→∀ x ∈ p,x ∈ l
 | [],p,h=>by simp[aam] at h
 | y ::r,p,h=>by
  rw[aam] at h
  split at h
  ·next e=>
   rcases List.mem_cons.1 h with rfl|h
   ·intro x hx;simp at hx;subst hx;simp[e]
   ·exact fun x hx=>List.mem_cons_of_mem _ (ad5 h x hx)
  ·split at h
   ·simp at h;subst h;intro x hx;simp at hx;simp[hx]
   ·next q qs he=>
    rcases List.mem_cons.1 h with rfl|h
    ·intro x hx
     rcases List.mem_cons.1 hx with rfl|hx
     ·simp
     ·exact List.mem_cons_of_mem _ (ad5 (p:=q) (by rw[he];simp) x hx)
    ·exact fun x hx=>List.mem_cons_of_mem _ (ad5 (p:=p) (by rw[he];simp[h]) x hx)
def ac6 (p:List Int):List Int:=if p.getLast?=some 10 then p.dropLast else p
theorem aub {p:List Int} (h:∀ x ∈ p,x≠10):ac6 p=p:=by
 rw[ac6,if_neg]
 intro e
 exact h 10 (List.mem_of_getLast? e) rfl
theorem anz (p:List Int):ac6 (p ++[10])=p:=by simp[ac6]
theorem av6 (l:List Int):(∀ x ∈ l,x≠10)∨∃ p r,l=p ++10 ::r∧∀ x ∈ p,x≠10:=by
 induction l with
 | nil=>left;simp
 | cons x l ih=>
  by_cases e:x=10
  ·subst e;right;exact⟨[],l,rfl,by simp⟩
  ·have key:∀ p:List Int,(∀ y ∈ p,y≠10)→∀ y ∈ x ::p,y≠10:=fun p h y hy=>by
    rcases List.mem_cons.1 hy with rfl|hy
    ·exact e
    ·exact h y hy
   rcases ih with h|⟨p,r,rfl,h⟩
   ·left;exact key l h
   ·right;exact⟨x ::p,r,rfl,key p h⟩
theorem akg:∀ (n:Nat) (l:List Int),l.length≤n→(aam l).map ac6=if (oh 10 l).getLast?=some [] then (oh 10 l).dropLast else oh 10 l
 | 0,l,h=>by
  obtain rfl:l=[]:=List.eq_nil_of_length_eq_zero (by omega)
  rfl
 | n+1,l,hn=>by
  rcases av6 l with h|⟨p,r,rfl,h⟩
  ·rw[af5 h]
   by_cases e:l=[]
   ·subst e;rfl
   ·rw[ahp h e,if_neg (by simpa using e),List.map_cons,aub h];rfl
  ·have ih:=akg n r (by simp at hn;omega)
   rw[ahq h,List.map_cons,anz,ih,af6 h]
   cases hc:oh 10 r with
   | nil=>exact absurd hc (ace 10 r)
   | cons q qs=>
    rw[List.getLast?_cons_cons]
    by_cases hq:(q ::qs).getLast?=some []
    ·rw[if_pos hq,if_pos hq];rfl
    ·rw[if_neg hq,if_neg hq]
def jw (s:ByteArray):List ByteArray:=(aam (byt s)).map strOfNums
def aac (x:ByteArray):ByteArray:=strOfNums (ac6 (byt x))
theorem an0 {s:ByteArray} {p:List Int} (h:∀ x ∈ p,x ∈ byt s):byt (strOfNums p)=p:=al9 fun x hx=>avg (h x hx)
theorem ahr (s:ByteArray):(jw s).map aac=ac2 s:=by
 have e1:(jw s).map aac=((aam (byt s)).map ac6).map strOfNums:=by
  rw[jw,List.map_map,List.map_map]
  refine List.map_congr_left fun p hp=>?_
  show strOfNums (ac6 (byt (strOfNums p)))=strOfNums (ac6 p)
  rw[an0 (ad5 hp)]
 have hl:(bn 10 s).getLast?=some ⟨#[]⟩↔(oh 10 (byt s)).getLast?=some []:=by
  rw[bn,List.getLast?_map]
  cases hc:(oh 10 (byt s)).getLast? with
  | none=>simp
  | some q=>
   have hm:=(ael (List.mem_of_getLast? hc)).2
   constructor
   ·intro e
    have e2:strOfNums q=⟨#[]⟩:=by simpa using e
    have:=an0 hm
    rw[e2] at this
    rw[← this];rfl
   ·intro e
    have e2:q=[]:=by simpa using e
    rw[e2];rfl
 rw[e1,akg _ _ (Nat.le_refl _),ac2]
 by_cases h:(oh 10 (byt s)).getLast?=some []
 ·rw[if_pos h,if_pos (hl.2 h),bn,List.map_dropLast]
 ·rw[if_neg h,if_neg (fun e=>h (hl.1 e)),bn]
theorem aqh:jw ⟨#[]⟩=[]:=rfl
theorem aop {s:ByteArray} (h:s.size=0):jw s=[]:=by
 have:byt s=[]:=List.eq_nil_of_length_eq_zero (by rw[byt,List.length_map];exact h)
 rw[jw,this];rfl
theorem ay3 {s:ByteArray} (h:Lib.indexByte s.data.toList 10=-1):∀ x ∈ byt s,x≠10:=fun x hx e=>by
 obtain⟨b,hb,rfl⟩:=List.mem_map.1 hx
 obtain⟨k,hk⟩:=List.getElem?_of_mem hb
 refine Lib.indexByte_none h k (hk.trans ?_)
 rw[show b=10 from UInt8.toNat_inj.1 (by rw[show(10:UInt8).toNat=10 from rfl];omega)]
theorem arv {s:ByteArray} {i:Nat} (h:Lib.indexByte s.data.toList 10=(i:Int)):i < s.size∧byt s=(byt s).take i ++10 ::(byt s).drop (i+1)∧∀ x ∈ (byt s).take i,x≠10:=by
 obtain⟨h1,h2⟩:=Lib.indexByte_some h
 have hi:i < s.data.toList.length:=(List.getElem?_eq_some_iff.1 h1).1
 have hb:(byt s)[i]?=some 10:=by rw[byt,List.getElem?_map,h1];rfl
 refine⟨by simpa using hi,?_,fun x hx e=>?_⟩
 ·have hi2:=(List.getElem?_eq_some_iff.1 hb).1
  have he:=(List.getElem?_eq_some_iff.1 hb).2
  rw[← he,← List.drop_eq_getElem_cons hi2,List.take_append_drop]
 ·obtain⟨k,hk⟩:=List.getElem?_of_mem hx
  rw[List.getElem?_take] at hk
  split at hk
  ·next hlt=>
   rw[byt,List.getElem?_map] at hk
   cases hq:s.data.toList[k]? with
   | none=>rw[hq] at hk;cases hk
   | some b=>
    rw[hq] at hk
    have agu:(b.toNat:Int)=x:=by simpa using hk
    exact h2 k hlt (hq.trans (by rw[show b=10 from UInt8.toNat_inj.1 (by rw[show(10:UInt8).toNat=10 from rfl];omega)]))
  ·cases hk
theorem arw {s:ByteArray} (h0:¬ s.size=0) (h:Lib.indexByte s.data.toList 10=-1):jw s=[s]:=by
 rw[jw,ahp (ay3 h)]
 ·rw[List.map_cons,jy];rfl
 ·intro e
  have:=congrArg List.length e
  rw[byt,List.length_map] at this
  exact h0 this
theorem arx {s:ByteArray} {i:Nat} (h:Lib.indexByte s.data.toList 10=(i:Int)):jw s=s.extract 0 (i+1) ::jw (s.extract (i+1) s.size):=by
 obtain⟨h1,h2,h3⟩:=arv h
 have e1:s.extract 0 (i+1)=strOfNums ((byt s).take i ++[10]):=by
  rw[← jy (s.extract 0 (i+1)),aib]
  congr 1
  have hl:((byt s).take i).length=i:=by rw[List.length_take,byt,List.length_map];have:s.data.toList.length=s.size:=rfl;omega
  conv=>lhs;rw[h2]
  rw[List.take_append,hl,List.take_of_length_le (by omega)]
  simp
 conv=>lhs;rw[jw,h2,ahq h3]
 rw[List.map_cons,← e1,jw,aiq]
theorem arz {s:ByteArray} (h:¬ (1≤s.size∧s.extract (s.size - 1) s.size=⟨#[10]⟩)):aac s=s:=by
 rw[aac,ac6,if_neg,jy]
 intro e
 refine h ?_
 have hb:byt s=(byt s).dropLast ++[10]:=by
  obtain⟨ys,hy⟩:=List.getLast?_eq_some_iff.1 e
  simp[hy]
 have hsz:(byt s).length=s.size:=by rw[byt,List.length_map];rfl
 have hl:=congrArg List.length hb
 rw[List.length_append,List.length_dropLast,hsz] at hl
 simp only[List.length_cons,List.length_nil] at hl
 refine⟨by omega,avh ?_⟩
 rw[aiq,hb,List.drop_append,List.drop_of_length_le (by rw[List.length_dropLast];omega),List.length_dropLast,hsz]
 simp
 rfl
theorem aqi {s:ByteArray} (h1:1≤s.size) (h2:s.extract (s.size - 1) s.size=⟨#[10]⟩):aac s=s.extract 0 (s.size - 1):=by
 have hsz:(byt s).length=s.size:=by rw[byt,List.length_map];rfl
 have hd:(byt s).drop (s.size - 1)=[10]:=by rw[← aiq,h2];rfl
 have hb:byt s=(byt s).take (s.size - 1) ++[10]:=by rw[← hd,List.take_append_drop]
 rw[aac]
 conv=>lhs;rw[hb,anz]
 rw[← aib,jy]
end Go.Proofs.YtlpcocfadppkhaaGreatDoor
namespace Go.Proofs.YtlpcocfadppkhaaGreatDoor
open Go.RowKit Go.Shelf
set_option linter.unusedVariables false
set_option linter.unusedSimpArgs false
set_option linter.unnecessarySimpa false
attribute [local go_sem] Oper.semAt_some
def leftB (b:Nat) (w:World):Nat:=match w.cell? ⟨b,0,none⟩with
 | some (.string t)=>t.size
 | _=>0
theorem ae3 {b:Nat} {w:World} {t:ByteArray} (h:w.cell? ⟨b,0,none⟩=some (.string t)):leftB b w=t.size:=by rw[leftB,h]
set_option maxRecDepth 100000 in
set_option maxHeartbeats 2000000 in
theorem aqj (n:Nat) (hn:1≤n) (b:Nat) (s:ByteArray) (hs:s.size≤1048576) (w:World) (hb:b < w.heap.size) (hc:w.cell? ⟨b,0,none⟩=some (.string s)) (hf:w.frozen? ⟨b,0,none⟩=false):
  ari Fence.wide n Tryz.prog 34 #[.pointer (some ⟨b,0,none⟩)] (fun x=>#[.string x]) (jw s) b w:=by
 intro l J W hW hJ hY h0
 have hcW:W.cell? ⟨b,0,none⟩=some (.string s):=(hW.cell (p:=⟨b,0,none⟩) hb).trans hc
 have hfW:W.frozen? ⟨b,0,none⟩=false:=(World.frozen?_of_block (hW.block b hb)).trans hf
 have HJ0:=Lib.hid h0
 have HJJ:=Lib.hid hJ
 clear hW hc hf h0 hJ
 refine callsIn_of_wp Tryz.func34 rfl trivial ?_ rfl
 simp only[Tryz.ntmps34,List.size_toArray,List.length_cons,List.length_nil,Nat.reduceAdd,Nat.reduceSub,Array.replicate_succ,Array.replicate_zero,List.push_toArray,List.append_toArray,List.nil_append,List.cons_append]
 gi_wp2
 gi_loopw [] (fun wr=>∃ (pre:List ByteArray) (t:ByteArray),Hid (jw s=pre ++jw t)∧t.size≤1048576∧wr.cell? ⟨b,0,none⟩=some (.string t)∧wr.frozen? ⟨b,0,none⟩=false∧Hid (J pre wr)) (fun wr=>leftB b wr)
 case atStart=>exact⟨[],s,Lib.hid rfl,hs,hcW,hfW,HJ0⟩
 case round=>
  clear hcW hfW HJ0
  obtain⟨pre,t,HE,hts,hct,hft,HJ⟩:=hrel
  have hleft:=ae3 hct
  by_cases hz:t.size=0
  case pos=>
   have HP:Hid (jw s=pre):=by show _=_;rw[HE.out,aop hz,List.append_nil]
   gi_wp2
   go_end0
   exact⟨⟨_,rfl⟩,by rw[HP.out];exact HJ.out⟩
  obtain⟨ix,hix⟩:∃ ix,Lib.indexByte t.data.toList 10=ix:=⟨_,rfl⟩
  have HI:Hid (∀ W:World,CallsIn Fence.wide (n - 1) Tryz.prog 35 #[.string t,.int .u8 10] W fun e w'=>e=.returned (.int .i64 ix)∧W=w'):=Lib.hid fun W=>callsIn_wide.2 (by rw[← hix];exact adv t 10 W)
  have hge:=Lib.indexByte_ge t.data.toList 10
  rw[hix] at hge
  by_cases hneg:ix=-1
  case pos=>
   subst hneg
   have HL:Hid (jw t=[t]):=arw hz hix
   have hpre:(pre ++[t]) <+:jw s:=by rw[HE.out,HL.out];exact List.prefix_refl _
   obtain⟨W2,hW2⟩:∃ V,V=wr.setCell ⟨b,0,none⟩ (.string ⟨#[]⟩):=⟨_,rfl⟩
   have hJ2:J pre W2:=by rw[hW2];exact HJJ.out _ _ _ HJ.out (abn.setCell wr ⟨b,0,none⟩ _)
   have hc2:W2.cell? ⟨b,0,none⟩=some (.string ⟨#[]⟩):=by rw[hW2];exact World.cell?_setCell_same' _ _ _ (by rw[hct];rfl)
   have hf2:W2.frozen? ⟨b,0,none⟩=false:=by rw[hW2,World.frozen?_setCell];exact hft
   obtain⟨fn,tmps,assign,body,hy,hR⟩:=hY pre t W2 hJ2 hpre
   have HR:=Lib.hid hR
   have HC2:=Lib.hid hc2
   have HF2:=Lib.hid hf2
   have HE2:Hid (jw s=(pre ++[t]) ++jw ⟨#[]⟩):=by show _=_;rw[HE.out,HL.out,aqh,List.append_nil]
   clear hR hc2 hf2 hJ2 hpre hix
   rw[hW2] at hy
   gi_wp2_with (refine⟨trivial,?_⟩;gi_at_call 35;refine(HI.out _).mono ?_;rintro e w' ⟨rfl,rfl⟩)
   rw[← hW2]
   refine HR.out.mono ?_
   rintro e W3 ⟨rfl,hJ3,hsz3,hb3⟩
   have hc3:W3.cell? ⟨b,0,none⟩=some (.string ⟨#[]⟩):=(World.cell?_of_block (a:=⟨b,0,none⟩) hb3).trans HC2.out
   have hf3:W3.frozen? ⟨b,0,none⟩=false:=(World.frozen?_of_block hb3).trans HF2.out
   have HJ3:=Lib.hid hJ3
   clear hJ3 hb3
   gi_wp2
   go_roundw
   case rel=>exact⟨pre ++[t],⟨#[]⟩,HE2,by decide,hc3,hf3,HJ3⟩
   case measure=>rw[ae3 hc3,ae3 hct];show 0 < t.size;omega
  obtain⟨i,rfl⟩:∃ i:Nat,ix=(i:Int):=⟨ix.toNat,by omega⟩
  have hit:i < t.size:=(arv hix).1
  have HL:Hid (jw t=t.extract 0 (i+1) ::jw (t.extract (i+1) t.size)):=arx hix
  obtain⟨x,hx⟩:∃ x,x=t.extract 0 (i+1):=⟨_,rfl⟩
  obtain⟨r,hr⟩:∃ r,r=t.extract (i+1) t.size:=⟨_,rfl⟩
  have hrs:r.size=t.size - (i+1):=by rw[hr,ByteArray.size_extract];omega
  rw[← hx,← hr] at HL
  have hpre:(pre ++[x]) <+:jw s:=by rw[HE.out,HL.out];exact⟨jw r,by simp⟩
  have HE2:Hid (jw s=(pre ++[x]) ++jw r):=by show _=_;rw[HE.out,HL.out];simp
  have hwr:IntKind.i64.wrap ((i:Int)+1)=((i+1:Nat):Int):=by rw[(IntWalk.i64_in _ (by omega))];omega
  have hi1:((i+1:Nat):Int)≤(t.size:Int):=by omega
  have hi2:i+1≤t.size:=by omega
  obtain⟨W2,hW2⟩:∃ V,V=(wr.setCell ⟨b,0,none⟩ (.string r)).drew:=⟨_,rfl⟩
  have hJ2:J pre W2:=by rw[hW2];exact HJJ.out _ _ _ HJ.out ((abn.setCell wr ⟨b,0,none⟩ _).trans (abn.of_below (Below.refl _ _).drew))
  have hc2:W2.cell? ⟨b,0,none⟩=some (.string r):=by rw[hW2];exact World.cell?_setCell_same' wr _ _ (by rw[hct];rfl)
  have hf2:W2.frozen? ⟨b,0,none⟩=false:=by rw[hW2];exact(World.frozen?_setCell wr _ _ _).trans hft
  obtain⟨fn,tmps,assign,body,hy,hR⟩:=hY pre x W2 hJ2 hpre
  have HR:=Lib.hid hR
  have HC2:=Lib.hid hc2
  have HF2:=Lib.hid hf2
  have HY:=Lib.hid hy
  clear hR hc2 hf2 hJ2 hpre hix hy
  gi_wp2_with (refine⟨trivial,?_⟩;gi_at_call 35;refine(HI.out _).mono ?_;rintro e w' ⟨rfl,rfl⟩)
  gi_region
  rw[← hx,← hr,← hW2]
  clear hx hr hW2
  have hy:=HY.out
  gi_wp2
  refine HR.out.mono ?_
  rintro e W3 ⟨rfl,hJ3,hsz3,hb3⟩
  have hc3:W3.cell? ⟨b,0,none⟩=some (.string r):=(World.cell?_of_block (a:=⟨b,0,none⟩) hb3).trans HC2.out
  have hf3:W3.frozen? ⟨b,0,none⟩=false:=(World.frozen?_of_block hb3).trans HF2.out
  have HJ3:=Lib.hid hJ3
  clear hJ3 hb3
  gi_wp2
  go_roundw
  case rel=>exact⟨pre ++[x],r,HE2,by omega,hc3,hf3,HJ3⟩
  case measure=>rw[ae3 hc3,ae3 hct];omega
set_option maxRecDepth 100000 in
theorem ak7 (s:ByteArray) (hs:s.size≤1048576) (w:World):
  Calls Tryz.prog 16 #[.string s,.string ⟨#[10]⟩] w fun e w'=>e=.returned (.string (aac s))∧w=w':=by
 obtain⟨R,hR⟩:∃ R,aac s=R:=⟨_,rfl⟩
 rw[hR]
 have HS:Hid (Calls Tryz.prog 40 #[.string s,.string ⟨#[10]⟩] w fun e w'=>e=.returned (.string R)∧w=w'):=by
  show Calls _ _ _ _ _
  obtain⟨Q,hQ⟩:∃ Q:Bool,Q=decide (1≤s.size∧s.extract (s.size - 1) s.size=⟨#[10]⟩):=⟨_,rfl⟩
  have HH:Hid (Calls Tryz.prog 60 #[.string s,.string ⟨#[10]⟩] w fun e w'=>e=.returned (.bool Q)∧w=w'):=by
   show Calls _ _ _ _ _
   have HQ:=Lib.hid hQ
   clear hQ hR
   by_cases h1:1≤s.size
   case neg=>
    have hq:Q=false:=by rw[HQ.out,decide_eq_false (fun h=>h1 h.1)]
    have h2:¬ (1:Int)≤(s.size:Int):=by omega
    subst hq
    go_enter Tryz.func60,Tryz.ntmps60
    go_wp2_with fail
    go_ret
    exact⟨rfl,rfl⟩
   have h2:(1:Int)≤(s.size:Int):=by omega
   obtain⟨k,hk⟩:∃ k:Nat,s.size=k+1:=⟨s.size - 1,by omega⟩
   have hw1:IntKind.i64.wrap ((s.size:Int) - 1)=(k:Int):=by rw[IntWalk.i64_in _ (by omega)];omega
   have hk1:k≤s.size:=by omega
   have hk2:(k:Int)≤(s.size:Int):=by omega
   have hQ2:Q=decide (s.extract k s.size=⟨#[10]⟩):=by
    rw[HQ.out,show s.size - 1=k by omega]
    simp[h1]
   have HQ2:=Lib.hid hQ2
   clear hk HQ h1 hQ2
   by_cases he:s.extract k s.size=⟨#[10]⟩
   case pos=>
    have hq:Q=true:=by rw[HQ2.out,decide_eq_true he]
    have he2:((s.extract k s.size).toList ==[10])=true:=by rw[he,ByteArray.toList_eq];rfl
    subst hq
    clear he HQ2
    go_enter Tryz.func60,Tryz.ntmps60
    go_wp2_with fail
    go_ret
    exact⟨rfl,rfl⟩
   case neg=>
    have hq:Q=false:=by rw[HQ2.out,decide_eq_false he]
    have he2:((s.extract k s.size).toList ==[10])=false:=by
     cases hb:((s.extract k s.size).toList ==[10])
     ·rfl
     ·exfalso
      apply he
      have h3:(s.extract k s.size).toList=[10]:=by simpa using hb
      rw[ByteArray.toList_eq] at h3
      exact ByteArray.ext (by rw[← Array.toArray_toList (xs:=(s.extract k s.size).data),h3])
    subst hq
    clear he HQ2
    go_enter Tryz.func60,Tryz.ntmps60
    go_wp2_with fail
    go_ret
    exact⟨rfl,rfl⟩
  cases Q
  case false=>
   have hr:R=s:=by rw[← hR];exact arz (of_decide_eq_false hQ.symm)
   subst hr
   clear hR hQ
   go_enter Tryz.func40,Tryz.ntmps40
   go_wp2_with fail
   refine HH.out.mono ?_
   rintro e w' ⟨rfl,rfl⟩
   go_wp2_with fail
   go_ret
   exact⟨rfl,rfl⟩
  case true=>
   obtain⟨h1,h2⟩:=of_decide_eq_true hQ.symm
   have hr:R=s.extract 0 (s.size - 1):=by rw[← hR];exact aqi h1 h2
   obtain⟨k,hk⟩:∃ k:Nat,s.size=k+1:=⟨s.size - 1,by omega⟩
   have hw1:IntKind.i64.wrap ((s.size:Int) - 1)=(k:Int):=by rw[IntWalk.i64_in _ (by omega)];omega
   have hr2:s.extract 0 k=R:=by rw[hr,show s.size - 1=k by omega]
   have hk1:k≤s.size:=by omega
   have hk2:(k:Int)≤(s.size:Int):=by omega
   clear hR hQ h2 hr hk h1
   subst hr2
   go_enter Tryz.func40,Tryz.ntmps40
   go_wp2_with fail
   refine HH.out.mono ?_
   rintro e w' ⟨rfl,rfl⟩
   go_wp2_with fail
   go_ret
   exact⟨rfl,rfl⟩
 go_enter Tryz.func16,Tryz.ntmps16
 go_wp2_with fail
 refine HS.out.mono ?_
 rintro e w' ⟨rfl,rfl⟩
 go_wp2_with fail
 go_ret
 exact⟨rfl,rfl⟩
end Go.Proofs.YtlpcocfadppkhaaGreatDoor
namespace Go.Proofs.YtlpcocfadppkhaaGreatDoor
set_option linter.unusedVariables false
set_option linter.unusedSimpArgs false
set_option linter.unnecessarySimpa false
def Ty.name:Ty→ByteArray|.mk _ n _ _=>n
end Go.Proofs.YtlpcocfadppkhaaGreatDoor
namespace Go.Proofs.YtlpcocfadppkhaaGreatDoor
open Go.RowKit Go.Shelf
set_option linter.unusedVariables false
set_option maxRecDepth 100000
def ay4:Go.Shelf.Ren:=⟨fun|6=>125|8=>138|9=>137|19=>150|20=>130|21=>141|22=>142|23=>143|24=>144|25=>145|26=>146|27=>147|28=>148|29=>149|36=>151|31=>152|32=>153|37=>154|38=>155|39=>156|41=>157|n=>n,fun|0=>0|3=>3|4=>4|5=>5|9=>9|26=>32|27=>32|29=>9|32=>112|35=>175|36=>176|41=>180|44=>141|46=>109|53=>184|57=>188|63=>190|64=>191|n=>n,fun n=>n⟩
set_option maxHeartbeats 2000000 in
theorem apj:SlLaysM.n6 Tryz.prog ay4:=
 {mixed:=by kernel_rfl
  f6:=⟨Tryz.f125.name,by kernel_rfl,Tryz.func125.trans (congrArg some (by kernel_rfl))⟩
  f8:=Tryz.func138.trans (congrArg some (by kernel_rfl))
  f9:=⟨Tryz.f137.name,by kernel_rfl,Tryz.func137.trans (congrArg some (by kernel_rfl))⟩
  f19:=Tryz.func150.trans (congrArg some (by kernel_rfl))
  f20:=Tryz.func130.trans (congrArg some (by kernel_rfl))
  f21:=⟨Tryz.f141.name,by kernel_rfl,Tryz.func141.trans (congrArg some (by kernel_rfl))⟩
  f22:=⟨Tryz.f142.name,by kernel_rfl,Tryz.func142.trans (congrArg some (by kernel_rfl))⟩
  f23:=⟨Tryz.f143.name,by kernel_rfl,Tryz.func143.trans (congrArg some (by kernel_rfl))⟩
  f24:=⟨Tryz.f144.name,by kernel_rfl,Tryz.func144.trans (congrArg some (by kernel_rfl))⟩
  f25:=⟨Tryz.f145.name,by kernel_rfl,Tryz.func145.trans (congrArg some (by kernel_rfl))⟩
  f26:=⟨Tryz.f146.name,by kernel_rfl,Tryz.func146.trans (congrArg some (by kernel_rfl))⟩
  f27:=⟨Tryz.f147.name,by kernel_rfl,Tryz.func147.trans (congrArg some (by kernel_rfl))⟩
  f28:=⟨Tryz.f148.name,by kernel_rfl,Tryz.func148.trans (congrArg some (by kernel_rfl))⟩
  f29:=⟨Tryz.f149.name,by kernel_rfl,Tryz.func149.trans (congrArg some (by kernel_rfl))⟩
  f31:=Tryz.func152.trans (congrArg some (by kernel_rfl))
  f32:=Tryz.func153.trans (congrArg some (by kernel_rfl))
  f36:=⟨Tryz.f151.name,by kernel_rfl,Tryz.func151.trans (congrArg some (by kernel_rfl))⟩
  f37:=⟨Tryz.f154.name,by kernel_rfl,Tryz.func154.trans (congrArg some (by kernel_rfl))⟩
  f38:=⟨Tryz.f155.name,by kernel_rfl,Tryz.func155.trans (congrArg some (by kernel_rfl))⟩
  f39:=⟨Tryz.f156.name,by kernel_rfl,Tryz.func156.trans (congrArg some (by kernel_rfl))⟩
  f41:=⟨Tryz.f157.name,by kernel_rfl,Tryz.func157.trans (congrArg some (by kernel_rfl))⟩
  t0:=by kernel_rfl
  a0:=fun _=>by kernel_rfl
  z0:=fun _=>by kernel_rfl
  v0:=fun _=>by kernel_rfl
  t3:=by kernel_rfl
  a3:=fun _=>by kernel_rfl
  z3:=fun _=>by kernel_rfl
  v3:=fun _=>by kernel_rfl
  t4:=by kernel_rfl
  a4:=fun _=>by kernel_rfl
  z4:=fun _=>by kernel_rfl
  v4:=fun _=>by kernel_rfl
  t5:=by kernel_rfl
  a5:=fun _=>by kernel_rfl
  z5:=fun _=>by kernel_rfl
  v5:=fun _=>by kernel_rfl
  t9:=by kernel_rfl
  a9:=fun _=>by kernel_rfl
  z9:=fun _=>by kernel_rfl
  v9:=fun _=>by kernel_rfl
  t26:=by kernel_rfl
  a26:=fun _=>by kernel_rfl
  z26:=fun _=>by kernel_rfl
  v26:=fun _=>by kernel_rfl
  t27:=by kernel_rfl
  a27:=fun _=>by kernel_rfl
  z27:=fun _=>by kernel_rfl
  v27:=fun _=>by kernel_rfl
  t29:=by kernel_rfl
  a29:=fun _=>by kernel_rfl
  z29:=fun _=>by kernel_rfl
  v29:=fun _=>by kernel_rfl
  t32:=by kernel_rfl
  a32:=fun _=>by kernel_rfl
  z32:=fun _=>by kernel_rfl
  v32:=fun _=>by kernel_rfl
  t35:=by kernel_rfl
  a35:=fun _=>by kernel_rfl
  z35:=fun _=>by kernel_rfl
  v35:=fun _=>by kernel_rfl
  t36:=by kernel_rfl
  a36:=fun _=>by kernel_rfl
  z36:=fun _=>by kernel_rfl
  v36:=fun _=>by kernel_rfl
  t41:=by kernel_rfl
  a41:=fun _=>by kernel_rfl
  z41:=fun _=>by kernel_rfl
  v41:=fun _=>by kernel_rfl
  t44:=by kernel_rfl
  a44:=fun _=>by kernel_rfl
  z44:=fun _=>by kernel_rfl
  v44:=fun _=>by kernel_rfl
  t46:=by kernel_rfl
  a46:=fun _=>by kernel_rfl
  z46:=fun _=>by kernel_rfl
  v46:=fun _=>by kernel_rfl
  t53:=by kernel_rfl
  a53:=fun _=>by kernel_rfl
  z53:=fun _=>by kernel_rfl
  v53:=fun _=>by kernel_rfl
  t57:=by kernel_rfl
  a57:=fun _=>by kernel_rfl
  z57:=fun _=>by kernel_rfl
  v57:=fun _=>by kernel_rfl
  t63:=by kernel_rfl
  a63:=fun _=>by kernel_rfl
  z63:=fun _=>by kernel_rfl
  v63:=fun _=>by kernel_rfl
  t64:=by kernel_rfl
  a64:=fun _=>by kernel_rfl
  z64:=fun _=>by kernel_rfl
  v64:=fun _=>by kernel_rfl}
end Go.Proofs.YtlpcocfadppkhaaGreatDoor
