/-
  Interfaces that are right, and the reasons between them: words for both walks (gen_fcu.py) (by program: gen_why.py). (and 3 more texts)
-/
import Derived.Test.YtbafphecjijdmaaGreatDoorUb28
import Derived.Test.YtbafphecjijdmaaGreatDoorUb23
namespace Go.Proofs.YtbafphecjijdmaaGreatDoor
open Go.RowKit
set_option linter.all false
set_option maxRecDepth 16000
structure bs7 (f:cu):Prop where
 pk:f.package.size≤12
 nm:f.name.size≤12
 ver:f.version.size≤maxLen
 bro:f.resources.length≤4
 fs8:f.funcs.length≤8
 res:∀ r ∈ f.resources,r.size≤12
 fs:∀ x ∈ f.funcs,x.name.size≤12∧ai7 x.typ=true
theorem anf {f:cu} (h:ag9 f=true):bs7 f:=by
 simp only[ag9,aqp,Bool.and_eq_true,decide_eq_true_eq,List.all_eq_true] at h
 obtain⟨h1,h2,h3,h4,h5,⟨_,h6⟩,h7,_⟩:=h
 refine⟨(aiv h1).2,(aiv h2).2,?_,h4,h5,fun r hr=>(aiv (h6 r hr)).2,fun x hx=>?_⟩
 ·have:=a3v h3 (by have:=aok f.version;omega)
  rw[a7x h3] at this
  unfold maxLen;omega
 ·have:=h7 x hx
  simp only[fnB,Bool.and_eq_true] at this
  exact⟨(aiv this.1).2,this.2.1⟩
def ayr (f:cu):ByteArray:=(f.package ++a0p) ++f.name
theorem a8i {at_:ByteArray} {hs ws:List ByteArray} {k:Nat} {x:ByteArray} (hx:ws[k]?=some x) (h:acu (strEq x) hs < 0):ald at_ hs ws k=some (6,ah6 at_ x):=by simp only[ald,hx];rw[if_pos h]
theorem bck {at_:ByteArray} {hs ws:List ByteArray} {k:Nat} {x:ByteArray} (hx:ws[k]?=some x) (h:¬ acu (strEq x) hs < 0):ald at_ hs ws k=none:=by simp only[ald,hx];rw[if_neg h]
theorem bcl {at_:ByteArray} {hs ws:List Fun} {k:Nat} {x:Fun} (hx:ws[k]?=some x) (h:ait hs x.name < 0):aja at_ hs ws k=some (9,ah6 at_ x.name):=by
 simp only[aja,hx]
 split
 ·rfl
 ·rw[if_pos h]
theorem a2f {at_:ByteArray} {hs ws:List Fun} {k i:Nat} {x y:Fun} (hx:ws[k]?=some x) (h:ait hs x.name=i) (hy:hs[i]?=some y):aja at_ hs ws k=ah3 (agf 4) y.typ x.typ (ah6 at_ x.name):=by
 have hi:(ait hs x.name).toNat=i:=by omega
 simp only[aja,hx,hi,hy]
 rw[if_neg (by omega)]
theorem aos {a b:cu} {at_:ByteArray} {vs:Bool} (h:¬ (a.package=b.package∧a.name=b.name)):aha a b at_ vs=some (11,at_):=if_pos h
theorem a3x {a b:cu} {at_:ByteArray} (h:a.package=b.package∧a.name=b.name) (h2:ap2 a.version b.version=false):aha a b at_ true=some (10,at_):=by rw[aha,if_neg (by simpa using h),if_pos ⟨rfl,h2⟩]
theorem a8j {a b:cu} {at_:ByteArray} {vs:Bool} (h:a.package=b.package∧a.name=b.name) (h2:vs=true→ap2 a.version b.version=true):aha a b at_ vs=match zq (ald at_ a.resources b.resources) b.resources.length with
  | some r=>some r
  | none=>zq (aja at_ a.funcs b.funcs) b.funcs.length:=by
 rw[aha,if_neg (by simpa using h),if_neg (fun hh=>by have:=h2 hh.1;rw[this] at hh;cases hh.2)]
 cases zq (ald at_ a.resources b.resources) b.resources.length<;>rfl
end Go.Proofs.YtbafphecjijdmaaGreatDoor
namespace Go.Proofs.YtbafphecjijdmaaGreatDoor
open Go.RowKit
set_option linter.all false
def amw (p:ByteArray):Why→Why
 | none=>none
 | some r=>some (r.1,p ++r.2)
theorem atd (p a l:ByteArray):ah6 (p ++a) l=p ++ah6 a l:=by simp only[ah6,ByteArray.append_assoc]
theorem bjs (p a l:ByteArray):aqn (p ++a) l=p ++aqn a l:=by simp only[aqn,ByteArray.append_assoc]
theorem amd {p:ByteArray} {f g:Nat→Why} (h:∀ k,g k=amw p (f k)):∀ n,zq g n=amw p (zq f n)
 | 0=>rfl
 | n+1=>by
  rw[zq,zq,amd h n,h n]
  cases zq f n<;>rfl
def ays (rec:Ty→Ty→ByteArray→Why):Prop:=∀ (x y:Ty) (p a:ByteArray),rec x y (p ++a)=amw p (rec x y a)
theorem a8k {rec:Ty→Ty→ByteArray→Why} (h:ays rec) (kind:Int) (p a:ByteArray) (xl:List ByteArray) (xk:List Ty) (yl:List ByteArray) (yk:List Ty):
  ai9 rec kind (p ++a) xl xk yl yk=amw p (ai9 rec kind a xl xk yl yk):=by
 refine amd (fun k=>?_) _
 simp only[aio]
 cases xl[k]? with
 | none=>rfl
 | some l=>
  simp only[atd]
  split
  ·rfl
  ·split
   ·rfl
   ·cases xk[k]?<;>cases yk[(acu (strEq l) yl).toNat]?<;>first|rfl|exact h _ _ _ _
theorem bjt {rec:Ty→Ty→ByteArray→Why} (h:ays rec) (p a:ByteArray) (xk yk:List Ty) (k:Nat):ajv rec (p ++a) xk yk k=amw p (ajv rec a xk yk k):=by
 simp only[ajv]
 cases xk[k]?<;>cases yk[k]?<;>first|rfl|exact h _ _ _ _
theorem bju {rec:Ty→Ty→ByteArray→Why} (h:ays rec) (p a:ByteArray) (xk yk:List Ty) (k:Nat):ali rec (p ++a) xk yk k=amw p (ali rec a xk yk k):=by
 simp only[ali,atd]
 cases xk[k]?<;>cases yk[k]?<;>first|rfl|exact h _ _ _ _
theorem bjv {rec:Ty→Ty→ByteArray→Why} (h:ays rec) (kind:Int) (an:ByteArray) (al:List ByteArray) (ak:List Ty) (bn:ByteArray) (bl:List ByteArray) (bk:List Ty) (p a:ByteArray):
  adv rec kind an al ak bn bl bk (p ++a)=amw p (adv rec kind an al ak bn bl bk a):=by
 have hs:ays (fun x y=>rec y x):=fun x y p a=>h y x p a
 simp only[adv,ByteArray.append_assoc,bjt h,a8k h,a8k hs]
 split
 ·rfl
 split
 ·rfl
 split
 ·cases ajv rec ⟨#[46,111,107]⟩ ak bk 0<;>rfl
 split
 ·split
  ·exact amd (fun k=>bju h p a ak bk k) _
  ·rfl
 split
 ·rfl
 split
 ·rfl
 split
 ·split<;>rfl
 split
 ·cases ak[0]?<;>cases bk[0]?<;>first|rfl|(dsimp only;split<;>rfl)
 ·rfl
theorem a8l:∀ n,ays (agf n)
 | 0=>fun _ _ _ _=>rfl
 | n+1=>fun x y p a=>by
  obtain⟨ak,an,al,aks⟩:=x
  obtain⟨bk,bn,bl,bks⟩:=y
  rw[agf,agf]
  split
  ·split<;>rfl
  ·split
   ·exact bjv (a8l n) ak an al aks bn bl bks p a
   ·rfl
theorem bgw {rec:Ty→Ty→ByteArray→Why} (h:ays rec) (a b:jh) (p at_:ByteArray):ah3 rec a b (p ++at_)=amw p (ah3 rec a b at_):=by
 have hf:∀ k,funcF rec (p ++at_) a.params b.params k=amw p (funcF rec at_ a.params b.params k):=fun k=>by
  simp only[funcF,bjs]
  cases a.params[k]?<;>cases b.params[k]?<;>first|rfl|(dsimp only;split<;>first|rfl|exact h _ _ _ _)
 rw[ah3,ah3]
 split
 ·rw[amd hf,ByteArray.append_assoc,h]
  cases zq (funcF rec at_ a.params b.params) a.params.length with
  | some r=>rfl
  | none=>
   cases rec a.result b.result (at_ ++⟨#[45,62]⟩)with
   | some r=>rfl
   | none=>dsimp only[amw];split<;>rfl
 ·rfl
theorem bjw (p a:ByteArray) (hs ws:List ByteArray) (k:Nat):ald (p ++a) hs ws k=amw p (ald a hs ws k):=by
 simp only[ald,atd]
 cases ws[k]? with
 | none=>rfl
 | some r=>dsimp only;split<;>rfl
theorem bjx (p a:ByteArray) (hs ws:List Fun) (k:Nat):aja (p ++a) hs ws k=amw p (aja a hs ws k):=by
 simp only[aja,atd,bgw (a8l 4)]
 cases ws[k]? with
 | none=>rfl
 | some x=>
  dsimp only
  cases hs[(ait hs x.name).toNat]? with
  | none=>rfl
  | some y=>dsimp only;split<;>rfl
theorem bgx (h w:cu) (p a:ByteArray) (vs:Bool):aha h w (p ++a) vs=amw p (aha h w a vs):=by
 rw[aha,aha]
 split
 ·rfl
 split
 ·rfl
 rw[amd (bjw p a h.resources w.resources)]
 cases zq (ald a h.resources w.resources) w.resources.length with
 | some r=>rfl
 | none=>exact amd (bjx p a h.funcs w.funcs) _
theorem a8m:∀ x:List UInt8,Op.bytesLess x x=false
 | []=>rfl
 | a ::x=>by rw[Op.bytesLess,a8m x];simp
theorem a8n:∀ {x y z:List UInt8},Op.bytesLess x y=true→Op.bytesLess y z=true→Op.bytesLess x z=true
 | _,[],_,h,_=>by cases ‹List UInt8›<;>exact absurd h (by simp[Op.bytesLess])
 | _,_ ::_,[],_,h=>absurd h (by simp[Op.bytesLess])
 | [],_ ::_,_ ::_,_,_=>rfl
 | a ::x,b ::y,c ::z,h1,h2=>by
  simp only[Op.bytesLess,Bool.or_eq_true,Bool.and_eq_true,decide_eq_true_eq,beq_iff_eq] at h1 h2 ⊢
  rcases h1 with h1|⟨rfl,h1⟩
  ·rcases h2 with h2|⟨rfl,h2⟩
   ·exact .inl (UInt8.lt_trans h1 h2)
   ·exact .inl h1
  ·rcases h2 with h2|⟨rfl,h2⟩
   ·exact .inl h2
   ·exact .inr ⟨rfl,a8n h1 h2⟩
theorem avo (x:ByteArray):strLt x x=false:=a8m _
theorem ax4 {x y z:ByteArray} (h1:strLt x y=true) (h2:strLt y z=true):strLt x z=true:=a8n h1 h2
def ah4 (a b:cu):Bool:=strLt a.package b.package ||(decide (a.package=b.package) && strLt a.name b.name)
def a0r (a b:cu):Bool:=decide (a.package=b.package∧a.name=b.name)
theorem ba6 {a b c:cu} (h1:ah4 a b=true) (h2:ah4 b c=true):ah4 a c=true:=by
 simp only[ah4,Bool.or_eq_true,Bool.and_eq_true,decide_eq_true_eq] at h1 h2 ⊢
 rcases h1 with h1|⟨e1,h1⟩
 ·rcases h2 with h2|⟨e2,h2⟩
  ·exact .inl (ax4 h1 h2)
  ·exact .inl (e2 ▸ h1)
 ·rcases h2 with h2|⟨e2,h2⟩
  ·exact .inl (e1 ▸ h2)
  ·exact .inr ⟨e1.trans e2,ax4 h1 h2⟩
theorem a8o {a b:cu} (h:ah4 a b=true):¬ (a.package=b.package∧a.name=b.name):=by
 rintro⟨e1,e2⟩
 rw[ah4,e1,e2,avo,avo] at h
 simp at h
theorem bea {y x:cu} (h:y.package=x.package):ah4 y x=Op.bytesLess y.name.toList x.name.toList:=by
 rw[ah4,h,avo,Bool.false_or,decide_eq_true rfl,Bool.true_and];rfl
def ah9 (fs:List cu) (k:Nat):Bool:=match fs[k]?,fs[k - 1]? with
 | some x,some y=>decide (k=0) ||ah4 y x
 | _,_=>true
def afa (fs:List cu):Bool:=decide (fs.length≤6) && (fs.all ag9 && (List.range fs.length).all (ah9 fs))
theorem avp {fs:List cu} {k:Nat} {x y:cu} (hx:fs[k+1]?=some x) (hy:fs[k]?=some y):ah9 fs (k+1)=ah4 y x:=by
 simp only[ah9,hx,Nat.add_sub_cancel,hy]
 simp
theorem bgy {fs:List cu} (h:(List.range fs.length).all (ah9 fs)=true) {i:Nat} {x:cu} (hx:fs[i]?=some x):∀ (d:Nat) (y:cu),fs[i+d+1]?=some y→ah4 x y=true:=by
 have step:∀ (k:Nat) (a b:cu),fs[k]?=some a→fs[k+1]?=some b→ah4 a b=true:=fun k a b ha hb=>by
  rw[← avp hb ha]
  exact List.all_eq_true.1 h _ (List.mem_range.2 (List.getElem?_eq_some_iff.1 hb).1)
 intro d
 induction d with
 | zero=>intro y hy;exact step i x y hx hy
 | succ d ih=>
  intro y hy
  obtain⟨z,hz⟩:∃ z,fs[i+d+1]?=some z:=by
   have:=(List.getElem?_eq_some_iff.1 hy).1
   exact⟨_,List.getElem?_eq_getElem (show i+d+1 < fs.length by omega)⟩
  exact ba6 (ih z hz) (step (i+d+1) z y hz hy)
theorem bjy {fs:List cu} (h:afa fs=true) {i j:Nat} {x y:cu} (hx:fs[i]?=some x) (hy:fs[j]?=some y) (e:x.package=y.package∧x.name=y.name):i=j:=by
 rw[afa,Bool.and_eq_true,Bool.and_eq_true] at h
 have hc:=fun {i:Nat} {x:cu} (hx:fs[i]?=some x)=>bgy h.2.2 hx
 rcases Nat.lt_trichotomy i j with hl|rfl|hl
 ·exact absurd e (a8o (hc hx (j - i - 1) y (by rw[show i+(j - i - 1)+1=j by omega];exact hy)))
 ·rfl
 ·exact absurd ⟨e.1.symm,e.2.symm⟩ (a8o (hc hy (i - j - 1) x (by rw[show j+(i - j - 1)+1=i by omega];exact hx)))
def amx (word:ByteArray) (hs ws:List cu) (k:Nat):Why:=match ws[k]? with
 | none=>none
 | some x=>match hs.find? (fun y=>a0r y x)with
  | none=>some (11,aol word x.package x.name)
  | some y=>aha y x (aol word x.package x.name) true
def an5 (word:ByteArray) (hs ws:List cu):Why:=zq (amx word hs ws) ws.length
theorem avq {a b:cu}:a0r a b=true↔(a.package=b.package∧a.name=b.name):=decide_eq_true_iff
theorem bcm {word:ByteArray} {hs ws:List cu} {k:Nat} {x:cu} (hx:ws[k]?=some x) (h:∀ (j:Nat) (y:cu),hs[j]?=some y→¬ (y.package=x.package∧y.name=x.name)):amx word hs ws k=some (11,aol word x.package x.name):=by
 have:hs.find? (fun y=>a0r y x)=none:=List.find?_eq_none.2 fun y hy hs2=>by
  obtain⟨j,hj,rfl⟩:=List.getElem_of_mem hy
  exact h j _ (List.getElem?_eq_getElem hj) (avq.1 hs2)
 simp only[amx,hx,this]
theorem bcn {word:ByteArray} {hs ws:List cu} {k j:Nat} {x y:cu} (hx:ws[k]?=some x) (hy:hs[j]?=some y) (e:y.package=x.package∧y.name=x.name) (h:∀ (i:Nat) (z:cu),i < j→hs[i]?=some z→¬ (z.package=x.package∧z.name=x.name)):
  amx word hs ws k=aha y x (aol word x.package x.name) true:=by
 have:hs.find? (fun y=>a0r y x)=some y:=by
  obtain⟨hj,rfl⟩:=List.getElem?_eq_some_iff.1 hy
  refine List.find?_eq_some_iff_getElem.2 ⟨avq.2 e,j,hj,rfl,fun i hi=>?_⟩
  have:=h i (hs[i]'(by omega)) hi (List.getElem?_eq_getElem _)
  cases hc:a0r (hs[i]'(by omega)) x
  ·rfl
  ·exact absurd (avq.1 hc) this
 simp only[amx,hx,this]
theorem bjz {word:ByteArray} {y x:cu}:aha y x (aol word x.package x.name) true=amw word (aha y x (ayr x) true):=by
 rw[← bgx]
 rfl
def aon:ByteArray:=⟨#[105,109,112,111,114,116,32]⟩
def aoo:ByteArray:=⟨#[101,120,112,111,114,116,32]⟩
def agr (w:Wld):Bool:=zn w.package && (zn w.name && (decide (0≤afh w.version) && (afa w.imports && afa w.exports)))
def brp (a b:Wld):Why:=match an5 aon b.imports a.imports with
 | some r=>some r
 | none=>an5 aoo a.exports b.exports
def ahu (a b:Wld):Why:=if agr a && agr b then brp a b else none
def aot (fs:List cu) (k:Nat):Bool:=match fs[k]? with
 | some x=>ag9 x && ah9 fs k
 | none=>true
theorem a8p {fs:List cu} (hl:fs.length≤6) (h:∀ j,j < fs.length→aot fs j=true):afa fs=true:=by
 have hk:∀ (k:Nat) (x:cu),fs[k]?=some x→ag9 x=true∧ah9 fs k=true:=fun k x hx=>by
  have:=h k (List.getElem?_eq_some_iff.1 hx).1
  rw[aot,hx,Bool.and_eq_true] at this
  exact this
 rw[afa,Bool.and_eq_true,Bool.and_eq_true]
 refine⟨decide_eq_true hl,List.all_eq_true.2 fun x hx=>?_,List.all_eq_true.2 fun j hj=>(hk j _ (List.getElem?_eq_getElem (List.mem_range.1 hj))).2⟩
 obtain⟨j,hj,rfl⟩:=List.getElem_of_mem hx
 exact(hk j _ (List.getElem?_eq_getElem hj)).1
theorem a0s {fs:List cu} (hl:¬ fs.length≤6):afa fs=false:=by rw[afa,decide_eq_false hl];rfl
theorem apf {fs:List cu} {k:Nat} {x:cu} (hx:fs[k]?=some x) (h:ag9 x=false∨ah9 fs k=false):afa fs=false:=by
 have hlt:=(List.getElem?_eq_some_iff.1 hx).1
 rw[afa,Bool.and_eq_false_iff,Bool.and_eq_false_iff]
 rcases h with h|h
 ·exact .inr (.inl (List.all_eq_false.2 ⟨x,List.mem_of_getElem? hx,by simp[h]⟩))
 ·exact .inr (.inr (List.all_eq_false.2 ⟨k,List.mem_range.2 hlt,by simp[h]⟩))
theorem ax5 (fs:List cu):ah9 fs 0=true:=by rw[ah9];split<;>simp
end Go.Proofs.YtbafphecjijdmaaGreatDoor
namespace Go.Proofs.YtbafphecjijdmaaGreatDoor
open Go.RowKit
set_option linter.all false
set_option maxRecDepth 16000
theorem toList_eq {s t:ByteArray} (h:(s.toList ==t.toList)=true):s=t:=by
 have e:=eq_of_beq h
 rw[ByteArray.toList_eq,ByteArray.toList_eq] at e
 cases s;cases t;congr;exact Array.toList_inj.1 e
theorem bs8 {x y:ByteArray} (h:Op.bytesLess x.toList y.toList=true):(x.toList ==y.toList)=false:=by
 cases hc:(x.toList ==y.toList)
 ·rfl
 ·rw[eq_of_beq hc,a8m] at h;cases h
theorem bj0 {y x:cu} (h:Op.bytesLess y.package.toList x.package.toList=true):ah4 y x=true:=by
 rw[ah4,Bool.or_eq_true];exact .inl h
theorem bj1 {y x:cu} (h:Op.bytesLess y.package.toList x.package.toList=false) (hn:(y.package.toList ==x.package.toList)=false):ah4 y x=false:=by
 cases hc:ah4 y x
 ·rfl
 ·simp only[ah4,Bool.or_eq_true,Bool.and_eq_true,decide_eq_true_eq] at hc
  rcases hc with hc|⟨e,_⟩
  ·rw[show strLt y.package x.package=Op.bytesLess y.package.toList x.package.toList from rfl,h] at hc;cases hc
  ·rw[e,beq_self_eq_true] at hn;cases hn
set_option maxHeartbeats 800000 in
theorem a0t (fs:List cu) (hwf:∀ f ∈ fs,PD.wfL (cu.pd f)) {B:Nat} {v:Value} {w:World} (hB:B≤w.heap.size) (h:Rep w B (.row 5 (fs.flatMap cu.pd)) v):
  Calls Tryz.prog 74 #[v] w fun e w'=>e=.returned (.bool (afa fs))∧Below w.heap.size w w':=by
 obtain⟨R,hR⟩:∃ R:Bool,R=afa fs:=⟨_,rfl⟩
 rw[← hR]
 have HR:=zqd hR
 obtain⟨A,n,c,rfl,hnl,hm,hat⟩:=ni cu.jd (by decide) h
 unfold maxLen at hm
 have HN:=zqd hnl
 have HWF:=zqd hwf
 clear h hnl hR hwf
 go_enter Tryz.func74,Tryz.ntmps74
 by_cases h6:n≤6
 case neg=>
  have HF:Hid (R=false):=by show _=_;rw[HR.out];exact a0s (by have:=HN.out;omega)
  go_wp2_with fail
  go_ret
  exact⟨ah HF.out.symm,zqf _ _⟩
 go_wp2_with fail
 go_loopw [3] (fun i wr=>∃ k:Nat,k≤n∧i=.int .i64 k∧Hid (∀ j,j < k→aot fs j=true)∧Below w.heap.size w wr) (fun i _=>n - (intOf i).toNat)
 case atStart=>exact⟨0,Nat.zero_le _,rfl,zqd fun j h=>absurd h (by omega),zqf _ _⟩
 case round=>
  obtain⟨k,hk,rfl,HP,hbr⟩:=hrel
  have hsz:=hbr.size
  by_cases hlt:k < n
  case neg=>
   have HF:Hid (R=true):=by show _=_;rw[HR.out];exact a8p (by have:=HN.out;omega) fun j hj=>HP.out j (by have:=HN.out;omega)
   go_wp2_with fail
   go_ret
   exact⟨ah HF.out.symm,hbr⟩
  obtain⟨g,off,rfl,hg2,hcell2⟩:=hat (by omega)
  obtain⟨t2,hx2,ab1⟩:=um HN.out hlt
  obtain⟨lu,name2,tq,ac3,afj⟩:=t2
  have ah5:wr.cell? ⟨g,off+k * 5,none⟩=some (.string lu):=bg hbr (by omega) (hcell2 k 0 _ _ hx2 (by rw[cu.aj];rfl))
  have ad5:wr.cell? ⟨g,off+k * 5+1,none⟩=some (.string name2):=bg hbr (by omega) (hcell2 k 1 _ _ hx2 (by rw[cu.aj];rfl))
  have aiu:wr.cell? ⟨g,off+k * 5+2,none⟩=some (.string tq):=bg hbr (by omega) (hcell2 k 2 _ _ hx2 (by rw[cu.aj];rfl))
  obtain⟨aou,ahj,ae5⟩:∃ u,wr.cell? ⟨g,off+k * 5+3,none⟩=some u∧Rep wr B (.row 1 (ac3.flatMap qj)) u:=jc hbr (by omega) hB (hcell2 k 3 _ _ hx2 (by rw[cu.aj];rfl))
  have aej:=zqd ae5
  clear ae5
  obtain⟨aw2,akz,ahk⟩:∃ u,wr.cell? ⟨g,off+k * 5+4,none⟩=some u∧Rep wr B (.row 7 (afj.flatMap Fun.pd)) u:=jc hbr (by omega) hB (hcell2 k 4 _ _ hx2 (by rw[cu.aj];rfl))
  have agk:=zqd ahk
  clear ahk
  have HX2:=zqd hx2
  have HM2:=zqd ab1
  clear hx2 ab1
  have HOK:=zqd (fun(V:World) (hV:Below wr.heap.size wr V)=>ba5 ⟨lu,name2,tq,ac3,afj⟩ (B:=B) (Nat.le_trans hB (Nat.le_trans hsz hV.size)) (HWF.out _ HM2.out) (cu.close_ (aej.out.below (hV.mono (Nat.le_trans hB hsz))) (agk.out.below (hV.mono (Nat.le_trans hB hsz)))))
  obtain⟨b,hb⟩:∃ b,ag9 ⟨lu,name2,tq,ac3,afj⟩=b:=⟨_,rfl⟩
  rw[hb] at HOK
  have HFB:=zqd hb
  clear hb
  go_wp2_with fail
  refine(HOK.out _ (zqf _ _)).mono ?_
  rintro e w1 ⟨rfl,hb1⟩
  have hB1:=hbr.trans (hb1.mono hsz)
  have hsz1:=hb1.size
  cases b
  case false=>
   have HF:Hid (R=false):=by show _=_;rw[HR.out];exact apf HX2.out (.inl HFB.out)
   go_wp2_with fail
   go_ret
   exact⟨ah HF.out.symm,hB1⟩
  by_cases hk0:k=0
  ·have HQ:=zqd (ako HP.out (show aot fs k=true by rw[aot,HX2.out];simp only;rw[HFB.out,hk0,ax5];rfl))
   have hkt:decide (0 < k)=false:=decide_eq_false (by omega)
   clear hk0
   go_wp2_with fail
   go_roundw
   case rel=>exact⟨k+1,by omega,by go_num,HQ,hB1⟩
   case measure=>simp[intOf];omega
  obtain⟨y,hy,_⟩:=um HN.out (show k - 1 < n by omega)
  obtain⟨yp,yn,yv,yr,yf⟩:=y
  have HIN:Hid (ah9 fs k=ah4 ⟨yp,yn,yv,yr,yf⟩ ⟨lu,name2,tq,ac3,afj⟩):=by
   obtain⟨q,rfl⟩:∃ q,k=q+1:=⟨k - 1,by omega⟩
   exact avp HX2.out hy
  have d0:w1.cell? ⟨g,off+(k - 1) * 5,none⟩=some (.string yp):=bg hB1 (by omega) (hcell2 (k - 1) 0 _ _ hy (by rw[cu.aj];rfl))
  have d1:w1.cell? ⟨g,off+(k - 1) * 5+1,none⟩=some (.string yn):=bg hB1 (by omega) (hcell2 (k - 1) 1 _ _ hy (by rw[cu.aj];rfl))
  have d2:w1.cell? ⟨g,off+(k - 1) * 5+2,none⟩=some (.string yv):=bg hB1 (by omega) (hcell2 (k - 1) 2 _ _ hy (by rw[cu.aj];rfl))
  obtain⟨u3,d3,r3⟩:∃ u,w1.cell? ⟨g,off+(k - 1) * 5+3,none⟩=some u∧Rep w1 B _ u:=jc hB1 (by omega) hB (hcell2 (k - 1) 3 _ _ hy (by rw[cu.aj];rfl))
  obtain⟨A3,n3,c3,rfl⟩:=r3.form
  clear r3
  obtain⟨u4,d4,r4⟩:∃ u,w1.cell? ⟨g,off+(k - 1) * 5+4,none⟩=some u∧Rep w1 B _ u:=jc hB1 (by omega) hB (hcell2 (k - 1) 4 _ _ hy (by rw[cu.aj];rfl))
  obtain⟨A4,n4,c4,rfl⟩:=r4.form
  clear r4
  have hkt:decide (0 < k)=true:=decide_eq_true (by omega)
  have hki:((k:Int) - 1).toNat=k - 1:=by omega
  have hkw:IntKind.i64.wrap ((k:Int) - 1)=(k:Int) - 1:=IntWalk.i64_in _ (by omega)
  have hkp:(0:Int)≤(k:Int) - 1:=by omega
  have hk1:(1:Int)≤(k:Int):=by omega
  have hkn:(k:Int) - 1 < (n:Int):=by omega
  obtain⟨w2,hw2⟩:=zqe w1 30 #[.string yp,.string yn,.string yv,.slice A3 n3 c3,.slice A4 n4 c4]
  have bA:=zqn hw2
  have hB2:=zqb hw2
  have e_p:w2.cell? ⟨g,off+k * 5,none⟩=some (.string lu):=(hB2.cell (p:=⟨g,off+k * 5,none⟩) (by simp only;omega)).trans ((hb1.cell (p:=⟨g,off+k * 5,none⟩) (by simp only;omega)).trans ah5)
  have e_n:w2.cell? ⟨g,off+k * 5+1,none⟩=some (.string name2):=(hB2.cell (p:=⟨g,off+k * 5+1,none⟩) (by simp only;omega)).trans ((hb1.cell (p:=⟨g,off+k * 5+1,none⟩) (by simp only;omega)).trans ad5)
  obtain⟨a_0,a_1⟩:=zc2 bA
  have hB3:=hB1.trans (hB2.mono (Nat.le_trans hsz hsz1))
  have HB3:=zqd hB3
  clear hB3 bA hcell2 hy hat hB2 ah5 ad5 aiu ahj akz aej agk HOK
  go_wp2_with fail
  rw[← hw2]
  clear hw2
  have HAT:Hid (ah9 fs k=true→aot fs k=true):=fun hh=>by rw[aot,HX2.out];simp only;rw[HFB.out,hh];rfl
  cases hlx:Op.bytesLess yp.toList lu.toList
  case true=>
   have hpe:(yp.toList ==lu.toList)=false:=bs8 hlx
   have HQ:=zqd (ako HP.out (HAT.out (HIN.out.trans (bj0 hlx))))
   go_quiet (fail)
   go_wp2_with fail
   go_roundw
   case rel=>exact⟨k+1,by omega,by go_num,HQ,below_drewN HB3.out _⟩
   case measure=>simp[intOf];omega
  cases hpe:(yp.toList ==lu.toList)
  case false=>
   have HF:Hid (R=false):=by show _=_;rw[HR.out];exact apf HX2.out (.inr (HIN.out.trans (bj1 hlx hpe)))
   go_quiet (fail)
   go_wp2_with fail
   go_ret
   exact⟨ah HF.out.symm,below_drewN HB3.out _⟩
  have HPE:Hid (yp=lu):=toList_eq hpe
  have HNL:Hid (ah9 fs k=Op.bytesLess yn.toList name2.toList):=HIN.out.trans (bea HPE.out)
  cases hnl:Op.bytesLess yn.toList name2.toList
  case false=>
   have HF:Hid (R=false):=by show _=_;rw[HR.out];exact apf HX2.out (.inr (HNL.out.trans hnl))
   go_quiet (fail)
   go_wp2_with fail
   go_ret
   exact⟨ah HF.out.symm,below_drewN HB3.out _⟩
  case true=>
   have HQ:=zqd (ako HP.out (HAT.out (HNL.out.trans hnl)))
   go_quiet (fail)
   go_wp2_with fail
   go_roundw
   case rel=>exact⟨k+1,by omega,by go_num,HQ,below_drewN HB3.out _⟩
   case measure=>simp[intOf];omega
end Go.Proofs.YtbafphecjijdmaaGreatDoor
