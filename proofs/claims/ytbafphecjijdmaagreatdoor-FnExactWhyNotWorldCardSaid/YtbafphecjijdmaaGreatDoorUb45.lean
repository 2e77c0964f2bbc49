/-
  WhyNotFunc of both packages (by program: gen_why.py). (and 1 more texts)
-/
import Derived.Test.YtbafphecjijdmaaGreatDoorUb36
import Derived.Test.YtbafphecjijdmaaGreatDoorUb42
import Derived.Test.YtbafphecjijdmaaGreatDoorUb25
import Derived.Deep.RegionHeld3
import Derived.Test.YtbafphecjijdmaaGreatDoorUb37
import Derived.Test.YtbafphecjijdmaaGreatDoorUb43
import Derived.Test.YtbafphecjijdmaaGreatDoorUb44
namespace Go.Proofs.YtbafphecjijdmaaGreatDoor
open Go.RowKit
set_option linter.all false
set_option maxRecDepth 16000
def a5i (R:Why):Reason:=⟨a7b R,ayi R⟩
theorem bmr {R:Why} {w w':World} {e:Ending} (h:WQ R w e w'):∃ us,e=.returned (.tuple #[.agg us.toArray,.bool (avc R)])∧LvC w' w.heap.size w'.heap.size (Reason.pd (a5i R)) us∧Below w.heap.size w w':=
 ⟨[.int .i64 (a7b R),.string (ayi R)],h.1,((LvC.nil w' _ _ (zql _)).lit _).lit _,h.2⟩
theorem a9n {α:Type} {f:α→List PD}:∀ {ts:List α} {t:α},t ∈ ts→PD.szL (f t)≤PD.szL (ts.flatMap f)
 | [],t,h=>absurd h (by simp)
 | x ::ts,t,h=>by
  rw[List.flatMap_cons,aje]
  rcases List.mem_cons.1 h with rfl|h
  ·omega
  ·have:=a9n (f:=f) h;omega
theorem ay4 {f:jh} (h:PD.szL (jh.pd f)≤1048576):f.params.length≤1048576∧(∀ p ∈ f.params,p.typ.parts≤4194304)∧f.result.parts≤4194304:=by
 obtain⟨params,⟨dh,dn,ku,ny⟩,async⟩:=f
 have hp:=aye ⟨dh,dn,ku,ny⟩
 rw[jh.aj] at h
 rw[Ty.aj] at hp
 simp only[PD.szL] at h hp
 rw[ahw Param.jd (by decide)] at h
 refine⟨by simp only;omega,fun p hpm=>?_,by simp only;omega⟩
 have h1:=a9n (f:=Param.pd) hpm
 obtain⟨name,⟨a,b,c,d⟩⟩:=p
 have h2:=aye ⟨a,b,c,d⟩
 rw[Param.aj] at h1
 rw[Ty.aj] at h2
 simp only[PD.szL] at h1 h2
 simp only
 omega
theorem bsd {f:jh} (h:PD.szL (jh.pd f)≤1048576):SzF f:=⟨(ay4 h).1,(ay4 h).2.1,(ay4 h).2.2⟩
theorem a9o {f:cu} (h:PD.szL (cu.pd f)≤1048576):(∀ x ∈ f.funcs,SzF x.typ)∧f.version.size≤1048576:=⟨fun x hx=>bsd ((ala h).2 x hx),(ala h).1⟩
end Go.Proofs.YtbafphecjijdmaaGreatDoor
