/-
  The program's structs and their plain data (by program: tygen2.py). No program in sight.
  From the laws' parameters to the structs (by program: tygen2.py).
-/
import Derived.Test.YtbafphecjijdmaaGreatDoorFa04
namespace Go.Proofs.YtbafphecjijdmaaGreatDoor
open Go.RowKit
set_option linter.unusedVariables false
set_option linter.unusedSimpArgs false
set_option linter.unnecessarySimpa false
set_option maxRecDepth 100000
inductive Ty where
 | mk (kind:Int) (name:ByteArray) (labels:List ByteArray) (kids:List Ty)
mutual
def Ty.pd:Ty→List PD
 | .mk kind name labels kids=>[.lit (.int .i64 kind),.lit (.string name),.row 1 (labels.flatMap tq),.row 4 (Ty.pdS kids)]
def Ty.pdS:List Ty→List PD
 | []=>[]
 | t ::r=>Ty.pd t ++Ty.pdS r
end
theorem Ty.pdS_eq:∀ ts:List Ty,Ty.pdS ts=ts.flatMap Ty.pd
 | []=>by rw[Ty.pdS];rfl
 | t ::r=>by rw[Ty.pdS,Ty.pdS_eq r,List.flatMap_cons]
theorem Ty.ay (kind:Int) (name:ByteArray) (labels:List ByteArray) (kids:List Ty):Ty.pd ⟨kind,name,labels,kids⟩=[.lit (.int .i64 kind),.lit (.string name),.row 1 (labels.flatMap tq),.row 4 (kids.flatMap Ty.pd)]:=by rw[Ty.pd,Ty.pdS_eq]
theorem Ty.jw (t:Ty):(Ty.pd t).length=4:=by obtain⟨kind,name,labels,kids⟩:=t;rw[Ty.ay];rfl
theorem Ty.open_ {w:World} {B:Nat} {cs:List Value} {kind:Int} {name:ByteArray} {labels:List ByteArray} {kids:List Ty} (h:ku w B (Ty.pd ⟨kind,name,labels,kids⟩) cs):∃ iq qp,cs=[.int .i64 kind,.string name,iq,qp]∧Rep w B (.row 1 (labels.flatMap tq)) iq∧Rep w B (.row 4 (kids.flatMap Ty.pd)) qp:=by
 rw[Ty.ay] at h
 obtain⟨cs1,rfl,h1⟩:=h.ad4
 obtain⟨cs2,rfl,h2⟩:=h1.ad4
 obtain⟨iq,cs3,rfl,bf,h3⟩:=h2.of_cons
 obtain⟨qp,cs4,rfl,eu,h4⟩:=h3.of_cons
 obtain rfl:=h4.of_nil
 exact⟨_,_,rfl,bf,eu⟩
theorem Ty.close_ {w:World} {B:Nat} {kind:Int} {name:ByteArray} {labels:List ByteArray} {kids:List Ty} {iq:Value} {qp:Value} (bf:Rep w B (.row 1 (labels.flatMap tq)) iq) (eu:Rep w B (.row 4 (kids.flatMap Ty.pd)) qp):ku w B (Ty.pd ⟨kind,name,labels,kids⟩) [.int .i64 kind,.string name,iq,qp]:=by
 rw[Ty.ay]
 exact((ku.cons bf (ku.cons eu (ku.nil_))).lit _).lit _
theorem Ty.af7 {w:World} {lo hi:Nat} {us:List Value} {kind:Int} {name:ByteArray} {labels:List ByteArray} {kids:List Ty} (h:LvC w lo hi (Ty.pd ⟨kind,name,labels,kids⟩) us):∃ jk gy je pz gu lu,us=[.int .i64 kind,.string name,.slice jk gy je,.slice pz gu lu]:=by
 rw[Ty.ay] at h
 obtain⟨us1,rfl,h1⟩:=h.aht
 obtain⟨us2,rfl,h2⟩:=h1.aht
 obtain⟨jk,gy,je,us3,rfl,h3⟩:=h2.aj7
 obtain⟨pz,gu,lu,us4,rfl,h4⟩:=h3.aj7
 obtain rfl:=h4.nil_
 exact⟨_,_,_,_,_,_,rfl⟩
structure Param where
 name:ByteArray
 typ:Ty
def Param.pd (t:Param):List PD:=[.lit (.string t.name)] ++Ty.pd t.typ
theorem Param.ay (name:ByteArray) (iy:Int) (ji:ByteArray) (og:List ByteArray) (uj:List Ty):Param.pd ⟨name,⟨iy,ji,og,uj⟩⟩=[.lit (.string name),.lit (.int .i64 iy),.lit (.string ji),.row 1 (og.flatMap tq),.row 4 (uj.flatMap Ty.pd)]:=by simp only[Param.pd,Ty.ay];rfl
theorem Param.jw (t:Param):(Param.pd t).length=5:=by obtain⟨name,⟨iy,ji,og,uj⟩⟩:=t;rw[Param.ay];rfl
theorem Param.open_ {w:World} {B:Nat} {cs:List Value} {name:ByteArray} {iy:Int} {ji:ByteArray} {og:List ByteArray} {uj:List Ty} (h:ku w B (Param.pd ⟨name,⟨iy,ji,og,uj⟩⟩) cs):∃ aaq abu,cs=[.string name,.int .i64 iy,.string ji,aaq,abu]∧Rep w B (.row 1 (og.flatMap tq)) aaq∧Rep w B (.row 4 (uj.flatMap Ty.pd)) abu:=by
 rw[Param.ay] at h
 obtain⟨cs1,rfl,h1⟩:=h.ad4
 obtain⟨cs2,rfl,h2⟩:=h1.ad4
 obtain⟨cs3,rfl,h3⟩:=h2.ad4
 obtain⟨aaq,cs4,rfl,aa5,h4⟩:=h3.of_cons
 obtain⟨abu,cs5,rfl,ab4,h5⟩:=h4.of_cons
 obtain rfl:=h5.of_nil
 exact⟨_,_,rfl,aa5,ab4⟩
theorem Param.close_ {w:World} {B:Nat} {name:ByteArray} {iy:Int} {ji:ByteArray} {og:List ByteArray} {uj:List Ty} {aaq:Value} {abu:Value} (aa5:Rep w B (.row 1 (og.flatMap tq)) aaq) (ab4:Rep w B (.row 4 (uj.flatMap Ty.pd)) abu):ku w B (Param.pd ⟨name,⟨iy,ji,og,uj⟩⟩) [.string name,.int .i64 iy,.string ji,aaq,abu]:=by
 rw[Param.ay]
 exact(((ku.cons aa5 (ku.cons ab4 (ku.nil_))).lit _).lit _).lit _
theorem Param.af7 {w:World} {lo hi:Nat} {us:List Value} {name:ByteArray} {iy:Int} {ji:ByteArray} {og:List ByteArray} {uj:List Ty} (h:LvC w lo hi (Param.pd ⟨name,⟨iy,ji,og,uj⟩⟩) us):∃ aa8 aa9 abb ab9 acd ace,us=[.string name,.int .i64 iy,.string ji,.slice aa8 aa9 abb,.slice ab9 acd ace]:=by
 rw[Param.ay] at h
 obtain⟨us1,rfl,h1⟩:=h.aht
 obtain⟨us2,rfl,h2⟩:=h1.aht
 obtain⟨us3,rfl,h3⟩:=h2.aht
 obtain⟨aa8,aa9,abb,us4,rfl,h4⟩:=h3.aj7
 obtain⟨ab9,acd,ace,us5,rfl,h5⟩:=h4.aj7
 obtain rfl:=h5.nil_
 exact⟨_,_,_,_,_,_,rfl⟩
structure jh where
 params:List Param
 result:Ty
 async:Bool
def jh.pd (t:jh):List PD:=[.row 5 (t.params.flatMap Param.pd)] ++Ty.pd t.result ++[.lit (.bool t.async)]
theorem jh.ay (params:List Param) (bg:Int) (cu:ByteArray) (jv:List ByteArray) (mg:List Ty) (async:Bool):jh.pd ⟨params,⟨bg,cu,jv,mg⟩,async⟩=[.row 5 (params.flatMap Param.pd),.lit (.int .i64 bg),.lit (.string cu),.row 1 (jv.flatMap tq),.row 4 (mg.flatMap Ty.pd),.lit (.bool async)]:=by simp only[jh.pd,Ty.ay];rfl
theorem jh.open_ {w:World} {B:Nat} {cs:List Value} {params:List Param} {bg:Int} {cu:ByteArray} {jv:List ByteArray} {mg:List Ty} {async:Bool} (h:ku w B (jh.pd ⟨params,⟨bg,cu,jv,mg⟩,async⟩) cs):∃ adv oq uf,cs=[adv,.int .i64 bg,.string cu,oq,uf,.bool async]∧Rep w B (.row 5 (params.flatMap Param.pd)) adv∧Rep w B (.row 1 (jv.flatMap tq)) oq∧Rep w B (.row 4 (mg.flatMap Ty.pd)) uf:=by
 rw[jh.ay] at h
 obtain⟨adv,cs1,rfl,adn,h1⟩:=h.of_cons
 obtain⟨cs2,rfl,h2⟩:=h1.ad4
 obtain⟨cs3,rfl,h3⟩:=h2.ad4
 obtain⟨oq,cs4,rfl,zx,h4⟩:=h3.of_cons
 obtain⟨uf,cs5,rfl,aau,h5⟩:=h4.of_cons
 obtain⟨cs6,rfl,h6⟩:=h5.ad4
 obtain rfl:=h6.of_nil
 exact⟨_,_,_,rfl,adn,zx,aau⟩
theorem jh.close_ {w:World} {B:Nat} {params:List Param} {bg:Int} {cu:ByteArray} {jv:List ByteArray} {mg:List Ty} {async:Bool} {adv:Value} {oq:Value} {uf:Value} (adn:Rep w B (.row 5 (params.flatMap Param.pd)) adv) (zx:Rep w B (.row 1 (jv.flatMap tq)) oq) (aau:Rep w B (.row 4 (mg.flatMap Ty.pd)) uf):ku w B (jh.pd ⟨params,⟨bg,cu,jv,mg⟩,async⟩) [adv,.int .i64 bg,.string cu,oq,uf,.bool async]:=by
 rw[jh.ay]
 exact ku.cons adn (((ku.cons zx (ku.cons aau ((ku.nil_).lit _))).lit _).lit _)
theorem jh.af7 {w:World} {lo hi:Nat} {us:List Value} {params:List Param} {bg:Int} {cu:ByteArray} {jv:List ByteArray} {mg:List Ty} {async:Bool} (h:LvC w lo hi (jh.pd ⟨params,⟨bg,cu,jv,mg⟩,async⟩) us):∃ ai6 ai7 ai8 ad6 ad7 ad8 aeo aep aer,us=[.slice ai6 ai7 ai8,.int .i64 bg,.string cu,.slice ad6 ad7 ad8,.slice aeo aep aer,.bool async]:=by
 rw[jh.ay] at h
 obtain⟨ai6,ai7,ai8,us1,rfl,h1⟩:=h.aj7
 obtain⟨us2,rfl,h2⟩:=h1.aht
 obtain⟨us3,rfl,h3⟩:=h2.aht
 obtain⟨ad6,ad7,ad8,us4,rfl,h4⟩:=h3.aj7
 obtain⟨aeo,aep,aer,us5,rfl,h5⟩:=h4.aj7
 obtain⟨us6,rfl,h6⟩:=h5.aht
 obtain rfl:=h6.nil_
 exact⟨_,_,_,_,_,_,_,_,_,rfl⟩
structure Fun where
 name:ByteArray
 typ:jh
def Fun.pd (t:Fun):List PD:=[.lit (.string t.name)] ++jh.pd t.typ
theorem Fun.ay (name:ByteArray) (ql:List Param) (aj:Int) (au:ByteArray) (iw:List ByteArray) (jl:List Ty) (jg:Bool):Fun.pd ⟨name,⟨ql,⟨aj,au,iw,jl⟩,jg⟩⟩=[.lit (.string name),.row 5 (ql.flatMap Param.pd),.lit (.int .i64 aj),.lit (.string au),.row 1 (iw.flatMap tq),.row 4 (jl.flatMap Ty.pd),.lit (.bool jg)]:=by simp only[Fun.pd,jh.ay];rfl
theorem Fun.jw (t:Fun):(Fun.pd t).length=7:=by obtain⟨name,⟨ql,⟨aj,au,iw,jl⟩,jg⟩⟩:=t;rw[Fun.ay];rfl
theorem Fun.open_ {w:World} {B:Nat} {cs:List Value} {name:ByteArray} {ql:List Param} {aj:Int} {au:ByteArray} {iw:List ByteArray} {jl:List Ty} {jg:Bool} (h:ku w B (Fun.pd ⟨name,⟨ql,⟨aj,au,iw,jl⟩,jg⟩⟩) cs):∃ aar su vg,cs=[.string name,aar,.int .i64 aj,.string au,su,vg,.bool jg]∧Rep w B (.row 5 (ql.flatMap Param.pd)) aar∧Rep w B (.row 1 (iw.flatMap tq)) su∧Rep w B (.row 4 (jl.flatMap Ty.pd)) vg:=by
 rw[Fun.ay] at h
 obtain⟨cs1,rfl,h1⟩:=h.ad4
 obtain⟨aar,cs2,rfl,ab1,h2⟩:=h1.of_cons
 obtain⟨cs3,rfl,h3⟩:=h2.ad4
 obtain⟨cs4,rfl,h4⟩:=h3.ad4
 obtain⟨su,cs5,rfl,zh,h5⟩:=h4.of_cons
 obtain⟨vg,cs6,rfl,aad,h6⟩:=h5.of_cons
 obtain⟨cs7,rfl,h7⟩:=h6.ad4
 obtain rfl:=h7.of_nil
 exact⟨_,_,_,rfl,ab1,zh,aad⟩
theorem Fun.close_ {w:World} {B:Nat} {name:ByteArray} {ql:List Param} {aj:Int} {au:ByteArray} {iw:List ByteArray} {jl:List Ty} {jg:Bool} {aar:Value} {su:Value} {vg:Value} (ab1:Rep w B (.row 5 (ql.flatMap Param.pd)) aar) (zh:Rep w B (.row 1 (iw.flatMap tq)) su) (aad:Rep w B (.row 4 (jl.flatMap Ty.pd)) vg):ku w B (Fun.pd ⟨name,⟨ql,⟨aj,au,iw,jl⟩,jg⟩⟩) [.string name,aar,.int .i64 aj,.string au,su,vg,.bool jg]:=by
 rw[Fun.ay]
 exact(ku.cons ab1 (((ku.cons zh (ku.cons aad ((ku.nil_).lit _))).lit _).lit _)).lit _
theorem Fun.af7 {w:World} {lo hi:Nat} {us:List Value} {name:ByteArray} {ql:List Param} {aj:Int} {au:ByteArray} {iw:List ByteArray} {jl:List Ty} {jg:Bool} (h:LvC w lo hi (Fun.pd ⟨name,⟨ql,⟨aj,au,iw,jl⟩,jg⟩⟩) us):∃ abp abq abr xq xu xw zk zl zn,us=[.string name,.slice abp abq abr,.int .i64 aj,.string au,.slice xq xu xw,.slice zk zl zn,.bool jg]:=by
 rw[Fun.ay] at h
 obtain⟨us1,rfl,h1⟩:=h.aht
 obtain⟨abp,abq,abr,us2,rfl,h2⟩:=h1.aj7
 obtain⟨us3,rfl,h3⟩:=h2.aht
 obtain⟨us4,rfl,h4⟩:=h3.aht
 obtain⟨xq,xu,xw,us5,rfl,h5⟩:=h4.aj7
 obtain⟨zk,zl,zn,us6,rfl,h6⟩:=h5.aj7
 obtain⟨us7,rfl,h7⟩:=h6.aht
 obtain rfl:=h7.nil_
 exact⟨_,_,_,_,_,_,_,_,_,rfl⟩
structure qg where
 package:ByteArray
 name:ByteArray
 version:ByteArray
 resources:List ByteArray
 funcs:List Fun
def qg.pd (t:qg):List PD:=[.lit (.string t.package),.lit (.string t.name),.lit (.string t.version),.row 1 (t.resources.flatMap tq),.row 7 (t.funcs.flatMap Fun.pd)]
theorem qg.ay (package:ByteArray) (name:ByteArray) (version:ByteArray) (resources:List ByteArray) (funcs:List Fun):qg.pd ⟨package,name,version,resources,funcs⟩=[.lit (.string package),.lit (.string name),.lit (.string version),.row 1 (resources.flatMap tq),.row 7 (funcs.flatMap Fun.pd)]:=rfl
theorem qg.open_ {w:World} {B:Nat} {cs:List Value} {package:ByteArray} {name:ByteArray} {version:ByteArray} {resources:List ByteArray} {funcs:List Fun} (h:ku w B (qg.pd ⟨package,name,version,resources,funcs⟩) cs):∃ qh aat,cs=[.string package,.string name,.string version,qh,aat]∧Rep w B (.row 1 (resources.flatMap tq)) qh∧Rep w B (.row 7 (funcs.flatMap Fun.pd)) aat:=by
 rw[qg.ay] at h
 obtain⟨cs1,rfl,h1⟩:=h.ad4
 obtain⟨cs2,rfl,h2⟩:=h1.ad4
 obtain⟨cs3,rfl,h3⟩:=h2.ad4
 obtain⟨qh,cs4,rfl,aa2,h4⟩:=h3.of_cons
 obtain⟨aat,cs5,rfl,adw,h5⟩:=h4.of_cons
 obtain rfl:=h5.of_nil
 exact⟨_,_,rfl,aa2,adw⟩
theorem qg.close_ {w:World} {B:Nat} {package:ByteArray} {name:ByteArray} {version:ByteArray} {resources:List ByteArray} {funcs:List Fun} {qh:Value} {aat:Value} (aa2:Rep w B (.row 1 (resources.flatMap tq)) qh) (adw:Rep w B (.row 7 (funcs.flatMap Fun.pd)) aat):ku w B (qg.pd ⟨package,name,version,resources,funcs⟩) [.string package,.string name,.string version,qh,aat]:=by
 rw[qg.ay]
 exact(((ku.cons aa2 (ku.cons adw (ku.nil_))).lit _).lit _).lit _
theorem qg.af7 {w:World} {lo hi:Nat} {us:List Value} {package:ByteArray} {name:ByteArray} {version:ByteArray} {resources:List ByteArray} {funcs:List Fun} (h:LvC w lo hi (qg.pd ⟨package,name,version,resources,funcs⟩) us):∃ agn agp agq apn apo apq,us=[.string package,.string name,.string version,.slice agn agp agq,.slice apn apo apq]:=by
 rw[qg.ay] at h
 obtain⟨us1,rfl,h1⟩:=h.aht
 obtain⟨us2,rfl,h2⟩:=h1.aht
 obtain⟨us3,rfl,h3⟩:=h2.aht
 obtain⟨agn,agp,agq,us4,rfl,h4⟩:=h3.aj7
 obtain⟨apn,apo,apq,us5,rfl,h5⟩:=h4.aj7
 obtain rfl:=h5.nil_
 exact⟨_,_,_,_,_,_,rfl⟩
end Go.Proofs.YtbafphecjijdmaaGreatDoor
namespace Go.Proofs.YtbafphecjijdmaaGreatDoor
open Go.RowKit
set_option linter.unusedVariables false
set_option linter.unusedSimpArgs false
set_option linter.unnecessarySimpa false
set_option maxRecDepth 100000
open Go.ChangeShapes Go.WideShapes Go.ChangeAt
def az3:Dom:=
 (2,[.int]) ::
 (9,[.str]) ::
 (4,[.bool]) ::
 (140,[.sl 2]) ::
 (22,[.sl 9]) ::
 (50,[.sl 52]) ::
 (52,[.int,.str,.sl 9,.sl 52]) ::
 (49,[.sl 112]) ::
 (112,[.str,.int,.str,.sl 9,.sl 52]) ::
 (54,[.sl 112,.int,.str,.sl 9,.sl 52,.bool]) ::
 (23,[.sl 92]) ::
 (92,[.str,.sl 112,.int,.str,.sl 9,.sl 52,.bool]) ::
 (38,[.sl 25]) ::
 (25,[.str,.str,.str,.sl 9,.sl 92]) ::
 (40,[.str,.str,.str,.sl 25,.sl 25]) ::
 []
theorem lawLay:layB Tryz.prog az3=true:=by kernel_rfl
abbrev ahu:Nat→List TyC:=az3.env
theorem aqg {ds:List PD} (h:ajl ahu ds [.str]):∃ t,ds=tq t:=by
 obtain⟨h1,h2⟩:=h
 match ds,h1 with
 | [d],_=>obtain⟨n,rfl,_⟩:=ajm (h2 0 _ _ rfl rfl);exact⟨n,rfl⟩
theorem Ty.al3:∀ (N:Nat) (ds:List PD),(∀ d ∈ ds,SizeOf.sizeOf d < N∧d.whole)→ajl ahu ds [.int,.str,.sl 9,.sl 52]→∃ t:Ty,ds=Ty.pd t:=by
 intro N
 induction N with
 | zero=>
  intro ds hs h
  obtain⟨h1,_⟩:=h
  match ds,h1 with
  | d ::_,_=>exact absurd (hs d (by simp)).1 (by omega)
 | succ N ih=>
  intro ds hs h
  obtain⟨h1,h2⟩:=h
  match ds,h1 with
  | [d0,d1,d2,d3],_=>
   obtain⟨kind,rfl,_⟩:=avf (h2 0 _ _ rfl rfl)
   obtain⟨name,rfl,_⟩:=ajm (h2 1 _ _ rfl rfl)
   obtain⟨xs2,rfl,hx2⟩:=akz (h2 2 _ _ rfl rfl)
   obtain⟨hz2,hw2⟩:=hs (.row (ahu 9).length xs2) (by simp)
   rw[PD.whole] at hw2
   obtain⟨⟨n2,hn2⟩,hw2'⟩:=hw2
   obtain⟨xs3,rfl,hx3⟩:=akz (h2 3 _ _ rfl rfl)
   obtain⟨hz3,hw3⟩:=hs (.row (ahu 52).length xs3) (by simp)
   rw[PD.whole] at hw3
   obtain⟨⟨n3,hn3⟩,hw3'⟩:=hw3
   obtain⟨labels,rfl⟩:∃ ts,xs2=List.flatMap tq ts:=by
    exact aha (pd:=tq) (cells:=[.str]) (by decide) n2 xs2 (fun ds _ h=>aqg h) hn2 hx2
   obtain⟨kids,rfl⟩:∃ ts,xs3=List.flatMap Ty.pd ts:=by
    exact aha (pd:=Ty.pd) (cells:=[.int,.str,.sl 9,.sl 52]) (by decide) n3 xs3 (fun ds hds h=>ih ds (fun d hd=>⟨(by have:=a2i (n:=(ahu 52).length) (hds d hd);omega),ak0 hw3' _ (hds d hd)⟩) h) hn3 hx3
   exact⟨⟨kind,name,labels,kids⟩,by rw[Ty.ay]<;>rfl⟩
theorem Param.al3:∀ (N:Nat) (ds:List PD),(∀ d ∈ ds,SizeOf.sizeOf d < N∧d.whole)→ajl ahu ds [.str,.int,.str,.sl 9,.sl 52]→∃ t:Param,ds=Param.pd t:=by
 intro N
 induction N with
 | zero=>
  intro ds hs h
  obtain⟨h1,_⟩:=h
  match ds,h1 with
  | d ::_,_=>exact absurd (hs d (by simp)).1 (by omega)
 | succ N ih=>
  intro ds hs h
  obtain⟨h1,h2⟩:=h
  match ds,h1 with
  | [d0,d1,d2,d3,d4],_=>
   obtain⟨name,rfl,_⟩:=ajm (h2 0 _ _ rfl rfl)
   obtain⟨iy,rfl,_⟩:=avf (h2 1 _ _ rfl rfl)
   obtain⟨ji,rfl,_⟩:=ajm (h2 2 _ _ rfl rfl)
   obtain⟨xs3,rfl,hx3⟩:=akz (h2 3 _ _ rfl rfl)
   obtain⟨hz3,hw3⟩:=hs (.row (ahu 9).length xs3) (by simp)
   rw[PD.whole] at hw3
   obtain⟨⟨n3,hn3⟩,hw3'⟩:=hw3
   obtain⟨xs4,rfl,hx4⟩:=akz (h2 4 _ _ rfl rfl)
   obtain⟨hz4,hw4⟩:=hs (.row (ahu 52).length xs4) (by simp)
   rw[PD.whole] at hw4
   obtain⟨⟨n4,hn4⟩,hw4'⟩:=hw4
   obtain⟨og,rfl⟩:∃ ts,xs3=List.flatMap tq ts:=by
    exact aha (pd:=tq) (cells:=[.str]) (by decide) n3 xs3 (fun ds _ h=>aqg h) hn3 hx3
   obtain⟨uj,rfl⟩:∃ ts,xs4=List.flatMap Ty.pd ts:=by
    exact aha (pd:=Ty.pd) (cells:=[.int,.str,.sl 9,.sl 52]) (by decide) n4 xs4 (fun ds hds h=>Ty.al3 _ ds (fun d hd=>⟨Nat.lt_succ_of_lt (List.sizeOf_lt_of_mem (hds d hd)),ak0 hw4' _ (hds d hd)⟩) h) hn4 hx4
   exact⟨⟨name,⟨iy,ji,og,uj⟩⟩,by rw[Param.ay]<;>rfl⟩
theorem Fun.al3:∀ (N:Nat) (ds:List PD),(∀ d ∈ ds,SizeOf.sizeOf d < N∧d.whole)→ajl ahu ds [.str,.sl 112,.int,.str,.sl 9,.sl 52,.bool]→∃ t:Fun,ds=Fun.pd t:=by
 intro N
 induction N with
 | zero=>
  intro ds hs h
  obtain⟨h1,_⟩:=h
  match ds,h1 with
  | d ::_,_=>exact absurd (hs d (by simp)).1 (by omega)
 | succ N ih=>
  intro ds hs h
  obtain⟨h1,h2⟩:=h
  match ds,h1 with
  | [d0,d1,d2,d3,d4,d5,d6],_=>
   obtain⟨name,rfl,_⟩:=ajm (h2 0 _ _ rfl rfl)
   obtain⟨xs1,rfl,hx1⟩:=akz (h2 1 _ _ rfl rfl)
   obtain⟨hz1,hw1⟩:=hs (.row (ahu 112).length xs1) (by simp)
   rw[PD.whole] at hw1
   obtain⟨⟨n1,hn1⟩,hw1'⟩:=hw1
   obtain⟨aj,rfl,_⟩:=avf (h2 2 _ _ rfl rfl)
   obtain⟨au,rfl,_⟩:=ajm (h2 3 _ _ rfl rfl)
   obtain⟨xs4,rfl,hx4⟩:=akz (h2 4 _ _ rfl rfl)
   obtain⟨hz4,hw4⟩:=hs (.row (ahu 9).length xs4) (by simp)
   rw[PD.whole] at hw4
   obtain⟨⟨n4,hn4⟩,hw4'⟩:=hw4
   obtain⟨xs5,rfl,hx5⟩:=akz (h2 5 _ _ rfl rfl)
   obtain⟨hz5,hw5⟩:=hs (.row (ahu 52).length xs5) (by simp)
   rw[PD.whole] at hw5
   obtain⟨⟨n5,hn5⟩,hw5'⟩:=hw5
   obtain⟨jg,rfl⟩:=a6m (h2 6 _ _ rfl rfl)
   obtain⟨ql,rfl⟩:∃ ts,xs1=List.flatMap Param.pd ts:=by
    exact aha (pd:=Param.pd) (cells:=[.str,.int,.str,.sl 9,.sl 52]) (by decide) n1 xs1 (fun ds hds h=>Param.al3 _ ds (fun d hd=>⟨Nat.lt_succ_of_lt (List.sizeOf_lt_of_mem (hds d hd)),ak0 hw1' _ (hds d hd)⟩) h) hn1 hx1
   obtain⟨iw,rfl⟩:∃ ts,xs4=List.flatMap tq ts:=by
    exact aha (pd:=tq) (cells:=[.str]) (by decide) n4 xs4 (fun ds _ h=>aqg h) hn4 hx4
   obtain⟨jl,rfl⟩:∃ ts,xs5=List.flatMap Ty.pd ts:=by
    exact aha (pd:=Ty.pd) (cells:=[.int,.str,.sl 9,.sl 52]) (by decide) n5 xs5 (fun ds hds h=>Ty.al3 _ ds (fun d hd=>⟨Nat.lt_succ_of_lt (List.sizeOf_lt_of_mem (hds d hd)),ak0 hw5' _ (hds d hd)⟩) h) hn5 hx5
   exact⟨⟨name,⟨ql,⟨aj,au,iw,jl⟩,jg⟩⟩,by rw[Fun.ay]<;>rfl⟩
theorem qg.al3:∀ (N:Nat) (ds:List PD),(∀ d ∈ ds,SizeOf.sizeOf d < N∧d.whole)→ajl ahu ds [.str,.str,.str,.sl 9,.sl 92]→∃ t:qg,ds=qg.pd t:=by
 intro N
 induction N with
 | zero=>
  intro ds hs h
  obtain⟨h1,_⟩:=h
  match ds,h1 with
  | d ::_,_=>exact absurd (hs d (by simp)).1 (by omega)
 | succ N ih=>
  intro ds hs h
  obtain⟨h1,h2⟩:=h
  match ds,h1 with
  | [d0,d1,d2,d3,d4],_=>
   obtain⟨package,rfl,_⟩:=ajm (h2 0 _ _ rfl rfl)
   obtain⟨name,rfl,_⟩:=ajm (h2 1 _ _ rfl rfl)
   obtain⟨version,rfl,_⟩:=ajm (h2 2 _ _ rfl rfl)
   obtain⟨xs3,rfl,hx3⟩:=akz (h2 3 _ _ rfl rfl)
   obtain⟨hz3,hw3⟩:=hs (.row (ahu 9).length xs3) (by simp)
   rw[PD.whole] at hw3
   obtain⟨⟨n3,hn3⟩,hw3'⟩:=hw3
   obtain⟨xs4,rfl,hx4⟩:=akz (h2 4 _ _ rfl rfl)
   obtain⟨hz4,hw4⟩:=hs (.row (ahu 92).length xs4) (by simp)
   rw[PD.whole] at hw4
   obtain⟨⟨n4,hn4⟩,hw4'⟩:=hw4
   obtain⟨resources,rfl⟩:∃ ts,xs3=List.flatMap tq ts:=by
    exact aha (pd:=tq) (cells:=[.str]) (by decide) n3 xs3 (fun ds _ h=>aqg h) hn3 hx3
   obtain⟨funcs,rfl⟩:∃ ts,xs4=List.flatMap Fun.pd ts:=by
    exact aha (pd:=Fun.pd) (cells:=[.str,.sl 112,.int,.str,.sl 9,.sl 52,.bool]) (by decide) n4 xs4 (fun ds hds h=>Fun.al3 _ ds (fun d hd=>⟨Nat.lt_succ_of_lt (List.sizeOf_lt_of_mem (hds d hd)),ak0 hw4' _ (hds d hd)⟩) h) hn4 hx4
   exact⟨⟨package,name,version,resources,funcs⟩,by rw[qg.ay]<;>rfl⟩
def axo (w:World) (v:Value):Prop:=∃ (t:qg) (cs:List Value),v=.agg cs.toArray∧PD.wfL (qg.pd t)∧ku w w.heap.size (qg.pd t) cs
theorem a3w {H:Type} {enc:TypeId×Value→H} {w:World} {base b0:Nat} {spare:Nat→Bool} {held:Bool} {r:Reach} {v:Value} {d:DataW H} {ps:List MemPlace} (hv:Value.okWide Tryz.prog w r b0 25 v) (h:DataW.Trod enc Tryz.prog w base spare held 25 v d ps):axo w v:=by
 obtain⟨cs,rfl,ds,hc,hr⟩:=a2g (dom:=az3) Tryz.underlying25 lawLay rfl hv h
 obtain⟨t,rfl⟩:=qg.al3 _ ds (fun d hd=>⟨Nat.lt_succ_of_lt (List.sizeOf_lt_of_mem hd),hr.whole d hd⟩) hc
 exact⟨t,cs,rfl,hc.wf,hr⟩
end Go.Proofs.YtbafphecjijdmaaGreatDoor
