/-
  The program's structs and their plain data (by program: tygen2.py). No program in sight.
  From the laws' parameters to the structs (by program: tygen2.py).
-/
import Derived.Test.YtbafphecjijdmaaGreatDoorWa04
namespace Go.Proofs.YtbafphecjijdmaaGreatDoor
open Go.RowKit
set_option linter.unusedVariables false
set_option linter.unusedSimpArgs false
set_option linter.unnecessarySimpa false
set_option maxRecDepth 100000
inductive Ty where
 | mk (kind:Int) (name:ByteArray) (labels:List ByteArray) (kids:List Ty)
mutual
def Ty.pd:Ty→List PD
 | .mk kind name labels kids=>[.lit (.int .i64 kind),.lit (.string name),.row 1 (labels.flatMap tu),.row 4 (Ty.pdS kids)]
def Ty.pdS:List Ty→List PD
 | []=>[]
 | t ::r=>Ty.pd t ++Ty.pdS r
end
theorem Ty.a9v:∀ ts:List Ty,Ty.pdS ts=ts.flatMap Ty.pd
 | []=>by rw[Ty.pdS];rfl
 | t ::r=>by rw[Ty.pdS,Ty.a9v r,List.flatMap_cons]
theorem Ty.ay (kind:Int) (name:ByteArray) (labels:List ByteArray) (kids:List Ty):Ty.pd ⟨kind,name,labels,kids⟩=[.lit (.int .i64 kind),.lit (.string name),.row 1 (labels.flatMap tu),.row 4 (kids.flatMap Ty.pd)]:=by rw[Ty.pd,Ty.a9v]
theorem Ty.jw (t:Ty):(Ty.pd t).length=4:=by obtain⟨kind,name,labels,kids⟩:=t;rw[Ty.ay];rfl
theorem Ty.open_ {w:World} {B:Nat} {cs:List Value} {kind:Int} {name:ByteArray} {labels:List ByteArray} {kids:List Ty} (h:jy w B (Ty.pd ⟨kind,name,labels,kids⟩) cs):∃ iq qp,cs=[.int .i64 kind,.string name,iq,qp]∧Rep w B (.row 1 (labels.flatMap tu)) iq∧Rep w B (.row 4 (kids.flatMap Ty.pd)) qp:=by
 rw[Ty.ay] at h
 obtain⟨cs1,rfl,h1⟩:=h.ad8
 obtain⟨cs2,rfl,h2⟩:=h1.ad8
 obtain⟨iq,cs3,rfl,bf,h3⟩:=h2.of_cons
 obtain⟨qp,cs4,rfl,eu,h4⟩:=h3.of_cons
 obtain rfl:=h4.of_nil
 exact⟨_,_,rfl,bf,eu⟩
theorem Ty.close_ {w:World} {B:Nat} {kind:Int} {name:ByteArray} {labels:List ByteArray} {kids:List Ty} {iq:Value} {qp:Value} (bf:Rep w B (.row 1 (labels.flatMap tu)) iq) (eu:Rep w B (.row 4 (kids.flatMap Ty.pd)) qp):jy w B (Ty.pd ⟨kind,name,labels,kids⟩) [.int .i64 kind,.string name,iq,qp]:=by
 rw[Ty.ay]
 exact((jy.cons bf (jy.cons eu (jy.nil_))).lit _).lit _
theorem Ty.afp {w:World} {lo hi:Nat} {us:List Value} {kind:Int} {name:ByteArray} {labels:List ByteArray} {kids:List Ty} (h:LvC w lo hi (Ty.pd ⟨kind,name,labels,kids⟩) us):∃ jk gy je qc gu lu,us=[.int .i64 kind,.string name,.slice jk gy je,.slice qc gu lu]:=by
 rw[Ty.ay] at h
 obtain⟨us1,rfl,h1⟩:=h.ahe
 obtain⟨us2,rfl,h2⟩:=h1.ahe
 obtain⟨jk,gy,je,us3,rfl,h3⟩:=h2.aj8
 obtain⟨qc,gu,lu,us4,rfl,h4⟩:=h3.aj8
 obtain rfl:=h4.nil_
 exact⟨_,_,_,_,_,_,rfl⟩
structure Param where
 name:ByteArray
 typ:Ty
def Param.pd (t:Param):List PD:=[.lit (.string t.name)] ++Ty.pd t.typ
theorem Param.ay (name:ByteArray) (iy:Int) (ji:ByteArray) (og:List ByteArray) (um:List Ty):Param.pd ⟨name,⟨iy,ji,og,um⟩⟩=[.lit (.string name),.lit (.int .i64 iy),.lit (.string ji),.row 1 (og.flatMap tu),.row 4 (um.flatMap Ty.pd)]:=by simp only[Param.pd,Ty.ay];rfl
theorem Param.jw (t:Param):(Param.pd t).length=5:=by obtain⟨name,⟨iy,ji,og,um⟩⟩:=t;rw[Param.ay];rfl
theorem Param.open_ {w:World} {B:Nat} {cs:List Value} {name:ByteArray} {iy:Int} {ji:ByteArray} {og:List ByteArray} {um:List Ty} (h:jy w B (Param.pd ⟨name,⟨iy,ji,og,um⟩⟩) cs):∃ aau abx,cs=[.string name,.int .i64 iy,.string ji,aau,abx]∧Rep w B (.row 1 (og.flatMap tu)) aau∧Rep w B (.row 4 (um.flatMap Ty.pd)) abx:=by
 rw[Param.ay] at h
 obtain⟨cs1,rfl,h1⟩:=h.ad8
 obtain⟨cs2,rfl,h2⟩:=h1.ad8
 obtain⟨cs3,rfl,h3⟩:=h2.ad8
 obtain⟨aau,cs4,rfl,abd,h4⟩:=h3.of_cons
 obtain⟨abx,cs5,rfl,ace,h5⟩:=h4.of_cons
 obtain rfl:=h5.of_nil
 exact⟨_,_,rfl,abd,ace⟩
theorem Param.close_ {w:World} {B:Nat} {name:ByteArray} {iy:Int} {ji:ByteArray} {og:List ByteArray} {um:List Ty} {aau:Value} {abx:Value} (abd:Rep w B (.row 1 (og.flatMap tu)) aau) (ace:Rep w B (.row 4 (um.flatMap Ty.pd)) abx):jy w B (Param.pd ⟨name,⟨iy,ji,og,um⟩⟩) [.string name,.int .i64 iy,.string ji,aau,abx]:=by
 rw[Param.ay]
 exact(((jy.cons abd (jy.cons ace (jy.nil_))).lit _).lit _).lit _
theorem Param.afp {w:World} {lo hi:Nat} {us:List Value} {name:ByteArray} {iy:Int} {ji:ByteArray} {og:List ByteArray} {um:List Ty} (h:LvC w lo hi (Param.pd ⟨name,⟨iy,ji,og,um⟩⟩) us):∃ abh abj abk aci acj acn,us=[.string name,.int .i64 iy,.string ji,.slice abh abj abk,.slice aci acj acn]:=by
 rw[Param.ay] at h
 obtain⟨us1,rfl,h1⟩:=h.ahe
 obtain⟨us2,rfl,h2⟩:=h1.ahe
 obtain⟨us3,rfl,h3⟩:=h2.ahe
 obtain⟨abh,abj,abk,us4,rfl,h4⟩:=h3.aj8
 obtain⟨aci,acj,acn,us5,rfl,h5⟩:=h4.aj8
 obtain rfl:=h5.nil_
 exact⟨_,_,_,_,_,_,rfl⟩
structure jh where
 params:List Param
 result:Ty
 async:Bool
def jh.pd (t:jh):List PD:=[.row 5 (t.params.flatMap Param.pd)] ++Ty.pd t.result ++[.lit (.bool t.async)]
theorem jh.ay (params:List Param) (bg:Int) (cu:ByteArray) (jv:List ByteArray) (mg:List Ty) (async:Bool):jh.pd ⟨params,⟨bg,cu,jv,mg⟩,async⟩=[.row 5 (params.flatMap Param.pd),.lit (.int .i64 bg),.lit (.string cu),.row 1 (jv.flatMap tu),.row 4 (mg.flatMap Ty.pd),.lit (.bool async)]:=by simp only[jh.pd,Ty.ay];rfl
theorem jh.open_ {w:World} {B:Nat} {cs:List Value} {params:List Param} {bg:Int} {cu:ByteArray} {jv:List ByteArray} {mg:List Ty} {async:Bool} (h:jy w B (jh.pd ⟨params,⟨bg,cu,jv,mg⟩,async⟩) cs):∃ ad3 oq ug,cs=[ad3,.int .i64 bg,.string cu,oq,ug,.bool async]∧Rep w B (.row 5 (params.flatMap Param.pd)) ad3∧Rep w B (.row 1 (jv.flatMap tu)) oq∧Rep w B (.row 4 (mg.flatMap Ty.pd)) ug:=by
 rw[jh.ay] at h
 obtain⟨ad3,cs1,rfl,adu,h1⟩:=h.of_cons
 obtain⟨cs2,rfl,h2⟩:=h1.ad8
 obtain⟨cs3,rfl,h3⟩:=h2.ad8
 obtain⟨oq,cs4,rfl,aaf,h4⟩:=h3.of_cons
 obtain⟨ug,cs5,rfl,aaw,h5⟩:=h4.of_cons
 obtain⟨cs6,rfl,h6⟩:=h5.ad8
 obtain rfl:=h6.of_nil
 exact⟨_,_,_,rfl,adu,aaf,aaw⟩
theorem jh.close_ {w:World} {B:Nat} {params:List Param} {bg:Int} {cu:ByteArray} {jv:List ByteArray} {mg:List Ty} {async:Bool} {ad3:Value} {oq:Value} {ug:Value} (adu:Rep w B (.row 5 (params.flatMap Param.pd)) ad3) (aaf:Rep w B (.row 1 (jv.flatMap tu)) oq) (aaw:Rep w B (.row 4 (mg.flatMap Ty.pd)) ug):jy w B (jh.pd ⟨params,⟨bg,cu,jv,mg⟩,async⟩) [ad3,.int .i64 bg,.string cu,oq,ug,.bool async]:=by
 rw[jh.ay]
 exact jy.cons adu (((jy.cons aaf (jy.cons aaw ((jy.nil_).lit _))).lit _).lit _)
theorem jh.afp {w:World} {lo hi:Nat} {us:List Value} {params:List Param} {bg:Int} {cu:ByteArray} {jv:List ByteArray} {mg:List Ty} {async:Bool} (h:LvC w lo hi (jh.pd ⟨params,⟨bg,cu,jv,mg⟩,async⟩) us):∃ ai8 ai9 aja aea aeb aec aex aey aez,us=[.slice ai8 ai9 aja,.int .i64 bg,.string cu,.slice aea aeb aec,.slice aex aey aez,.bool async]:=by
 rw[jh.ay] at h
 obtain⟨ai8,ai9,aja,us1,rfl,h1⟩:=h.aj8
 obtain⟨us2,rfl,h2⟩:=h1.ahe
 obtain⟨us3,rfl,h3⟩:=h2.ahe
 obtain⟨aea,aeb,aec,us4,rfl,h4⟩:=h3.aj8
 obtain⟨aex,aey,aez,us5,rfl,h5⟩:=h4.aj8
 obtain⟨us6,rfl,h6⟩:=h5.ahe
 obtain rfl:=h6.nil_
 exact⟨_,_,_,_,_,_,_,_,_,rfl⟩
structure Fun where
 name:ByteArray
 typ:jh
def Fun.pd (t:Fun):List PD:=[.lit (.string t.name)] ++jh.pd t.typ
theorem Fun.ay (name:ByteArray) (ql:List Param) (aj:Int) (au:ByteArray) (iw:List ByteArray) (jl:List Ty) (jg:Bool):Fun.pd ⟨name,⟨ql,⟨aj,au,iw,jl⟩,jg⟩⟩=[.lit (.string name),.row 5 (ql.flatMap Param.pd),.lit (.int .i64 aj),.lit (.string au),.row 1 (iw.flatMap tu),.row 4 (jl.flatMap Ty.pd),.lit (.bool jg)]:=by simp only[Fun.pd,jh.ay];rfl
theorem Fun.jw (t:Fun):(Fun.pd t).length=7:=by obtain⟨name,⟨ql,⟨aj,au,iw,jl⟩,jg⟩⟩:=t;rw[Fun.ay];rfl
theorem Fun.open_ {w:World} {B:Nat} {cs:List Value} {name:ByteArray} {ql:List Param} {aj:Int} {au:ByteArray} {iw:List ByteArray} {jl:List Ty} {jg:Bool} (h:jy w B (Fun.pd ⟨name,⟨ql,⟨aj,au,iw,jl⟩,jg⟩⟩) cs):∃ aav tq vk,cs=[.string name,aav,.int .i64 aj,.string au,tq,vk,.bool jg]∧Rep w B (.row 5 (ql.flatMap Param.pd)) aav∧Rep w B (.row 1 (iw.flatMap tu)) tq∧Rep w B (.row 4 (jl.flatMap Ty.pd)) vk:=by
 rw[Fun.ay] at h
 obtain⟨cs1,rfl,h1⟩:=h.ad8
 obtain⟨aav,cs2,rfl,ab8,h2⟩:=h1.of_cons
 obtain⟨cs3,rfl,h3⟩:=h2.ad8
 obtain⟨cs4,rfl,h4⟩:=h3.ad8
 obtain⟨tq,cs5,rfl,zk,h5⟩:=h4.of_cons
 obtain⟨vk,cs6,rfl,aai,h6⟩:=h5.of_cons
 obtain⟨cs7,rfl,h7⟩:=h6.ad8
 obtain rfl:=h7.of_nil
 exact⟨_,_,_,rfl,ab8,zk,aai⟩
theorem Fun.close_ {w:World} {B:Nat} {name:ByteArray} {ql:List Param} {aj:Int} {au:ByteArray} {iw:List ByteArray} {jl:List Ty} {jg:Bool} {aav:Value} {tq:Value} {vk:Value} (ab8:Rep w B (.row 5 (ql.flatMap Param.pd)) aav) (zk:Rep w B (.row 1 (iw.flatMap tu)) tq) (aai:Rep w B (.row 4 (jl.flatMap Ty.pd)) vk):jy w B (Fun.pd ⟨name,⟨ql,⟨aj,au,iw,jl⟩,jg⟩⟩) [.string name,aav,.int .i64 aj,.string au,tq,vk,.bool jg]:=by
 rw[Fun.ay]
 exact(jy.cons ab8 (((jy.cons zk (jy.cons aai ((jy.nil_).lit _))).lit _).lit _)).lit _
theorem Fun.afp {w:World} {lo hi:Nat} {us:List Value} {name:ByteArray} {ql:List Param} {aj:Int} {au:ByteArray} {iw:List ByteArray} {jl:List Ty} {jg:Bool} (h:LvC w lo hi (Fun.pd ⟨name,⟨ql,⟨aj,au,iw,jl⟩,jg⟩⟩) us):∃ abt abu abv yh yj yt zn zo zq,us=[.string name,.slice abt abu abv,.int .i64 aj,.string au,.slice yh yj yt,.slice zn zo zq,.bool jg]:=by
 rw[Fun.ay] at h
 obtain⟨us1,rfl,h1⟩:=h.ahe
 obtain⟨abt,abu,abv,us2,rfl,h2⟩:=h1.aj8
 obtain⟨us3,rfl,h3⟩:=h2.ahe
 obtain⟨us4,rfl,h4⟩:=h3.ahe
 obtain⟨yh,yj,yt,us5,rfl,h5⟩:=h4.aj8
 obtain⟨zn,zo,zq,us6,rfl,h6⟩:=h5.aj8
 obtain⟨us7,rfl,h7⟩:=h6.ahe
 obtain rfl:=h7.nil_
 exact⟨_,_,_,_,_,_,_,_,_,rfl⟩
structure qg where
 package:ByteArray
 name:ByteArray
 version:ByteArray
 resources:List ByteArray
 funcs:List Fun
def qg.pd (t:qg):List PD:=[.lit (.string t.package),.lit (.string t.name),.lit (.string t.version),.row 1 (t.resources.flatMap tu),.row 7 (t.funcs.flatMap Fun.pd)]
theorem qg.ay (package:ByteArray) (name:ByteArray) (version:ByteArray) (resources:List ByteArray) (funcs:List Fun):qg.pd ⟨package,name,version,resources,funcs⟩=[.lit (.string package),.lit (.string name),.lit (.string version),.row 1 (resources.flatMap tu),.row 7 (funcs.flatMap Fun.pd)]:=rfl
theorem qg.open_ {w:World} {B:Nat} {cs:List Value} {package:ByteArray} {name:ByteArray} {version:ByteArray} {resources:List ByteArray} {funcs:List Fun} (h:jy w B (qg.pd ⟨package,name,version,resources,funcs⟩) cs):∃ oz aaq,cs=[.string package,.string name,.string version,oz,aaq]∧Rep w B (.row 1 (resources.flatMap tu)) oz∧Rep w B (.row 7 (funcs.flatMap Fun.pd)) aaq:=by
 rw[qg.ay] at h
 obtain⟨cs1,rfl,h1⟩:=h.ad8
 obtain⟨cs2,rfl,h2⟩:=h1.ad8
 obtain⟨cs3,rfl,h3⟩:=h2.ad8
 obtain⟨oz,cs4,rfl,aa8,h4⟩:=h3.of_cons
 obtain⟨aaq,cs5,rfl,ad4,h5⟩:=h4.of_cons
 obtain rfl:=h5.of_nil
 exact⟨_,_,rfl,aa8,ad4⟩
theorem qg.close_ {w:World} {B:Nat} {package:ByteArray} {name:ByteArray} {version:ByteArray} {resources:List ByteArray} {funcs:List Fun} {oz:Value} {aaq:Value} (aa8:Rep w B (.row 1 (resources.flatMap tu)) oz) (ad4:Rep w B (.row 7 (funcs.flatMap Fun.pd)) aaq):jy w B (qg.pd ⟨package,name,version,resources,funcs⟩) [.string package,.string name,.string version,oz,aaq]:=by
 rw[qg.ay]
 exact(((jy.cons aa8 (jy.cons ad4 (jy.nil_))).lit _).lit _).lit _
theorem qg.afp {w:World} {lo hi:Nat} {us:List Value} {package:ByteArray} {name:ByteArray} {version:ByteArray} {resources:List ByteArray} {funcs:List Fun} (h:LvC w lo hi (qg.pd ⟨package,name,version,resources,funcs⟩) us):∃ agt agu agv apy apz ap0,us=[.string package,.string name,.string version,.slice agt agu agv,.slice apy apz ap0]:=by
 rw[qg.ay] at h
 obtain⟨us1,rfl,h1⟩:=h.ahe
 obtain⟨us2,rfl,h2⟩:=h1.ahe
 obtain⟨us3,rfl,h3⟩:=h2.ahe
 obtain⟨agt,agu,agv,us4,rfl,h4⟩:=h3.aj8
 obtain⟨apy,apz,ap0,us5,rfl,h5⟩:=h4.aj8
 obtain rfl:=h5.nil_
 exact⟨_,_,_,_,_,_,rfl⟩
structure Reason where
 kind:Int
 at_:ByteArray
def Reason.pd (t:Reason):List PD:=[.lit (.int .i64 t.kind),.lit (.string t.at_)]
theorem Reason.ay (kind:Int) (at_:ByteArray):Reason.pd ⟨kind,at_⟩=[.lit (.int .i64 kind),.lit (.string at_)]:=rfl
theorem Reason.open_ {w:World} {B:Nat} {cs:List Value} {kind:Int} {at_:ByteArray} (h:jy w B (Reason.pd ⟨kind,at_⟩) cs):cs=[.int .i64 kind,.string at_]:=by
 rw[Reason.ay] at h
 obtain⟨cs1,rfl,h1⟩:=h.ad8
 obtain⟨cs2,rfl,h2⟩:=h1.ad8
 obtain rfl:=h2.of_nil
 exact rfl
theorem Reason.afp {w:World} {lo hi:Nat} {us:List Value} {kind:Int} {at_:ByteArray} (h:LvC w lo hi (Reason.pd ⟨kind,at_⟩) us):us=[.int .i64 kind,.string at_]:=by
 rw[Reason.ay] at h
 obtain⟨us1,rfl,h1⟩:=h.ahe
 obtain⟨us2,rfl,h2⟩:=h1.ahe
 obtain rfl:=h2.nil_
 exact rfl
end Go.Proofs.YtbafphecjijdmaaGreatDoor
namespace Go.Proofs.YtbafphecjijdmaaGreatDoor
open Go.RowKit
set_option linter.unusedVariables false
set_option linter.unusedSimpArgs false
set_option linter.unnecessarySimpa false
set_option maxRecDepth 100000
open Go.ChangeShapes Go.WideShapes Go.ChangeAt
def a0w:Dom:=
 (2,[.int]) ::
 (9,[.str]) ::
 (4,[.bool]) ::
 (140,[.sl 2]) ::
 (22,[.sl 9]) ::
 (50,[.sl 52]) ::
 (52,[.int,.str,.sl 9,.sl 52]) ::
 (49,[.sl 112]) ::
 (112,[.str,.int,.str,.sl 9,.sl 52]) ::
 (54,[.sl 112,.int,.str,.sl 9,.sl 52,.bool]) ::
 (23,[.sl 92]) ::
 (92,[.str,.sl 112,.int,.str,.sl 9,.sl 52,.bool]) ::
 (38,[.sl 25]) ::
 (25,[.str,.str,.str,.sl 9,.sl 92]) ::
 (40,[.str,.str,.str,.sl 25,.sl 25]) ::
 []
theorem bkk:bck Tryz.prog a0w=true:=by kernel_rfl
abbrev ahv:Nat→List TyC:=a0w.env
theorem aqr {ds:List PD} (h:ajo ahv ds [.str]):∃ t,ds=tu t:=by
 obtain⟨h1,h2⟩:=h
 match ds,h1 with
 | [d],_=>obtain⟨n,rfl,_⟩:=ajp (h2 0 _ _ rfl rfl);exact⟨n,rfl⟩
theorem Ty.al7:∀ (N:Nat) (ds:List PD),(∀ d ∈ ds,SizeOf.sizeOf d < N∧d.whole)→ajo ahv ds [.int,.str,.sl 9,.sl 52]→∃ t:Ty,ds=Ty.pd t:=by
 intro N
 induction N with
 | zero=>
  intro ds hs h
  obtain⟨h1,_⟩:=h
  match ds,h1 with
  | d ::_,_=>exact absurd (hs d (by simp)).1 (by omega)
 | succ N ih=>
  intro ds hs h
  obtain⟨h1,h2⟩:=h
  match ds,h1 with
  | [d0,d1,d2,d3],_=>
   obtain⟨kind,rfl,_⟩:=avo (h2 0 _ _ rfl rfl)
   obtain⟨name,rfl,_⟩:=ajp (h2 1 _ _ rfl rfl)
   obtain⟨xs2,rfl,hx2⟩:=ak1 (h2 2 _ _ rfl rfl)
   obtain⟨hz2,hw2⟩:=hs (.row (ahv 9).length xs2) (by simp)
   rw[PD.whole] at hw2
   obtain⟨⟨n2,hn2⟩,bvj⟩:=hw2
   obtain⟨xs3,rfl,hx3⟩:=ak1 (h2 3 _ _ rfl rfl)
   obtain⟨hz3,hw3⟩:=hs (.row (ahv 52).length xs3) (by simp)
   rw[PD.whole] at hw3
   obtain⟨⟨n3,hn3⟩,bcm⟩:=hw3
   obtain⟨labels,rfl⟩:∃ ts,xs2=List.flatMap tu ts:=by
    exact ahd (pd:=tu) (cells:=[.str]) (by decide) n2 xs2 (fun ds _ h=>aqr h) hn2 hx2
   obtain⟨kids,rfl⟩:∃ ts,xs3=List.flatMap Ty.pd ts:=by
    exact ahd (pd:=Ty.pd) (cells:=[.int,.str,.sl 9,.sl 52]) (by decide) n3 xs3 (fun ds hds h=>ih ds (fun d hd=>⟨(by have:=a3y (n:=(ahv 52).length) (hds d hd);omega),ak2 bcm _ (hds d hd)⟩) h) hn3 hx3
   exact⟨⟨kind,name,labels,kids⟩,by rw[Ty.ay]<;>rfl⟩
theorem Param.al7:∀ (N:Nat) (ds:List PD),(∀ d ∈ ds,SizeOf.sizeOf d < N∧d.whole)→ajo ahv ds [.str,.int,.str,.sl 9,.sl 52]→∃ t:Param,ds=Param.pd t:=by
 intro N
 induction N with
 | zero=>
  intro ds hs h
  obtain⟨h1,_⟩:=h
  match ds,h1 with
  | d ::_,_=>exact absurd (hs d (by simp)).1 (by omega)
 | succ N ih=>
  intro ds hs h
  obtain⟨h1,h2⟩:=h
  match ds,h1 with
  | [d0,d1,d2,d3,d4],_=>
   obtain⟨name,rfl,_⟩:=ajp (h2 0 _ _ rfl rfl)
   obtain⟨iy,rfl,_⟩:=avo (h2 1 _ _ rfl rfl)
   obtain⟨ji,rfl,_⟩:=ajp (h2 2 _ _ rfl rfl)
   obtain⟨xs3,rfl,hx3⟩:=ak1 (h2 3 _ _ rfl rfl)
   obtain⟨hz3,hw3⟩:=hs (.row (ahv 9).length xs3) (by simp)
   rw[PD.whole] at hw3
   obtain⟨⟨n3,hn3⟩,bcm⟩:=hw3
   obtain⟨xs4,rfl,hx4⟩:=ak1 (h2 4 _ _ rfl rfl)
   obtain⟨hz4,hw4⟩:=hs (.row (ahv 52).length xs4) (by simp)
   rw[PD.whole] at hw4
   obtain⟨⟨n4,hn4⟩,a6z⟩:=hw4
   obtain⟨og,rfl⟩:∃ ts,xs3=List.flatMap tu ts:=by
    exact ahd (pd:=tu) (cells:=[.str]) (by decide) n3 xs3 (fun ds _ h=>aqr h) hn3 hx3
   obtain⟨um,rfl⟩:∃ ts,xs4=List.flatMap Ty.pd ts:=by
    exact ahd (pd:=Ty.pd) (cells:=[.int,.str,.sl 9,.sl 52]) (by decide) n4 xs4 (fun ds hds h=>Ty.al7 _ ds (fun d hd=>⟨Nat.lt_succ_of_lt (List.sizeOf_lt_of_mem (hds d hd)),ak2 a6z _ (hds d hd)⟩) h) hn4 hx4
   exact⟨⟨name,⟨iy,ji,og,um⟩⟩,by rw[Param.ay]<;>rfl⟩
theorem Fun.al7:∀ (N:Nat) (ds:List PD),(∀ d ∈ ds,SizeOf.sizeOf d < N∧d.whole)→ajo ahv ds [.str,.sl 112,.int,.str,.sl 9,.sl 52,.bool]→∃ t:Fun,ds=Fun.pd t:=by
 intro N
 induction N with
 | zero=>
  intro ds hs h
  obtain⟨h1,_⟩:=h
  match ds,h1 with
  | d ::_,_=>exact absurd (hs d (by simp)).1 (by omega)
 | succ N ih=>
  intro ds hs h
  obtain⟨h1,h2⟩:=h
  match ds,h1 with
  | [d0,d1,d2,d3,d4,d5,d6],_=>
   obtain⟨name,rfl,_⟩:=ajp (h2 0 _ _ rfl rfl)
   obtain⟨xs1,rfl,hx1⟩:=ak1 (h2 1 _ _ rfl rfl)
   obtain⟨hz1,hw1⟩:=hs (.row (ahv 112).length xs1) (by simp)
   rw[PD.whole] at hw1
   obtain⟨⟨n1,hn1⟩,bny⟩:=hw1
   obtain⟨aj,rfl,_⟩:=avo (h2 2 _ _ rfl rfl)
   obtain⟨au,rfl,_⟩:=ajp (h2 3 _ _ rfl rfl)
   obtain⟨xs4,rfl,hx4⟩:=ak1 (h2 4 _ _ rfl rfl)
   obtain⟨hz4,hw4⟩:=hs (.row (ahv 9).length xs4) (by simp)
   rw[PD.whole] at hw4
   obtain⟨⟨n4,hn4⟩,a6z⟩:=hw4
   obtain⟨xs5,rfl,hx5⟩:=ak1 (h2 5 _ _ rfl rfl)
   obtain⟨hz5,hw5⟩:=hs (.row (ahv 52).length xs5) (by simp)
   rw[PD.whole] at hw5
   obtain⟨⟨n5,hn5⟩,bnz⟩:=hw5
   obtain⟨jg,rfl⟩:=a9u (h2 6 _ _ rfl rfl)
   obtain⟨ql,rfl⟩:∃ ts,xs1=List.flatMap Param.pd ts:=by
    exact ahd (pd:=Param.pd) (cells:=[.str,.int,.str,.sl 9,.sl 52]) (by decide) n1 xs1 (fun ds hds h=>Param.al7 _ ds (fun d hd=>⟨Nat.lt_succ_of_lt (List.sizeOf_lt_of_mem (hds d hd)),ak2 bny _ (hds d hd)⟩) h) hn1 hx1
   obtain⟨iw,rfl⟩:∃ ts,xs4=List.flatMap tu ts:=by
    exact ahd (pd:=tu) (cells:=[.str]) (by decide) n4 xs4 (fun ds _ h=>aqr h) hn4 hx4
   obtain⟨jl,rfl⟩:∃ ts,xs5=List.flatMap Ty.pd ts:=by
    exact ahd (pd:=Ty.pd) (cells:=[.int,.str,.sl 9,.sl 52]) (by decide) n5 xs5 (fun ds hds h=>Ty.al7 _ ds (fun d hd=>⟨Nat.lt_succ_of_lt (List.sizeOf_lt_of_mem (hds d hd)),ak2 bnz _ (hds d hd)⟩) h) hn5 hx5
   exact⟨⟨name,⟨ql,⟨aj,au,iw,jl⟩,jg⟩⟩,by rw[Fun.ay]<;>rfl⟩
theorem qg.al7:∀ (N:Nat) (ds:List PD),(∀ d ∈ ds,SizeOf.sizeOf d < N∧d.whole)→ajo ahv ds [.str,.str,.str,.sl 9,.sl 92]→∃ t:qg,ds=qg.pd t:=by
 intro N
 induction N with
 | zero=>
  intro ds hs h
  obtain⟨h1,_⟩:=h
  match ds,h1 with
  | d ::_,_=>exact absurd (hs d (by simp)).1 (by omega)
 | succ N ih=>
  intro ds hs h
  obtain⟨h1,h2⟩:=h
  match ds,h1 with
  | [d0,d1,d2,d3,d4],_=>
   obtain⟨package,rfl,_⟩:=ajp (h2 0 _ _ rfl rfl)
   obtain⟨name,rfl,_⟩:=ajp (h2 1 _ _ rfl rfl)
   obtain⟨version,rfl,_⟩:=ajp (h2 2 _ _ rfl rfl)
   obtain⟨xs3,rfl,hx3⟩:=ak1 (h2 3 _ _ rfl rfl)
   obtain⟨hz3,hw3⟩:=hs (.row (ahv 9).length xs3) (by simp)
   rw[PD.whole] at hw3
   obtain⟨⟨n3,hn3⟩,bcm⟩:=hw3
   obtain⟨xs4,rfl,hx4⟩:=ak1 (h2 4 _ _ rfl rfl)
   obtain⟨hz4,hw4⟩:=hs (.row (ahv 92).length xs4) (by simp)
   rw[PD.whole] at hw4
   obtain⟨⟨n4,hn4⟩,a6z⟩:=hw4
   obtain⟨resources,rfl⟩:∃ ts,xs3=List.flatMap tu ts:=by
    exact ahd (pd:=tu) (cells:=[.str]) (by decide) n3 xs3 (fun ds _ h=>aqr h) hn3 hx3
   obtain⟨funcs,rfl⟩:∃ ts,xs4=List.flatMap Fun.pd ts:=by
    exact ahd (pd:=Fun.pd) (cells:=[.str,.sl 112,.int,.str,.sl 9,.sl 52,.bool]) (by decide) n4 xs4 (fun ds hds h=>Fun.al7 _ ds (fun d hd=>⟨Nat.lt_succ_of_lt (List.sizeOf_lt_of_mem (hds d hd)),ak2 a6z _ (hds d hd)⟩) h) hn4 hx4
   exact⟨⟨package,name,version,resources,funcs⟩,by rw[qg.ay]<;>rfl⟩
def ax2 (w:World) (v:Value):Prop:=∃ (t:qg) (cs:List Value),v=.agg cs.toArray∧PD.wfL (qg.pd t)∧jy w w.heap.size (qg.pd t) cs
theorem a5m {H:Type} {enc:TypeId×Value→H} {w:World} {base b0:Nat} {spare:Nat→Bool} {held:Bool} {r:Reach} {v:Value} {d:DataW H} {ps:List MemPlace} (hv:Value.okWide Tryz.prog w r b0 25 v) (h:DataW.Trod enc Tryz.prog w base spare held 25 v d ps):ax2 w v:=by
 obtain⟨cs,rfl,ds,hc,hr⟩:=a3w (dom:=a0w) Tryz.underlying25 bkk rfl hv h
 obtain⟨t,rfl⟩:=qg.al7 _ ds (fun d hd=>⟨Nat.lt_succ_of_lt (List.sizeOf_lt_of_mem hd),hr.whole d hd⟩) hc
 exact⟨t,cs,rfl,hc.wf,hr⟩
end Go.Proofs.YtbafphecjijdmaaGreatDoor
