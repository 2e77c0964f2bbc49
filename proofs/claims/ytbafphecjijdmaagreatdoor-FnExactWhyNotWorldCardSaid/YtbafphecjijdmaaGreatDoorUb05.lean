/-
  The program's structs and their plain data (by program: tygen2.py). No program in sight. (and 1 more texts)
-/
import Derived.Test.YtbafphecjijdmaaGreatDoorUb04
namespace Go.Proofs.YtbafphecjijdmaaGreatDoor
open Go.RowKit
set_option linter.all false
set_option maxRecDepth 100000
inductive Ty where
 | mk (kind:Int) (name:ByteArray) (labels:List ByteArray) (kids:List Ty)
mutual
def Ty.pd:Ty→List PD
 | .mk kind name labels kids=>[.lit (.int .i64 kind),.lit (.string name),.row 1 (labels.flatMap qj),.row 4 (Ty.pdS kids)]
def Ty.pdS:List Ty→List PD
 | []=>[]
 | t ::r=>Ty.pd t ++Ty.pdS r
end
theorem Ty.bfx:∀ ts:List Ty,Ty.pdS ts=ts.flatMap Ty.pd
 | []=>by rw[Ty.pdS];rfl
 | t ::r=>by rw[Ty.pdS,Ty.bfx r,List.flatMap_cons]
theorem Ty.aj (kind:Int) (name:ByteArray) (labels:List ByteArray) (kids:List Ty):Ty.pd ⟨kind,name,labels,kids⟩=[.lit (.int .i64 kind),.lit (.string name),.row 1 (labels.flatMap qj),.row 4 (kids.flatMap Ty.pd)]:=by rw[Ty.pd,Ty.bfx]
theorem Ty.jd (t:Ty):(Ty.pd t).length=4:=by obtain⟨kind,name,labels,kids⟩:=t;rw[Ty.aj];rfl
theorem Ty.open_ {w:World} {B:Nat} {cs:List Value} {kind:Int} {name:ByteArray} {labels:List ByteArray} {kids:List Ty} (h:lq w B (Ty.pd ⟨kind,name,labels,kids⟩) cs):∃ iw qw,cs=[.int .i64 kind,.string name,iw,qw]∧Rep w B (.row 1 (labels.flatMap qj)) iw∧Rep w B (.row 4 (kids.flatMap Ty.pd)) qw:=by
 rw[Ty.aj] at h
 obtain⟨cs1,rfl,h1⟩:=h.ad8
 obtain⟨cs2,rfl,h2⟩:=h1.ad8
 obtain⟨iw,cs3,rfl,bf,h3⟩:=h2.of_cons
 obtain⟨qw,cs4,rfl,gu,h4⟩:=h3.of_cons
 obtain rfl:=h4.of_nil
 exact⟨_,_,rfl,bf,gu⟩
theorem Ty.close_ {w:World} {B:Nat} {kind:Int} {name:ByteArray} {labels:List ByteArray} {kids:List Ty} {iw:Value} {qw:Value} (bf:Rep w B (.row 1 (labels.flatMap qj)) iw) (gu:Rep w B (.row 4 (kids.flatMap Ty.pd)) qw):lq w B (Ty.pd ⟨kind,name,labels,kids⟩) [.int .i64 kind,.string name,iw,qw]:=by
 rw[Ty.aj]
 exact((lq.cons bf (lq.cons gu (lq.nil_))).lit _).lit _
theorem Ty.afv {w:World} {lo hi:Nat} {us:List Value} {kind:Int} {name:ByteArray} {labels:List ByteArray} {kids:List Ty} (h:LvC w lo hi (Ty.pd ⟨kind,name,labels,kids⟩) us):∃ jo ig ji qg gy l9,us=[.int .i64 kind,.string name,.slice jo ig ji,.slice qg gy l9]:=by
 rw[Ty.aj] at h
 obtain⟨us1,rfl,h1⟩:=h.ag7
 obtain⟨us2,rfl,h2⟩:=h1.ag7
 obtain⟨jo,ig,ji,us3,rfl,h3⟩:=h2.ajf
 obtain⟨qg,gy,l9,us4,rfl,h4⟩:=h3.ajf
 obtain rfl:=h4.nil_
 exact⟨_,_,_,_,_,_,rfl⟩
structure Param where
 name:ByteArray
 typ:Ty
def Param.pd (t:Param):List PD:=[.lit (.string t.name)] ++Ty.pd t.typ
theorem Param.aj (name:ByteArray) (je:Int) (jm:ByteArray) (ou:List ByteArray) (uj:List Ty):Param.pd ⟨name,⟨je,jm,ou,uj⟩⟩=[.lit (.string name),.lit (.int .i64 je),.lit (.string jm),.row 1 (ou.flatMap qj),.row 4 (uj.flatMap Ty.pd)]:=by simp only[Param.pd,Ty.aj];rfl
theorem Param.jd (t:Param):(Param.pd t).length=5:=by obtain⟨name,⟨je,jm,ou,uj⟩⟩:=t;rw[Param.aj];rfl
theorem Param.open_ {w:World} {B:Nat} {cs:List Value} {name:ByteArray} {je:Int} {jm:ByteArray} {ou:List ByteArray} {uj:List Ty} (h:lq w B (Param.pd ⟨name,⟨je,jm,ou,uj⟩⟩) cs):∃ aa0 ab7,cs=[.string name,.int .i64 je,.string jm,aa0,ab7]∧Rep w B (.row 1 (ou.flatMap qj)) aa0∧Rep w B (.row 4 (uj.flatMap Ty.pd)) ab7:=by
 rw[Param.aj] at h
 obtain⟨cs1,rfl,h1⟩:=h.ad8
 obtain⟨cs2,rfl,h2⟩:=h1.ad8
 obtain⟨cs3,rfl,h3⟩:=h2.ad8
 obtain⟨aa0,cs4,rfl,abo,h4⟩:=h3.of_cons
 obtain⟨ab7,cs5,rfl,acw,h5⟩:=h4.of_cons
 obtain rfl:=h5.of_nil
 exact⟨_,_,rfl,abo,acw⟩
theorem Param.close_ {w:World} {B:Nat} {name:ByteArray} {je:Int} {jm:ByteArray} {ou:List ByteArray} {uj:List Ty} {aa0:Value} {ab7:Value} (abo:Rep w B (.row 1 (ou.flatMap qj)) aa0) (acw:Rep w B (.row 4 (uj.flatMap Ty.pd)) ab7):lq w B (Param.pd ⟨name,⟨je,jm,ou,uj⟩⟩) [.string name,.int .i64 je,.string jm,aa0,ab7]:=by
 rw[Param.aj]
 exact(((lq.cons abo (lq.cons acw (lq.nil_))).lit _).lit _).lit _
theorem Param.afv {w:World} {lo hi:Nat} {us:List Value} {name:ByteArray} {je:Int} {jm:ByteArray} {ou:List ByteArray} {uj:List Ty} (h:LvC w lo hi (Param.pd ⟨name,⟨je,jm,ou,uj⟩⟩) us):∃ abr abt abu ac0 ac1 ac2,us=[.string name,.int .i64 je,.string jm,.slice abr abt abu,.slice ac0 ac1 ac2]:=by
 rw[Param.aj] at h
 obtain⟨us1,rfl,h1⟩:=h.ag7
 obtain⟨us2,rfl,h2⟩:=h1.ag7
 obtain⟨us3,rfl,h3⟩:=h2.ag7
 obtain⟨abr,abt,abu,us4,rfl,h4⟩:=h3.ajf
 obtain⟨ac0,ac1,ac2,us5,rfl,h5⟩:=h4.ajf
 obtain rfl:=h5.nil_
 exact⟨_,_,_,_,_,_,rfl⟩
structure jh where
 params:List Param
 result:Ty
 async:Bool
def jh.pd (t:jh):List PD:=[.row 5 (t.params.flatMap Param.pd)] ++Ty.pd t.result ++[.lit (.bool t.async)]
theorem jh.aj (params:List Param) (dh:Int) (dn:ByteArray) (ku:List ByteArray) (ny:List Ty) (async:Bool):jh.pd ⟨params,⟨dh,dn,ku,ny⟩,async⟩=[.row 5 (params.flatMap Param.pd),.lit (.int .i64 dh),.lit (.string dn),.row 1 (ku.flatMap qj),.row 4 (ny.flatMap Ty.pd),.lit (.bool async)]:=by simp only[jh.pd,Ty.aj];rfl
theorem jh.open_ {w:World} {B:Nat} {cs:List Value} {params:List Param} {dh:Int} {dn:ByteArray} {ku:List ByteArray} {ny:List Ty} {async:Bool} (h:lq w B (jh.pd ⟨params,⟨dh,dn,ku,ny⟩,async⟩) cs):∃ aeh pq uf,cs=[aeh,.int .i64 dh,.string dn,pq,uf,.bool async]∧Rep w B (.row 5 (params.flatMap Param.pd)) aeh∧Rep w B (.row 1 (ku.flatMap qj)) pq∧Rep w B (.row 4 (ny.flatMap Ty.pd)) uf:=by
 rw[jh.aj] at h
 obtain⟨aeh,cs1,rfl,aea,h1⟩:=h.of_cons
 obtain⟨cs2,rfl,h2⟩:=h1.ad8
 obtain⟨cs3,rfl,h3⟩:=h2.ad8
 obtain⟨pq,cs4,rfl,aao,h4⟩:=h3.of_cons
 obtain⟨uf,cs5,rfl,aa2,h5⟩:=h4.of_cons
 obtain⟨cs6,rfl,h6⟩:=h5.ad8
 obtain rfl:=h6.of_nil
 exact⟨_,_,_,rfl,aea,aao,aa2⟩
theorem jh.close_ {w:World} {B:Nat} {params:List Param} {dh:Int} {dn:ByteArray} {ku:List ByteArray} {ny:List Ty} {async:Bool} {aeh:Value} {pq:Value} {uf:Value} (aea:Rep w B (.row 5 (params.flatMap Param.pd)) aeh) (aao:Rep w B (.row 1 (ku.flatMap qj)) pq) (aa2:Rep w B (.row 4 (ny.flatMap Ty.pd)) uf):lq w B (jh.pd ⟨params,⟨dh,dn,ku,ny⟩,async⟩) [aeh,.int .i64 dh,.string dn,pq,uf,.bool async]:=by
 rw[jh.aj]
 exact lq.cons aea (((lq.cons aao (lq.cons aa2 ((lq.nil_).lit _))).lit _).lit _)
theorem jh.afv {w:World} {lo hi:Nat} {us:List Value} {params:List Param} {dh:Int} {dn:ByteArray} {ku:List ByteArray} {ny:List Ty} {async:Bool} (h:LvC w lo hi (jh.pd ⟨params,⟨dh,dn,ku,ny⟩,async⟩) us):∃ aj9 akb akc aep aer aes afd afe aff,us=[.slice aj9 akb akc,.int .i64 dh,.string dn,.slice aep aer aes,.slice afd afe aff,.bool async]:=by
 rw[jh.aj] at h
 obtain⟨aj9,akb,akc,us1,rfl,h1⟩:=h.ajf
 obtain⟨us2,rfl,h2⟩:=h1.ag7
 obtain⟨us3,rfl,h3⟩:=h2.ag7
 obtain⟨aep,aer,aes,us4,rfl,h4⟩:=h3.ajf
 obtain⟨afd,afe,aff,us5,rfl,h5⟩:=h4.ajf
 obtain⟨us6,rfl,h6⟩:=h5.ag7
 obtain rfl:=h6.nil_
 exact⟨_,_,_,_,_,_,_,_,_,rfl⟩
structure Fun where
 name:ByteArray
 typ:jh
def Fun.pd (t:Fun):List PD:=[.lit (.string t.name)] ++jh.pd t.typ
theorem Fun.aj (name:ByteArray) (qm:List Param) (au:Int) (ay:ByteArray) (iy:List ByteArray) (jq:List Ty) (jl:Bool):Fun.pd ⟨name,⟨qm,⟨au,ay,iy,jq⟩,jl⟩⟩=[.lit (.string name),.row 5 (qm.flatMap Param.pd),.lit (.int .i64 au),.lit (.string ay),.row 1 (iy.flatMap qj),.row 4 (jq.flatMap Ty.pd),.lit (.bool jl)]:=by simp only[Fun.pd,jh.aj];rfl
theorem Fun.jd (t:Fun):(Fun.pd t).length=7:=by obtain⟨name,⟨qm,⟨au,ay,iy,jq⟩,jl⟩⟩:=t;rw[Fun.aj];rfl
theorem Fun.open_ {w:World} {B:Nat} {cs:List Value} {name:ByteArray} {qm:List Param} {au:Int} {ay:ByteArray} {iy:List ByteArray} {jq:List Ty} {jl:Bool} (h:lq w B (Fun.pd ⟨name,⟨qm,⟨au,ay,iy,jq⟩,jl⟩⟩) cs):∃ aa1 su xu,cs=[.string name,aa1,.int .i64 au,.string ay,su,xu,.bool jl]∧Rep w B (.row 5 (qm.flatMap Param.pd)) aa1∧Rep w B (.row 1 (iy.flatMap qj)) su∧Rep w B (.row 4 (jq.flatMap Ty.pd)) xu:=by
 rw[Fun.aj] at h
 obtain⟨cs1,rfl,h1⟩:=h.ad8
 obtain⟨aa1,cs2,rfl,acr,h2⟩:=h1.of_cons
 obtain⟨cs3,rfl,h3⟩:=h2.ad8
 obtain⟨cs4,rfl,h4⟩:=h3.ad8
 obtain⟨su,cs5,rfl,zy,h5⟩:=h4.of_cons
 obtain⟨xu,cs6,rfl,aar,h6⟩:=h5.of_cons
 obtain⟨cs7,rfl,h7⟩:=h6.ad8
 obtain rfl:=h7.of_nil
 exact⟨_,_,_,rfl,acr,zy,aar⟩
theorem Fun.close_ {w:World} {B:Nat} {name:ByteArray} {qm:List Param} {au:Int} {ay:ByteArray} {iy:List ByteArray} {jq:List Ty} {jl:Bool} {aa1:Value} {su:Value} {xu:Value} (acr:Rep w B (.row 5 (qm.flatMap Param.pd)) aa1) (zy:Rep w B (.row 1 (iy.flatMap qj)) su) (aar:Rep w B (.row 4 (jq.flatMap Ty.pd)) xu):lq w B (Fun.pd ⟨name,⟨qm,⟨au,ay,iy,jq⟩,jl⟩⟩) [.string name,aa1,.int .i64 au,.string ay,su,xu,.bool jl]:=by
 rw[Fun.aj]
 exact(lq.cons acr (((lq.cons zy (lq.cons aar ((lq.nil_).lit _))).lit _).lit _)).lit _
theorem Fun.afv {w:World} {lo hi:Nat} {us:List Value} {name:ByteArray} {qm:List Param} {au:Int} {ay:ByteArray} {iy:List ByteArray} {jq:List Ty} {jl:Bool} (h:LvC w lo hi (Fun.pd ⟨name,⟨qm,⟨au,ay,iy,jq⟩,jl⟩⟩) us):∃ ab3 ab4 ab5 yu yw yx aad aae aaf,us=[.string name,.slice ab3 ab4 ab5,.int .i64 au,.string ay,.slice yu yw yx,.slice aad aae aaf,.bool jl]:=by
 rw[Fun.aj] at h
 obtain⟨us1,rfl,h1⟩:=h.ag7
 obtain⟨ab3,ab4,ab5,us2,rfl,h2⟩:=h1.ajf
 obtain⟨us3,rfl,h3⟩:=h2.ag7
 obtain⟨us4,rfl,h4⟩:=h3.ag7
 obtain⟨yu,yw,yx,us5,rfl,h5⟩:=h4.ajf
 obtain⟨aad,aae,aaf,us6,rfl,h6⟩:=h5.ajf
 obtain⟨us7,rfl,h7⟩:=h6.ag7
 obtain rfl:=h7.nil_
 exact⟨_,_,_,_,_,_,_,_,_,rfl⟩
structure cu where
 package:ByteArray
 name:ByteArray
 version:ByteArray
 resources:List ByteArray
 funcs:List Fun
def cu.pd (t:cu):List PD:=[.lit (.string t.package),.lit (.string t.name),.lit (.string t.version),.row 1 (t.resources.flatMap qj),.row 7 (t.funcs.flatMap Fun.pd)]
theorem cu.aj (package:ByteArray) (name:ByteArray) (version:ByteArray) (resources:List ByteArray) (funcs:List Fun):cu.pd ⟨package,name,version,resources,funcs⟩=[.lit (.string package),.lit (.string name),.lit (.string version),.row 1 (resources.flatMap qj),.row 7 (funcs.flatMap Fun.pd)]:=rfl
theorem cu.jd (t:cu):(cu.pd t).length=5:=by obtain⟨package,name,version,resources,funcs⟩:=t;rw[cu.aj];rfl
theorem cu.open_ {w:World} {B:Nat} {cs:List Value} {package:ByteArray} {name:ByteArray} {version:ByteArray} {resources:List ByteArray} {funcs:List Fun} (h:lq w B (cu.pd ⟨package,name,version,resources,funcs⟩) cs):∃ aai adq,cs=[.string package,.string name,.string version,aai,adq]∧Rep w B (.row 1 (resources.flatMap qj)) aai∧Rep w B (.row 7 (funcs.flatMap Fun.pd)) adq:=by
 rw[cu.aj] at h
 obtain⟨cs1,rfl,h1⟩:=h.ad8
 obtain⟨cs2,rfl,h2⟩:=h1.ad8
 obtain⟨cs3,rfl,h3⟩:=h2.ad8
 obtain⟨aai,cs4,rfl,abl,h4⟩:=h3.of_cons
 obtain⟨adq,cs5,rfl,aei,h5⟩:=h4.of_cons
 obtain rfl:=h5.of_nil
 exact⟨_,_,rfl,abl,aei⟩
theorem cu.close_ {w:World} {B:Nat} {package:ByteArray} {name:ByteArray} {version:ByteArray} {resources:List ByteArray} {funcs:List Fun} {aai:Value} {adq:Value} (abl:Rep w B (.row 1 (resources.flatMap qj)) aai) (aei:Rep w B (.row 7 (funcs.flatMap Fun.pd)) adq):lq w B (cu.pd ⟨package,name,version,resources,funcs⟩) [.string package,.string name,.string version,aai,adq]:=by
 rw[cu.aj]
 exact(((lq.cons abl (lq.cons aei (lq.nil_))).lit _).lit _).lit _
theorem cu.afv {w:World} {lo hi:Nat} {us:List Value} {package:ByteArray} {name:ByteArray} {version:ByteArray} {resources:List ByteArray} {funcs:List Fun} (h:LvC w lo hi (cu.pd ⟨package,name,version,resources,funcs⟩) us):∃ ag1 ag2 ag3 ap9 aqa aqb,us=[.string package,.string name,.string version,.slice ag1 ag2 ag3,.slice ap9 aqa aqb]:=by
 rw[cu.aj] at h
 obtain⟨us1,rfl,h1⟩:=h.ag7
 obtain⟨us2,rfl,h2⟩:=h1.ag7
 obtain⟨us3,rfl,h3⟩:=h2.ag7
 obtain⟨ag1,ag2,ag3,us4,rfl,h4⟩:=h3.ajf
 obtain⟨ap9,aqa,aqb,us5,rfl,h5⟩:=h4.ajf
 obtain rfl:=h5.nil_
 exact⟨_,_,_,_,_,_,rfl⟩
structure Wld where
 package:ByteArray
 name:ByteArray
 version:ByteArray
 imports:List cu
 exports:List cu
def Wld.pd (t:Wld):List PD:=[.lit (.string t.package),.lit (.string t.name),.lit (.string t.version),.row 5 (t.imports.flatMap cu.pd),.row 5 (t.exports.flatMap cu.pd)]
theorem Wld.aj (package:ByteArray) (name:ByteArray) (version:ByteArray) (imports:List cu) (exports:List cu):Wld.pd ⟨package,name,version,imports,exports⟩=[.lit (.string package),.lit (.string name),.lit (.string version),.row 5 (imports.flatMap cu.pd),.row 5 (exports.flatMap cu.pd)]:=rfl
theorem Wld.open_ {w:World} {B:Nat} {cs:List Value} {package:ByteArray} {name:ByteArray} {version:ByteArray} {imports:List cu} {exports:List cu} (h:lq w B (Wld.pd ⟨package,name,version,imports,exports⟩) cs):∃ aag zl,cs=[.string package,.string name,.string version,aag,zl]∧Rep w B (.row 5 (imports.flatMap cu.pd)) aag∧Rep w B (.row 5 (exports.flatMap cu.pd)) zl:=by
 rw[Wld.aj] at h
 obtain⟨cs1,rfl,h1⟩:=h.ad8
 obtain⟨cs2,rfl,h2⟩:=h1.ad8
 obtain⟨cs3,rfl,h3⟩:=h2.ad8
 obtain⟨aag,cs4,rfl,aho,h4⟩:=h3.of_cons
 obtain⟨zl,cs5,rfl,ahp,h5⟩:=h4.of_cons
 obtain rfl:=h5.of_nil
 exact⟨_,_,rfl,aho,ahp⟩
theorem Wld.close_ {w:World} {B:Nat} {package:ByteArray} {name:ByteArray} {version:ByteArray} {imports:List cu} {exports:List cu} {aag:Value} {zl:Value} (aho:Rep w B (.row 5 (imports.flatMap cu.pd)) aag) (ahp:Rep w B (.row 5 (exports.flatMap cu.pd)) zl):lq w B (Wld.pd ⟨package,name,version,imports,exports⟩) [.string package,.string name,.string version,aag,zl]:=by
 rw[Wld.aj]
 exact(((lq.cons aho (lq.cons ahp (lq.nil_))).lit _).lit _).lit _
theorem Wld.afv {w:World} {lo hi:Nat} {us:List Value} {package:ByteArray} {name:ByteArray} {version:ByteArray} {imports:List cu} {exports:List cu} (h:LvC w lo hi (Wld.pd ⟨package,name,version,imports,exports⟩) us):∃ aiz ai0 ai1 aod aoe aof,us=[.string package,.string name,.string version,.slice aiz ai0 ai1,.slice aod aoe aof]:=by
 rw[Wld.aj] at h
 obtain⟨us1,rfl,h1⟩:=h.ag7
 obtain⟨us2,rfl,h2⟩:=h1.ag7
 obtain⟨us3,rfl,h3⟩:=h2.ag7
 obtain⟨aiz,ai0,ai1,us4,rfl,h4⟩:=h3.ajf
 obtain⟨aod,aoe,aof,us5,rfl,h5⟩:=h4.ajf
 obtain rfl:=h5.nil_
 exact⟨_,_,_,_,_,_,rfl⟩
structure Reason where
 kind:Int
 at_:ByteArray
def Reason.pd (t:Reason):List PD:=[.lit (.int .i64 t.kind),.lit (.string t.at_)]
theorem Reason.aj (kind:Int) (at_:ByteArray):Reason.pd ⟨kind,at_⟩=[.lit (.int .i64 kind),.lit (.string at_)]:=rfl
theorem Reason.open_ {w:World} {B:Nat} {cs:List Value} {kind:Int} {at_:ByteArray} (h:lq w B (Reason.pd ⟨kind,at_⟩) cs):cs=[.int .i64 kind,.string at_]:=by
 rw[Reason.aj] at h
 obtain⟨cs1,rfl,h1⟩:=h.ad8
 obtain⟨cs2,rfl,h2⟩:=h1.ad8
 obtain rfl:=h2.of_nil
 exact rfl
theorem Reason.afv {w:World} {lo hi:Nat} {us:List Value} {kind:Int} {at_:ByteArray} (h:LvC w lo hi (Reason.pd ⟨kind,at_⟩) us):us=[.int .i64 kind,.string at_]:=by
 rw[Reason.aj] at h
 obtain⟨us1,rfl,h1⟩:=h.ag7
 obtain⟨us2,rfl,h2⟩:=h1.ag7
 obtain rfl:=h2.nil_
 exact rfl
end Go.Proofs.YtbafphecjijdmaaGreatDoor
namespace Go.Proofs.YtbafphecjijdmaaGreatDoor
open Go.RowKit
set_option linter.all false
set_option maxRecDepth 100000
open Go.ChangeShapes Go.WideShapes Go.ChangeAt
def a5o:Dom:=
 (2,[.int]) ::
 (9,[.str]) ::
 (4,[.bool]) ::
 (140,[.sl 2]) ::
 (22,[.sl 9]) ::
 (50,[.sl 52]) ::
 (52,[.int,.str,.sl 9,.sl 52]) ::
 (49,[.sl 112]) ::
 (112,[.str,.int,.str,.sl 9,.sl 52]) ::
 (54,[.sl 112,.int,.str,.sl 9,.sl 52,.bool]) ::
 (23,[.sl 92]) ::
 (92,[.str,.sl 112,.int,.str,.sl 9,.sl 52,.bool]) ::
 (38,[.sl 25]) ::
 (25,[.str,.str,.str,.sl 9,.sl 92]) ::
 (40,[.str,.str,.str,.sl 25,.sl 25]) ::
 []
theorem bqt:bil Tryz.prog a5o=true:=by kernel_rfl
abbrev ahx:Nat→List TyC:=a5o.env
theorem asq {ds:List PD} (h:aj0 ahx ds [.str]):∃ t,ds=qj t:=by
 obtain⟨h1,h2⟩:=h
 match ds,h1 with
 | [d],_=>obtain⟨n,rfl,_⟩:=ail (h2 0 _ _ rfl rfl);exact⟨n,rfl⟩
theorem Ty.akd:∀ (N:Nat) (ds:List PD),(∀ d ∈ ds,SizeOf.sizeOf d < N∧d.whole)→aj0 ahx ds [.int,.str,.sl 9,.sl 52]→∃ t:Ty,ds=Ty.pd t:=by
 intro N
 induction N with
 | zero=>
  intro ds hs h
  obtain⟨h1,_⟩:=h
  match ds,h1 with
  | d ::_,_=>exact absurd (hs d (by simp)).1 (by omega)
 | succ N ih=>
  intro ds hs h
  obtain⟨h1,h2⟩:=h
  match ds,h1 with
  | [d0,d1,d2,d3],_=>
   obtain⟨kind,rfl,_⟩:=ayb (h2 0 _ _ rfl rfl)
   obtain⟨name,rfl,_⟩:=ail (h2 1 _ _ rfl rfl)
   obtain⟨xs2,rfl,hx2⟩:=aj8 (h2 2 _ _ rfl rfl)
   obtain⟨hz2,hw2⟩:=hs (.row (ahx 9).length xs2) (by simp)
   rw[PD.whole] at hw2
   obtain⟨⟨n2,hn2⟩,b2y⟩:=hw2
   obtain⟨xs3,rfl,hx3⟩:=aj8 (h2 3 _ _ rfl rfl)
   obtain⟨hz3,hw3⟩:=hs (.row (ahx 52).length xs3) (by simp)
   rw[PD.whole] at hw3
   obtain⟨⟨n3,hn3⟩,a5p⟩:=hw3
   obtain⟨labels,rfl⟩:∃ ts,xs2=List.flatMap qj ts:=by
    exact ag0 (pd:=qj) (cells:=[.str]) (by decide) n2 xs2 (fun ds _ h=>asq h) hn2 hx2
   obtain⟨kids,rfl⟩:∃ ts,xs3=List.flatMap Ty.pd ts:=by
    exact ag0 (pd:=Ty.pd) (cells:=[.int,.str,.sl 9,.sl 52]) (by decide) n3 xs3 (fun ds hds h=>ih ds (fun d hd=>⟨(by have:=a94 (n:=(ahx 52).length) (hds d hd);omega),ajg a5p _ (hds d hd)⟩) h) hn3 hx3
   exact⟨⟨kind,name,labels,kids⟩,by rw[Ty.aj]<;>rfl⟩
theorem Param.akd:∀ (N:Nat) (ds:List PD),(∀ d ∈ ds,SizeOf.sizeOf d < N∧d.whole)→aj0 ahx ds [.str,.int,.str,.sl 9,.sl 52]→∃ t:Param,ds=Param.pd t:=by
 intro N
 induction N with
 | zero=>
  intro ds hs h
  obtain⟨h1,_⟩:=h
  match ds,h1 with
  | d ::_,_=>exact absurd (hs d (by simp)).1 (by omega)
 | succ N ih=>
  intro ds hs h
  obtain⟨h1,h2⟩:=h
  match ds,h1 with
  | [d0,d1,d2,d3,d4],_=>
   obtain⟨name,rfl,_⟩:=ail (h2 0 _ _ rfl rfl)
   obtain⟨je,rfl,_⟩:=ayb (h2 1 _ _ rfl rfl)
   obtain⟨jm,rfl,_⟩:=ail (h2 2 _ _ rfl rfl)
   obtain⟨xs3,rfl,hx3⟩:=aj8 (h2 3 _ _ rfl rfl)
   obtain⟨hz3,hw3⟩:=hs (.row (ahx 9).length xs3) (by simp)
   rw[PD.whole] at hw3
   obtain⟨⟨n3,hn3⟩,a5p⟩:=hw3
   obtain⟨xs4,rfl,hx4⟩:=aj8 (h2 4 _ _ rfl rfl)
   obtain⟨hz4,hw4⟩:=hs (.row (ahx 52).length xs4) (by simp)
   rw[PD.whole] at hw4
   obtain⟨⟨n4,hn4⟩,a1o⟩:=hw4
   obtain⟨ou,rfl⟩:∃ ts,xs3=List.flatMap qj ts:=by
    exact ag0 (pd:=qj) (cells:=[.str]) (by decide) n3 xs3 (fun ds _ h=>asq h) hn3 hx3
   obtain⟨uj,rfl⟩:∃ ts,xs4=List.flatMap Ty.pd ts:=by
    exact ag0 (pd:=Ty.pd) (cells:=[.int,.str,.sl 9,.sl 52]) (by decide) n4 xs4 (fun ds hds h=>Ty.akd _ ds (fun d hd=>⟨Nat.lt_succ_of_lt (List.sizeOf_lt_of_mem (hds d hd)),ajg a1o _ (hds d hd)⟩) h) hn4 hx4
   exact⟨⟨name,⟨je,jm,ou,uj⟩⟩,by rw[Param.aj]<;>rfl⟩
theorem Fun.akd:∀ (N:Nat) (ds:List PD),(∀ d ∈ ds,SizeOf.sizeOf d < N∧d.whole)→aj0 ahx ds [.str,.sl 112,.int,.str,.sl 9,.sl 52,.bool]→∃ t:Fun,ds=Fun.pd t:=by
 intro N
 induction N with
 | zero=>
  intro ds hs h
  obtain⟨h1,_⟩:=h
  match ds,h1 with
  | d ::_,_=>exact absurd (hs d (by simp)).1 (by omega)
 | succ N ih=>
  intro ds hs h
  obtain⟨h1,h2⟩:=h
  match ds,h1 with
  | [d0,d1,d2,d3,d4,d5,d6],_=>
   obtain⟨name,rfl,_⟩:=ail (h2 0 _ _ rfl rfl)
   obtain⟨xs1,rfl,hx1⟩:=aj8 (h2 1 _ _ rfl rfl)
   obtain⟨hz1,hw1⟩:=hs (.row (ahx 112).length xs1) (by simp)
   rw[PD.whole] at hw1
   obtain⟨⟨n1,hn1⟩,buj⟩:=hw1
   obtain⟨au,rfl,_⟩:=ayb (h2 2 _ _ rfl rfl)
   obtain⟨ay,rfl,_⟩:=ail (h2 3 _ _ rfl rfl)
   obtain⟨xs4,rfl,hx4⟩:=aj8 (h2 4 _ _ rfl rfl)
   obtain⟨hz4,hw4⟩:=hs (.row (ahx 9).length xs4) (by simp)
   rw[PD.whole] at hw4
   obtain⟨⟨n4,hn4⟩,a1o⟩:=hw4
   obtain⟨xs5,rfl,hx5⟩:=aj8 (h2 5 _ _ rfl rfl)
   obtain⟨hz5,hw5⟩:=hs (.row (ahx 52).length xs5) (by simp)
   rw[PD.whole] at hw5
   obtain⟨⟨n5,hn5⟩,buk⟩:=hw5
   obtain⟨jl,rfl⟩:=bfw (h2 6 _ _ rfl rfl)
   obtain⟨qm,rfl⟩:∃ ts,xs1=List.flatMap Param.pd ts:=by
    exact ag0 (pd:=Param.pd) (cells:=[.str,.int,.str,.sl 9,.sl 52]) (by decide) n1 xs1 (fun ds hds h=>Param.akd _ ds (fun d hd=>⟨Nat.lt_succ_of_lt (List.sizeOf_lt_of_mem (hds d hd)),ajg buj _ (hds d hd)⟩) h) hn1 hx1
   obtain⟨iy,rfl⟩:∃ ts,xs4=List.flatMap qj ts:=by
    exact ag0 (pd:=qj) (cells:=[.str]) (by decide) n4 xs4 (fun ds _ h=>asq h) hn4 hx4
   obtain⟨jq,rfl⟩:∃ ts,xs5=List.flatMap Ty.pd ts:=by
    exact ag0 (pd:=Ty.pd) (cells:=[.int,.str,.sl 9,.sl 52]) (by decide) n5 xs5 (fun ds hds h=>Ty.akd _ ds (fun d hd=>⟨Nat.lt_succ_of_lt (List.sizeOf_lt_of_mem (hds d hd)),ajg buk _ (hds d hd)⟩) h) hn5 hx5
   exact⟨⟨name,⟨qm,⟨au,ay,iy,jq⟩,jl⟩⟩,by rw[Fun.aj]<;>rfl⟩
theorem cu.akd:∀ (N:Nat) (ds:List PD),(∀ d ∈ ds,SizeOf.sizeOf d < N∧d.whole)→aj0 ahx ds [.str,.str,.str,.sl 9,.sl 92]→∃ t:cu,ds=cu.pd t:=by
 intro N
 induction N with
 | zero=>
  intro ds hs h
  obtain⟨h1,_⟩:=h
  match ds,h1 with
  | d ::_,_=>exact absurd (hs d (by simp)).1 (by omega)
 | succ N ih=>
  intro ds hs h
  obtain⟨h1,h2⟩:=h
  match ds,h1 with
  | [d0,d1,d2,d3,d4],_=>
   obtain⟨package,rfl,_⟩:=ail (h2 0 _ _ rfl rfl)
   obtain⟨name,rfl,_⟩:=ail (h2 1 _ _ rfl rfl)
   obtain⟨version,rfl,_⟩:=ail (h2 2 _ _ rfl rfl)
   obtain⟨xs3,rfl,hx3⟩:=aj8 (h2 3 _ _ rfl rfl)
   obtain⟨hz3,hw3⟩:=hs (.row (ahx 9).length xs3) (by simp)
   rw[PD.whole] at hw3
   obtain⟨⟨n3,hn3⟩,a5p⟩:=hw3
   obtain⟨xs4,rfl,hx4⟩:=aj8 (h2 4 _ _ rfl rfl)
   obtain⟨hz4,hw4⟩:=hs (.row (ahx 92).length xs4) (by simp)
   rw[PD.whole] at hw4
   obtain⟨⟨n4,hn4⟩,a1o⟩:=hw4
   obtain⟨resources,rfl⟩:∃ ts,xs3=List.flatMap qj ts:=by
    exact ag0 (pd:=qj) (cells:=[.str]) (by decide) n3 xs3 (fun ds _ h=>asq h) hn3 hx3
   obtain⟨funcs,rfl⟩:∃ ts,xs4=List.flatMap Fun.pd ts:=by
    exact ag0 (pd:=Fun.pd) (cells:=[.str,.sl 112,.int,.str,.sl 9,.sl 52,.bool]) (by decide) n4 xs4 (fun ds hds h=>Fun.akd _ ds (fun d hd=>⟨Nat.lt_succ_of_lt (List.sizeOf_lt_of_mem (hds d hd)),ajg a1o _ (hds d hd)⟩) h) hn4 hx4
   exact⟨⟨package,name,version,resources,funcs⟩,by rw[cu.aj]<;>rfl⟩
theorem Wld.akd:∀ (N:Nat) (ds:List PD),(∀ d ∈ ds,SizeOf.sizeOf d < N∧d.whole)→aj0 ahx ds [.str,.str,.str,.sl 25,.sl 25]→∃ t:Wld,ds=Wld.pd t:=by
 intro N
 induction N with
 | zero=>
  intro ds hs h
  obtain⟨h1,_⟩:=h
  match ds,h1 with
  | d ::_,_=>exact absurd (hs d (by simp)).1 (by omega)
 | succ N ih=>
  intro ds hs h
  obtain⟨h1,h2⟩:=h
  match ds,h1 with
  | [d0,d1,d2,d3,d4],_=>
   obtain⟨package,rfl,_⟩:=ail (h2 0 _ _ rfl rfl)
   obtain⟨name,rfl,_⟩:=ail (h2 1 _ _ rfl rfl)
   obtain⟨version,rfl,_⟩:=ail (h2 2 _ _ rfl rfl)
   obtain⟨xs3,rfl,hx3⟩:=aj8 (h2 3 _ _ rfl rfl)
   obtain⟨hz3,hw3⟩:=hs (.row (ahx 25).length xs3) (by simp)
   rw[PD.whole] at hw3
   obtain⟨⟨n3,hn3⟩,a5p⟩:=hw3
   obtain⟨xs4,rfl,hx4⟩:=aj8 (h2 4 _ _ rfl rfl)
   obtain⟨hz4,hw4⟩:=hs (.row (ahx 25).length xs4) (by simp)
   rw[PD.whole] at hw4
   obtain⟨⟨n4,hn4⟩,a1o⟩:=hw4
   obtain⟨imports,rfl⟩:∃ ts,xs3=List.flatMap cu.pd ts:=by
    exact ag0 (pd:=cu.pd) (cells:=[.str,.str,.str,.sl 9,.sl 92]) (by decide) n3 xs3 (fun ds hds h=>cu.akd _ ds (fun d hd=>⟨Nat.lt_succ_of_lt (List.sizeOf_lt_of_mem (hds d hd)),ajg a5p _ (hds d hd)⟩) h) hn3 hx3
   obtain⟨exports,rfl⟩:∃ ts,xs4=List.flatMap cu.pd ts:=by
    exact ag0 (pd:=cu.pd) (cells:=[.str,.str,.str,.sl 9,.sl 92]) (by decide) n4 xs4 (fun ds hds h=>cu.akd _ ds (fun d hd=>⟨Nat.lt_succ_of_lt (List.sizeOf_lt_of_mem (hds d hd)),ajg a1o _ (hds d hd)⟩) h) hn4 hx4
   exact⟨⟨package,name,version,imports,exports⟩,by rw[Wld.aj]<;>rfl⟩
def ayc (w:World) (v:Value):Prop:=∃ (t:Wld) (cs:List Value),v=.agg cs.toArray∧PD.wfL (Wld.pd t)∧lq w w.heap.size (Wld.pd t) cs
theorem a5q {H:Type} {enc:TypeId×Value→H} {w:World} {base b0:Nat} {spare:Nat→Bool} {held:Bool} {r:Reach} {v:Value} {d:DataW H} {ps:List MemPlace} (hv:Value.okWide Tryz.prog w r b0 40 v) (h:DataW.Trod enc Tryz.prog w base spare held 40 v d ps):ayc w v:=by
 obtain⟨cs,rfl,ds,hc,hr⟩:=a9z (dom:=a5o) Tryz.underlying40 bqt rfl hv h
 obtain⟨t,rfl⟩:=Wld.akd _ ds (fun d hd=>⟨Nat.lt_succ_of_lt (List.sizeOf_lt_of_mem hd),hr.whole d hd⟩) hc
 exact⟨t,cs,rfl,hc.wf,hr⟩
end Go.Proofs.YtbafphecjijdmaaGreatDoor
