/-
  impl's reading of decimal numerals, strings.Split (by program: gen_rdd.py). (and 1 more texts)
-/
import Derived.Test.YtbafphecjijdmaaGreatDoorUb23
import Derived.Test.YtbafphecjijdmaaGreatDoorUb09
import Derived.Test.YtbafphecjijdmaaGreatDoorUb03
import Derived.Shelf.Strconv.ParseIntPublic10
import Derived.Shelf.Strings.Split
import Derived.Shelf.Vars
import Derived.Lib.CutLaws
import Derived.Test.YtbafphecjijdmaaGreatDoorUb24
import Derived.Test.YtbafphecjijdmaaGreatDoorUb10
import Derived.Test.YtbafphecjijdmaaGreatDoorUb22
namespace Go.Proofs.YtbafphecjijdmaaGreatDoor
open Go.RowKit Go.Shelf
set_option linter.all false
set_option maxRecDepth 100000
def a9f:Go.Shelf.Ren:=⟨fun
  | 129=>194|171=>208|174=>151|205=>207|243=>220|245=>168|246=>174|247=>167|279=>180|280=>181|281=>182|282=>183|283=>195|284=>196|285=>197|286=>198|287=>179|316=>206|317=>214|318=>215|319=>216|320=>217|321=>204|322=>205|337=>222|338=>223|n=>n,fun
  | 0=>0|2=>2|3=>3|4=>4|5=>5|9=>9|20=>20|21=>21|37=>174|46=>183|51=>204|53=>189|75=>169|80=>242|85=>170|127=>233|143=>234|145=>236|167=>188|168=>192|171=>207|173=>209|175=>190|210=>215|212=>224|213=>225|232=>240|233=>241|n=>n,fun
  | 15=>1|16=>2|17=>3|18=>6|19=>7|n=>n⟩
set_option maxHeartbeats 4000000 in
theorem bkf:Lays.n174 Tryz.prog a9f where
 mixed:=by kernel_rfl
 f129:=Tryz.func194.trans (congrArg some (by kernel_rfl))
 f171:=Tryz.func208.trans (congrArg some (by kernel_rfl))
 f174:=Tryz.func151.trans (congrArg some (by kernel_rfl))
 f205:=Tryz.func207.trans (congrArg some (by kernel_rfl))
 f243:=Tryz.func220.trans (congrArg some (by kernel_rfl))
 f245:=Tryz.func168.trans (congrArg some (by kernel_rfl))
 f246:=Tryz.func174.trans (congrArg some (by kernel_rfl))
 f247:=Tryz.func167.trans (congrArg some (by kernel_rfl))
 f279:=Tryz.func180.trans (congrArg some (by kernel_rfl))
 f280:=Tryz.func181.trans (congrArg some (by kernel_rfl))
 f281:=Tryz.func182.trans (congrArg some (by kernel_rfl))
 f282:=Tryz.func183.trans (congrArg some (by kernel_rfl))
 f283:=Tryz.func195.trans (congrArg some (by kernel_rfl))
 f284:=Tryz.func196.trans (congrArg some (by kernel_rfl))
 f285:=Tryz.func197.trans (congrArg some (by kernel_rfl))
 f286:=Tryz.func198.trans (congrArg some (by kernel_rfl))
 f287:=Tryz.func179.trans (congrArg some (by kernel_rfl))
 f316:=Tryz.func206.trans (congrArg some (by kernel_rfl))
 f317:=Tryz.func214.trans (congrArg some (by kernel_rfl))
 f318:=Tryz.func215.trans (congrArg some (by kernel_rfl))
 f319:=Tryz.func216.trans (congrArg some (by kernel_rfl))
 f320:=Tryz.func217.trans (congrArg some (by kernel_rfl))
 f321:=Tryz.func204.trans (congrArg some (by kernel_rfl))
 f322:=Tryz.func205.trans (congrArg some (by kernel_rfl))
 f337:=Tryz.func222.trans (congrArg some (by kernel_rfl))
 f338:=Tryz.func223.trans (congrArg some (by kernel_rfl))
 t0:=by kernel_rfl
 a0:=fun _=>by kernel_rfl
 z0:=fun _=>by kernel_rfl
 v0:=fun _=>by kernel_rfl
 t2:=by kernel_rfl
 a2:=fun _=>by kernel_rfl
 z2:=fun _=>by kernel_rfl
 v2:=fun _=>by kernel_rfl
 t3:=by kernel_rfl
 a3:=fun _=>by kernel_rfl
 z3:=fun _=>by kernel_rfl
 v3:=fun _=>by kernel_rfl
 t4:=by kernel_rfl
 a4:=fun _=>by kernel_rfl
 z4:=fun _=>by kernel_rfl
 v4:=fun _=>by kernel_rfl
 t5:=by kernel_rfl
 a5:=fun _=>by kernel_rfl
 z5:=fun _=>by kernel_rfl
 v5:=fun _=>by kernel_rfl
 t9:=by kernel_rfl
 a9:=fun _=>by kernel_rfl
 z9:=fun _=>by kernel_rfl
 v9:=fun _=>by kernel_rfl
 t20:=by kernel_rfl
 a20:=fun _=>by kernel_rfl
 z20:=fun _=>by kernel_rfl
 v20:=fun _=>by kernel_rfl
 t21:=by kernel_rfl
 a21:=fun _=>by kernel_rfl
 z21:=fun _=>by kernel_rfl
 v21:=fun _=>by kernel_rfl
 t37:=by kernel_rfl
 a37:=fun _=>by kernel_rfl
 z37:=fun _=>by kernel_rfl
 v37:=fun _=>by kernel_rfl
 t46:=by kernel_rfl
 a46:=fun _=>by kernel_rfl
 z46:=fun _=>by kernel_rfl
 v46:=fun _=>by kernel_rfl
 t51:=by kernel_rfl
 a51:=fun _=>by kernel_rfl
 z51:=fun _=>by kernel_rfl
 v51:=fun _=>by kernel_rfl
 t53:=by kernel_rfl
 a53:=fun _=>by kernel_rfl
 z53:=fun _=>by kernel_rfl
 v53:=fun _=>by kernel_rfl
 t75:=by kernel_rfl
 a75:=fun _=>by kernel_rfl
 z75:=fun _=>by kernel_rfl
 v75:=fun _=>by kernel_rfl
 t85:=by kernel_rfl
 a85:=fun _=>by kernel_rfl
 z85:=fun _=>by kernel_rfl
 v85:=fun _=>by kernel_rfl
 t127:=by kernel_rfl
 a127:=fun _=>by kernel_rfl
 z127:=fun _=>by kernel_rfl
 v127:=fun _=>by kernel_rfl
 t143:=by kernel_rfl
 a143:=fun _=>by kernel_rfl
 z143:=fun _=>by kernel_rfl
 v143:=fun _=>by kernel_rfl
 t145:=by kernel_rfl
 a145:=fun _=>by kernel_rfl
 z145:=fun _=>by kernel_rfl
 v145:=fun _=>by kernel_rfl
 t167:=by kernel_rfl
 a167:=fun _=>by kernel_rfl
 z167:=fun _=>by kernel_rfl
 v167:=fun _=>by kernel_rfl
 t168:=by kernel_rfl
 a168:=fun _=>by kernel_rfl
 z168:=fun _=>by kernel_rfl
 v168:=fun _=>by kernel_rfl
 t171:=by kernel_rfl
 a171:=fun _=>by kernel_rfl
 z171:=fun _=>by kernel_rfl
 v171:=fun _=>by kernel_rfl
 t173:=by kernel_rfl
 a173:=fun _=>by kernel_rfl
 z173:=fun _=>by kernel_rfl
 v173:=fun _=>by kernel_rfl
 t175:=by kernel_rfl
 a175:=fun _=>by kernel_rfl
 z175:=fun _=>by kernel_rfl
 v175:=fun _=>by kernel_rfl
 t210:=by kernel_rfl
 a210:=fun _=>by kernel_rfl
 z210:=fun _=>by kernel_rfl
 v210:=fun _=>by kernel_rfl
 t212:=by kernel_rfl
 a212:=fun _=>by kernel_rfl
 z212:=fun _=>by kernel_rfl
 v212:=fun _=>by kernel_rfl
 t213:=by kernel_rfl
 a213:=fun _=>by kernel_rfl
 z213:=fun _=>by kernel_rfl
 t232:=by kernel_rfl
 a232:=fun _=>by kernel_rfl
 z232:=fun _=>by kernel_rfl
 v232:=fun _=>by kernel_rfl
 t233:=by kernel_rfl
 a233:=fun _=>by kernel_rfl
 z233:=fun _=>by kernel_rfl
 v233:=fun _=>by kernel_rfl
 g15:=by kernel_rfl
 g16:=by kernel_rfl
 g17:=by kernel_rfl
 g18:=by kernel_rfl
 g19:=by kernel_rfl
theorem bkg:LaysM.n174 Tryz.prog a9f:={bkf with t80:=by kernel_rfl,a80:=fun _=>by kernel_rfl,z80:=fun _=>by kernel_rfl,v80:=fun _=>by kernel_rfl,i0:=by kernel_rfl,i2:=by kernel_rfl,i3:=by kernel_rfl,i4:=by kernel_rfl,i5:=by kernel_rfl,i9:=by kernel_rfl,i20:=by kernel_rfl,i21:=by kernel_rfl,i37:=by kernel_rfl,i46:=by kernel_rfl,i51:=by kernel_rfl,i53:=by kernel_rfl,i75:=by kernel_rfl,i80:=by kernel_rfl,i85:=by kernel_rfl,i127:=by kernel_rfl,i143:=by kernel_rfl,i145:=by kernel_rfl,i167:=by kernel_rfl,i168:=by kernel_rfl,i171:=by kernel_rfl,i173:=by kernel_rfl,i175:=by kernel_rfl,i210:=by kernel_rfl,i212:=by kernel_rfl,i232:=by kernel_rfl,i233:=by kernel_rfl,m15:=by kernel_rfl,m16:=by kernel_rfl,m17:=by kernel_rfl,m18:=by kernel_rfl,m19:=by kernel_rfl}
theorem a2r:LaysC.n174 Tryz.prog a9f:={toM:=bkg,c0:=by kernel_rfl,c2:=by kernel_rfl,c3:=by kernel_rfl,c4:=by kernel_rfl,c5:=by kernel_rfl,c9:=by kernel_rfl,c20:=by kernel_rfl,c21:=by kernel_rfl,c37:=by kernel_rfl,c46:=by kernel_rfl,c51:=by kernel_rfl,c53:=by kernel_rfl,c75:=by kernel_rfl,c80:=by kernel_rfl,c85:=by kernel_rfl,c127:=by kernel_rfl,c143:=by kernel_rfl,c145:=by kernel_rfl,c167:=by kernel_rfl,c168:=by kernel_rfl,c171:=by kernel_rfl,c173:=by kernel_rfl,c175:=by kernel_rfl,c210:=by kernel_rfl,c212:=by kernel_rfl,c213:=by kernel_rfl,c232:=by kernel_rfl,c233:=by kernel_rfl}
def a2s (w:World) (g:Nat):Prop:=∃ ev,w.cell? ⟨g,0,none⟩=some ev∧(ev=.nilIface∨∃ te pe,ev=.iface te pe)
theorem a9g {P:Program} {w:World} {name:String} {g:Nat} {t:TypeId} {ms:Array (String×TypeId)} {d:DataW Unit} (hg:P.globalNamed name=some g) (ht:(P.globals[g]?).map (·.type)=some t) (hu:P.underlying t=some (.interface ms)) (h:Lib.VarReads P w name d):a2s w g:=by
 obtain⟨g',t',cs,fuel,p,h1,h2,h3,h4⟩:=h
 obtain rfl:=Option.some.inj (hg.symm.trans h1)
 obtain rfl:=Option.some.inj (ht.symm.trans h2)
 have hc:∀ ev,cs.toList=[ev]→w.cell? ⟨g,0,none⟩=some ev:=fun ev he=>by
  unfold World.var? at h3
  rw[hg] at h3
  simp only[Option.bind_some] at h3
  cases hh:w.heap[g]? with
  | none=>rw[hh] at h3;simp at h3
  | some o=>
   rw[hh] at h3
   cases o with
   | cells cur e fz=>
    simp at h3
    subst h3
    have:cur[0]?=some ev:=by rw[← Array.getElem?_toList,he];rfl
    simp[World.cell?,hh,this]
   | _=>simp at h3
 cases fuel with
 | zero=>simp[DataW.trod] at h4
 | succ fuel=>
  unfold DataW.trod at h4
  rw[hu] at h4
  cases hl:cs.toList with
  | nil=>rw[hl] at h4;simp at h4
  | cons x r=>
   rw[hl] at h4
   cases r with
   | cons y r=>cases x<;>simp at h4
   | nil=>cases x<;>first|exact⟨_,hc _ hl,.inl rfl⟩|exact⟨_,hc _ hl,.inr ⟨_,_,rfl⟩⟩|(simp at h4)
def a05 (w:World):Prop:=∃ m,w.cell? ⟨0,0,none⟩=some (.int .i64 m)
def akm (w:World):Prop:=afg w∧a05 w∧a2s w 1∧a2s w 2
theorem a2s.below {w w':World} {g:Nat} (h:a2s w g) (hb:Below w.heap.size w w'):a2s w' g:=by
 obtain⟨ev,h1,h2⟩:=h
 exact⟨ev,(hb.cell (World.block_lt_of_cell? w _ h1)).trans h1,h2⟩
theorem a05.below {w w':World} (h:a05 w) (hb:Below w.heap.size w w'):a05 w':=by
 obtain⟨m,h1⟩:=h
 exact⟨m,(hb.cell (World.block_lt_of_cell? w _ h1)).trans h1⟩
theorem akm.below {w w':World} (h:akm w) (hb:Below w.heap.size w w'):akm w':=⟨h.1.below hb,h.2.1.below hb,h.2.2.1.below hb,h.2.2.2.below hb⟩
theorem parse_any (t:ByteArray) (ht:t.size≤1048576) (w:World) (hT:akm w):Calls Tryz.prog 151 #[.string t,.int .i64 10,.int .i64 64] w fun e w'=>
  Below w.heap.size w w'∧((∃ v,Lib.parseIntB 64 t.data.toList=.ok v∧e=.returned (.tuple #[.int .i64 v,.nilIface]))∨(ah8 t=(0,false)∧∃ n te pe,e=.returned (.tuple #[.int .i64 n,.iface te pe]))):=by
 cases h:Lib.parseIntB 64 t.data.toList with
 | ok v=>
  refine(Any.strconv_ParseInt_10_at64_ok a2r t (by omega) v h w).mono ?_
  rintro e w' ⟨rfl,hw⟩
  refine⟨?_,.inl ⟨v,rfl,rfl⟩⟩
  rcases hw with rfl|⟨t,rfl⟩
  ·exact zqf _ _
  ·exact Lib.bytesWorld_below _ _ _
 | range=>
  obtain⟨ev,h1,h2⟩:=hT.2.2.2
  refine(Any.strconv_ParseInt_10_at64_range a2r t (by omega) h ev w h1 h2).mono ?_
  rintro e w' ⟨N,rfl,_,_,hb⟩
  exact⟨hb,.inr ⟨by rw[ah8,h],_,_,_,rfl⟩⟩
 | _=>
  obtain⟨ev,h1,h2⟩:=hT.2.2.1
  refine(Any.strconv_ParseInt_10_at64_syntax a2r t (by omega) h ev w h1 h2).mono ?_
  rintro e w' ⟨N,rfl,_,_,hb⟩
  exact⟨hb,.inr ⟨by rw[ah8,h],_,_,_,rfl⟩⟩
set_option maxHeartbeats 3200000 in
theorem a06 (t:ByteArray) (ht:t.size≤1048576) (w:World) (hT:akm w):Calls Tryz.prog 127 #[.string t] w fun e w'=>e=.returned (.tuple #[.int .i64 (ah8 t).1,.bool (ah8 t).2])∧Below w.heap.size w w':=by
 have HP:=zqd (parse_any t ht w hT)
 have HT:=zqd hT
 clear hT
 obtain⟨R,hR⟩:∃ R,R=ah8 t:=⟨_,rfl⟩
 rw[← hR]
 have HR:=zqd hR
 clear hR
 go_enter Tryz.func127,Tryz.ntmps127
 go_wp2_with fail
 refine HP.out.mono ?_
 rintro e w1 ⟨hb1,⟨v,hv,rfl⟩|⟨hv,n,te,pe,rfl⟩⟩
 ·have hvw:(Lit.int .i64 v).wf=true:=WalkArith.wf_i64 (bgj hv)
  have HV:=zqd (a2a hv)
  clear hv
  go_wp2_with fail
  refine(axz v hvw _ (HT.out.1.below hb1)).mono ?_
  rintro e w2 ⟨rfl,hb2⟩
  have hB:=hb1.trans (hb2.mono hb1.size)
  by_cases heq:abz v=t
  ·have HF:Hid (R=(v,true)):=by show _=_;rw[HR.out,HV.out,if_pos heq]
   rw[heq]
   clear heq
   go_wp2_with fail
   go_ret2
   exact⟨by rw[HF.out];rfl,hB⟩
  ·have HF:Hid (R=(0,false)):=by show _=_;rw[HR.out,HV.out,if_neg heq]
   have hne:=aeu heq
   clear heq
   go_wp2_with fail
   go_ret2
   exact⟨by rw[HF.out];rfl,hB⟩
 ·have HF:Hid (R=(0,false)):=HR.out.trans hv
  clear hv
  go_wp2_with fail
  go_ret2
  exact⟨by rw[HF.out];rfl,hb1⟩
def br7:Go.Shelf.Ren:=⟨fun
  | 138=>165|143=>166|146=>126|195=>175|197=>176|217=>200|218=>177|219=>178|221=>150|224=>202|225=>201|260=>199|266=>218|267=>203|268=>164|314=>219|n=>n,fun
  | 0=>0|3=>3|4=>4|5=>5|9=>9|21=>21|31=>22|46=>183|51=>204|105=>185|119=>227|138=>229|139=>230|146=>231|n=>n,fun
  | 1=>0|3=>4|4=>5|n=>n⟩
set_option maxHeartbeats 4000000 in
theorem boh:Lays.n146 Tryz.prog br7 where
 mixed:=by kernel_rfl
 f138:=Tryz.func165.trans (congrArg some (by kernel_rfl))
 f143:=Tryz.func166.trans (congrArg some (by kernel_rfl))
 f146:=Tryz.func126.trans (congrArg some (by kernel_rfl))
 f195:=Tryz.func175.trans (congrArg some (by kernel_rfl))
 f197:=Tryz.func176.trans (congrArg some (by kernel_rfl))
 f217:=Tryz.func200.trans (congrArg some (by kernel_rfl))
 f218:=Tryz.func177.trans (congrArg some (by kernel_rfl))
 f219:=Tryz.func178.trans (congrArg some (by kernel_rfl))
 f221:=Tryz.func150.trans (congrArg some (by kernel_rfl))
 f224:=Tryz.func202.trans (congrArg some (by kernel_rfl))
 f225:=Tryz.func201.trans (congrArg some (by kernel_rfl))
 f260:=Tryz.func199.trans (congrArg some (by kernel_rfl))
 f266:=Tryz.func218.trans (congrArg some (by kernel_rfl))
 f267:=Tryz.func203.trans (congrArg some (by kernel_rfl))
 f268:=Tryz.func164.trans (congrArg some (by kernel_rfl))
 f314:=Tryz.func219.trans (congrArg some (by kernel_rfl))
 t0:=by kernel_rfl
 a0:=fun _=>by kernel_rfl
 z0:=fun _=>by kernel_rfl
 v0:=fun _=>by kernel_rfl
 t3:=by kernel_rfl
 a3:=fun _=>by kernel_rfl
 z3:=fun _=>by kernel_rfl
 v3:=fun _=>by kernel_rfl
 t4:=by kernel_rfl
 a4:=fun _=>by kernel_rfl
 z4:=fun _=>by kernel_rfl
 v4:=fun _=>by kernel_rfl
 t5:=by kernel_rfl
 a5:=fun _=>by kernel_rfl
 z5:=fun _=>by kernel_rfl
 v5:=fun _=>by kernel_rfl
 t9:=by kernel_rfl
 a9:=fun _=>by kernel_rfl
 z9:=fun _=>by kernel_rfl
 v9:=fun _=>by kernel_rfl
 t21:=by kernel_rfl
 a21:=fun _=>by kernel_rfl
 z21:=fun _=>by kernel_rfl
 v21:=fun _=>by kernel_rfl
 t31:=by kernel_rfl
 a31:=fun _=>by kernel_rfl
 z31:=fun _=>by kernel_rfl
 v31:=fun _=>by kernel_rfl
 t46:=by kernel_rfl
 a46:=fun _=>by kernel_rfl
 z46:=fun _=>by kernel_rfl
 v46:=fun _=>by kernel_rfl
 t51:=by kernel_rfl
 a51:=fun _=>by kernel_rfl
 z51:=fun _=>by kernel_rfl
 v51:=fun _=>by kernel_rfl
 t105:=by kernel_rfl
 a105:=fun _=>by kernel_rfl
 z105:=fun _=>by kernel_rfl
 v105:=fun _=>by kernel_rfl
 t119:=by kernel_rfl
 a119:=fun _=>by kernel_rfl
 z119:=fun _=>by kernel_rfl
 t138:=by kernel_rfl
 a138:=fun _=>by kernel_rfl
 z138:=fun _=>by kernel_rfl
 v138:=fun _=>by kernel_rfl
 t139:=by kernel_rfl
 a139:=fun _=>by kernel_rfl
 z139:=fun _=>by kernel_rfl
 v139:=fun _=>by kernel_rfl
 t146:=by kernel_rfl
 a146:=fun _=>by kernel_rfl
 z146:=fun _=>by kernel_rfl
 v146:=fun _=>by kernel_rfl
 g1:=by kernel_rfl
 g3:=by kernel_rfl
 g4:=by kernel_rfl
theorem bg2 (s sep:ByteArray) (hs:s.size≤1048576) (h1:1≤sep.size) (w:World) (hm:a05 w):Calls Tryz.prog 126 #[.string s,.string sep] w fun e w'=>
  e=.returned (.slice (some ⟨w.heap.size,0,none⟩) (Lib.countB s sep+1) (Lib.countB s sep+1))∧w'=w.alloc (.cells ((Lib.splitB sep 0 (Lib.countB s sep) s).map Value.string).toArray 9):=by
 obtain⟨m,hm⟩:=hm
 exact Any.strings_Split boh (by kernel_rfl) s sep m w (by omega) hm h1
end Go.Proofs.YtbafphecjijdmaaGreatDoor
namespace Go.Proofs.YtbafphecjijdmaaGreatDoor
open Go.RowKit Go.Shelf
set_option linter.all false
set_option maxRecDepth 16000
theorem aw4 {a a':Int} {b b':Bool} (h1:a=a') (h2:b=b'):Ending.returned (.tuple #[.int .i64 a,.bool b])=.returned (.tuple #[.int .i64 a',.bool b']):=by rw[h1,h2]
set_option maxHeartbeats 6400000 in
theorem arp (s:ByteArray) (hs:s.size≤1048576) (w:World) (hT:akm w):Calls Tryz.prog 94 #[.string s] w fun e w'=>e=.returned (.tuple #[.int .i64 (a8a s),.bool (decide (0≤afh s))])∧Below w.heap.size w w':=by
 have HT:=zqd hT
 have HS:=zqd (bg2 s ⟨#[46]⟩ hs (by decide) w hT.2.1)
 clear hT
 have hlen:=bjl s
 have HM:=zqd (fun p (h:p ∈ an0 s)=>Nat.le_trans (bjm h) hs)
 have HV:Hid (afh s=if (an0 s).length=3 then akx (an0 s) 0 else -1):=rfl
 have hps:Lib.splitB ⟨#[46]⟩ 0 (Lib.countB s ⟨#[46]⟩) s=an0 s:=rfl
 have hcn:Lib.countB s ⟨#[46]⟩=Lib.countB s aoj:=rfl
 rw[hps,hcn] at HS
 obtain⟨n,hn⟩:∃ n,Lib.countB s aoj+1=n:=⟨_,rfl⟩
 rw[hn] at HS hlen
 obtain⟨ps,hp⟩:∃ ps,an0 s=ps:=⟨_,rfl⟩
 rw[hp] at HS hlen HM HV
 clear hps hcn hn hp
 have HL:=zqd hlen
 clear hlen
 go_enter Tryz.func94,Tryz.ntmps94
 go_wp2_with fail
 refine HS.out.mono ?_
 rintro e w1 ⟨rfl,hw1⟩
 have b1:Blk w1 w.heap.size 9 (ps.map Value.string).toArray:=by rw[hw1];exact Blk.new w _ _
 have hB1:=zqb hw1
 clear hw1
 have hs1:w.heap.size < w1.heap.size:=b1.lt
 by_cases h3:n=3
 case neg=>
  have HF:=zqd (ayp (s:=s) (by rw[HV.out,if_neg (by rw[HL.out];exact h3)];omega))
  have h3':¬ (n:Int)=3:=by omega
  clear h3
  go_wp2_with fail
  go_ret2
  exact⟨aw4 HF.out.1.symm HF.out.2.symm,hB1⟩
 have HV2:Hid (afh s=akx ps 0):=by show _=_;rw[HV.out,if_pos (by rw[HL.out];exact h3)]
 subst h3
 go_wp2_with fail
 go_loopw [5,17] (fun u i wr=>∃ (k:Nat) (N:Int),k≤3∧i=.int .i64 k∧u=.int .i64 N∧0≤N∧N≤(1000:Int) ^ k - 1∧Hid (akx ps 0=akx (ps.drop k) N)∧Below w1.heap.size w1 wr) (fun _ i _=>3 - (intOf i).toNat)
 case atStart=>exact⟨0,0,by omega,rfl,rfl,by omega,by omega,zqd rfl,zqf _ _⟩
 case round=>
  obtain⟨k,N,hk,rfl,rfl,hN0,hN1,HP,hbr⟩:=hrel
  have hBr:=hB1.trans (hbr.mono (by omega))
  by_cases hlt:k < 3
  case neg=>
   have hk3:k=3:=by omega
   have HD:Hid (akx ps 0=N):=by show _=_;rw[HP.out,List.drop_of_length_le (by rw[HL.out];omega),akx]
   have HF:=zqd (bnw (s:=s) (HV2.out.trans HD.out) hN0)
   subst hk3
   go_wp2_with fail
   go_ret2
   exact⟨aw4 HF.out.1.symm HF.out.2.symm,hBr⟩
  obtain⟨t,ht,htm⟩:=um (n:=3) (xs:=ps) HL.out.symm hlt
  have hc:wr.cell? ⟨w.heap.size,k,none⟩=some (.string t):=(hbr.cell (p:=⟨w.heap.size,k,none⟩) (by simp only;omega)).trans ((b1.cell k).trans (by simp[ht]))
  have HDR:Hid (ps.drop k=t ::ps.drop (k+1)):=by
   show _=_
   obtain⟨hh,he⟩:=List.getElem?_eq_some_iff.1 ht
   rw[List.drop_eq_getElem_cons hh,he]
  have HR:=zqd (a06 t (HM.out t htm) wr (HT.out.below hBr))
  have hz:N≤999999:=by
   have:k=0∨k=1∨k=2:=by omega
   rcases this with rfl|rfl|rfl<;>omega
  have HPN:Hid (k+1≤3∧∀ v:Int,0≤v→v≤999→N * 1000+v≤(1000:Int) ^ (k+1) - 1):=by
   refine⟨by omega,fun v h0 h1=>?_⟩
   have:k=0∨k=1∨k=2:=by omega
   rcases this with rfl|rfl|rfl<;>omega
  clear ht hN1 hk
  obtain⟨v,hv⟩:∃ v,(ah8 t).1=v:=⟨_,rfl⟩
  obtain⟨o,ho⟩:∃ v,(ah8 t).2=v:=⟨_,rfl⟩
  rw[hv,ho] at HR
  go_wp2_with fail
  refine HR.out.mono ?_
  rintro e w2 ⟨rfl,hb2⟩
  have hB2:=hBr.trans (hb2.mono hBr.size)
  have bwx:=hbr.trans (hb2.mono hbr.size)
  cases o
  case false=>
   have HF:=zqd (ayp (s:=s) (by rw[HV2.out,HP.out,HDR.out,a8b (bny ho)];omega))
   clear hv ho
   go_wp2_with fail
   go_ret2
   exact⟨aw4 HF.out.1.symm HF.out.2.symm,hB2⟩
  cases hin:inB v 0 999
  case false=>
   have HF:=zqd (ayp (s:=s) (by rw[HV2.out,HP.out,HDR.out,a8b (bjn (by rw[hv];exact hin))];omega))
   clear hv ho
   go_wp2_with fail
   refine(og _ _ _ _).mono ?_
   rintro e w' ⟨rfl,rfl⟩
   rw[hin]
   go_wp2_with fail
   go_ret2
   exact⟨aw4 HF.out.1.symm HF.out.2.symm,hB2⟩
  have HQ:Hid (akx ps 0=akx (ps.drop (k+1)) (N * 1000+v)):=by
   show _=_
   have e1:=bnz ho (by rw[hv];exact hin)
   have h0:=agx.1 hin
   rw[HP.out,HDR.out,bnx (by rw[e1,hv];omega),e1,hv]
  obtain⟨v0,v1⟩:=agx.1 hin
  clear hv ho
  go_wp2_with fail
  refine(og _ _ _ _).mono ?_
  rintro e w' ⟨rfl,rfl⟩
  rw[hin]
  go_wp2_with fail
  go_roundw
  case rel=>exact⟨k+1,N * 1000+v,HPN.out.1,by go_num,by go_num,by omega,HPN.out.2 v v0 v1,HQ,bwx⟩
  case measure=>simp[intOf];omega
theorem a07 (s:ByteArray) (hs:s.size≤1048576) (w:World) (hT:akm w):Calls Tryz.prog 61 #[.string s] w fun e w'=>e=.returned (.bool (decide (0≤afh s)))∧Below w.heap.size w w':=by
 have HN:=zqd (arp s hs w hT)
 clear hT
 obtain⟨x,hx⟩:∃ x,decide (0≤afh s)=x:=⟨_,rfl⟩
 obtain⟨y,hy⟩:∃ x,a8a s=x:=⟨_,rfl⟩
 rw[hx,hy] at HN
 rw[hx]
 clear hx hy
 go_enter Tryz.func61,Tryz.ntmps61
 go_wp2_with fail
 refine HN.out.mono ?_
 rintro e w1 ⟨rfl,hb1⟩
 go_wp2_with fail
 go_ret
 exact⟨rfl,hb1⟩
set_option maxHeartbeats 3200000 in
theorem bbd (a b:ByteArray) (ha:a.size≤1048576) (hb:b.size≤1048576) (w:World) (hT:akm w):Calls Tryz.prog 69 #[.string a,.string b] w fun e w'=>e=.returned (.bool (ap2 a b))∧Below w.heap.size w w':=by
 have HA:=zqd (arp a ha w hT)
 have HB:=zqd (fun(V:World) (h:Below w.heap.size w V)=>arp b hb V (hT.below h))
 have rx:=aok a
 have ry:=aok b
 unfold ap2
 unfold a8a at HA HB
 obtain⟨x,hx⟩:∃ x,afh a=x:=⟨_,rfl⟩
 obtain⟨y,hy⟩:∃ x,afh b=x:=⟨_,rfl⟩
 rw[hx] at HA rx ⊢
 rw[hy] at HB ry ⊢
 clear hx hy ha hb hT
 by_cases x0:x < 0
 ·have HF:=zqd (bgo (y:=y) x0)
  rw[if_pos x0,decide_eq_false (by omega)] at HA
  by_cases y0:y < 0
  ·rw[if_pos y0,decide_eq_false (by omega)] at HB
   go_enter Tryz.func69,Tryz.ntmps69
   go_wp2_with fail
   refine HA.out.mono ?_
   rintro e w1 ⟨rfl,hb1⟩
   go_wp2_with fail
   refine(HB.out _ hb1).mono ?_
   rintro e w2 ⟨rfl,hb2⟩
   have hB:=hb1.trans (hb2.mono hb1.size)
   go_wp2_with fail
   go_ret
   exact⟨ah HF.out.symm,hB⟩
  ·rw[if_neg y0,decide_eq_true (by omega)] at HB
   go_enter Tryz.func69,Tryz.ntmps69
   go_wp2_with fail
   refine HA.out.mono ?_
   rintro e w1 ⟨rfl,hb1⟩
   go_wp2_with fail
   refine(HB.out _ hb1).mono ?_
   rintro e w2 ⟨rfl,hb2⟩
   have hB:=hb1.trans (hb2.mono hb1.size)
   go_wp2_with fail
   go_ret
   exact⟨ah HF.out.symm,hB⟩
 rw[if_neg x0,decide_eq_true (by omega)] at HA
 by_cases y0:y < 0
 ·have HF:=zqd (bgp (x:=x) y0)
  rw[if_pos y0,decide_eq_false (by omega)] at HB
  go_enter Tryz.func69,Tryz.ntmps69
  go_wp2_with fail
  refine HA.out.mono ?_
  rintro e w1 ⟨rfl,hb1⟩
  go_wp2_with fail
  refine(HB.out _ hb1).mono ?_
  rintro e w2 ⟨rfl,hb2⟩
  have hB:=hb1.trans (hb2.mono hb1.size)
  go_wp2_with fail
  go_ret
  exact⟨ah HF.out.symm,hB⟩
 rw[if_neg y0,decide_eq_true (by omega)] at HB
 go_enter Tryz.func69,Tryz.ntmps69
 go_wp2_with fail
 refine HA.out.mono ?_
 rintro e w1 ⟨rfl,hb1⟩
 go_wp2_with fail
 refine(HB.out _ hb1).mono ?_
 rintro e w2 ⟨rfl,hb2⟩
 have hB:=hb1.trans (hb2.mono hb1.size)
 by_cases xy:x < y
 ·have HF:=zqd (bcg xy)
  go_wp2_with fail
  go_ret
  exact⟨ah HF.out.symm,hB⟩
 have q1:x.tdiv 1000000=x / 1000000:=by rw[Int.tdiv_eq_ediv_of_nonneg (by omega)]
 have q2:y.tdiv 1000000=y / 1000000:=by rw[Int.tdiv_eq_ediv_of_nonneg (by omega)]
 have q3:x.tdiv 1000=x / 1000:=by rw[Int.tdiv_eq_ediv_of_nonneg (by omega)]
 have q4:y.tdiv 1000=y / 1000:=by rw[Int.tdiv_eq_ediv_of_nonneg (by omega)]
 have r1:IntKind.i64.wrap (x / 1000000)=x / 1000000:=IntWalk.i64_in _ (by omega)
 have r2:IntKind.i64.wrap (y / 1000000)=y / 1000000:=IntWalk.i64_in _ (by omega)
 have r3:IntKind.i64.wrap (x / 1000)=x / 1000:=IntWalk.i64_in _ (by omega)
 have r4:IntKind.i64.wrap (y / 1000)=y / 1000:=IntWalk.i64_in _ (by omega)
 by_cases h6:x / 1000000=y / 1000000
 case neg=>
  have HF:=zqd (bch h6)
  have hne:(x / 1000000 != y / 1000000)=true:=by simpa using h6
  go_wp2_with fail
  go_ret
  exact⟨ah HF.out.symm,hB⟩
 have HF:=zqd (a7z (show 0≤x by omega) (show 0≤y by omega) (show y≤x by omega) h6)
 have hne:(x / 1000000 != y / 1000000)=false:=by simpa using h6
 clear rx ry
 by_cases h7:1000000≤x
 ·have HG:Hid (ajm x y=true):=by show _=_;rw[HF.out,decide_eq_true h7];rfl
  clear h6
  go_wp2_with fail
  go_ret
  exact⟨ah HG.out.symm,hB⟩
 by_cases h8:x / 1000=y / 1000
 ·have HG:Hid (ajm x y=true):=by show _=_;rw[HF.out,decide_eq_true h8];simp
  have he:(x / 1000 ==y / 1000)=true:=by simpa using h8
  clear h6 h8
  go_wp2_with fail
  go_ret
  exact⟨ah HG.out.symm,hB⟩
 ·have HG:Hid (ajm x y=false):=by show _=_;rw[HF.out,decide_eq_false h7,decide_eq_false h8];rfl
  have he:(x / 1000 ==y / 1000)=false:=by simpa using h8
  clear h6 h8
  go_wp2_with fail
  go_ret
  exact⟨ah (by first|exact HG.out.symm|(rw[HG.out];exact decide_eq_false (by omega))),hB⟩
end Go.Proofs.YtbafphecjijdmaaGreatDoor
