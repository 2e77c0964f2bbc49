/-
  impl's reading of numbers and instructions: readDecimal, ReadIns (by program: gen_dci.py).
-/
import Derived.Test.YtlpcocfadppkhaaGreatDoorRa09
import Derived.Test.YtlpcocfadppkhaaGreatDoorRa10
import Derived.Shelf.Strconv.ParseIntPublic10
import Derived.Shelf.Strings.Cut
import Derived.Shelf.Vars
import Derived.Lib.CutLaws
namespace Go.Proofs.YtlpcocfadppkhaaGreatDoor
open Go.RowKit Go.Shelf
set_option linter.unusedVariables false
set_option linter.unusedSimpArgs false
set_option linter.unnecessarySimpa false
set_option maxRecDepth 100000
def am2:Go.Shelf.Ren:=⟨fun
  | 129=>130|171=>118|174=>54|205=>117|243=>128|245=>74|246=>97|247=>73|279=>93|280=>94|281=>95|282=>96|283=>119|284=>120|285=>121|286=>122|287=>92|316=>116|317=>129|318=>131|319=>132|320=>133|321=>114|322=>115|337=>139|338=>140|n=>n,fun
  | 0=>0|2=>2|3=>3|4=>4|5=>5|9=>9|20=>20|21=>21|37=>74|46=>112|51=>141|53=>109|75=>80|80=>94|85=>81|127=>103|143=>150|145=>152|167=>108|168=>113|171=>133|173=>136|175=>110|210=>131|212=>154|213=>155|232=>182|233=>183|n=>n,fun
  | 15=>2|16=>3|17=>7|18=>8|19=>9|n=>n⟩
set_option maxHeartbeats 4000000 in
theorem asl:Lays.n174 Tryz.prog am2 where
 mixed:=by kernel_rfl
 f129:=Tryz.func130.trans (congrArg some (by kernel_rfl))
 f171:=Tryz.func118.trans (congrArg some (by kernel_rfl))
 f174:=Tryz.func54.trans (congrArg some (by kernel_rfl))
 f205:=Tryz.func117.trans (congrArg some (by kernel_rfl))
 f243:=Tryz.func128.trans (congrArg some (by kernel_rfl))
 f245:=Tryz.func74.trans (congrArg some (by kernel_rfl))
 f246:=Tryz.func97.trans (congrArg some (by kernel_rfl))
 f247:=Tryz.func73.trans (congrArg some (by kernel_rfl))
 f279:=Tryz.func93.trans (congrArg some (by kernel_rfl))
 f280:=Tryz.func94.trans (congrArg some (by kernel_rfl))
 f281:=Tryz.func95.trans (congrArg some (by kernel_rfl))
 f282:=Tryz.func96.trans (congrArg some (by kernel_rfl))
 f283:=Tryz.func119.trans (congrArg some (by kernel_rfl))
 f284:=Tryz.func120.trans (congrArg some (by kernel_rfl))
 f285:=Tryz.func121.trans (congrArg some (by kernel_rfl))
 f286:=Tryz.func122.trans (congrArg some (by kernel_rfl))
 f287:=Tryz.func92.trans (congrArg some (by kernel_rfl))
 f316:=Tryz.func116.trans (congrArg some (by kernel_rfl))
 f317:=Tryz.func129.trans (congrArg some (by kernel_rfl))
 f318:=Tryz.func131.trans (congrArg some (by kernel_rfl))
 f319:=Tryz.func132.trans (congrArg some (by kernel_rfl))
 f320:=Tryz.func133.trans (congrArg some (by kernel_rfl))
 f321:=Tryz.func114.trans (congrArg some (by kernel_rfl))
 f322:=Tryz.func115.trans (congrArg some (by kernel_rfl))
 f337:=Tryz.func139.trans (congrArg some (by kernel_rfl))
 f338:=Tryz.func140.trans (congrArg some (by kernel_rfl))
 t0:=by kernel_rfl
 a0:=fun _=>by kernel_rfl
 z0:=fun _=>by kernel_rfl
 v0:=fun _=>by kernel_rfl
 t2:=by kernel_rfl
 a2:=fun _=>by kernel_rfl
 z2:=fun _=>by kernel_rfl
 v2:=fun _=>by kernel_rfl
 t3:=by kernel_rfl
 a3:=fun _=>by kernel_rfl
 z3:=fun _=>by kernel_rfl
 v3:=fun _=>by kernel_rfl
 t4:=by kernel_rfl
 a4:=fun _=>by kernel_rfl
 z4:=fun _=>by kernel_rfl
 v4:=fun _=>by kernel_rfl
 t5:=by kernel_rfl
 a5:=fun _=>by kernel_rfl
 z5:=fun _=>by kernel_rfl
 v5:=fun _=>by kernel_rfl
 t9:=by kernel_rfl
 a9:=fun _=>by kernel_rfl
 z9:=fun _=>by kernel_rfl
 v9:=fun _=>by kernel_rfl
 t20:=by kernel_rfl
 a20:=fun _=>by kernel_rfl
 z20:=fun _=>by kernel_rfl
 v20:=fun _=>by kernel_rfl
 t21:=by kernel_rfl
 a21:=fun _=>by kernel_rfl
 z21:=fun _=>by kernel_rfl
 v21:=fun _=>by kernel_rfl
 t37:=by kernel_rfl
 a37:=fun _=>by kernel_rfl
 z37:=fun _=>by kernel_rfl
 v37:=fun _=>by kernel_rfl
 t46:=by kernel_rfl
 a46:=fun _=>by kernel_rfl
 z46:=fun _=>by kernel_rfl
 v46:=fun _=>by kernel_rfl
 t51:=by kernel_rfl
 a51:=fun _=>by kernel_rfl
 z51:=fun _=>by kernel_rfl
 v51:=fun _=>by kernel_rfl
 t53:=by kernel_rfl
 a53:=fun _=>by kernel_rfl
 z53:=fun _=>by kernel_rfl
 v53:=fun _=>by kernel_rfl
 t75:=by kernel_rfl
 a75:=fun _=>by kernel_rfl
 z75:=fun _=>by kernel_rfl
 v75:=fun _=>by kernel_rfl
 t85:=by kernel_rfl
 a85:=fun _=>by kernel_rfl
 z85:=fun _=>by kernel_rfl
 v85:=fun _=>by kernel_rfl
 t127:=by kernel_rfl
 a127:=fun _=>by kernel_rfl
 z127:=fun _=>by kernel_rfl
 v127:=fun _=>by kernel_rfl
 t143:=by kernel_rfl
 a143:=fun _=>by kernel_rfl
 z143:=fun _=>by kernel_rfl
 v143:=fun _=>by kernel_rfl
 t145:=by kernel_rfl
 a145:=fun _=>by kernel_rfl
 z145:=fun _=>by kernel_rfl
 v145:=fun _=>by kernel_rfl
 t167:=by kernel_rfl
 a167:=fun _=>by kernel_rfl
 z167:=fun _=>by kernel_rfl
 v167:=fun _=>by kernel_rfl
 t168:=by kernel_rfl
 a168:=fun _=>by kernel_rfl
 z168:=fun _=>by kernel_rfl
 v168:=fun _=>by kernel_rfl
 t171:=by kernel_rfl
 a171:=fun _=>by kernel_rfl
 z171:=fun _=>by kernel_rfl
 v171:=fun _=>by kernel_rfl
 t173:=by kernel_rfl
 a173:=fun _=>by kernel_rfl
 z173:=fun _=>by kernel_rfl
 v173:=fun _=>by kernel_rfl
 t175:=by kernel_rfl
 a175:=fun _=>by kernel_rfl
 z175:=fun _=>by kernel_rfl
 v175:=fun _=>by kernel_rfl
 t210:=by kernel_rfl
 a210:=fun _=>by kernel_rfl
 z210:=fun _=>by kernel_rfl
 v210:=fun _=>by kernel_rfl
 t212:=by kernel_rfl
 a212:=fun _=>by kernel_rfl
 z212:=fun _=>by kernel_rfl
 v212:=fun _=>by kernel_rfl
 t213:=by kernel_rfl
 a213:=fun _=>by kernel_rfl
 z213:=fun _=>by kernel_rfl
 t232:=by kernel_rfl
 a232:=fun _=>by kernel_rfl
 z232:=fun _=>by kernel_rfl
 v232:=fun _=>by kernel_rfl
 t233:=by kernel_rfl
 a233:=fun _=>by kernel_rfl
 z233:=fun _=>by kernel_rfl
 v233:=fun _=>by kernel_rfl
 g15:=by kernel_rfl
 g16:=by kernel_rfl
 g17:=by kernel_rfl
 g18:=by kernel_rfl
 g19:=by kernel_rfl
theorem asn:LaysM.n174 Tryz.prog am2:={asl with t80:=by kernel_rfl,a80:=fun _=>by kernel_rfl,z80:=fun _=>by kernel_rfl,v80:=fun _=>by kernel_rfl,i0:=by kernel_rfl,i2:=by kernel_rfl,i3:=by kernel_rfl,i4:=by kernel_rfl,i5:=by kernel_rfl,i9:=by kernel_rfl,i20:=by kernel_rfl,i21:=by kernel_rfl,i37:=by kernel_rfl,i46:=by kernel_rfl,i51:=by kernel_rfl,i53:=by kernel_rfl,i75:=by kernel_rfl,i80:=by kernel_rfl,i85:=by kernel_rfl,i127:=by kernel_rfl,i143:=by kernel_rfl,i145:=by kernel_rfl,i167:=by kernel_rfl,i168:=by kernel_rfl,i171:=by kernel_rfl,i173:=by kernel_rfl,i175:=by kernel_rfl,i210:=by kernel_rfl,i212:=by kernel_rfl,i232:=by kernel_rfl,i233:=by kernel_rfl,m15:=by kernel_rfl,m16:=by kernel_rfl,m17:=by kernel_rfl,m18:=by kernel_rfl,m19:=by kernel_rfl}
theorem ak2:LaysC.n174 Tryz.prog am2:={toM:=asn,c0:=by kernel_rfl,c2:=by kernel_rfl,c3:=by kernel_rfl,c4:=by kernel_rfl,c5:=by kernel_rfl,c9:=by kernel_rfl,c20:=by kernel_rfl,c21:=by kernel_rfl,c37:=by kernel_rfl,c46:=by kernel_rfl,c51:=by kernel_rfl,c53:=by kernel_rfl,c75:=by kernel_rfl,c80:=by kernel_rfl,c85:=by kernel_rfl,c127:=by kernel_rfl,c143:=by kernel_rfl,c145:=by kernel_rfl,c167:=by kernel_rfl,c168:=by kernel_rfl,c171:=by kernel_rfl,c173:=by kernel_rfl,c175:=by kernel_rfl,c210:=by kernel_rfl,c212:=by kernel_rfl,c213:=by kernel_rfl,c232:=by kernel_rfl,c233:=by kernel_rfl}
def axt:Go.Shelf.Ren:=⟨fun
  | 145=>56|217=>52|219=>91|220=>76|224=>112|225=>111|266=>69|267=>113|314=>127|n=>n,fun
  | 3=>3|4=>4|5=>5|9=>9|46=>112|51=>141|59=>83|146=>148|n=>n,fun
  | 1=>0|n=>n⟩
set_option maxHeartbeats 4000000 in
theorem avj:Lays.n145 Tryz.prog axt where
 mixed:=by kernel_rfl
 f145:=Tryz.func56.trans (congrArg some (by kernel_rfl))
 f217:=Tryz.func52.trans (congrArg some (by kernel_rfl))
 f219:=Tryz.func91.trans (congrArg some (by kernel_rfl))
 f220:=Tryz.func76.trans (congrArg some (by kernel_rfl))
 f224:=Tryz.func112.trans (congrArg some (by kernel_rfl))
 f225:=Tryz.func111.trans (congrArg some (by kernel_rfl))
 f266:=Tryz.func69.trans (congrArg some (by kernel_rfl))
 f267:=Tryz.func113.trans (congrArg some (by kernel_rfl))
 f314:=Tryz.func127.trans (congrArg some (by kernel_rfl))
 t3:=by kernel_rfl
 a3:=fun _=>by kernel_rfl
 z3:=fun _=>by kernel_rfl
 v3:=fun _=>by kernel_rfl
 t4:=by kernel_rfl
 a4:=fun _=>by kernel_rfl
 z4:=fun _=>by kernel_rfl
 v4:=fun _=>by kernel_rfl
 t5:=by kernel_rfl
 a5:=fun _=>by kernel_rfl
 z5:=fun _=>by kernel_rfl
 v5:=fun _=>by kernel_rfl
 t9:=by kernel_rfl
 a9:=fun _=>by kernel_rfl
 z9:=fun _=>by kernel_rfl
 v9:=fun _=>by kernel_rfl
 t46:=by kernel_rfl
 a46:=fun _=>by kernel_rfl
 z46:=fun _=>by kernel_rfl
 v46:=fun _=>by kernel_rfl
 t51:=by kernel_rfl
 a51:=fun _=>by kernel_rfl
 z51:=fun _=>by kernel_rfl
 v51:=fun _=>by kernel_rfl
 t59:=by kernel_rfl
 a59:=fun _=>by kernel_rfl
 z59:=fun _=>by kernel_rfl
 v59:=fun _=>by kernel_rfl
 t146:=by kernel_rfl
 a146:=fun _=>by kernel_rfl
 z146:=fun _=>by kernel_rfl
 v146:=fun _=>by kernel_rfl
 g1:=by kernel_rfl
def af9 (w:World) (g:Nat):Prop:=∃ ev,w.cell? ⟨g,0,none⟩=some ev∧(ev=.nilIface∨∃ te pe,ev=.iface te pe)
theorem am3 {P:Program} {w:World} {name:String} {g:Nat} {t:TypeId} {ms:Array (String×TypeId)} {d:DataW Unit} (hg:P.globalNamed name=some g) (ht:(P.globals[g]?).map (·.type)=some t) (hu:P.underlying t=some (.interface ms)) (h:Lib.VarReads P w name d):af9 w g:=by
 obtain⟨g',t',cs,fuel,p,h1,h2,h3,h4⟩:=h
 obtain rfl:=Option.some.inj (hg.symm.trans h1)
 obtain rfl:=Option.some.inj (ht.symm.trans h2)
 have hc:∀ ev,cs.toList=[ev]→w.cell? ⟨g,0,none⟩=some ev:=fun ev he=>by
  unfold World.var? at h3
  rw[hg] at h3
  simp only[Option.bind_some] at h3
  cases hh:w.heap[g]? with
  | none=>rw[hh] at h3;simp at h3
  | some o=>
   rw[hh] at h3
   cases o with
   | cells cur e fz=>
    simp at h3
    subst h3
    have:cur[0]?=some ev:=by rw[← Array.getElem?_toList,he];rfl
    simp[World.cell?,hh,this]
   | _=>simp at h3
 cases fuel with
 | zero=>simp[DataW.trod] at h4
 | succ fuel=>
  unfold DataW.trod at h4
  rw[hu] at h4
  cases hl:cs.toList with
  | nil=>rw[hl] at h4;simp at h4
  | cons x r=>
   rw[hl] at h4
   cases r with
   | cons y r=>cases x<;>simp at h4
   | nil=>cases x<;>first|exact⟨_,hc _ hl,.inl rfl⟩|exact⟨_,hc _ hl,.inr ⟨_,_,rfl⟩⟩|(simp at h4)
def ahw (w:World):Prop:=∃ m,w.cell? ⟨0,0,none⟩=some (.int .i64 m)
def aa1 (w:World):Prop:=aa5 w∧ahw w∧af9 w 2∧af9 w 3
theorem af9.below {w w':World} {g:Nat} (h:af9 w g) (hb:Below w.heap.size w w'):af9 w' g:=by
 obtain⟨ev,h1,h2⟩:=h
 exact⟨ev,(hb.cell (World.block_lt_of_cell? w _ h1)).trans h1,h2⟩
theorem ahw.below {w w':World} (h:ahw w) (hb:Below w.heap.size w w'):ahw w':=by
 obtain⟨m,h1⟩:=h
 exact⟨m,(hb.cell (World.block_lt_of_cell? w _ h1)).trans h1⟩
theorem aa1.below {w w':World} (h:aa1 w) (hb:Below w.heap.size w w'):aa1 w':=⟨h.1.below hb,h.2.1.below hb,h.2.2.1.below hb,h.2.2.2.below hb⟩
def uq (t:ByteArray):Int×Bool:=match Lib.parseIntB 64 t.data.toList with
 | .ok v=>if ay v=t then (v,true)else (0,false)
 | _=>(0,false)
theorem alp {l:List UInt8} {v:Int} (h:Lib.parseIntB 64 l=.ok v):-9223372036854775808≤v∧v≤9223372036854775807:=by
 have hq:(2:Nat) ^ (64 - 1)=9223372036854775808:=by decide
 cases l with
 | nil=>rw[Lib.parseIntB] at h;cases h
 | cons c r=>
  rw[Lib.parseIntB] at h
  simp only[hq] at h
  split at h
  ·cases h
  ·cases h
  ·split at h
   ·cases h
   ·split at h
    ·cases h
    ·injection h with h
     split at h<;>constructor<;>omega
theorem ak3 {t:ByteArray} {v:Int} (h:Lib.parseIntB 64 t.data.toList=.ok v):uq t=if ay v=t then (v,true)else (0,false):=by rw[uq,h]
theorem alq {n:Int} (h0:-9223372036854775808≤n) (h1:n≤9223372036854775807):uq (ay n)=(n,true):=by
 have hp:Lib.parseIntB 64 (ay n).data.toList=.ok n:=by
  have:=ap3 h0 h1
  simpa [ay] using this
 rw[ak3 hp,if_pos rfl]
theorem am4 (t : ByteArray) : -9223372036854775808 ≤ (uq t).1 ∧ (uq t).1 ≤ 9223372036854775807 := by
  cases h : Lib.parseIntB 64 t.data.toList with
  | ok v =>
    have := alp h
    rw [ak3 h]
    split
    · exact this
    · constructor <;> show _ ≤ _ <;> omega
  | range => have e : uq t = (0, false) := by rw [uq, h]
             rw [e]; exact ⟨by decide, by decide⟩
  | _ =>        have e : uq t = (0, false) := by rw [uq, h]
                rw [e]; exact ⟨by decide, by decide⟩
theorem parse_any (t:ByteArray) (ht:t.size≤1048576) (w:World) (hT:aa1 w):Calls Tryz.prog 54 #[.string t,.int .i64 10,.int .i64 64] w fun e w'=>
  Below w.heap.size w w'∧((∃ v,Lib.parseIntB 64 t.data.toList=.ok v∧e=.returned (.tuple #[.int .i64 v,.nilIface]))∨(uq t=(0,false)∧∃ n te pe,e=.returned (.tuple #[.int .i64 n,.iface te pe]))):=by
 cases h:Lib.parseIntB 64 t.data.toList with
 | ok v=>
  refine(Any.strconv_ParseInt_10_at64_ok ak2 t (by omega) v h w).mono ?_
  rintro e w' ⟨rfl,hw⟩
  refine⟨?_,.inl ⟨v,rfl,rfl⟩⟩
  rcases hw with rfl|⟨t,rfl⟩
  ·exact Below.refl _ _
  ·exact Lib.bytesWorld_below _ _ _
 | range=>
  obtain⟨ev,h1,h2⟩:=hT.2.2.2
  refine(Any.strconv_ParseInt_10_at64_range ak2 t (by omega) h ev w h1 h2).mono ?_
  rintro e w' ⟨N,rfl,_,_,hb⟩
  exact⟨hb,.inr ⟨by rw[uq,h],_,_,_,rfl⟩⟩
 | _=>
  obtain⟨ev,h1,h2⟩:=hT.2.2.1
  refine(Any.strconv_ParseInt_10_at64_syntax ak2 t (by omega) h ev w h1 h2).mono ?_
  rintro e w' ⟨N,rfl,_,_,hb⟩
  exact⟨hb,.inr ⟨by rw[uq,h],_,_,_,rfl⟩⟩
set_option maxHeartbeats 3200000 in
theorem afb (t:ByteArray) (ht:t.size≤1048576) (w:World) (hT:aa1 w):Calls Tryz.prog 38 #[.string t] w fun e w'=>e=.returned (.tuple #[.int .i64 (uq t).1,.bool (uq t).2])∧Below w.heap.size w w':=by
 have HP:=Lib.hid (parse_any t ht w hT)
 have HT:=Lib.hid hT
 clear hT
 obtain⟨R,hR⟩:∃ R,R=uq t:=⟨_,rfl⟩
 rw[← hR]
 have HR:=Lib.hid hR
 clear hR
 go_enter Tryz.func38,Tryz.ntmps38
 go_wp2_with fail
 refine HP.out.mono ?_
 rintro e w1 ⟨hb1,⟨v,hv,rfl⟩|⟨hv,n,te,pe,rfl⟩⟩
 ·have hvw:(Lit.int .i64 v).wf=true:=WalkArith.wf_i64 (alp hv)
  have HV:=Lib.hid (ak3 hv)
  clear hv
  go_wp2_with fail
  refine(aa0 v hvw _ (HT.out.1.below hb1).2).mono ?_
  rintro e w2 ⟨rfl,hb2⟩
  have hB:=hb1.trans (hb2.mono hb1.size)
  by_cases heq:ay v=t
  ·have HF:Hid (R=(v,true)):=by show _=_;rw[HR.out,HV.out,if_pos heq]
   rw[heq]
   clear heq
   go_wp2_with fail
   go_ret2
   exact⟨by rw[HF.out];rfl,hB⟩
  ·have HF:Hid (R=(0,false)):=by show _=_;rw[HR.out,HV.out,if_neg heq]
   have hne:=aa4 heq
   clear heq
   go_wp2_with fail
   go_ret2
   exact⟨by rw[HF.out];rfl,hB⟩
 ·have HF:Hid (R=(0,false)):=HR.out.trans hv
  clear hv
  go_wp2_with fail
  go_ret2
  exact⟨by rw[HF.out];rfl,hb1⟩
theorem ahd:∀ xs:List ByteArray,xs.flatMap aa3=xs.map fun s=>PD.lit (.string s)
 | []=>rfl
 | x ::xs=>by rw[List.flatMap_cons,ahd xs,aa3];rfl
theorem ap6 {w:World} {B g off n c:Nat} {xs:List ByteArray} (hn:n=xs.length) (hc:n≤maxLen) (hg:g < B) (h:∀ (j:Nat) (x:ByteArray),xs[j]?=some x→w.cell? ⟨g,off+j,none⟩=some (.string x)):Rep w B (.row 1 (xs.flatMap aa3)) (.slice (some ⟨g,off,none⟩) n c):=by
 rw[Rep]
 refine⟨_,n,c,rfl,?_,hc,fun h0=>⟨g,off,rfl,hg,abz.2 fun j x hj=>?_⟩⟩
 ·rw[iq aaz,hn]
 ·rw[ahd,List.getElem?_map] at hj
  cases hx:xs[j]? with
  | none=>rw[hx] at hj;cases hj
  | some s=>
   rw[hx] at hj
   cases hj
   exact⟨_,h j s hx,by rw[Rep]⟩
def ixW (t:ByteArray):Int:=oz (fun x=>decide (t=x)) afn
def aiz (s:ByteArray):ByteArray:=⟨(Lib.cut s.data.toList (⟨#[32]⟩:ByteArray).data.toList).1.toArray⟩
def aga (s:ByteArray):ByteArray:=⟨(Lib.cut s.data.toList (⟨#[32]⟩:ByteArray).data.toList).2.1.toArray⟩
theorem avo (s:ByteArray):(aga s).size≤s.size:=by
 have h1:(aga s).size=(Lib.cut s.data.toList (⟨#[32]⟩:ByteArray).data.toList).2.1.length:=rfl
 have h2:s.size=s.data.toList.length:=rfl
 rw[h1,h2,Lib.cut]
 split
 ·show(List.drop _ _).length≤_
  rw[List.length_drop];omega
 ·simp
theorem avp {s:ByteArray} (hs:s.size≤1048576) (w:World) (hm:ahw w):Calls Tryz.prog 56 #[.string s,.string ⟨#[32]⟩] w fun e w'=>(∃ b,e=.returned (.tuple #[.string (aiz s),.string (aga s),.bool b]))∧∃ n,w'=w.drewN n:=by
 obtain⟨m,hm⟩:=hm
 refine(Any.strings_Cut avj s ⟨#[32]⟩ m w (by omega) hm).mono ?_
 rintro e w' ⟨rfl,n,rfl⟩
 exact⟨⟨_,rfl⟩,n,rfl⟩
def rdI (s:ByteArray):Int×Int×Bool:=if 0 < s.size∧og (ixW (aiz s)) (uq (aga s)).1=s then (ixW (aiz s),(uq (aga s)).1,true)else (0,0,false)
def ap7 (s:ByteArray) (w:World) (e:Ending) (w':World):Prop:=e=.returned (.tuple #[.agg #[.int .i64 (rdI s).1,.int .i64 (rdI s).2.1],.bool (rdI s).2.2])∧Below w.heap.size w w'
theorem alr {P:Program} {w0 w w':World} {name:String} {k:IntKind} {zs:List Int} {a:Addr} {v:Value} (h0:Lib.TabIs P w0 name k zs) (ha:w0.heap.size≤a.block) (h:Lib.TabIs P w name k zs) (hw:w'=w.setCell a v):Lib.TabIs P w' name k zs:=by
 unfold Lib.TabIs World.var? at *
 cases hg:P.globalNamed name with
 | none=>simp[hg] at h
 | some g=>
  simp only[hg,Option.bind_some] at h0 h ⊢
  have hlt:g < w0.heap.size:=by
   rcases Nat.lt_or_ge g w0.heap.size with h'|h'
   ·exact h'
   ·rw[Array.getElem?_eq_none h'] at h0;simp at h0
  rw[hw,Below.heap_setCell _ _ _ _ (by omega)]
  exact h
theorem aa1.set {w0 w w':World} {v:Value} (h0:aa1 w0) (h:aa1 w) (hw:w'=w.setCell ⟨w0.heap.size,1,none⟩ v):aa1 w':=by
 have hk:∀ g:Nat,g < w0.heap.size→∀ u,w.cell? ⟨g,0,none⟩=some u→w'.cell? ⟨g,0,none⟩=some u:=fun g hg u hu=>by rw[hw];exact(World.cell?_of_block (Below.heap_setCell _ _ _ _ (by show g≠w0.heap.size;omega))).trans hu
 have hi:∀ g,af9 w0 g→af9 w g→af9 w' g:=fun g h1 h2=>by
  obtain⟨e1,c1,_⟩:=h1
  obtain⟨e2,c2,d2⟩:=h2
  exact⟨e2,hk g (World.block_lt_of_cell? w0 _ c1) _ c2,d2⟩
 refine⟨⟨alr h0.1.1 (Nat.le_refl _) h.1.1 hw,alr h0.1.2 (Nat.le_refl _) h.1.2 hw⟩,?_,hi _ h0.2.2.1 h.2.2.1,hi _ h0.2.2.2 h.2.2.2⟩
 obtain⟨m1,c1⟩:=h0.2.1
 obtain⟨m2,c2⟩:=h.2.1
 exact⟨m2,hk _ (World.block_lt_of_cell? w0 _ c1) _ c2⟩
set_option maxHeartbeats 12800000 in
theorem aj0 {s : ByteArray} (hs : s.size ≤ 1048576) (w : World) (hT : aa1 w) : Calls Tryz.prog 39 #[.string s] w fun e w' => ap7 s w e w' := by
  obtain ⟨R, hR⟩ : ∃ R, R = rdI s := ⟨_, rfl⟩
  have HQF : Hid (∀ e w', e = .returned (.tuple #[.agg #[.int .i64 R.1, .int .i64 R.2.1], .bool R.2.2]) ∧ Below w.heap.size w w' → ap7 s w e w') := fun e w' h => by rw [hR] at h; exact h
  have HRR := Lib.hid hR
  have hso := avo s
  obtain ⟨w0, hw0⟩ : ∃ V, V = w.alloc (.cells #[.int .i64 0, .int .i64 0] 54) := ⟨_, rfl⟩
  have HR0 : Hid (Blk w0 w.heap.size 54 #[.int .i64 0, .int .i64 0]) := by show Blk _ _ _ _; rw [hw0]; exact Blk.new w _ _
  have HB0 : Hid (Below w.heap.size w w0) := by show Below _ _ _; rw [hw0]; exact (Below.refl _ _).alloc (Nat.le_refl _) _
  have HT0 := Lib.hid (hT.below HB0.out)
  have HW0 := Lib.hid hw0
  clear hR hw0 hT
  go_enter Tryz.func39, Tryz.ntmps39
  go_wp2_with fail
  rw [← HW0.out]
  refine (avp hs _ HT0.out.2.1).mono ?_
  rintro e w' ⟨⟨b, rfl⟩, n, hn⟩
  obtain ⟨WO, hWO⟩ : ∃ x, x = aiz s := ⟨_, rfl⟩
  obtain ⟨OP, hOP⟩ : ∃ x, x = aga s := ⟨_, rfl⟩
  have hos : OP.size ≤ 1048576 := by rw [hOP]; omega
  rw [← hWO, ← hOP]
  have HWO := Lib.hid hWO
  have HOP := Lib.hid hOP
  have HB1 : Hid (Below w.heap.size w w') := by show Below _ _ _; rw [hn]; exact ⟨HB0.out.os, HB0.out.tape, HB0.out.output, HB0.out.size, HB0.out.block⟩
  have HR1 : Hid (Blk w' w.heap.size 54 #[.int .i64 0, .int .i64 0]) := by show Blk _ _ _ _; rw [hn]; exact HR0.out
  have HT1 : Hid (aa1 w') := HT0.out.below (by rw [hn]; exact ⟨rfl, rfl, rfl, Nat.le_refl _, fun _ _ => rfl⟩)
  clear hWO hOP hn HB0 HR0 HT0 hso
  go_wp2_with fail
  refine (ah9 _ HT1.out.1.1).mono ?_
  rintro e w2 ⟨rfl, hc2, hb2⟩
  have HRP : Hid (Rep w2 w2.heap.size (.row 1 (afn.flatMap aa3)) (.slice (some ⟨w'.heap.size, 0, none⟩) 41 41)) := ap6 rfl (by unfold maxLen; omega) (World.block_lt_of_cell? w2 _ (hc2 0 _ rfl)) (fun j x hx => by rw [Nat.zero_add]; exact hc2 j x hx)
  have HB2 := Lib.hid (HB1.out.trans (hb2.mono HB1.out.size))
  have HR2 := Lib.hid (HR1.out.step hb2)
  have HT2 := Lib.hid (HT1.out.below hb2)
  clear hb2 hc2 HB1 HR1 HT1
  go_wp2_with fail
  refine (aiy WO (Nat.le_refl _) HRP.out).mono ?_
  rintro e w3 ⟨rfl, hb3⟩
  obtain ⟨IX, hIX⟩ : ∃ x, x = ixW WO := ⟨_, rfl⟩
  have HIX := Lib.hid hIX
  rw [show oz (fun t => decide (WO = t)) afn = IX from hIX.symm]
  have HB3 := Lib.hid (HB2.out.trans (hb3.mono HB2.out.size))
  have HR3 := Lib.hid (HR2.out.step hb3)
  have HT3 := Lib.hid (HT2.out.below hb3)
  have hge := HR3.out.lt
  clear hb3 hIX HB2 HR2 HT2 HRP
  obtain ⟨w4, hw4⟩ : ∃ V, V = w3.alloc (.cells #[.int .i64 IX, .int .i64 0] 54) := ⟨_, rfl⟩
  have HX4 : Hid (Blk w4 w3.heap.size 54 #[.int .i64 IX, .int .i64 0]) := by show Blk _ _ _ _; rw [hw4]; exact Blk.new w3 _ _
  have HR4 : Hid (Blk w4 w.heap.size 54 #[.int .i64 0, .int .i64 0]) := by show Blk _ _ _ _; rw [hw4]; exact HR3.out.alloc _
  have HB4 : Hid (Below w.heap.size w w4) := by show Below _ _ _; rw [hw4]; exact HB3.out.alloc HB3.out.size _
  have HT4 : Hid (aa1 w4) := HT3.out.below (by rw [hw4]; exact (Below.refl _ _).alloc (Nat.le_refl _) _)
  have HW4 := Lib.hid hw4
  clear hw4
  go_wp2_with fail
  rw [← HW4.out]
  refine (afb OP hos _ HT4.out).mono ?_
  rintro e w5 ⟨rfl, hb5⟩
  obtain ⟨NA, hNA⟩ : ∃ k, k = (uq OP).1 := ⟨_, rfl⟩
  have asj : (Lit.int .i64 NA).wf = true := by rw [hNA]; exact WalkArith.wf_i64 (am4 OP)
  rw [← hNA]
  have HNA := Lib.hid hNA
  have aem : Hid (R = if 0 < s.size ∧ og IX NA = s then (IX, NA, true) else (0, 0, false)) := by show _ = _; rw [HRR.out, rdI, ← HWO.out, ← HOP.out, ← HIX.out, ← HNA.out]
  have HB5 := Lib.hid (HB4.out.trans (hb5.mono HB4.out.size))
  have HR5 := Lib.hid (HR4.out.step hb5)
  have HX5 := Lib.hid (HX4.out.step hb5)
  have HT5 := Lib.hid (HT4.out.below hb5)
  clear hb5 hNA HB4 HR4 HX4 HT4
  have x0 : w5.cell? ⟨w3.heap.size, 0, none⟩ = some (.int .i64 IX) := HX5.out.cell 0
  have x1 : w5.cell? ⟨w3.heap.size, 1, none⟩ = some (.int .i64 0) := HX5.out.cell 1
  have fx := HX5.out.frozen 1
  obtain ⟨w6, hw6⟩ : ∃ V, V = w5.setCell ⟨w3.heap.size, 1, none⟩ (.int .i64 NA) := ⟨_, rfl⟩
  have HX6 : Hid (Blk w6 w3.heap.size 54 #[.int .i64 IX, .int .i64 NA]) := by show Blk _ _ _ _; rw [hw6]; have := HX5.out.dh 1 (.int .i64 NA); simpa using this
  have HR6 : Hid (Blk w6 w.heap.size 54 #[.int .i64 0, .int .i64 0]) := by show Blk _ _ _ _; rw [hw6]; exact HR5.out.far (by show w.heap.size ≠ w3.heap.size; omega) _
  have HB6 : Hid (Below w.heap.size w w6) := by show Below _ _ _; rw [hw6]; exact HB5.out.setCell (p := ⟨w3.heap.size, 1, none⟩) (by show w.heap.size ≤ w3.heap.size; omega) _
  have HT6 : Hid (aa1 w6) := by
    exact aa1.set HT3.out HT5.out hw6
  have y0 : w6.cell? ⟨w3.heap.size, 0, none⟩ = some (.int .i64 IX) := HX6.out.cell 0
  have y1 : w6.cell? ⟨w3.heap.size, 1, none⟩ = some (.int .i64 NA) := HX6.out.cell 1
  have y0' := y0
  have y1' := y1
  rw [hw6] at y0' y1'
  have HW6 := Lib.hid hw6
  clear hw6
  by_cases h0 : 0 < s.size
  case neg =>
    have hemp : s.toList.isEmpty = true := by
      have hlen : s.data.toList.length = s.size := rfl
      have : s.toList = [] := by rw [ByteArray.toList_eq]; exact List.eq_nil_of_length_eq_zero (by omega)
      rw [this]; rfl
    have HF : Hid (R = (0, 0, false)) := by show _ = _; rw [aem.out, if_neg (fun h => h0 h.1)]
    have r0 : w5.cell? ⟨w.heap.size, 0, none⟩ = some (.int .i64 0) := HR5.out.cell 0
    have r1 : w5.cell? ⟨w.heap.size, 1, none⟩ = some (.int .i64 0) := HR5.out.cell 1
    have f0 := HR6.out.frozen 0
    have f1 := HR6.out.frozen 1
    have f0' := f0
    have f1' := f1
    rw [HW6.out] at f0' f1'
    go_wp2_with fail
    rw [← HW6.out]
    have bN : Blk ((w6.setCell ⟨w.heap.size, 0, none⟩ (.int .i64 0)).setCell ⟨w.heap.size, 1, none⟩ (.int .i64 0)) w.heap.size 54 #[.int .i64 0, .int .i64 0] := by
      have := (HR6.out.dh 0 (.int .i64 0)).dh 1 (.int .i64 0)
      simpa using this
    have n0 := bN.cell 0
    have n1 := bN.cell 1
    refine bodyPost_ret (v := .tuple #[.agg #[.int .i64 0, .int .i64 0], .bool false]) (by simp [results, Tryz.results39, go_sem, n0, n1]) rfl (HQF.out _ _ ⟨by rw [HF.out], ?_⟩)
    exact (HB6.out.setCell (p := ⟨w.heap.size, 0, none⟩) (Nat.le_refl _) _).setCell (p := ⟨w.heap.size, 1, none⟩) (Nat.le_refl _) _
  have hemp : s.toList.isEmpty = false := by
    cases hs' : s.toList with
    | nil => rw [ByteArray.toList_eq] at hs'; have h1 : s.data.toList.length = 0 := by rw [hs']; rfl
             have h2 : s.data.toList.length = s.size := rfl
             omega
    | cons c r => rfl
  go_wp2_with fail
  rw [← HW6.out]
  refine (ajt IX NA asj _ HT6.out.1).mono ?_
  rintro e w7 ⟨rfl, hb7⟩
  have HB7 := Lib.hid (HB6.out.trans (hb7.mono HB6.out.size))
  have HR7 := Lib.hid (HR6.out.step hb7)
  have HX7 := Lib.hid (HX6.out.step hb7)
  clear hb7 x0 x1 fx y0 y1 y0' y1'
  have x0 : w7.cell? ⟨w3.heap.size, 0, none⟩ = some (.int .i64 IX) := HX7.out.cell 0
  have x1 : w7.cell? ⟨w3.heap.size, 1, none⟩ = some (.int .i64 NA) := HX7.out.cell 1
  have r0 : w7.cell? ⟨w.heap.size, 0, none⟩ = some (.int .i64 0) := HR7.out.cell 0
  have r1 : w7.cell? ⟨w.heap.size, 1, none⟩ = some (.int .i64 0) := HR7.out.cell 1
  have f0 := HR7.out.frozen 0
  have f1 := HR7.out.frozen 1
  by_cases heq : og IX NA = s
  case pos =>
    have HF : Hid (R = (IX, NA, true)) := by show _ = _; rw [aem.out, if_pos ⟨h0, heq⟩]
    rw [heq]
    clear heq
    go_wp2_with fail
    have bN : Blk ((w7.setCell ⟨w.heap.size, 0, none⟩ (.int .i64 IX)).setCell ⟨w.heap.size, 1, none⟩ (.int .i64 NA)) w.heap.size 54 #[.int .i64 IX, .int .i64 NA] := by
      have := (HR7.out.dh 0 (.int .i64 IX)).dh 1 (.int .i64 NA)
      simpa using this
    have n0 := bN.cell 0
    have n1 := bN.cell 1
    refine bodyPost_ret (v := .tuple #[.agg #[.int .i64 IX, .int .i64 NA], .bool true]) (by simp [results, Tryz.results39, go_sem, n0, n1]) rfl (HQF.out _ _ ⟨by rw [HF.out], ?_⟩)
    exact (HB7.out.setCell (p := ⟨w.heap.size, 0, none⟩) (Nat.le_refl _) _).setCell (p := ⟨w.heap.size, 1, none⟩) (Nat.le_refl _) _
  have HF : Hid (R = (0, 0, false)) := by show _ = _; rw [aem.out, if_neg (fun h => heq h.2)]
  have hne := aa4 heq
  clear heq
  go_wp2_with fail
  have bN : Blk ((w7.setCell ⟨w.heap.size, 0, none⟩ (.int .i64 0)).setCell ⟨w.heap.size, 1, none⟩ (.int .i64 0)) w.heap.size 54 #[.int .i64 0, .int .i64 0] := by
    have := (HR7.out.dh 0 (.int .i64 0)).dh 1 (.int .i64 0)
    simpa using this
  have n0 := bN.cell 0
  have n1 := bN.cell 1
  refine bodyPost_ret (v := .tuple #[.agg #[.int .i64 0, .int .i64 0], .bool false]) (by simp [results, Tryz.results39, go_sem, n0, n1]) rfl (HQF.out _ _ ⟨by rw [HF.out], ?_⟩)
  exact (HB7.out.setCell (p := ⟨w.heap.size, 0, none⟩) (Nat.le_refl _) _).setCell (p := ⟨w.heap.size, 1, none⟩) (Nat.le_refl _) _
end Go.Proofs.YtlpcocfadppkhaaGreatDoor
