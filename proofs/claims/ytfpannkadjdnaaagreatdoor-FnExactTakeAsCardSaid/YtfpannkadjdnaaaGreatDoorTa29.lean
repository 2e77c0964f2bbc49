/-
  spec.l04Point (by program: gen_pt.py). (and 3 more texts)
-/
import Derived.Test.YtfpannkadjdnaaaGreatDoorTa26
import Derived.Test.YtfpannkadjdnaaaGreatDoorRows
import Derived.Test.YtfpannkadjdnaaaGreatDoorTa01
import Derived.Laws.BytesArg
import Derived.Laws.BitsLemmas
import Derived.Laws.AppendOwnNone
import Derived.Test.YtfpannkadjdnaaaGreatDoorTa09
import Derived.Laws.Shifts
import Derived.Laws.Concat
import Derived.Deep.RegionHeld3
import Derived.Test.YtfpannkadjdnaaaGreatDoorTa03
import Derived.Test.YtfpannkadjdnaaaGreatDoorTa04
import Derived.Test.YtfpannkadjdnaaaGreatDoorTa10
import Derived.Test.YtfpannkadjdnaaaGreatDoorTa12
import Derived.Shelf.Unicode.ValidAny
import Derived.Lib.LaidU8T
import Derived.LaidMore
import Derived.MakeChecks
import Derived.Below
import Derived.Lib.OthersKept
import Derived.Laws.RangeAny
namespace Go.Proofs.YtfpannkadjdnaaaGreatDoor
open Go.RowKit
set_option linter.all false
set_option maxRecDepth 16000
def ah2 (o:Option (Int×Nat)):Ending:=match o with
 | none=>.returned (.tuple #[.int .i64 0,.int .i64 0])
 | some (n,m)=>.returned (.tuple #[.int .i64 n,.int .i64 m])
def PNO:Ending:=.returned (.tuple #[.int .i64 0,.int .i64 0])
theorem auv {l:List Int} {b:Int} (h:l[0]?=some b):pt1 l=if adz b≤l.length∧ad7 (afl l b)=true∧Lib.encodeRuneZ (afl l b)=l.take (adz b)then some (afl l b,adz b)else none:=by
 cases l with
 | nil=>cases h
 | cons c r=>simp at h;subst h;rfl
theorem awd {s:ByteArray} {b:Int} (h:(byt s)[0]?=some b) (h1:¬ adz b≤s.size):pt1 (byt s)=none:=by
 rw[auv h,if_neg fun e=>h1 (by simpa using e.1)]
theorem arq {s:ByteArray} {b:Int} (h:(byt s)[0]?=some b) (h1:ad7 (afl (byt s) b)=false):pt1 (byt s)=none:=by
 rw[auv h,if_neg fun e=>by rw[h1] at e;exact absurd e.2.1 (by decide)]
theorem ars {s:ByteArray} {b v:Int} (h:(byt s)[0]?=some b) (hv:v=afl (byt s) b) (h1:¬ strOfNums (Lib.encodeRuneZ v)=s.extract 0 (adz b)):pt1 (byt s)=none:=by
 subst hv;rw[auv h,if_neg fun e=>h1 ((ay6 (ay7 _)).2 e.2.2)]
theorem aru {s:ByteArray} {b v:Int} (h:(byt s)[0]?=some b) (hv:v=afl (byt s) b) (hc:ad7 v=true) (hz:adz b≤s.size) (h1:strOfNums (Lib.encodeRuneZ v)=s.extract 0 (adz b)):pt1 (byt s)=some (v,adz b):=by
 subst hv;rw[auv h,if_pos ⟨by simpa using hz,hc,(ay6 (ay7 _)).1 h1⟩]
theorem a1q:∀ (r:List Int) (a c:Int),vvl a (r ++[c])=vvl a r * 64+c % 64
 | [],a,c=>rfl
 | d ::r,a,c=>by rw[List.cons_append,vvl,vvl,a1q r]
theorem atd {l:List Int} {k:Nat} {a v c:Int} (h:v=vvl a ((l.take k).drop 1)) (hk:1≤k) (hc:l[k]?=some c):v * 64+c % 64=vvl a ((l.take (k+1)).drop 1):=by
 have hl:=(List.getElem?_eq_some_iff.1 hc).1;rw[List.take_add_one,hc,List.drop_append_of_le_length (by simp;omega),Option.toList_some,a1q,h]
def ptB (k:Nat) (v:Int):Prop:=(k=1∧0≤v∧v < 256)∨(k=2∧0≤v∧v < 16384)∨(k=3∧0≤v∧v < 1048576)∨(k=4∧0≤v∧v < 67108864)
theorem ptB.next {k m:Nat} {v:Int} (h:ptB k v) (hk:k < m) (hm:m≤4) (c:Nat):0≤v∧v < 1048576∧ptB (k+1) (v * 64+(c:Int) % 64):=by
 unfold ptB at *;omega
theorem azw {c:Nat} (hc:c < 256):bits .and .u8 (c:Int) 63=(c:Int) % 64:=u8_and63 _ (by omega) (by omega)
theorem bd2 {v:Int} {c:Nat} (h0:0≤v) (h1:v < 1048576):bits .or .i64 (v * 64) ((c:Int) % 64)=v * 64+(c:Int) % 64:=
 bits_join .i64 63 (by decide) (fun n a b=>IntWalk.i64_in _ (by omega)) 6 _ _ (by omega) (by omega) (by omega) (by omega) (by omega) (by omega)
set_option maxHeartbeats 6400000 in
theorem azx (s:ByteArray) (hs:s.size≤maxLen) (w:World):Calls Tryz.prog 105 #[.string s] w fun e w'=>e=ah2 (pt1 (byt s))∧Below w.heap.size w w':=by
 unfold maxLen at hs;by_cases h0:1≤s.size
 case neg=>
  have hz:s=⟨#[]⟩:=by
   apply bo5;rw[bo6];exact List.eq_nil_of_length_eq_zero (by rw[ak7];omega)
  subst hz;go_enter Tryz.func105,Tryz.ntmps105
  go_wp2_with fail
  go_ret2
  exact⟨rfl,zqf _ _⟩
 have h0':0 < s.size:=h0
 have hne:s.toList.isEmpty=false:=by
  rw[ByteArray.toList_eq];cases h:s.data.toList with
  | nil=>
   have h1:(byt s).length=0:=by rw[byt,h];rfl
   rw[ak7] at h1;omega
  | cons a b=>rfl
 have HB:=zqd (arl h0');have arv:s[0].toNat < 256:=s[0].toNat_lt;rcases(show s[0].toNat < 192∨(192≤s[0].toNat∧s[0].toNat < 224)∨(224≤s[0].toNat∧s[0].toNat < 240)∨240≤s[0].toNat by omega)with hr|⟨hr,hr2⟩|⟨hr,hr2⟩|hr
 ·
  have hm:adz ((s[0].toNat:Nat):Int)=1:=by unfold adz;split<;>(try split)<;>(try split)<;>omega
  have hh:agk ((s[0].toNat:Nat):Int)=((s[0].toNat:Nat):Int) - 0:=by unfold agk;split<;>(try split)<;>(try split)<;>omega
  have hz:1≤s.size:=h0;have HM:=zqd hm;have HH:=zqd hh;clear hm hh;go_enter Tryz.func105,Tryz.ntmps105
  go_wp2_with fail
  go_quiet (fail)
  go_wp2_with fail
  go_loopw [5,6] (fun n i wr=>∃ (k:Nat) (v:Int),1≤k∧k≤1∧n=.int .i64 v∧i=.int .i64 k∧Hid (v=vvl (((s[0].toNat:Nat):Int) - 0) (((byt s).take k).drop 1))∧ptB k v∧Below w.heap.size w wr) (fun _ i _=>4 - (intOf i).toNat)
  case atStart=>exact⟨1,_,by omega,by omega,by first|rfl|(rw[Int.sub_zero]),rfl,zqd (by rw[List.drop_of_length_le (by rw[List.length_take];exact Nat.min_le_left _ _)];rfl),.inl ⟨rfl,by omega,by omega⟩,below_drewN (zqf _ _) _⟩
  case round=>
   obtain⟨k,v,hk1,hk,rfl,rfl,HV,hpb,hbr⟩:=hrel;have hkm:k=1:=by omega
   subst hkm;have HVV:Hid (v=afl (byt s) ((s[0].toNat:Nat):Int)):=by show _=_;rw[afl,HM.out,HH.out];exact HV.out
   clear hpb;have HCK:=fun W=>ah4 v W;cases hc:ad7 v
   case false=>
    rw[hc] at HCK;have HK:=zqd HCK;clear HCK;have HF:Hid (ah2 (pt1 (byt s))=PNO):=by show _=_;rw[arq HB.out (by rw[← HVV.out];exact hc)];rfl
    go_wp2_with fail
    go_quiet (first|(go_at_call 52;exact Calls.quiet_of_same ((HK.out _).mono fun e w' h=>⟨h.1,h.2.symm⟩)))
    go_wp2_with fail
    go_ret2
    exact⟨HF.out.symm,below_drewN hbr _⟩
   rw[hc] at HCK;have HK:=zqd HCK;clear HCK;have HC:=zqd hc;obtain⟨x,hx⟩:∃ x,x=strOfNums (Lib.encodeRuneZ v):=⟨_,rfl⟩;have HCH:=zqd (fun W=>al3 v hc W);rw[← hx] at HCH;have HX:=zqd hx;clear hx;have hbd:(1:Int)≤(s.size:Int):=by omega
   by_cases hxe:x=s.extract 0 1
   case pos=>
    have HF:Hid (ah2 (pt1 (byt s))=.returned (.tuple #[.int .i64 v,.int .i64 1])):=by show _=_;rw[aru HB.out HVV.out hc (HM.out ▸ hz) (by rw[HM.out,← HX.out];exact hxe),HM.out];rfl
    subst hxe;go_wp2_with fail
    go_region_held3 (fun _=>True) (trivial) (first|(go_at_call 52;refine(HK.out _).mono ?_;rintro e w' ⟨rfl,rfl⟩)|(go_at_call 118;refine(HCH.out _).mono ?_;rintro e w2 ⟨rfl,hb2⟩;have hB2:=hbr.drew.trans (hb2.mono hbr.drew.size)))
    go_wp2_with fail
    go_ret2
    exact⟨HF.out.symm,hB2⟩
   case neg=>
    have HF:Hid (ah2 (pt1 (byt s))=PNO):=by show _=_;rw[ars HB.out HVV.out (by rw[HM.out,← HX.out];exact hxe)];rfl
    have hs2:(x.toList ==(s.extract 0 1).toList)=false:=ag8 hxe;go_wp2_with fail
    go_region_held3 (fun _=>True) (trivial) (first|(go_at_call 52;refine(HK.out _).mono ?_;rintro e w' ⟨rfl,rfl⟩)|(go_at_call 118;refine(HCH.out _).mono ?_;rintro e w2 ⟨rfl,hb2⟩;have hB2:=hbr.drew.trans (hb2.mono hbr.drew.size)))
    go_wp2_with fail
    go_ret2
    exact⟨HF.out.symm,hB2⟩
 ·
  have hm:adz ((s[0].toNat:Nat):Int)=2:=by unfold adz;split<;>(try split)<;>(try split)<;>omega
  have hh:agk ((s[0].toNat:Nat):Int)=((s[0].toNat:Nat):Int) - 192:=by unfold agk;split<;>(try split)<;>(try split)<;>omega
  by_cases hz:2≤s.size
  case neg=>
   have HF:Hid (ah2 (pt1 (byt s))=PNO):=by show _=_;rw[awd HB.out (by rw[hm];omega)];rfl
   have hz':(s.size:Int) < 2:=by omega
   clear hm hh;go_enter Tryz.func105,Tryz.ntmps105
   go_wp2_with fail
   go_quiet (fail)
   go_wp2_with fail
   go_quiet (fail)
   go_wp2_with fail
   go_ret2
   exact⟨HF.out.symm,below_drewN (zqf _ _) _⟩
  have HM:=zqd hm;have HH:=zqd hh;clear hm hh;go_enter Tryz.func105,Tryz.ntmps105
  go_wp2_with fail
  go_quiet (fail)
  go_wp2_with fail
  go_quiet (fail)
  go_wp2_with fail
  go_loopw [5,6] (fun n i wr=>∃ (k:Nat) (v:Int),1≤k∧k≤2∧n=.int .i64 v∧i=.int .i64 k∧Hid (v=vvl (((s[0].toNat:Nat):Int) - 192) (((byt s).take k).drop 1))∧ptB k v∧Below w.heap.size w wr) (fun _ i _=>4 - (intOf i).toNat)
  case atStart=>exact⟨1,_,by omega,by omega,by first|rfl|(rw[Int.sub_zero]),rfl,zqd (by rw[List.drop_of_length_le (by rw[List.length_take];exact Nat.min_le_left _ _)];rfl),.inl ⟨rfl,by omega,by omega⟩,below_drewN (zqf _ _) _⟩
  case round=>
   obtain⟨k,v,hk1,hk,rfl,rfl,HV,hpb,hbr⟩:=hrel;by_cases hlt:k < 2
   case pos=>
    have hks:k < s.size:=by omega
    have hb2:=arl hks;have arv:s[k].toNat < 256:=s[k].toNat_lt;obtain⟨hv0,hv1,azy⟩:=hpb.next hlt (by omega) s[k].toNat
    have HV2:=zqd (atd HV.out hk1 hb2);have ha:=azw arv;have hst:=bd2 (c:=s[k].toNat) hv0 hv1;have hsh:IntKind.i64.wrap (v * 64)=v * 64:=IntWalk.i64_in _ (by omega);clear hb2 hpb;go_wp2_with fail
    go_roundw
    case rel=>exact⟨k+1,v * 64+((s[k].toNat:Nat):Int) % 64,by omega,by omega,by first|rfl|simpa using hst,by go_num,HV2,azy,hbr⟩
    case measure=>simp[intOf];omega
   have hkm:k=2:=by omega
   subst hkm;have HVV:Hid (v=afl (byt s) ((s[0].toNat:Nat):Int)):=by show _=_;rw[afl,HM.out,HH.out];exact HV.out
   clear hpb;have HCK:=fun W=>ah4 v W;cases hc:ad7 v
   case false=>
    rw[hc] at HCK;have HK:=zqd HCK;clear HCK;have HF:Hid (ah2 (pt1 (byt s))=PNO):=by show _=_;rw[arq HB.out (by rw[← HVV.out];exact hc)];rfl
    go_wp2_with fail
    go_quiet (first|(go_at_call 52;exact Calls.quiet_of_same ((HK.out _).mono fun e w' h=>⟨h.1,h.2.symm⟩)))
    go_wp2_with fail
    go_ret2
    exact⟨HF.out.symm,below_drewN hbr _⟩
   rw[hc] at HCK;have HK:=zqd HCK;clear HCK;have HC:=zqd hc;obtain⟨x,hx⟩:∃ x,x=strOfNums (Lib.encodeRuneZ v):=⟨_,rfl⟩;have HCH:=zqd (fun W=>al3 v hc W);rw[← hx] at HCH;have HX:=zqd hx;clear hx;have hbd:(2:Int)≤(s.size:Int):=by omega
   by_cases hxe:x=s.extract 0 2
   case pos=>
    have HF:Hid (ah2 (pt1 (byt s))=.returned (.tuple #[.int .i64 v,.int .i64 2])):=by show _=_;rw[aru HB.out HVV.out hc (HM.out ▸ hz) (by rw[HM.out,← HX.out];exact hxe),HM.out];rfl
    subst hxe;go_wp2_with fail
    go_region_held3 (fun _=>True) (trivial) (first|(go_at_call 52;refine(HK.out _).mono ?_;rintro e w' ⟨rfl,rfl⟩)|(go_at_call 118;refine(HCH.out _).mono ?_;rintro e w2 ⟨rfl,hb2⟩;have hB2:=hbr.drew.trans (hb2.mono hbr.drew.size)))
    go_wp2_with fail
    go_ret2
    exact⟨HF.out.symm,hB2⟩
   case neg=>
    have HF:Hid (ah2 (pt1 (byt s))=PNO):=by show _=_;rw[ars HB.out HVV.out (by rw[HM.out,← HX.out];exact hxe)];rfl
    have hs2:(x.toList ==(s.extract 0 2).toList)=false:=ag8 hxe;go_wp2_with fail
    go_region_held3 (fun _=>True) (trivial) (first|(go_at_call 52;refine(HK.out _).mono ?_;rintro e w' ⟨rfl,rfl⟩)|(go_at_call 118;refine(HCH.out _).mono ?_;rintro e w2 ⟨rfl,hb2⟩;have hB2:=hbr.drew.trans (hb2.mono hbr.drew.size)))
    go_wp2_with fail
    go_ret2
    exact⟨HF.out.symm,hB2⟩
 ·
  have hm:adz ((s[0].toNat:Nat):Int)=3:=by unfold adz;split<;>(try split)<;>(try split)<;>omega
  have hh:agk ((s[0].toNat:Nat):Int)=((s[0].toNat:Nat):Int) - 224:=by unfold agk;split<;>(try split)<;>(try split)<;>omega
  by_cases hz:3≤s.size
  case neg=>
   have HF:Hid (ah2 (pt1 (byt s))=PNO):=by show _=_;rw[awd HB.out (by rw[hm];omega)];rfl
   have hz':(s.size:Int) < 3:=by omega
   clear hm hh;go_enter Tryz.func105,Tryz.ntmps105
   go_wp2_with fail
   go_quiet (fail)
   go_wp2_with fail
   go_quiet (fail)
   go_wp2_with fail
   go_ret2
   exact⟨HF.out.symm,below_drewN (zqf _ _) _⟩
  have HM:=zqd hm;have HH:=zqd hh;clear hm hh;go_enter Tryz.func105,Tryz.ntmps105
  go_wp2_with fail
  go_quiet (fail)
  go_wp2_with fail
  go_quiet (fail)
  go_wp2_with fail
  go_loopw [5,6] (fun n i wr=>∃ (k:Nat) (v:Int),1≤k∧k≤3∧n=.int .i64 v∧i=.int .i64 k∧Hid (v=vvl (((s[0].toNat:Nat):Int) - 224) (((byt s).take k).drop 1))∧ptB k v∧Below w.heap.size w wr) (fun _ i _=>4 - (intOf i).toNat)
  case atStart=>exact⟨1,_,by omega,by omega,by first|rfl|(rw[Int.sub_zero]),rfl,zqd (by rw[List.drop_of_length_le (by rw[List.length_take];exact Nat.min_le_left _ _)];rfl),.inl ⟨rfl,by omega,by omega⟩,below_drewN (zqf _ _) _⟩
  case round=>
   obtain⟨k,v,hk1,hk,rfl,rfl,HV,hpb,hbr⟩:=hrel;by_cases hlt:k < 3
   case pos=>
    have hks:k < s.size:=by omega
    have hb2:=arl hks;have arv:s[k].toNat < 256:=s[k].toNat_lt;obtain⟨hv0,hv1,azy⟩:=hpb.next hlt (by omega) s[k].toNat
    have HV2:=zqd (atd HV.out hk1 hb2);have ha:=azw arv;have hst:=bd2 (c:=s[k].toNat) hv0 hv1;have hsh:IntKind.i64.wrap (v * 64)=v * 64:=IntWalk.i64_in _ (by omega);clear hb2 hpb;go_wp2_with fail
    go_roundw
    case rel=>exact⟨k+1,v * 64+((s[k].toNat:Nat):Int) % 64,by omega,by omega,by first|rfl|simpa using hst,by go_num,HV2,azy,hbr⟩
    case measure=>simp[intOf];omega
   have hkm:k=3:=by omega
   subst hkm;have HVV:Hid (v=afl (byt s) ((s[0].toNat:Nat):Int)):=by show _=_;rw[afl,HM.out,HH.out];exact HV.out
   clear hpb;have HCK:=fun W=>ah4 v W;cases hc:ad7 v
   case false=>
    rw[hc] at HCK;have HK:=zqd HCK;clear HCK;have HF:Hid (ah2 (pt1 (byt s))=PNO):=by show _=_;rw[arq HB.out (by rw[← HVV.out];exact hc)];rfl
    go_wp2_with fail
    go_quiet (first|(go_at_call 52;exact Calls.quiet_of_same ((HK.out _).mono fun e w' h=>⟨h.1,h.2.symm⟩)))
    go_wp2_with fail
    go_ret2
    exact⟨HF.out.symm,below_drewN hbr _⟩
   rw[hc] at HCK;have HK:=zqd HCK;clear HCK;have HC:=zqd hc;obtain⟨x,hx⟩:∃ x,x=strOfNums (Lib.encodeRuneZ v):=⟨_,rfl⟩;have HCH:=zqd (fun W=>al3 v hc W);rw[← hx] at HCH;have HX:=zqd hx;clear hx;have hbd:(3:Int)≤(s.size:Int):=by omega
   by_cases hxe:x=s.extract 0 3
   case pos=>
    have HF:Hid (ah2 (pt1 (byt s))=.returned (.tuple #[.int .i64 v,.int .i64 3])):=by show _=_;rw[aru HB.out HVV.out hc (HM.out ▸ hz) (by rw[HM.out,← HX.out];exact hxe),HM.out];rfl
    subst hxe;go_wp2_with fail
    go_region_held3 (fun _=>True) (trivial) (first|(go_at_call 52;refine(HK.out _).mono ?_;rintro e w' ⟨rfl,rfl⟩)|(go_at_call 118;refine(HCH.out _).mono ?_;rintro e w2 ⟨rfl,hb2⟩;have hB2:=hbr.drew.trans (hb2.mono hbr.drew.size)))
    go_wp2_with fail
    go_ret2
    exact⟨HF.out.symm,hB2⟩
   case neg=>
    have HF:Hid (ah2 (pt1 (byt s))=PNO):=by show _=_;rw[ars HB.out HVV.out (by rw[HM.out,← HX.out];exact hxe)];rfl
    have hs2:(x.toList ==(s.extract 0 3).toList)=false:=ag8 hxe;go_wp2_with fail
    go_region_held3 (fun _=>True) (trivial) (first|(go_at_call 52;refine(HK.out _).mono ?_;rintro e w' ⟨rfl,rfl⟩)|(go_at_call 118;refine(HCH.out _).mono ?_;rintro e w2 ⟨rfl,hb2⟩;have hB2:=hbr.drew.trans (hb2.mono hbr.drew.size)))
    go_wp2_with fail
    go_ret2
    exact⟨HF.out.symm,hB2⟩
 ·
  have hm:adz ((s[0].toNat:Nat):Int)=4:=by unfold adz;split<;>(try split)<;>(try split)<;>omega
  have hh:agk ((s[0].toNat:Nat):Int)=((s[0].toNat:Nat):Int) - 240:=by unfold agk;split<;>(try split)<;>(try split)<;>omega
  by_cases hz:4≤s.size
  case neg=>
   have HF:Hid (ah2 (pt1 (byt s))=PNO):=by show _=_;rw[awd HB.out (by rw[hm];omega)];rfl
   have hz':(s.size:Int) < 4:=by omega
   clear hm hh;go_enter Tryz.func105,Tryz.ntmps105
   go_wp2_with fail
   go_quiet (fail)
   go_wp2_with fail
   go_quiet (fail)
   go_wp2_with fail
   go_ret2
   exact⟨HF.out.symm,below_drewN (zqf _ _) _⟩
  have HM:=zqd hm;have HH:=zqd hh;clear hm hh;go_enter Tryz.func105,Tryz.ntmps105
  go_wp2_with fail
  go_quiet (fail)
  go_wp2_with fail
  go_quiet (fail)
  go_wp2_with fail
  go_loopw [5,6] (fun n i wr=>∃ (k:Nat) (v:Int),1≤k∧k≤4∧n=.int .i64 v∧i=.int .i64 k∧Hid (v=vvl (((s[0].toNat:Nat):Int) - 240) (((byt s).take k).drop 1))∧ptB k v∧Below w.heap.size w wr) (fun _ i _=>4 - (intOf i).toNat)
  case atStart=>exact⟨1,_,by omega,by omega,by first|rfl|(rw[Int.sub_zero]),rfl,zqd (by rw[List.drop_of_length_le (by rw[List.length_take];exact Nat.min_le_left _ _)];rfl),.inl ⟨rfl,by omega,by omega⟩,below_drewN (zqf _ _) _⟩
  case round=>
   obtain⟨k,v,hk1,hk,rfl,rfl,HV,hpb,hbr⟩:=hrel;by_cases hlt:k < 4
   case pos=>
    have hks:k < s.size:=by omega
    have hb2:=arl hks;have arv:s[k].toNat < 256:=s[k].toNat_lt;obtain⟨hv0,hv1,azy⟩:=hpb.next hlt (by omega) s[k].toNat
    have HV2:=zqd (atd HV.out hk1 hb2);have ha:=azw arv;have hst:=bd2 (c:=s[k].toNat) hv0 hv1;have hsh:IntKind.i64.wrap (v * 64)=v * 64:=IntWalk.i64_in _ (by omega);clear hb2 hpb;go_wp2_with fail
    go_roundw
    case rel=>exact⟨k+1,v * 64+((s[k].toNat:Nat):Int) % 64,by omega,by omega,by first|rfl|simpa using hst,by go_num,HV2,azy,hbr⟩
    case measure=>simp[intOf];omega
   have hkm:k=4:=by omega
   subst hkm;have HVV:Hid (v=afl (byt s) ((s[0].toNat:Nat):Int)):=by show _=_;rw[afl,HM.out,HH.out];exact HV.out
   clear hpb;have HCK:=fun W=>ah4 v W;cases hc:ad7 v
   case false=>
    rw[hc] at HCK;have HK:=zqd HCK;clear HCK;have HF:Hid (ah2 (pt1 (byt s))=PNO):=by show _=_;rw[arq HB.out (by rw[← HVV.out];exact hc)];rfl
    go_wp2_with fail
    go_quiet (first|(go_at_call 52;exact Calls.quiet_of_same ((HK.out _).mono fun e w' h=>⟨h.1,h.2.symm⟩)))
    go_wp2_with fail
    go_ret2
    exact⟨HF.out.symm,below_drewN hbr _⟩
   rw[hc] at HCK;have HK:=zqd HCK;clear HCK;have HC:=zqd hc;obtain⟨x,hx⟩:∃ x,x=strOfNums (Lib.encodeRuneZ v):=⟨_,rfl⟩;have HCH:=zqd (fun W=>al3 v hc W);rw[← hx] at HCH;have HX:=zqd hx;clear hx;have hbd:(4:Int)≤(s.size:Int):=by omega
   by_cases hxe:x=s.extract 0 4
   case pos=>
    have HF:Hid (ah2 (pt1 (byt s))=.returned (.tuple #[.int .i64 v,.int .i64 4])):=by show _=_;rw[aru HB.out HVV.out hc (HM.out ▸ hz) (by rw[HM.out,← HX.out];exact hxe),HM.out];rfl
    subst hxe;go_wp2_with fail
    go_region_held3 (fun _=>True) (trivial) (first|(go_at_call 52;refine(HK.out _).mono ?_;rintro e w' ⟨rfl,rfl⟩)|(go_at_call 118;refine(HCH.out _).mono ?_;rintro e w2 ⟨rfl,hb2⟩;have hB2:=hbr.drew.trans (hb2.mono hbr.drew.size)))
    go_wp2_with fail
    go_ret2
    exact⟨HF.out.symm,hB2⟩
   case neg=>
    have HF:Hid (ah2 (pt1 (byt s))=PNO):=by show _=_;rw[ars HB.out HVV.out (by rw[HM.out,← HX.out];exact hxe)];rfl
    have hs2:(x.toList ==(s.extract 0 4).toList)=false:=ag8 hxe;go_wp2_with fail
    go_region_held3 (fun _=>True) (trivial) (first|(go_at_call 52;refine(HK.out _).mono ?_;rintro e w' ⟨rfl,rfl⟩)|(go_at_call 118;refine(HCH.out _).mono ?_;rintro e w2 ⟨rfl,hb2⟩;have hB2:=hbr.drew.trans (hb2.mono hbr.drew.size)))
    go_wp2_with fail
    go_ret2
    exact⟨HF.out.symm,hB2⟩
end Go.Proofs.YtfpannkadjdnaaaGreatDoor
namespace Go.Proofs.YtfpannkadjdnaaaGreatDoor
open Go.RowKit
set_option linter.all false
theorem axa {w w':World} {base sz n:Nat} {e:TypeId} {v:Value} {xs:List Value} (h:w.ownsRow base e sz v n xs) (hb:Below w.heap.size w w'):w'.ownsRow base e sz v n xs:=by
 obtain⟨h1,h2⟩:=h;refine⟨h1,?_⟩;rcases h2 with h2|⟨g,cap,cur,hv,hbb,hh,hr⟩
 ·exact .inl h2
 ·exact .inr ⟨g,cap,cur,hv,hbb,by rw[hb.block g (Array.getElem?_eq_some_iff.1 hh).1];exact hh,hr⟩
theorem bd3:(Tryz.prog.info? 2).map (fun i=>(i.zero,i.size,i.bytes))=some (some (.int .i64 0),1,8):=by kernel_rfl
end Go.Proofs.YtfpannkadjdnaaaGreatDoor
namespace Go.Proofs.YtfpannkadjdnaaaGreatDoor
open Go.RowKit Go.Shelf
set_option linter.all false
set_option maxRecDepth 16000
def ano:Go.Shelf.Ren:=⟨fun
  | 196=>76|259=>97|n=>n,fun
  | 0=>0|3=>3|4=>4|5=>5|9=>9|12=>12|46=>65|53=>121|119=>105|138=>107|139=>108|n=>n,fun
  | 3=>0|4=>1|n=>n⟩
set_option maxHeartbeats 2000000 in
theorem a1r:Lays.n196 Tryz.prog ano where
 mixed:=by kernel_rfl
 f196:=Tryz.func76.trans (congrArg some (by kernel_rfl))
 f259:=Tryz.func97.trans (congrArg some (by kernel_rfl))
 t0:=by kernel_rfl
 a0:=fun _=>by kernel_rfl
 z0:=fun _=>by kernel_rfl
 v0:=fun _=>by kernel_rfl
 t3:=by kernel_rfl
 a3:=fun _=>by kernel_rfl
 z3:=fun _=>by kernel_rfl
 v3:=fun _=>by kernel_rfl
 t4:=by kernel_rfl
 a4:=fun _=>by kernel_rfl
 z4:=fun _=>by kernel_rfl
 v4:=fun _=>by kernel_rfl
 t5:=by kernel_rfl
 a5:=fun _=>by kernel_rfl
 z5:=fun _=>by kernel_rfl
 v5:=fun _=>by kernel_rfl
 t9:=by kernel_rfl
 a9:=fun _=>by kernel_rfl
 z9:=fun _=>by kernel_rfl
 v9:=fun _=>by kernel_rfl
 t12:=by kernel_rfl
 a12:=fun _=>by kernel_rfl
 z12:=fun _=>by kernel_rfl
 v12:=fun _=>by kernel_rfl
 t46:=by kernel_rfl
 a46:=fun _=>by kernel_rfl
 z46:=fun _=>by kernel_rfl
 v46:=fun _=>by kernel_rfl
 t53:=by kernel_rfl
 a53:=fun _=>by kernel_rfl
 z53:=fun _=>by kernel_rfl
 v53:=fun _=>by kernel_rfl
 t119:=by kernel_rfl
 a119:=fun _=>by kernel_rfl
 z119:=fun _=>by kernel_rfl
 t138:=by kernel_rfl
 a138:=fun _=>by kernel_rfl
 z138:=fun _=>by kernel_rfl
 v138:=fun _=>by kernel_rfl
 t139:=by kernel_rfl
 a139:=fun _=>by kernel_rfl
 z139:=fun _=>by kernel_rfl
 v139:=fun _=>by kernel_rfl
 g3:=by kernel_rfl
 g4:=by kernel_rfl
def aiz (w:World):Prop:=2≤w.heap.size∧Lib.Utf8Tabs 0 1 w
theorem aiz.step {w w':World} {B:Nat} (h:aiz w) (hb:Below B w w') (hB:2≤B):aiz w':=by
 have hf:∀ (g c:Nat),g < 2→w'.cell? ⟨g,c,none⟩=w.cell? ⟨g,c,none⟩:=fun g c hg=>hb.cell (p:=⟨g,c,none⟩) (by show g < B;omega);refine⟨Nat.le_trans h.1 hb.size,fun c hc=>?_,fun i hi=>⟨?_,?_⟩⟩
 ·rw[hf _ _ (by decide)];exact h.2.1 c hc
 ·rw[hf _ _ (by decide)];exact(h.2.2 i hi).1
 ·rw[hf _ _ (by decide)];exact(h.2.2 i hi).2
theorem aiz.below {w w':World} (h:aiz w) (hb:Below w.heap.size w w'):aiz w':=h.step hb h.1
theorem auw (s:ByteArray) (w:World) (hs:s.size≤maxLen) (hT:aiz w):
  Calls Tryz.prog 76 #[.string s] w fun e w'=>e=.returned (.bool (agd (byt s)).isSome)∧Below w.heap.size w w':=by
 unfold maxLen at hs;have:=Any.utf8_ValidString a1r s w (by omega) hT.2;rw[a5e] at this;exact this
theorem a2q:Rows.laid_unicode_utf8_first=Lib.firstData:=by kernel_rfl
theorem a06:(Rows.laid_unicode_utf8_acceptRanges:DataW Unit)=Lib.acceptData:=by kernel_rfl
end Go.Proofs.YtfpannkadjdnaaaGreatDoor
namespace Go.Proofs.YtfpannkadjdnaaaGreatDoor
open Go.RowKit
set_option linter.all false
set_option maxRecDepth 16000
theorem bvk (x:Int):∀ u ∈ [Value.int .i64 x],u.oneCell'=true:=by
 intro u hu;rw[List.mem_singleton.1 hu];rfl
def byr (w w':World) (o:Option (List Int)) (e:Ending):Prop:=match o with
 | some xs=>∃ u n,e=.returned (.tuple #[u,.bool true])∧w'.ownsRow w.heap.size 2 1 u n (aob xs)
 | none=>e=.returned (.tuple #[.slice none 0 0,.bool false])
set_option maxHeartbeats 3200000 in
theorem ax2 (s:ByteArray) (hs:s.size≤1048576) (w:World):Calls Tryz.prog 88 #[.string s] w fun e w'=>byr w w' (agd (byt s)) e∧Below w.heap.size w w':=by
 obtain⟨i0,hi,hz0,hz1,hz2⟩:=info_parts bd3;have ho0:(w.alloc (.cells #[] 2)).ownsRow w.heap.size 2 1 (.slice (some ⟨w.heap.size,0,none⟩) 0 0) 0 (aob []):=World.ownsRow_made w #[] 0 (zql _) (by simp) (by simp[aob]);have hb0:Below w.heap.size w (w.alloc (.cells #[] 2)):=(zqf _ _).alloc (zql _) _;go_enter Tryz.func88,Tryz.ntmps88
 go_wp2_with fail
 go_loopw [0,4] (fun sv u wr=>∃ (t:ByteArray) (m:Nat) (u':Value) (acc:List Int),u'=u∧sv=.string t∧t.size≤s.size∧m+t.size≤s.size∧Hid (agd (byt s)=(agd (byt t)).map (acc ++·))∧wr.ownsRow w.heap.size 2 1 u' m (aob acc)∧Below w.heap.size w wr) (fun sv _ _=>(match sv with|.string t=>t.size|_=>0))
 case atStart=>exact⟨s,0,_,[],rfl,rfl,zql _,by omega,zqd (by cases agd (byt s)<;>rfl),ho0,hb0⟩
 case round=>
  clear ho0 hb0;obtain⟨t,m,u,acc,rfl,rfl,ht,hmt,HQ,hown,hbr⟩:=hrel;have hsz:=hbr.size;obtain⟨uA,uN,uC,rfl,_⟩:=(Own.aa7 hown).form;by_cases h0:0 < t.size
  case neg=>
   have hHF:Hid (agd (byt s)=some acc):=by
    show _=_;have:byt t=[]:=List.eq_nil_of_length_eq_zero (by rw[ak7];omega);rw[HQ.out,this,bdg];simp
   go_wp2_with fail
   go_ret2
   exact⟨by rw[hHF.out];exact⟨_,_,rfl,hown⟩,hbr⟩
  have HP:=zqd (azx t (by unfold maxLen;omega) wr);cases hp:pt1 (byt t)with
  | none=>
   rw[hp] at HP
   have hHF:Hid (agd (byt s)=none):=by
    show _=_;rw[HQ.out];cases hl:byt t with
    | nil=>have:=congrArg List.length hl;rw[ak7] at this;simp only[List.length_nil] at this;omega
    | cons b r=>rw[hl] at hp;rw[aow hp];rfl
   clear hp;go_wp2_with fail
   refine HP.out.mono ?_;rintro e w1 ⟨he,hb1⟩;replace he:e=.returned (.tuple #[.int .i64 0,.int .i64 0]):=he;obtain rfl:=he;go_wp2_with fail
   go_ret2
   exact⟨by rw[hHF.out];rfl,hbr.trans (hb1.mono hsz)⟩
  | some p=>
   obtain⟨n,k⟩:=p;rw[hp] at HP;obtain⟨g1,g2,g3,g4⟩:=anb hp;have gl:=Lib.encodeRuneZ_length n;rw[ak7] at g3;have hk1:1≤k:=by omega
   have hHQ:Hid (agd (byt s)=(agd (byt (t.extract k t.size))).map ((acc ++[n]) ++·)):=by
    show _=_;rw[HQ.out,aw3 hp,bdf];cases agd ((byt t).drop k)<;>simp
   have hk0:((k:Int) ==0)=false:=by simp;omega
   have hkt:(k:Int)≤(t.size:Int):=by omega
   have hex:(t.extract k t.size).size=t.size - k:=by simp
   clear hp g1 g2 g4 gl;go_wp2_with fail
   refine HP.out.mono ?_;rintro e w1 ⟨he,hb1⟩;replace he:e=.returned (.tuple #[.int .i64 n,.int .i64 k]):=he;obtain rfl:=he;have ho1:=axa hown hb1;have hB1:=hbr.trans (hb1.mono hsz);have hsz1:=hB1.size;have hs1:=ho1.alloc (.cells #[Value.int .i64 n] 2);have hc1:=cell_one_new w1 (Value.int .i64 n) 2;have hB2:Below w.heap.size w (w1.alloc (.cells #[Value.int .i64 n] 2)):=hB1.alloc hsz1 _;clear hown ho1;go_wp2_with (at_builtin;refine wpList_append_own _ rfl _ _ 96 rfl w.heap.size 2 i0 (.int .i64 0) 1 8 Tryz.underlying96 hi hz0 hz1 hz2 rfl (by decide) _ _ _ rfl hs1 ⟨w1.heap.size,0,none⟩ 1 1 [_] rfl rfl hc1 (bvk _) (by simp only[maxLen];omega) (by omega) hB2.size ?_;intro v' w3 hown' hgrow _)
   have hB3:=hB2.grown hgrow hB2.size (fun g hg=>(hs1.lt g hg).1);go_roundw
   case rel=>exact⟨_,m+1,_,acc ++[n],rfl,rfl,by omega,by omega,hHQ,by rw[a0p];exact hown',hB3⟩
   case measure=>simp;omega
theorem awe (s:ByteArray) (hs:s.size≤maxLen) (w:World):Calls Tryz.prog 53 #[.string s] w fun e w'=>e=.returned (.bool (decide (s.size≤24) && (agd (byt s)).isSome))∧Below w.heap.size w w':=by
 unfold maxLen at hs;by_cases h:s.size≤24
 ·have HP:=zqd (ax2 s (by omega) w)
  have h':¬ (24:Int) < (s.size:Int):=by omega
  rw[decide_eq_true h,Bool.true_and];go_enter Tryz.func53,Tryz.ntmps53
  go_wp2_with fail
  refine HP.out.mono ?_;rintro e w1 ⟨he,hb1⟩;cases hq:agd (byt s)with
  | none=>
   rw[hq] at he;replace he:e=.returned (.tuple #[.slice none 0 0,.bool false]):=he;obtain rfl:=he;go_wp2_with fail
   go_ret
   exact⟨by rw[hq];rfl,hb1⟩
  | some xs=>
   rw[hq] at he;obtain⟨u,n,rfl,ho⟩:=he;obtain⟨uA,uN,uC,rfl,_⟩:=(Own.aa7 ho).form;go_wp2_with fail
   go_ret
   exact⟨by rw[hq];rfl,hb1⟩
 ·have h':(24:Int) < (s.size:Int):=by omega
  rw[decide_eq_false h,Bool.false_and];go_enter Tryz.func53,Tryz.ntmps53
  go_wp2_with fail
  go_ret
  exact⟨rfl,zqf _ _⟩
theorem awf (s:ByteArray) (hs:s.size≤maxLen) (w:World) (hT:aiz w):Calls Tryz.prog 44 #[.string s] w fun e w'=>e=.returned (.bool (decide (s.size≤24) && (agd (byt s)).isSome))∧Below w.heap.size w w':=by
 have HV:=zqd (auw s w hs hT);unfold maxLen at hs;obtain⟨q,hq⟩:∃ q,q=(agd (byt s)).isSome:=⟨_,rfl⟩;rw[← hq] at HV ⊢;clear hq;by_cases h:s.size≤24
 ·have h':(s.size:Int)≤24:=by omega
  rw[decide_eq_true h,Bool.true_and];go_enter Tryz.func44,Tryz.ntmps44
  go_wp2_with fail
  refine HV.out.mono ?_;rintro e w1 ⟨rfl,hb1⟩;go_wp2_with fail
  go_ret
  exact⟨rfl,hb1⟩
 ·have h':¬ (s.size:Int)≤24:=by omega
  rw[decide_eq_false h,Bool.false_and];clear HV;go_enter Tryz.func44,Tryz.ntmps44
  go_wp2_with fail
  go_ret
  exact⟨rfl,zqf _ _⟩
end Go.Proofs.YtfpannkadjdnaaaGreatDoor
