/-
  One code point in UTF-8: CharOk, spec.l04Char (the string).
-/
import Derived.Test.YtfpannkadjdnaaaGreatDoorTa10
import Derived.Test.YtfpannkadjdnaaaGreatDoorTa12
import Derived.Laws.BytesArg
import Derived.Laws.BitsAllLaws
import Derived.Laws.BitsLemmas
import Derived.Lib.RuneBytes
namespace Go.Proofs.YtfpannkadjdnaaaGreatDoor
open Go.RowKit
set_option linter.all false
set_option maxRecDepth 100000
theorem arp (n:Int) (h0:0≤n) (h1:n≤9223372036854775807):bits .and .i64 n 63=n % 64:=by
 obtain⟨a,rfl⟩:=Int.eq_ofNat_of_zero_le h0;have hx:a &&& 63=a % 64:=Nat.and_two_pow_sub_one_eq_mod a 6
 have hof:∀ b:Nat,b < 9223372036854775808→(BitVec.ofInt 64 (b:Int)).toNat=b:=fun b hb=>by
  rw[BitVec.ofInt_natCast,BitVec.toNat_ofNat];exact Nat.mod_eq_of_lt (by omega)
 show IntKind.i64.wrap ((BitVec.ofInt 64 (a:Int) &&& BitVec.ofInt 64 ((63:Nat):Int)).toNat:Int)=_;rw[BitVec.toNat_and,hof a (by omega),hof 63 (by omega),IntKind.wrap_i64,hx];omega
theorem strLit (w:World) (xs:List Int) (n:Nat) (C:Array Value) (hn:xs.length=n) (hC:C=(xs.map (Value.int .u8)).toArray):
  (convert 94 9 (.slice (some ⟨w.heap.size,0,none⟩) n n)).run Tryz.prog (w.alloc (.cells C 5))=.ok (.string (strOfNums xs)) (w.alloc (.cells C 5)):=by
 subst hC;refine run_convert_bytes_arg _ _ _ Tryz.underlying94 Tryz.underlying5 _ 0 n n xs hn (fun i hi=>?_) _ Tryz.underlying9;refine(Blk.cell (Blk.new w 5 _) (0+i)).trans ?_;have:i < xs.length:=by omega
 simp[this]
theorem ah4 (n:Int) (w:World):Calls Tryz.prog 52 #[.int .i64 n] w fun e w'=>e=.returned (.bool (ad7 n))∧w=w':=by
 cases h1:inB n 0 55295<;>cases h2:inB n 57344 1114111
 all_goals
  go_enter Tryz.func52,Tryz.ntmps52
  go_wp2_with (first|(go_at_call 56;refine(oz _ _ _ _).mono ?_;rintro e w' ⟨rfl,rfl⟩))
  go_ret
  exact⟨au (by simp[ad7,h1,h2]),rfl⟩
theorem av9 (n:Int) (w:World):Calls Tryz.prog 75 #[.int .i64 n] w fun e w'=>e=.returned (.bool (ad7 n))∧w=w':=by
 cases h1:inB n 0 55295<;>cases h2:inB n 57344 1114111
 all_goals
  go_enter Tryz.func75,Tryz.ntmps75
  go_wp2_with (first|(go_at_call 67;refine(ny _ _ _ _).mono ?_;rintro e w' ⟨rfl,rfl⟩))
  go_ret
  exact⟨au (by simp[ad7,h1,h2]),rfl⟩
theorem al3 (n:Int) (h:ad7 n=true) (w:World):
  Calls Tryz.prog 118 #[.int .i64 n] w fun e w'=>e=.returned (.string (strOfNums (Lib.encodeRuneZ n)))∧Below w.heap.size w w':=by
 have hr:=ajx h;clear h;by_cases h1:n < 128
 ·rw[Lib.encodeRuneZ_one (by omega) (by omega)]
  have k1:=strLit w [n] 1 #[.int .u8 n] rfl rfl;have e1:IntKind.u8.wrap n=n:=by rw[IntKind.wrap_u8];omega
  clear hr;go_enter Tryz.func118,Tryz.ntmps118
  go_wp2_with fail
  go_ret
  exact⟨rfl,(zqf _ _).alloc (zql _) _⟩
 by_cases h2:n < 2048
 ·rw[Lib.encodeRuneZ_two (by omega) (by omega)]
  have k1:=strLit w [192+n / 64,128+n % 64] 2 #[.int .u8 (192+n / 64),.int .u8 (128+n % 64)] rfl rfl;have a1:=arp n (by omega) (by omega);go_enter Tryz.func118,Tryz.ntmps118
  go_wp2_with fail
  go_ret
  exact⟨rfl,(zqf _ _).alloc (zql _) _⟩
 by_cases h3:n < 65536
 ·rw[Lib.encodeRuneZ_three (by omega)]
  have k1:=strLit w [224+n / 4096,128+n / 64 % 64,128+n % 64] 3 #[.int .u8 (224+n / 4096),.int .u8 (128+n / 64 % 64),.int .u8 (128+n % 64)] rfl rfl;have a1:=arp n (by omega) (by omega);have a2:=arp (n / 64) (by omega) (by omega);go_enter Tryz.func118,Tryz.ntmps118
  go_wp2_with fail
  go_ret
  exact⟨rfl,(zqf _ _).alloc (zql _) _⟩
 ·rw[Lib.encodeRuneZ_four (by omega) (by omega)]
  have k1:=strLit w [240+n / 262144,128+n / 4096 % 64,128+n / 64 % 64,128+n % 64] 4 #[.int .u8 (240+n / 262144),.int .u8 (128+n / 4096 % 64),.int .u8 (128+n / 64 % 64),.int .u8 (128+n % 64)] rfl rfl;have a1:=arp n (by omega) (by omega);have a2:=arp (n / 64) (by omega) (by omega);have a3:=arp (n / 4096) (by omega) (by omega);go_enter Tryz.func118,Tryz.ntmps118
  go_wp2_with fail
  go_ret
  exact⟨rfl,(zqf _ _).alloc (zql _) _⟩
end Go.Proofs.YtfpannkadjdnaaaGreatDoor
