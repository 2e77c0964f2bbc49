/-
  slices.Sort at []string: the shelf's contract laid over this program (by program: gen_sort.py).
-/
import Derived.Test.YtbafphecjijdmaaGreatDoorRows
import Derived.Shelf.SortM.Plain
import Derived.Shelf.SortM.SortNone
namespace Go.Proofs.YtbafphecjijdmaaGreatDoor
open Go.RowKit Go.Shelf
set_option linter.unusedVariables false
set_option maxRecDepth 100000
def so_ren : Go.Shelf.Ren := ⟨fun | 6 => 157 | 8 => 173 | 9 => 172 | 19 => 193 | 20 => 194 | 21 => 184 | 22 => 185 | 23 => 186 | 24 => 187 | 25 => 188 | 26 => 189 | 27 => 190 | 28 => 191 | 29 => 192 | 36 => 209 | 31 => 210 | 32 => 211 | 37 => 212 | 38 => 213 | 39 => 152 | 41 => 221 | n => n, fun | 0 => 0 | 3 => 3 | 4 => 4 | 5 => 5 | 9 => 9 | 26 => 22 | 27 => 22 | 29 => 9 | 32 => 183 | 35 => 196 | 36 => 197 | 41 => 201 | 44 => 204 | 46 => 189 | 53 => 217 | 57 => 221 | 63 => 237 | 64 => 238 | n => n, fun n => n⟩
set_option maxHeartbeats 2000000 in
theorem so_lays : SlLaysM.n6 Tryz.prog so_ren :=
  { mixed := by kernel_rfl
    f6 := ⟨Tryz.f157.name, by kernel_rfl, Tryz.func157.trans (congrArg some (by kernel_rfl))⟩
    f8 := Tryz.func173.trans (congrArg some (by kernel_rfl))
    f9 := ⟨Tryz.f172.name, by kernel_rfl, Tryz.func172.trans (congrArg some (by kernel_rfl))⟩
    f19 := Tryz.func193.trans (congrArg some (by kernel_rfl))
    f20 := Tryz.func194.trans (congrArg some (by kernel_rfl))
    f21 := ⟨Tryz.f184.name, by kernel_rfl, Tryz.func184.trans (congrArg some (by kernel_rfl))⟩
    f22 := ⟨Tryz.f185.name, by kernel_rfl, Tryz.func185.trans (congrArg some (by kernel_rfl))⟩
    f23 := ⟨Tryz.f186.name, by kernel_rfl, Tryz.func186.trans (congrArg some (by kernel_rfl))⟩
    f24 := ⟨Tryz.f187.name, by kernel_rfl, Tryz.func187.trans (congrArg some (by kernel_rfl))⟩
    f25 := ⟨Tryz.f188.name, by kernel_rfl, Tryz.func188.trans (congrArg some (by kernel_rfl))⟩
    f26 := ⟨Tryz.f189.name, by kernel_rfl, Tryz.func189.trans (congrArg some (by kernel_rfl))⟩
    f27 := ⟨Tryz.f190.name, by kernel_rfl, Tryz.func190.trans (congrArg some (by kernel_rfl))⟩
    f28 := ⟨Tryz.f191.name, by kernel_rfl, Tryz.func191.trans (congrArg some (by kernel_rfl))⟩
    f29 := ⟨Tryz.f192.name, by kernel_rfl, Tryz.func192.trans (congrArg some (by kernel_rfl))⟩
    f31 := Tryz.func210.trans (congrArg some (by kernel_rfl))
    f32 := Tryz.func211.trans (congrArg some (by kernel_rfl))
    f36 := ⟨Tryz.f209.name, by kernel_rfl, Tryz.func209.trans (congrArg some (by kernel_rfl))⟩
    f37 := ⟨Tryz.f212.name, by kernel_rfl, Tryz.func212.trans (congrArg some (by kernel_rfl))⟩
    f38 := ⟨Tryz.f213.name, by kernel_rfl, Tryz.func213.trans (congrArg some (by kernel_rfl))⟩
    f39 := ⟨Tryz.f152.name, by kernel_rfl, Tryz.func152.trans (congrArg some (by kernel_rfl))⟩
    f41 := ⟨Tryz.f221.name, by kernel_rfl, Tryz.func221.trans (congrArg some (by kernel_rfl))⟩
    t0 := by kernel_rfl
    a0 := fun _ => by kernel_rfl
    z0 := fun _ => by kernel_rfl
    v0 := fun _ => by kernel_rfl
    t3 := by kernel_rfl
    a3 := fun _ => by kernel_rfl
    z3 := fun _ => by kernel_rfl
    v3 := fun _ => by kernel_rfl
    t4 := by kernel_rfl
    a4 := fun _ => by kernel_rfl
    z4 := fun _ => by kernel_rfl
    v4 := fun _ => by kernel_rfl
    t5 := by kernel_rfl
    a5 := fun _ => by kernel_rfl
    z5 := fun _ => by kernel_rfl
    v5 := fun _ => by kernel_rfl
    t9 := by kernel_rfl
    a9 := fun _ => by kernel_rfl
    z9 := fun _ => by kernel_rfl
    v9 := fun _ => by kernel_rfl
    t26 := by kernel_rfl
    a26 := fun _ => by kernel_rfl
    z26 := fun _ => by kernel_rfl
    v26 := fun _ => by kernel_rfl
    t27 := by kernel_rfl
    a27 := fun _ => by kernel_rfl
    z27 := fun _ => by kernel_rfl
    v27 := fun _ => by kernel_rfl
    t29 := by kernel_rfl
    a29 := fun _ => by kernel_rfl
    z29 := fun _ => by kernel_rfl
    v29 := fun _ => by kernel_rfl
    t32 := by kernel_rfl
    a32 := fun _ => by kernel_rfl
    z32 := fun _ => by kernel_rfl
    v32 := fun _ => by kernel_rfl
    t35 := by kernel_rfl
    a35 := fun _ => by kernel_rfl
    z35 := fun _ => by kernel_rfl
    v35 := fun _ => by kernel_rfl
    t36 := by kernel_rfl
    a36 := fun _ => by kernel_rfl
    z36 := fun _ => by kernel_rfl
    v36 := fun _ => by kernel_rfl
    t41 := by kernel_rfl
    a41 := fun _ => by kernel_rfl
    z41 := fun _ => by kernel_rfl
    v41 := fun _ => by kernel_rfl
    t44 := by kernel_rfl
    a44 := fun _ => by kernel_rfl
    z44 := fun _ => by kernel_rfl
    v44 := fun _ => by kernel_rfl
    t46 := by kernel_rfl
    a46 := fun _ => by kernel_rfl
    z46 := fun _ => by kernel_rfl
    v46 := fun _ => by kernel_rfl
    t53 := by kernel_rfl
    a53 := fun _ => by kernel_rfl
    z53 := fun _ => by kernel_rfl
    v53 := fun _ => by kernel_rfl
    t57 := by kernel_rfl
    a57 := fun _ => by kernel_rfl
    z57 := fun _ => by kernel_rfl
    v57 := fun _ => by kernel_rfl
    t63 := by kernel_rfl
    a63 := fun _ => by kernel_rfl
    z63 := fun _ => by kernel_rfl
    v63 := fun _ => by kernel_rfl
    t64 := by kernel_rfl
    a64 := fun _ => by kernel_rfl
    z64 := fun _ => by kernel_rfl
    v64 := fun _ => by kernel_rfl }
end Go.Proofs.YtbafphecjijdmaaGreatDoor
