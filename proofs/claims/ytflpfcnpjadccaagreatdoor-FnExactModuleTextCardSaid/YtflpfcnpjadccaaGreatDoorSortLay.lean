/-
  slices.Sort at []string: the shelf's contract laid over this program (by program: gen_sort.py).
-/
import Derived.Test.YtflpfcnpjadccaaGreatDoorRows
import Derived.Shelf.SortM.Plain
import Derived.Shelf.SortM.SortNone
namespace Go.Proofs.YtflpfcnpjadccaaGreatDoor
open Go.RowKit Go.Shelf
set_option linter.unusedVariables false
set_option maxRecDepth 100000
def so_ren : Go.Shelf.Ren := ⟨fun | 6 => 115 | 8 => 134 | 9 => 133 | 19 => 159 | 20 => 136 | 21 => 150 | 22 => 151 | 23 => 152 | 24 => 153 | 25 => 154 | 26 => 155 | 27 => 156 | 28 => 157 | 29 => 158 | 36 => 166 | 31 => 167 | 32 => 168 | 37 => 169 | 38 => 170 | 39 => 171 | 41 => 172 | n => n, fun | 0 => 0 | 3 => 3 | 4 => 4 | 5 => 5 | 9 => 9 | 26 => 47 | 27 => 47 | 29 => 9 | 32 => 152 | 35 => 176 | 36 => 177 | 41 => 181 | 44 => 162 | 46 => 138 | 53 => 203 | 57 => 207 | 63 => 213 | 64 => 214 | n => n, fun n => n⟩
set_option maxHeartbeats 2000000 in
theorem so_lays : SlLaysM.n6 Tryz.prog so_ren :=
  { mixed := by kernel_rfl
    f6 := ⟨Tryz.f115.name, by kernel_rfl, Tryz.func115.trans (congrArg some (by kernel_rfl))⟩
    f8 := Tryz.func134.trans (congrArg some (by kernel_rfl))
    f9 := ⟨Tryz.f133.name, by kernel_rfl, Tryz.func133.trans (congrArg some (by kernel_rfl))⟩
    f19 := Tryz.func159.trans (congrArg some (by kernel_rfl))
    f20 := Tryz.func136.trans (congrArg some (by kernel_rfl))
    f21 := ⟨Tryz.f150.name, by kernel_rfl, Tryz.func150.trans (congrArg some (by kernel_rfl))⟩
    f22 := ⟨Tryz.f151.name, by kernel_rfl, Tryz.func151.trans (congrArg some (by kernel_rfl))⟩
    f23 := ⟨Tryz.f152.name, by kernel_rfl, Tryz.func152.trans (congrArg some (by kernel_rfl))⟩
    f24 := ⟨Tryz.f153.name, by kernel_rfl, Tryz.func153.trans (congrArg some (by kernel_rfl))⟩
    f25 := ⟨Tryz.f154.name, by kernel_rfl, Tryz.func154.trans (congrArg some (by kernel_rfl))⟩
    f26 := ⟨Tryz.f155.name, by kernel_rfl, Tryz.func155.trans (congrArg some (by kernel_rfl))⟩
    f27 := ⟨Tryz.f156.name, by kernel_rfl, Tryz.func156.trans (congrArg some (by kernel_rfl))⟩
    f28 := ⟨Tryz.f157.name, by kernel_rfl, Tryz.func157.trans (congrArg some (by kernel_rfl))⟩
    f29 := ⟨Tryz.f158.name, by kernel_rfl, Tryz.func158.trans (congrArg some (by kernel_rfl))⟩
    f31 := Tryz.func167.trans (congrArg some (by kernel_rfl))
    f32 := Tryz.func168.trans (congrArg some (by kernel_rfl))
    f36 := ⟨Tryz.f166.name, by kernel_rfl, Tryz.func166.trans (congrArg some (by kernel_rfl))⟩
    f37 := ⟨Tryz.f169.name, by kernel_rfl, Tryz.func169.trans (congrArg some (by kernel_rfl))⟩
    f38 := ⟨Tryz.f170.name, by kernel_rfl, Tryz.func170.trans (congrArg some (by kernel_rfl))⟩
    f39 := ⟨Tryz.f171.name, by kernel_rfl, Tryz.func171.trans (congrArg some (by kernel_rfl))⟩
    f41 := ⟨Tryz.f172.name, by kernel_rfl, Tryz.func172.trans (congrArg some (by kernel_rfl))⟩
    t0 := by kernel_rfl
    a0 := fun _ => by kernel_rfl
    z0 := fun _ => by kernel_rfl
    v0 := fun _ => by kernel_rfl
    t3 := by kernel_rfl
    a3 := fun _ => by kernel_rfl
    z3 := fun _ => by kernel_rfl
    v3 := fun _ => by kernel_rfl
    t4 := by kernel_rfl
    a4 := fun _ => by kernel_rfl
    z4 := fun _ => by kernel_rfl
    v4 := fun _ => by kernel_rfl
    t5 := by kernel_rfl
    a5 := fun _ => by kernel_rfl
    z5 := fun _ => by kernel_rfl
    v5 := fun _ => by kernel_rfl
    t9 := by kernel_rfl
    a9 := fun _ => by kernel_rfl
    z9 := fun _ => by kernel_rfl
    v9 := fun _ => by kernel_rfl
    t26 := by kernel_rfl
    a26 := fun _ => by kernel_rfl
    z26 := fun _ => by kernel_rfl
    v26 := fun _ => by kernel_rfl
    t27 := by kernel_rfl
    a27 := fun _ => by kernel_rfl
    z27 := fun _ => by kernel_rfl
    v27 := fun _ => by kernel_rfl
    t29 := by kernel_rfl
    a29 := fun _ => by kernel_rfl
    z29 := fun _ => by kernel_rfl
    v29 := fun _ => by kernel_rfl
    t32 := by kernel_rfl
    a32 := fun _ => by kernel_rfl
    z32 := fun _ => by kernel_rfl
    v32 := fun _ => by kernel_rfl
    t35 := by kernel_rfl
    a35 := fun _ => by kernel_rfl
    z35 := fun _ => by kernel_rfl
    v35 := fun _ => by kernel_rfl
    t36 := by kernel_rfl
    a36 := fun _ => by kernel_rfl
    z36 := fun _ => by kernel_rfl
    v36 := fun _ => by kernel_rfl
    t41 := by kernel_rfl
    a41 := fun _ => by kernel_rfl
    z41 := fun _ => by kernel_rfl
    v41 := fun _ => by kernel_rfl
    t44 := by kernel_rfl
    a44 := fun _ => by kernel_rfl
    z44 := fun _ => by kernel_rfl
    v44 := fun _ => by kernel_rfl
    t46 := by kernel_rfl
    a46 := fun _ => by kernel_rfl
    z46 := fun _ => by kernel_rfl
    v46 := fun _ => by kernel_rfl
    t53 := by kernel_rfl
    a53 := fun _ => by kernel_rfl
    z53 := fun _ => by kernel_rfl
    v53 := fun _ => by kernel_rfl
    t57 := by kernel_rfl
    a57 := fun _ => by kernel_rfl
    z57 := fun _ => by kernel_rfl
    v57 := fun _ => by kernel_rfl
    t63 := by kernel_rfl
    a63 := fun _ => by kernel_rfl
    z63 := fun _ => by kernel_rfl
    v63 := fun _ => by kernel_rfl
    t64 := by kernel_rfl
    a64 := fun _ => by kernel_rfl
    z64 := fun _ => by kernel_rfl
    v64 := fun _ => by kernel_rfl }
end Go.Proofs.YtflpfcnpjadccaaGreatDoor
