/-
  slices.Sort at []string: the shelf's contract laid over this program (by program: gen_sort.py).
-/
import Derived.Test.YtmmeaakhikcigaaRows
import Derived.Shelf.SortM.Plain
import Derived.Shelf.SortM.SortNone
namespace Go.Proofs.Ytmmeaakhikcigaa
open Go.RowKit Go.Shelf
set_option linter.unusedVariables false
set_option maxRecDepth 100000
def so_ren : Go.Shelf.Ren := ⟨fun | 6 => 189 | 8 => 198 | 9 => 197 | 19 => 211 | 20 => 212 | 21 => 202 | 22 => 203 | 23 => 204 | 24 => 205 | 25 => 206 | 26 => 207 | 27 => 208 | 28 => 209 | 29 => 210 | 36 => 213 | 31 => 214 | 32 => 215 | 37 => 216 | 38 => 217 | 39 => 218 | 41 => 219 | n => n, fun | 0 => 0 | 3 => 3 | 4 => 4 | 5 => 5 | 9 => 9 | 26 => 45 | 27 => 45 | 29 => 9 | 32 => 174 | 35 => 176 | 36 => 177 | 41 => 182 | 44 => 185 | 46 => 187 | 53 => 188 | 57 => 192 | 63 => 194 | 64 => 195 | n => n, fun n => n⟩
set_option maxHeartbeats 2000000 in
theorem so_lays : SlLaysM.n6 Try.prog so_ren :=
  { mixed := by kernel_rfl
    f6 := ⟨Try.f189.name, by kernel_rfl, Try.func189.trans (congrArg some (by kernel_rfl))⟩
    f8 := Try.func198.trans (congrArg some (by kernel_rfl))
    f9 := ⟨Try.f197.name, by kernel_rfl, Try.func197.trans (congrArg some (by kernel_rfl))⟩
    f19 := Try.func211.trans (congrArg some (by kernel_rfl))
    f20 := Try.func212.trans (congrArg some (by kernel_rfl))
    f21 := ⟨Try.f202.name, by kernel_rfl, Try.func202.trans (congrArg some (by kernel_rfl))⟩
    f22 := ⟨Try.f203.name, by kernel_rfl, Try.func203.trans (congrArg some (by kernel_rfl))⟩
    f23 := ⟨Try.f204.name, by kernel_rfl, Try.func204.trans (congrArg some (by kernel_rfl))⟩
    f24 := ⟨Try.f205.name, by kernel_rfl, Try.func205.trans (congrArg some (by kernel_rfl))⟩
    f25 := ⟨Try.f206.name, by kernel_rfl, Try.func206.trans (congrArg some (by kernel_rfl))⟩
    f26 := ⟨Try.f207.name, by kernel_rfl, Try.func207.trans (congrArg some (by kernel_rfl))⟩
    f27 := ⟨Try.f208.name, by kernel_rfl, Try.func208.trans (congrArg some (by kernel_rfl))⟩
    f28 := ⟨Try.f209.name, by kernel_rfl, Try.func209.trans (congrArg some (by kernel_rfl))⟩
    f29 := ⟨Try.f210.name, by kernel_rfl, Try.func210.trans (congrArg some (by kernel_rfl))⟩
    f31 := Try.func214.trans (congrArg some (by kernel_rfl))
    f32 := Try.func215.trans (congrArg some (by kernel_rfl))
    f36 := ⟨Try.f213.name, by kernel_rfl, Try.func213.trans (congrArg some (by kernel_rfl))⟩
    f37 := ⟨Try.f216.name, by kernel_rfl, Try.func216.trans (congrArg some (by kernel_rfl))⟩
    f38 := ⟨Try.f217.name, by kernel_rfl, Try.func217.trans (congrArg some (by kernel_rfl))⟩
    f39 := ⟨Try.f218.name, by kernel_rfl, Try.func218.trans (congrArg some (by kernel_rfl))⟩
    f41 := ⟨Try.f219.name, by kernel_rfl, Try.func219.trans (congrArg some (by kernel_rfl))⟩
    t0 := by kernel_rfl
    a0 := fun _ => by kernel_rfl
    z0 := fun _ => by kernel_rfl
    v0 := fun _ => by kernel_rfl
    t3 := by kernel_rfl
    a3 := fun _ => by kernel_rfl
    z3 := fun _ => by kernel_rfl
    v3 := fun _ => by kernel_rfl
    t4 := by kernel_rfl
    a4 := fun _ => by kernel_rfl
    z4 := fun _ => by kernel_rfl
    v4 := fun _ => by kernel_rfl
    t5 := by kernel_rfl
    a5 := fun _ => by kernel_rfl
    z5 := fun _ => by kernel_rfl
    v5 := fun _ => by kernel_rfl
    t9 := by kernel_rfl
    a9 := fun _ => by kernel_rfl
    z9 := fun _ => by kernel_rfl
    v9 := fun _ => by kernel_rfl
    t26 := by kernel_rfl
    a26 := fun _ => by kernel_rfl
    z26 := fun _ => by kernel_rfl
    v26 := fun _ => by kernel_rfl
    t27 := by kernel_rfl
    a27 := fun _ => by kernel_rfl
    z27 := fun _ => by kernel_rfl
    v27 := fun _ => by kernel_rfl
    t29 := by kernel_rfl
    a29 := fun _ => by kernel_rfl
    z29 := fun _ => by kernel_rfl
    v29 := fun _ => by kernel_rfl
    t32 := by kernel_rfl
    a32 := fun _ => by kernel_rfl
    z32 := fun _ => by kernel_rfl
    v32 := fun _ => by kernel_rfl
    t35 := by kernel_rfl
    a35 := fun _ => by kernel_rfl
    z35 := fun _ => by kernel_rfl
    v35 := fun _ => by kernel_rfl
    t36 := by kernel_rfl
    a36 := fun _ => by kernel_rfl
    z36 := fun _ => by kernel_rfl
    v36 := fun _ => by kernel_rfl
    t41 := by kernel_rfl
    a41 := fun _ => by kernel_rfl
    z41 := fun _ => by kernel_rfl
    v41 := fun _ => by kernel_rfl
    t44 := by kernel_rfl
    a44 := fun _ => by kernel_rfl
    z44 := fun _ => by kernel_rfl
    v44 := fun _ => by kernel_rfl
    t46 := by kernel_rfl
    a46 := fun _ => by kernel_rfl
    z46 := fun _ => by kernel_rfl
    v46 := fun _ => by kernel_rfl
    t53 := by kernel_rfl
    a53 := fun _ => by kernel_rfl
    z53 := fun _ => by kernel_rfl
    v53 := fun _ => by kernel_rfl
    t57 := by kernel_rfl
    a57 := fun _ => by kernel_rfl
    z57 := fun _ => by kernel_rfl
    v57 := fun _ => by kernel_rfl
    t63 := by kernel_rfl
    a63 := fun _ => by kernel_rfl
    z63 := fun _ => by kernel_rfl
    v63 := fun _ => by kernel_rfl
    t64 := by kernel_rfl
    a64 := fun _ => by kernel_rfl
    z64 := fun _ => by kernel_rfl
    v64 := fun _ => by kernel_rfl }
end Go.Proofs.Ytmmeaakhikcigaa
