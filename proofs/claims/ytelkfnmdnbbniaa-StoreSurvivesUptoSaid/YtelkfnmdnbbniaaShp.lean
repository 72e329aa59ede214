/-
  DERIVED: THE SHELF's CONTRACTS AT THIS DUMP, IN PLAIN WORDS (tools/lay-plain.mjs out of 'YtelkfnmdnbbniaaShq.lean', which tools/lay-shelf.mjs wrote): THE SAME DECLARATIONS UNDER THE SAME NAMES: 'import', 'namespace', 'open', 'def', 'theorem' AND NOTHING ELSE: no command of the shelf's: FOR A HAND-IN. Each laying: the table of numbers ('.._ren') and one theorem, a field a fact of the dump's own or the kernel's comparison; each contract: ONE APPLICATION.
-/
import Derived.Shelf.SlGeneric
import Derived.Shelf.SlIter.Stops
import Derived.Shelf.SortM.Plain
import Derived.Shelf.SortM.SortNone
import Derived.Ground.GgzProg
import Derived.Ground.SlgmProg
import Derived.Test.YtelkfnmdnbbniaaProg
namespace Go.Proofs
open Go.Shelf
def Try.keysA_ren : Go.Shelf.Ren := ⟨fun | 7 => 59 | 10 => 71 | n => n, fun | 23 => 82 | 26 => 9 | 3 => 39 | 28 => 107 | 0 => 0 | 27 => 106 | 33 => 118 | 4 => 4 | n => n, fun | n => n⟩
theorem Try.keysA : Go.Proofs.SlLaysZ.n7 Try.prog Try.keysA_ren := {
 mixed := by kernel_rfl
 f7 := ⟨Try.f59.name, by decide, Try.func59.trans (congrArg some (by kernel_rfl))⟩
 f10 := ⟨Try.f71.name, by decide, Try.func71.trans (congrArg some (by kernel_rfl))⟩
 t0 := Try.underlying0
 a0 := Try.isAgg0
 z0 := Try.sizeOf0
 v0 := Try.zeroValue0
 t4 := Try.underlying4
 a4 := Try.isAgg4
 z4 := Try.sizeOf4
 v4 := Try.zeroValue4
 t23 := Try.underlying82
 a23 := Try.isAgg82
 z23 := Try.sizeOf82
 v23 := Try.zeroValue82
 t26 := Try.underlying9
 a26 := Try.isAgg9
 z26 := Try.sizeOf9
 v26 := Try.zeroValue9
 t27 := Try.underlying106
 a27 := Try.isAgg106
 z27 := Try.sizeOf106
 v27 := Try.zeroValue106
 t28 := Try.underlying107
 a28 := Try.isAgg107
 z28 := Try.sizeOf107
 v28 := Try.zeroValue107
 t33 := Try.underlying118
 a33 := Try.isAgg118
 z33 := Try.sizeOf118
 v33 := Try.zeroValue118 }
def Try.sortA_ren : Go.Shelf.Ren := ⟨fun | 6 => 60 | 8 => 73 | 9 => 72 | 19 => 84 | 20 => 85 | 21 => 75 | 22 => 76 | 23 => 77 | 24 => 78 | 25 => 79 | 26 => 80 | 27 => 81 | 28 => 82 | 29 => 83 | 36 => 86 | 31 => 87 | 32 => 88 | 37 => 89 | 38 => 90 | 39 => 91 | 41 => 92 | n => n, fun | 27 => 62 | 29 => 9 | 3 => 3 | 32 => 115 | 26 => 62 | 0 => 0 | 44 => 132 | 46 => 81 | 4 => 4 | 36 => 124 | 35 => 123 | 41 => 129 | 5 => 5 | 9 => 9 | 53 => 134 | 57 => 138 | 63 => 140 | 64 => 141 | n => n, fun | n => n⟩
theorem Try.sortA : Go.Proofs.SlLaysM.n6 Try.prog Try.sortA_ren := {
 mixed := by kernel_rfl
 f6 := ⟨Try.f60.name, by decide, Try.func60.trans (congrArg some (by kernel_rfl))⟩
 f8 := Try.func73.trans (congrArg some (by kernel_rfl))
 f9 := ⟨Try.f72.name, by decide, Try.func72.trans (congrArg some (by kernel_rfl))⟩
 f19 := Try.func84.trans (congrArg some (by kernel_rfl))
 f20 := Try.func85.trans (congrArg some (by kernel_rfl))
 f21 := ⟨Try.f75.name, by decide, Try.func75.trans (congrArg some (by kernel_rfl))⟩
 f22 := ⟨Try.f76.name, by decide, Try.func76.trans (congrArg some (by kernel_rfl))⟩
 f23 := ⟨Try.f77.name, by decide, Try.func77.trans (congrArg some (by kernel_rfl))⟩
 f24 := ⟨Try.f78.name, by decide, Try.func78.trans (congrArg some (by kernel_rfl))⟩
 f25 := ⟨Try.f79.name, by decide, Try.func79.trans (congrArg some (by kernel_rfl))⟩
 f26 := ⟨Try.f80.name, by decide, Try.func80.trans (congrArg some (by kernel_rfl))⟩
 f27 := ⟨Try.f81.name, by decide, Try.func81.trans (congrArg some (by kernel_rfl))⟩
 f28 := ⟨Try.f82.name, by decide, Try.func82.trans (congrArg some (by kernel_rfl))⟩
 f29 := ⟨Try.f83.name, by decide, Try.func83.trans (congrArg some (by kernel_rfl))⟩
 f31 := Try.func87.trans (congrArg some (by kernel_rfl))
 f32 := Try.func88.trans (congrArg some (by kernel_rfl))
 f36 := ⟨Try.f86.name, by decide, Try.func86.trans (congrArg some (by kernel_rfl))⟩
 f37 := ⟨Try.f89.name, by decide, Try.func89.trans (congrArg some (by kernel_rfl))⟩
 f38 := ⟨Try.f90.name, by decide, Try.func90.trans (congrArg some (by kernel_rfl))⟩
 f39 := ⟨Try.f91.name, by decide, Try.func91.trans (congrArg some (by kernel_rfl))⟩
 f41 := ⟨Try.f92.name, by decide, Try.func92.trans (congrArg some (by kernel_rfl))⟩
 t0 := Try.underlying0
 a0 := Try.isAgg0
 z0 := Try.sizeOf0
 v0 := Try.zeroValue0
 t3 := Try.underlying3
 a3 := Try.isAgg3
 z3 := Try.sizeOf3
 v3 := Try.zeroValue3
 t4 := Try.underlying4
 a4 := Try.isAgg4
 z4 := Try.sizeOf4
 v4 := Try.zeroValue4
 t5 := Try.underlying5
 a5 := Try.isAgg5
 z5 := Try.sizeOf5
 v5 := Try.zeroValue5
 t9 := Try.underlying9
 a9 := Try.isAgg9
 z9 := Try.sizeOf9
 v9 := Try.zeroValue9
 t26 := Try.underlying62
 a26 := Try.isAgg62
 z26 := Try.sizeOf62
 v26 := Try.zeroValue62
 t27 := Try.underlying62
 a27 := Try.isAgg62
 z27 := Try.sizeOf62
 v27 := Try.zeroValue62
 t29 := Try.underlying9
 a29 := Try.isAgg9
 z29 := Try.sizeOf9
 v29 := Try.zeroValue9
 t32 := Try.underlying115
 a32 := Try.isAgg115
 z32 := Try.sizeOf115
 v32 := Try.zeroValue115
 t35 := Try.underlying123
 a35 := Try.isAgg123
 z35 := Try.sizeOf123
 v35 := Try.zeroValue123
 t36 := Try.underlying124
 a36 := Try.isAgg124
 z36 := Try.sizeOf124
 v36 := Try.zeroValue124
 t41 := Try.underlying129
 a41 := Try.isAgg129
 z41 := Try.sizeOf129
 v41 := Try.zeroValue129
 t44 := Try.underlying132
 a44 := Try.isAgg132
 z44 := Try.sizeOf132
 v44 := Try.zeroValue132
 t46 := Try.underlying81
 a46 := Try.isAgg81
 z46 := Try.sizeOf81
 v46 := Try.zeroValue81
 t53 := Try.underlying134
 a53 := Try.isAgg134
 z53 := Try.sizeOf134
 v53 := Try.zeroValue134
 t57 := Try.underlying138
 a57 := Try.isAgg138
 z57 := Try.sizeOf138
 v57 := Try.zeroValue138
 t63 := Try.underlying140
 a63 := Try.isAgg140
 z63 := Try.sizeOf140
 v63 := Try.zeroValue140
 t64 := Try.underlying141
 a64 := Try.isAgg141
 z64 := Try.sizeOf141
 v64 := Try.zeroValue141 }
end Go.Proofs
