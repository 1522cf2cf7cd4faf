/-
  DERIVED: THE SHELF's CONTRACTS AT THIS DUMP, IN PLAIN WORDS (tools/lay-plain.mjs out of 'YtboghahlhmnblaaGreatShelfB.lean', which tools/lay-shelf.mjs wrote): THE SAME DECLARATIONS UNDER THE SAME NAMES: 'import', 'namespace', 'open', 'def', 'theorem' AND NOTHING ELSE: no command of the shelf's: FOR A HAND-IN. Each laying: the table of numbers ('.._ren') and one theorem, a field a fact of the dump's own or the kernel's comparison; each contract: ONE APPLICATION.
-/
import Derived.Shelf.Small.Bits
import Derived.Shelf.Bits.Mul64
import Derived.Ground.NamesProg
import Derived.Test.YtboghahlhmnblaaGreatProg
namespace Go.Proofs
open Go.Shelf
def YtboghahlhmnblaaGreat.lays133_ren: Go.Shelf.Ren := ⟨λ| 133 => 370 | 128 => 276 | n => n, λ| 51 => 275 | 3 => 3 | 4 => 4 | 46 => 216 | 5 => 5 | 9 => 9 | n => n, λ| n => n⟩
theorem YtboghahlhmnblaaGreat.lays133: Go.Proofs.Lays.n133 Tryz.prog YtboghahlhmnblaaGreat.lays133_ren := {
  mixed := by kernel_rfl
  f128 := Tryz.func276.trans (congrArg some (by kernel_rfl))
  f133 := Tryz.func370.trans (congrArg some (by kernel_rfl))
  t3 := Tryz.underlying3
  a3 := Tryz.isAgg3
  z3 := Tryz.sizeOf3
  v3 := Tryz.zeroValue3
  t4 := Tryz.underlying4
  a4 := Tryz.isAgg4
  z4 := Tryz.sizeOf4
  v4 := Tryz.zeroValue4
  t5 := Tryz.underlying5
  a5 := Tryz.isAgg5
  z5 := Tryz.sizeOf5
  v5 := Tryz.zeroValue5
  t9 := Tryz.underlying9
  a9 := Tryz.isAgg9
  z9 := Tryz.sizeOf9
  v9 := Tryz.zeroValue9
  t46 := Tryz.underlying216
  a46 := Tryz.isAgg216
  z46 := Tryz.sizeOf216
  v46 := Tryz.zeroValue216
  t51 := Tryz.underlying275
  a51 := Tryz.isAgg275
  z51 := Tryz.sizeOf275
  v51 := Tryz.zeroValue275 }
def YtboghahlhmnblaaGreat.lays125_ren: Go.Shelf.Ren := ⟨λ| 125 => 211 | 128 => 276 | 129 => 277 | n => n, λ| 46 => 216 | 3 => 3 | 51 => 275 | 53 => 274 | 4 => 4 | 5 => 5 | 9 => 9 | n => n, λ| n => n⟩
theorem YtboghahlhmnblaaGreat.lays125: Go.Proofs.Lays.n125 Tryz.prog YtboghahlhmnblaaGreat.lays125_ren := {
  mixed := by kernel_rfl
  f125 := Tryz.func211.trans (congrArg some (by kernel_rfl))
  f128 := Tryz.func276.trans (congrArg some (by kernel_rfl))
  f129 := Tryz.func277.trans (congrArg some (by kernel_rfl))
  t3 := Tryz.underlying3
  a3 := Tryz.isAgg3
  z3 := Tryz.sizeOf3
  v3 := Tryz.zeroValue3
  t4 := Tryz.underlying4
  a4 := Tryz.isAgg4
  z4 := Tryz.sizeOf4
  v4 := Tryz.zeroValue4
  t5 := Tryz.underlying5
  a5 := Tryz.isAgg5
  z5 := Tryz.sizeOf5
  v5 := Tryz.zeroValue5
  t9 := Tryz.underlying9
  a9 := Tryz.isAgg9
  z9 := Tryz.sizeOf9
  v9 := Tryz.zeroValue9
  t46 := Tryz.underlying216
  a46 := Tryz.isAgg216
  z46 := Tryz.sizeOf216
  v46 := Tryz.zeroValue216
  t51 := Tryz.underlying275
  a51 := Tryz.isAgg275
  z51 := Tryz.sizeOf275
  v51 := Tryz.zeroValue275
  t53 := Tryz.underlying274
  a53 := Tryz.isAgg274
  z53 := Tryz.sizeOf274
  v53 := Tryz.zeroValue274 }
def YtboghahlhmnblaaGreat.lays264_ren: Go.Shelf.Ren := ⟨λ| 264 => 253 | n => n, λ| 53 => 274 | 46 => 216 | n => n, λ| n => n⟩
theorem YtboghahlhmnblaaGreat.lays264: Go.Proofs.Lays.n264 Tryz.prog YtboghahlhmnblaaGreat.lays264_ren := {
  mixed := by kernel_rfl
  f264 := Tryz.func253.trans (congrArg some (by kernel_rfl))
  t46 := Tryz.underlying216
  a46 := Tryz.isAgg216
  z46 := Tryz.sizeOf216
  v46 := Tryz.zeroValue216
  t53 := Tryz.underlying274
  a53 := Tryz.isAgg274
  z53 := Tryz.sizeOf274
  v53 := Tryz.zeroValue274 }
end Go.Proofs
