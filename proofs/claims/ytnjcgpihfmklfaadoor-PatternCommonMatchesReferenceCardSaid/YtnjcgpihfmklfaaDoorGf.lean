/-
  Closed facts on the types and functions of the program. Printed by a program.
-/
import Derived.Test.YtnjcgpihfmklfaaDoorPhm
import Derived.Test.YtnjcgpihfmklfaaDoorProg
import Derived.KernelRfl
namespace Go.Proofs.YtnjcgpihfmklfaaDoor
open Go Go.Proofs.Tryd
theorem eg76 : prog.eqGuardType prog.depth 76 = false := by kernel_rfl
theorem kf50 : knownFields prog #[{ name := "Kind", type := 3, offset := 0, embedded := false, tag := "", pkgPath := "", byteOffset := 0 }, { name := "Lo", type := 3, offset := 1, embedded := false, tag := "", pkgPath := "", byteOffset := 8 }, { name := "Hi", type := 3, offset := 2, embedded := false, tag := "", pkgPath := "", byteOffset := 16 }, { name := "A", type := 3, offset := 3, embedded := false, tag := "", pkgPath := "", byteOffset := 24 }, { name := "B", type := 3, offset := 4, embedded := false, tag := "", pkgPath := "", byteOffset := 32 }] = true := by kernel_rfl
theorem kf79 : knownFields prog #[{ name := "p", type := 25, offset := 0, embedded := false, tag := "", pkgPath := "koine/pattern", byteOffset := 0 }, { name := "first", type := 76, offset := 1, embedded := false, tag := "", pkgPath := "koine/pattern", byteOffset := 24 }, { name := "last", type := 76, offset := 9, embedded := false, tag := "", pkgPath := "koine/pattern", byteOffset := 88 }, { name := "follow", type := 77, offset := 17, embedded := false, tag := "", pkgPath := "koine/pattern", byteOffset := 152 }, { name := "empty", type := 4, offset := 18, embedded := false, tag := "", pkgPath := "koine/pattern", byteOffset := 176 }] = true := by kernel_rfl
theorem kf83 : knownFields prog #[{ name := "s", type := 9, offset := 0, embedded := false, tag := "", pkgPath := "koine/pattern", byteOffset := 0 }, { name := "at", type := 3, offset := 1, embedded := false, tag := "", pkgPath := "koine/pattern", byteOffset := 16 }, { name := "out", type := 25, offset := 2, embedded := false, tag := "", pkgPath := "koine/pattern", byteOffset := 24 }, { name := "wrong", type := 4, offset := 3, embedded := false, tag := "", pkgPath := "koine/pattern", byteOffset := 48 }] = true := by kernel_rfl
theorem kf92 : knownFields prog #[{ name := "i", type := 3, offset := 0, embedded := false, tag := "", pkgPath := "koine/pattern", byteOffset := 0 }, { name := "j", type := 3, offset := 1, embedded := false, tag := "", pkgPath := "koine/pattern", byteOffset := 8 }] = true := by kernel_rfl
theorem kf96 : knownFields prog #[{ name := "End", type := 4, offset := 0, embedded := false, tag := "", pkgPath := "", byteOffset := 0 }, { name := "Next", type := 69, offset := 1, embedded := false, tag := "", pkgPath := "", byteOffset := 8 }] = true := by kernel_rfl
theorem kf99 : knownFields prog #[{ name := "S", type := 96, offset := 0, embedded := false, tag := "", pkgPath := "", byteOffset := 0 }, { name := "T", type := 96, offset := 2, embedded := false, tag := "", pkgPath := "", byteOffset := 32 }, { name := "Text", type := 9, offset := 4, embedded := false, tag := "", pkgPath := "", byteOffset := 64 }] = true := by kernel_rfl
theorem sz3 : tsz prog 3 = some (1, 8) := by kernel_rfl
theorem sz4 : tsz prog 4 = some (1, 1) := by kernel_rfl
theorem sz5 : tsz prog 5 = some (1, 1) := by kernel_rfl
theorem sz9 : tsz prog 9 = some (1, 16) := by kernel_rfl
theorem sz25 : tsz prog 25 = some (1, 24) := by kernel_rfl
theorem sz50 : tsz prog 50 = some (5, 40) := by kernel_rfl
theorem sz61 : tsz prog 61 = some (1, 8) := by kernel_rfl
theorem sz66 : tsz prog 66 = some (1, 8) := by kernel_rfl
theorem sz69 : tsz prog 69 = some (1, 24) := by kernel_rfl
theorem sz74 : tsz prog 74 = some (1, 8) := by kernel_rfl
theorem sz76 : tsz prog 76 = some (8, 64) := by kernel_rfl
theorem sz77 : tsz prog 77 = some (1, 24) := by kernel_rfl
theorem sz87 : tsz prog 87 = some (1, 8) := by kernel_rfl
theorem sz89 : tsz prog 89 = some (1, 24) := by kernel_rfl
theorem sz92 : tsz prog 92 = some (2, 16) := by kernel_rfl
theorem sz96 : tsz prog 96 = some (2, 32) := by kernel_rfl
theorem sz99 : tsz prog 99 = some (5, 80) := by kernel_rfl
theorem sz104 : tsz prog 104 = some (1, 8) := by kernel_rfl
theorem sz108 : tsz prog 108 = some (1, 8) := by kernel_rfl
theorem zr3 : tzero prog 3 = some (Value.int .i64 0) := by kernel_rfl
theorem zr4 : tzero prog 4 = some (Value.bool false) := by kernel_rfl
theorem zr5 : tzero prog 5 = some (Value.int .u8 0) := by kernel_rfl
theorem zr25 : tzero prog 25 = some (Value.slice none 0 0) := by kernel_rfl
theorem zr50 : tzero prog 50 = some (Value.agg (#[Value.int .i64 0, Value.int .i64 0, Value.int .i64 0, Value.int .i64 0, Value.int .i64 0])) := by kernel_rfl
theorem zr61 : tzero prog 61 = some (Value.pointer none) := by kernel_rfl
theorem zr66 : tzero prog 66 = some (Value.nilFunc) := by kernel_rfl
theorem zr69 : tzero prog 69 = some (Value.slice none 0 0) := by kernel_rfl
theorem zr76 : tzero prog 76 = some (Value.agg (#[Value.int .u64 0, Value.int .u64 0, Value.int .u64 0, Value.int .u64 0, Value.int .u64 0, Value.int .u64 0, Value.int .u64 0, Value.int .u64 0])) := by kernel_rfl
theorem zr77 : tzero prog 77 = some (Value.slice none 0 0) := by kernel_rfl
theorem zr79 : tzero prog 79 = some (Value.agg (#[Value.slice none 0 0, Value.int .u64 0, Value.int .u64 0, Value.int .u64 0, Value.int .u64 0, Value.int .u64 0, Value.int .u64 0, Value.int .u64 0, Value.int .u64 0, Value.int .u64 0, Value.int .u64 0, Value.int .u64 0, Value.int .u64 0, Value.int .u64 0, Value.int .u64 0, Value.int .u64 0, Value.int .u64 0, Value.slice none 0 0, Value.bool false])) := by kernel_rfl
theorem zr83 : tzero prog 83 = some (Value.agg (#[Value.string ⟨#[]⟩, Value.int .i64 0, Value.slice none 0 0, Value.bool false])) := by kernel_rfl
theorem zr87 : tzero prog 87 = some (Value.map none) := by kernel_rfl
theorem zr89 : tzero prog 89 = some (Value.slice none 0 0) := by kernel_rfl
theorem zr92 : tzero prog 92 = some (Value.agg (#[Value.int .i64 0, Value.int .i64 0])) := by kernel_rfl
theorem zr96 : tzero prog 96 = some (Value.agg (#[Value.bool false, Value.slice none 0 0])) := by kernel_rfl
theorem zr99 : tzero prog 99 = some (Value.agg (#[Value.bool false, Value.slice none 0 0, Value.bool false, Value.slice none 0 0, Value.string ⟨#[]⟩])) := by kernel_rfl
theorem zr104 : tzero prog 104 = some (Value.nilFunc) := by kernel_rfl
theorem zr108 : tzero prog 108 = some (Value.nilFunc) := by kernel_rfl
theorem cb15 : callableB prog 15 = true := by kernel_rfl
theorem cb16 : callableB prog 16 = true := by kernel_rfl
theorem cb17 : callableB prog 17 = true := by kernel_rfl
theorem cb19 : callableB prog 19 = true := by kernel_rfl
theorem cb21 : callableB prog 21 = true := by kernel_rfl
theorem cb22 : callableB prog 22 = true := by kernel_rfl
theorem cb23 : callableB prog 23 = true := by kernel_rfl
theorem cb25 : callableB prog 25 = true := by kernel_rfl
theorem cb29 : callableB prog 29 = true := by kernel_rfl
theorem cb30 : callableB prog 30 = true := by kernel_rfl
theorem cb31 : callableB prog 31 = true := by kernel_rfl
theorem cb32 : callableB prog 32 = true := by kernel_rfl
theorem cb38 : callableB prog 38 = true := by kernel_rfl
theorem cb39 : callableB prog 39 = true := by kernel_rfl
theorem cb40 : callableB prog 40 = true := by kernel_rfl
theorem cb41 : callableB prog 41 = true := by kernel_rfl
theorem cb42 : callableB prog 42 = true := by kernel_rfl
theorem cb43 : callableB prog 43 = true := by kernel_rfl
theorem cb47 : callableB prog 47 = true := by kernel_rfl
theorem cb49 : callableB prog 49 = true := by kernel_rfl
theorem cb50 : callableB prog 50 = true := by kernel_rfl
theorem cb51 : callableB prog 51 = true := by kernel_rfl
theorem cb52 : callableB prog 52 = true := by kernel_rfl
theorem cb55 : callableB prog 55 = true := by kernel_rfl
theorem cb57 : callableB prog 57 = true := by kernel_rfl
theorem cb58 : callableB prog 58 = true := by kernel_rfl
theorem cb59 : callableB prog 59 = true := by kernel_rfl
theorem cb61 : callableB prog 61 = true := by kernel_rfl
theorem cb62 : callableB prog 62 = true := by kernel_rfl
theorem cb63 : callableB prog 63 = true := by kernel_rfl
theorem cb64 : callableB prog 64 = true := by kernel_rfl
theorem cb66 : callableB prog 66 = true := by kernel_rfl
theorem cb68 : callableB prog 68 = true := by kernel_rfl
theorem cb70 : callableB prog 70 = true := by kernel_rfl
theorem cb72 : callableB prog 72 = true := by kernel_rfl
theorem cb74 : callableB prog 74 = true := by kernel_rfl
theorem cb77 : callableB prog 77 = true := by kernel_rfl
theorem cb78 : callableB prog 78 = true := by kernel_rfl
theorem cb79 : callableB prog 79 = true := by kernel_rfl
theorem cb82 : callableB prog 82 = true := by kernel_rfl
theorem cb86 : callableB prog 86 = true := by kernel_rfl
theorem cb87 : callableB prog 87 = true := by kernel_rfl
theorem cb88 : callableB prog 88 = true := by kernel_rfl
theorem cb89 : callableB prog 89 = true := by kernel_rfl
theorem cb91 : callableB prog 91 = true := by kernel_rfl
theorem cb93 : callableB prog 93 = true := by kernel_rfl
theorem cb95 : callableB prog 95 = true := by kernel_rfl
end Go.Proofs.YtnjcgpihfmklfaaDoor
