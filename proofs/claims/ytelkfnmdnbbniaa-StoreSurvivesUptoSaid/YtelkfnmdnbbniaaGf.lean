/-
  Closed facts on the types and functions of the program. Printed by a program.
-/
import Derived.Test.YtelkfnmdnbbniaaPhn
import Derived.Test.YtelkfnmdnbbniaaProg
import Derived.KernelRfl
namespace Go.Proofs.Ytelkfnmdnbbniaa
open Go Go.Proofs.Try
theorem kf28 : knownFields prog #[{ name := "Sectors", type := 3, offset := 0, embedded := false, tag := "", pkgPath := "", byteOffset := 0 }, { name := "Used", type := 3, offset := 1, embedded := false, tag := "", pkgPath := "", byteOffset := 8 }, { name := "Contents", type := 26, offset := 2, embedded := false, tag := "", pkgPath := "", byteOffset := 16 }] = true := by kernel_rfl
theorem kf41 : knownFields prog #[{ name := "Key", type := 9, offset := 0, embedded := false, tag := "", pkgPath := "", byteOffset := 0 }, { name := "Value", type := 39, offset := 1, embedded := false, tag := "", pkgPath := "", byteOffset := 16 }] = true := by kernel_rfl
theorem kf84 : knownFields prog #[{ name := "d", type := 24, offset := 0, embedded := false, tag := "", pkgPath := "koine/store", byteOffset := 0 }, { name := "size", type := 3, offset := 1, embedded := false, tag := "", pkgPath := "koine/store", byteOffset := 8 }, { name := "half", type := 3, offset := 2, embedded := false, tag := "", pkgPath := "koine/store", byteOffset := 16 }, { name := "number", type := 81, offset := 3, embedded := false, tag := "", pkgPath := "koine/store", byteOffset := 24 }, { name := "used", type := 3, offset := 4, embedded := false, tag := "", pkgPath := "koine/store", byteOffset := 32 }, { name := "contents", type := 82, offset := 5, embedded := false, tag := "", pkgPath := "koine/store", byteOffset := 40 }, { name := "broken", type := 4, offset := 6, embedded := false, tag := "", pkgPath := "koine/store", byteOffset := 48 }] = true := by kernel_rfl
theorem kf99 : knownFields prog #[{ name := "durable", type := 39, offset := 0, embedded := false, tag := "", pkgPath := "koine/disk", byteOffset := 0 }, { name := "writes", type := 97, offset := 1, embedded := false, tag := "", pkgPath := "koine/disk", byteOffset := 24 }, { name := "down", type := 4, offset := 2, embedded := false, tag := "", pkgPath := "koine/disk", byteOffset := 48 }, { name := "fuse", type := 3, offset := 3, embedded := false, tag := "", pkgPath := "koine/disk", byteOffset := 56 }, { name := "kept", type := 68, offset := 4, embedded := false, tag := "", pkgPath := "koine/disk", byteOffset := 64 }] = true := by kernel_rfl
theorem kf102 : knownFields prog #[{ name := "at", type := 3, offset := 0, embedded := false, tag := "", pkgPath := "koine/disk", byteOffset := 0 }, { name := "data", type := 100, offset := 1, embedded := false, tag := "", pkgPath := "koine/disk", byteOffset := 8 }] = true := by kernel_rfl
theorem sz3 : tsz prog 3 = some (1, 8) := by kernel_rfl
theorem sz4 : tsz prog 4 = some (1, 1) := by kernel_rfl
theorem sz5 : tsz prog 5 = some (1, 1) := by kernel_rfl
theorem sz9 : tsz prog 9 = some (1, 16) := by kernel_rfl
theorem sz24 : tsz prog 24 = some (1, 8) := by kernel_rfl
theorem sz26 : tsz prog 26 = some (1, 24) := by kernel_rfl
theorem sz28 : tsz prog 28 = some (3, 40) := by kernel_rfl
theorem sz36 : tsz prog 36 = some (1, 24) := by kernel_rfl
theorem sz38 : tsz prog 38 = some (2, 32) := by kernel_rfl
theorem sz39 : tsz prog 39 = some (1, 24) := by kernel_rfl
theorem sz41 : tsz prog 41 = some (2, 40) := by kernel_rfl
theorem sz44 : tsz prog 44 = some (3, 3) := by kernel_rfl
theorem sz68 : tsz prog 68 = some (1, 24) := by kernel_rfl
theorem sz81 : tsz prog 81 = some (1, 8) := by kernel_rfl
theorem sz82 : tsz prog 82 = some (1, 8) := by kernel_rfl
theorem sz97 : tsz prog 97 = some (1, 24) := by kernel_rfl
theorem sz100 : tsz prog 100 = some (64, 64) := by kernel_rfl
theorem sz102 : tsz prog 102 = some (65, 72) := by kernel_rfl
theorem sz104 : tsz prog 104 = some (64, 64) := by kernel_rfl
theorem zr3 : tzero prog 3 = some (Value.int .i64 0) := by kernel_rfl
theorem zr5 : tzero prog 5 = some (Value.int .u8 0) := by kernel_rfl
theorem zr9 : tzero prog 9 = some (Value.string ⟨#[]⟩) := by kernel_rfl
theorem zr28 : tzero prog 28 = some (Value.agg (#[Value.int .i64 0, Value.int .i64 0, Value.slice none 0 0])) := by kernel_rfl
theorem zr41 : tzero prog 41 = some (Value.agg (#[Value.string ⟨#[]⟩, Value.slice none 0 0])) := by kernel_rfl
theorem zr84 : tzero prog 84 = some (Value.agg (#[Value.pointer none, Value.int .i64 0, Value.int .i64 0, Value.int .u64 0, Value.int .i64 0, Value.map none, Value.bool false])) := by kernel_rfl
theorem zr99 : tzero prog 99 = some (Value.agg (#[Value.slice none 0 0, Value.slice none 0 0, Value.bool false, Value.int .i64 0, Value.slice none 0 0])) := by kernel_rfl
theorem zr102 : tzero prog 102 = some (Value.agg (#[Value.int .i64 0] ++ Array.replicate 64 (Value.int .u8 0))) := by kernel_rfl
theorem zr104 : tzero prog 104 = some (Value.agg (Array.replicate 64 (Value.int .u8 0))) := by kernel_rfl
theorem cb10 : callableB prog 10 = true := by kernel_rfl
theorem cb11 : callableB prog 11 = true := by kernel_rfl
theorem cb12 : callableB prog 12 = true := by kernel_rfl
theorem cb13 : callableB prog 13 = true := by kernel_rfl
theorem cb14 : callableB prog 14 = true := by kernel_rfl
theorem cb15 : callableB prog 15 = true := by kernel_rfl
theorem cb16 : callableB prog 16 = true := by kernel_rfl
theorem cb17 : callableB prog 17 = true := by kernel_rfl
theorem cb18 : callableB prog 18 = true := by kernel_rfl
theorem cb19 : callableB prog 19 = true := by kernel_rfl
theorem cb20 : callableB prog 20 = true := by kernel_rfl
theorem cb21 : callableB prog 21 = true := by kernel_rfl
theorem cb22 : callableB prog 22 = true := by kernel_rfl
theorem cb23 : callableB prog 23 = true := by kernel_rfl
theorem cb24 : callableB prog 24 = true := by kernel_rfl
theorem cb25 : callableB prog 25 = true := by kernel_rfl
theorem cb28 : callableB prog 28 = true := by kernel_rfl
theorem cb29 : callableB prog 29 = true := by kernel_rfl
theorem cb30 : callableB prog 30 = true := by kernel_rfl
theorem cb31 : callableB prog 31 = true := by kernel_rfl
theorem cb32 : callableB prog 32 = true := by kernel_rfl
theorem cb33 : callableB prog 33 = true := by kernel_rfl
theorem cb34 : callableB prog 34 = true := by kernel_rfl
theorem cb35 : callableB prog 35 = true := by kernel_rfl
theorem cb38 : callableB prog 38 = true := by kernel_rfl
theorem cb39 : callableB prog 39 = true := by kernel_rfl
theorem cb40 : callableB prog 40 = true := by kernel_rfl
theorem cb41 : callableB prog 41 = true := by kernel_rfl
theorem cb42 : callableB prog 42 = true := by kernel_rfl
theorem cb43 : callableB prog 43 = true := by kernel_rfl
theorem cb44 : callableB prog 44 = true := by kernel_rfl
theorem cb45 : callableB prog 45 = true := by kernel_rfl
theorem cb46 : callableB prog 46 = true := by kernel_rfl
theorem cb47 : callableB prog 47 = true := by kernel_rfl
theorem cb48 : callableB prog 48 = true := by kernel_rfl
theorem cb49 : callableB prog 49 = true := by kernel_rfl
theorem cb50 : callableB prog 50 = true := by kernel_rfl
theorem cb51 : callableB prog 51 = true := by kernel_rfl
theorem cb52 : callableB prog 52 = true := by kernel_rfl
theorem cb53 : callableB prog 53 = true := by kernel_rfl
theorem cb54 : callableB prog 54 = true := by kernel_rfl
theorem cb55 : callableB prog 55 = true := by kernel_rfl
theorem cb56 : callableB prog 56 = true := by kernel_rfl
theorem cb57 : callableB prog 57 = true := by kernel_rfl
theorem cb58 : callableB prog 58 = true := by kernel_rfl
theorem cb61 : callableB prog 61 = true := by kernel_rfl
theorem cb62 : callableB prog 62 = true := by kernel_rfl
theorem cb64 : callableB prog 64 = true := by kernel_rfl
theorem cb65 : callableB prog 65 = true := by kernel_rfl
theorem cb66 : callableB prog 66 = true := by kernel_rfl
theorem cb67 : callableB prog 67 = true := by kernel_rfl
theorem cb68 : callableB prog 68 = true := by kernel_rfl
theorem cb69 : callableB prog 69 = true := by kernel_rfl
theorem cb70 : callableB prog 70 = true := by kernel_rfl
theorem cb74 : callableB prog 74 = true := by kernel_rfl
end Go.Proofs.Ytelkfnmdnbbniaa
