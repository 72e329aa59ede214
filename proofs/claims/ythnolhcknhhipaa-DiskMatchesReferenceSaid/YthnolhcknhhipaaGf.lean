/-
  Closed facts on the types and functions of the program. Printed by a program.
-/
import Derived.Test.YthnolhcknhhipaaPhf
import Derived.Test.YthnolhcknhhipaaProg
import Derived.KernelRfl
namespace Go.Proofs.Ythnolhcknhhipaa
open Go Go.Proofs.Try
theorem kf48 : knownFields prog #[{ name := "Contents", type := 45, offset := 0, embedded := false, tag := "", pkgPath := "", byteOffset := 0 }, { name := "Writes", type := 46, offset := 1, embedded := false, tag := "", pkgPath := "", byteOffset := 24 }, { name := "Down", type := 4, offset := 2, embedded := false, tag := "", pkgPath := "", byteOffset := 48 }, { name := "Fuse", type := 3, offset := 3, embedded := false, tag := "", pkgPath := "", byteOffset := 56 }, { name := "Kept", type := 37, offset := 4, embedded := false, tag := "", pkgPath := "", byteOffset := 64 }] = true := by kernel_rfl
theorem kf63 : knownFields prog #[{ name := "durable", type := 26, offset := 0, embedded := false, tag := "", pkgPath := "koine/disk", byteOffset := 0 }, { name := "writes", type := 61, offset := 1, embedded := false, tag := "", pkgPath := "koine/disk", byteOffset := 24 }, { name := "down", type := 4, offset := 2, embedded := false, tag := "", pkgPath := "koine/disk", byteOffset := 48 }, { name := "fuse", type := 3, offset := 3, embedded := false, tag := "", pkgPath := "koine/disk", byteOffset := 56 }, { name := "kept", type := 37, offset := 4, embedded := false, tag := "", pkgPath := "koine/disk", byteOffset := 64 }] = true := by kernel_rfl
theorem kf66 : knownFields prog #[{ name := "at", type := 3, offset := 0, embedded := false, tag := "", pkgPath := "koine/disk", byteOffset := 0 }, { name := "data", type := 64, offset := 1, embedded := false, tag := "", pkgPath := "koine/disk", byteOffset := 8 }] = true := by kernel_rfl
theorem kf72 : knownFields prog #[{ name := "At", type := 3, offset := 0, embedded := false, tag := "", pkgPath := "", byteOffset := 0 }, { name := "Data", type := 26, offset := 1, embedded := false, tag := "", pkgPath := "", byteOffset := 8 }] = true := by kernel_rfl
theorem sz3 : tsz prog 3 = some (1, 8) := by kernel_rfl
theorem sz4 : tsz prog 4 = some (1, 1) := by kernel_rfl
theorem sz5 : tsz prog 5 = some (1, 1) := by kernel_rfl
theorem sz22 : tsz prog 22 = some (1, 24) := by kernel_rfl
theorem sz26 : tsz prog 26 = some (1, 24) := by kernel_rfl
theorem sz37 : tsz prog 37 = some (1, 24) := by kernel_rfl
theorem sz38 : tsz prog 38 = some (4, 96) := by kernel_rfl
theorem sz40 : tsz prog 40 = some (5, 56) := by kernel_rfl
theorem sz45 : tsz prog 45 = some (1, 24) := by kernel_rfl
theorem sz46 : tsz prog 46 = some (1, 24) := by kernel_rfl
theorem sz48 : tsz prog 48 = some (5, 88) := by kernel_rfl
theorem sz61 : tsz prog 61 = some (1, 24) := by kernel_rfl
theorem sz63 : tsz prog 63 = some (5, 88) := by kernel_rfl
theorem sz64 : tsz prog 64 = some (64, 64) := by kernel_rfl
theorem sz66 : tsz prog 66 = some (65, 72) := by kernel_rfl
theorem sz72 : tsz prog 72 = some (2, 32) := by kernel_rfl
theorem zr3 : tzero prog 3 = some (Value.int .i64 0) := by kernel_rfl
theorem zr5 : tzero prog 5 = some (Value.int .u8 0) := by kernel_rfl
theorem zr26 : tzero prog 26 = some (Value.slice none 0 0) := by kernel_rfl
theorem zr38 : tzero prog 38 = some (Value.agg (#[Value.slice none 0 0, Value.slice none 0 0, Value.slice none 0 0, Value.slice none 0 0])) := by kernel_rfl
theorem zr48 : tzero prog 48 = some (Value.agg (#[Value.slice none 0 0, Value.slice none 0 0, Value.bool false, Value.int .i64 0, Value.slice none 0 0])) := by kernel_rfl
theorem zr63 : tzero prog 63 = some (Value.agg (#[Value.slice none 0 0, Value.slice none 0 0, Value.bool false, Value.int .i64 0, Value.slice none 0 0])) := by kernel_rfl
theorem zr66 : tzero prog 66 = some (Value.agg (#[Value.int .i64 0] ++ Array.replicate 64 (Value.int .u8 0))) := by kernel_rfl
theorem zr72 : tzero prog 72 = some (Value.agg (#[Value.int .i64 0, Value.slice none 0 0])) := by kernel_rfl
theorem cb10 : callableB prog 10 = true := by kernel_rfl
theorem cb11 : callableB prog 11 = true := by kernel_rfl
theorem cb12 : callableB prog 12 = true := by kernel_rfl
theorem cb13 : callableB prog 13 = true := by kernel_rfl
theorem cb14 : callableB prog 14 = true := by kernel_rfl
theorem cb15 : callableB prog 15 = true := by kernel_rfl
theorem cb16 : callableB prog 16 = true := by kernel_rfl
theorem cb17 : callableB prog 17 = true := by kernel_rfl
theorem cb18 : callableB prog 18 = true := by kernel_rfl
theorem cb19 : callableB prog 19 = true := by kernel_rfl
theorem cb20 : callableB prog 20 = true := by kernel_rfl
theorem cb21 : callableB prog 21 = true := by kernel_rfl
theorem cb22 : callableB prog 22 = true := by kernel_rfl
theorem cb23 : callableB prog 23 = true := by kernel_rfl
theorem cb24 : callableB prog 24 = true := by kernel_rfl
theorem cb25 : callableB prog 25 = true := by kernel_rfl
theorem cb26 : callableB prog 26 = true := by kernel_rfl
theorem cb27 : callableB prog 27 = true := by kernel_rfl
theorem cb28 : callableB prog 28 = true := by kernel_rfl
theorem cb29 : callableB prog 29 = true := by kernel_rfl
theorem cb30 : callableB prog 30 = true := by kernel_rfl
theorem cb31 : callableB prog 31 = true := by kernel_rfl
theorem cb32 : callableB prog 32 = true := by kernel_rfl
theorem cb33 : callableB prog 33 = true := by kernel_rfl
theorem cb34 : callableB prog 34 = true := by kernel_rfl
theorem cb35 : callableB prog 35 = true := by kernel_rfl
theorem cb36 : callableB prog 36 = true := by kernel_rfl
theorem cb37 : callableB prog 37 = true := by kernel_rfl
theorem cb38 : callableB prog 38 = true := by kernel_rfl
theorem cb39 : callableB prog 39 = true := by kernel_rfl
end Go.Proofs.Ythnolhcknhhipaa
