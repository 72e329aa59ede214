/-
  Closed facts on the types and functions of the program. Printed by a program.
-/
import Derived.Test.YtafojmoeaneedaaPhm
import Derived.Test.YtafojmoeaneedaaProg
import Derived.KernelRfl
namespace Go.Proofs.Ytafojmoeaneedaa
open Go Go.Proofs.Try
theorem eg72 : prog.eqGuardType prog.depth 72 = false := by kernel_rfl
theorem kf28 : knownFields prog #[{ name := "Nodes", type := 26, offset := 0, embedded := false, tag := "", pkgPath := "", byteOffset := 0 }, { name := "Root", type := 3, offset := 1, embedded := false, tag := "", pkgPath := "", byteOffset := 24 }] = true := by kernel_rfl
theorem kf72 : knownFields prog #[{ name := "Var", type := 3, offset := 0, embedded := false, tag := "", pkgPath := "", byteOffset := 0 }, { name := "Low", type := 3, offset := 1, embedded := false, tag := "", pkgPath := "", byteOffset := 8 }, { name := "High", type := 3, offset := 2, embedded := false, tag := "", pkgPath := "", byteOffset := 16 }] = true := by kernel_rfl
theorem kf84 : knownFields prog #[{ name := "nodes", type := 26, offset := 0, embedded := false, tag := "", pkgPath := "koine/diagram", byteOffset := 0 }, { name := "known", type := 82, offset := 1, embedded := false, tag := "", pkgPath := "koine/diagram", byteOffset := 24 }] = true := by kernel_rfl
theorem kf131 : knownFields prog #[{ name := "a", type := 28, offset := 0, embedded := false, tag := "", pkgPath := "koine/koineref02", byteOffset := 0 }, { name := "b", type := 28, offset := 2, embedded := false, tag := "", pkgPath := "koine/koineref02", byteOffset := 32 }, { name := "op", type := 3, offset := 4, embedded := false, tag := "", pkgPath := "koine/koineref02", byteOffset := 64 }, { name := "nodes", type := 26, offset := 5, embedded := false, tag := "", pkgPath := "koine/koineref02", byteOffset := 72 }, { name := "seen", type := 129, offset := 6, embedded := false, tag := "", pkgPath := "koine/koineref02", byteOffset := 96 }] = true := by kernel_rfl
theorem kf135 : knownFields prog #[{ name := "nodes", type := 26, offset := 0, embedded := false, tag := "", pkgPath := "koine/koineref02", byteOffset := 0 }, { name := "number", type := 68, offset := 1, embedded := false, tag := "", pkgPath := "koine/koineref02", byteOffset := 24 }, { name := "out", type := 26, offset := 2, embedded := false, tag := "", pkgPath := "koine/koineref02", byteOffset := 48 }] = true := by kernel_rfl
theorem sz3 : tsz prog 3 = some (1, 8) := by kernel_rfl
theorem sz5 : tsz prog 5 = some (1, 1) := by kernel_rfl
theorem sz22 : tsz prog 22 = some (1, 24) := by kernel_rfl
theorem sz24 : tsz prog 24 = some (2, 32) := by kernel_rfl
theorem sz26 : tsz prog 26 = some (1, 24) := by kernel_rfl
theorem sz28 : tsz prog 28 = some (2, 32) := by kernel_rfl
theorem sz38 : tsz prog 38 = some (1, 8) := by kernel_rfl
theorem sz39 : tsz prog 39 = some (1, 8) := by kernel_rfl
theorem sz57 : tsz prog 57 = some (1, 24) := by kernel_rfl
theorem sz68 : tsz prog 68 = some (1, 24) := by kernel_rfl
theorem sz72 : tsz prog 72 = some (3, 24) := by kernel_rfl
theorem sz75 : tsz prog 75 = some (1, 4) := by kernel_rfl
theorem sz81 : tsz prog 81 = some (1, 8) := by kernel_rfl
theorem sz82 : tsz prog 82 = some (1, 8) := by kernel_rfl
theorem sz93 : tsz prog 93 = some (1, 24) := by kernel_rfl
theorem sz94 : tsz prog 94 = some (1, 8) := by kernel_rfl
theorem sz109 : tsz prog 109 = some (1, 8) := by kernel_rfl
theorem sz112 : tsz prog 112 = some (1, 8) := by kernel_rfl
theorem sz113 : tsz prog 113 = some (1, 8) := by kernel_rfl
theorem sz114 : tsz prog 114 = some (3, 24) := by kernel_rfl
theorem sz121 : tsz prog 121 = some (1, 8) := by kernel_rfl
theorem sz122 : tsz prog 122 = some (1, 8) := by kernel_rfl
theorem sz129 : tsz prog 129 = some (1, 24) := by kernel_rfl
theorem zr3 : tzero prog 3 = some (Value.int .i64 0) := by kernel_rfl
theorem zr28 : tzero prog 28 = some (Value.agg (#[Value.slice none 0 0, Value.int .i64 0])) := by kernel_rfl
theorem zr38 : tzero prog 38 = some (Value.int .u64 0) := by kernel_rfl
theorem zr39 : tzero prog 39 = some (Value.int .u64 0) := by kernel_rfl
theorem zr72 : tzero prog 72 = some (Value.agg (#[Value.int .i64 0, Value.int .i64 0, Value.int .i64 0])) := by kernel_rfl
theorem zr75 : tzero prog 75 = some (Value.int .u32 0) := by kernel_rfl
theorem zr81 : tzero prog 81 = some (Value.pointer none) := by kernel_rfl
theorem zr84 : tzero prog 84 = some (Value.agg (#[Value.slice none 0 0, Value.map none])) := by kernel_rfl
theorem zr89 : tzero prog 89 = some (Value.agg (#[Value.slice none 0 0, Value.int .i64 0, Value.slice none 0 0, Value.int .i64 0, Value.slice none 0 0, Value.int .i64 0])) := by kernel_rfl
theorem zr93 : tzero prog 93 = some (Value.slice none 0 0) := by kernel_rfl
theorem zr94 : tzero prog 94 = some (Value.nilFunc) := by kernel_rfl
theorem zr109 : tzero prog 109 = some (Value.map none) := by kernel_rfl
theorem zr112 : tzero prog 112 = some (Value.map none) := by kernel_rfl
theorem zr113 : tzero prog 113 = some (Value.nilFunc) := by kernel_rfl
theorem zr114 : tzero prog 114 = some (Value.agg (#[Value.int .i64 0, Value.int .i64 0, Value.int .i64 0])) := by kernel_rfl
theorem zr121 : tzero prog 121 = some (Value.map none) := by kernel_rfl
theorem zr122 : tzero prog 122 = some (Value.nilFunc) := by kernel_rfl
theorem zr123 : tzero prog 123 = some (Value.agg (#[Value.int .i64 0, Value.int .i64 0])) := by kernel_rfl
theorem zr131 : tzero prog 131 = some (Value.agg (#[Value.slice none 0 0, Value.int .i64 0, Value.slice none 0 0, Value.int .i64 0, Value.int .i64 0, Value.slice none 0 0, Value.slice none 0 0])) := by kernel_rfl
theorem zr135 : tzero prog 135 = some (Value.agg (#[Value.slice none 0 0, Value.slice none 0 0, Value.slice none 0 0])) := by kernel_rfl
theorem cb15 : callableB prog 15 = true := by kernel_rfl
theorem cb16 : callableB prog 16 = true := by kernel_rfl
theorem cb17 : callableB prog 17 = true := by kernel_rfl
theorem cb18 : callableB prog 18 = true := by kernel_rfl
theorem cb19 : callableB prog 19 = true := by kernel_rfl
theorem cb20 : callableB prog 20 = true := by kernel_rfl
theorem cb21 : callableB prog 21 = true := by kernel_rfl
theorem cb22 : callableB prog 22 = true := by kernel_rfl
theorem cb23 : callableB prog 23 = true := by kernel_rfl
theorem cb24 : callableB prog 24 = true := by kernel_rfl
theorem cb25 : callableB prog 25 = true := by kernel_rfl
theorem cb26 : callableB prog 26 = true := by kernel_rfl
theorem cb27 : callableB prog 27 = true := by kernel_rfl
theorem cb28 : callableB prog 28 = true := by kernel_rfl
theorem cb29 : callableB prog 29 = true := by kernel_rfl
theorem cb30 : callableB prog 30 = true := by kernel_rfl
theorem cb31 : callableB prog 31 = true := by kernel_rfl
theorem cb32 : callableB prog 32 = true := by kernel_rfl
theorem cb33 : callableB prog 33 = true := by kernel_rfl
theorem cb34 : callableB prog 34 = true := by kernel_rfl
theorem cb35 : callableB prog 35 = true := by kernel_rfl
theorem cb36 : callableB prog 36 = true := by kernel_rfl
theorem cb37 : callableB prog 37 = true := by kernel_rfl
theorem cb38 : callableB prog 38 = true := by kernel_rfl
theorem cb39 : callableB prog 39 = true := by kernel_rfl
theorem cb40 : callableB prog 40 = true := by kernel_rfl
theorem cb41 : callableB prog 41 = true := by kernel_rfl
theorem cb42 : callableB prog 42 = true := by kernel_rfl
theorem cb43 : callableB prog 43 = true := by kernel_rfl
theorem cb44 : callableB prog 44 = true := by kernel_rfl
theorem cb45 : callableB prog 45 = true := by kernel_rfl
theorem cb46 : callableB prog 46 = true := by kernel_rfl
theorem cb47 : callableB prog 47 = true := by kernel_rfl
theorem cb48 : callableB prog 48 = true := by kernel_rfl
theorem cb49 : callableB prog 49 = true := by kernel_rfl
theorem cb50 : callableB prog 50 = true := by kernel_rfl
theorem cb51 : callableB prog 51 = true := by kernel_rfl
theorem cb52 : callableB prog 52 = true := by kernel_rfl
theorem cb53 : callableB prog 53 = true := by kernel_rfl
theorem cb54 : callableB prog 54 = true := by kernel_rfl
theorem cb55 : callableB prog 55 = true := by kernel_rfl
theorem cb56 : callableB prog 56 = true := by kernel_rfl
theorem cb57 : callableB prog 57 = true := by kernel_rfl
theorem cb58 : callableB prog 58 = true := by kernel_rfl
theorem cb59 : callableB prog 59 = true := by kernel_rfl
theorem cb60 : callableB prog 60 = true := by kernel_rfl
theorem cb63 : callableB prog 63 = true := by kernel_rfl
theorem cb64 : callableB prog 64 = true := by kernel_rfl
theorem cb65 : callableB prog 65 = true := by kernel_rfl
theorem cb68 : callableB prog 68 = true := by kernel_rfl
theorem cb69 : callableB prog 69 = true := by kernel_rfl
theorem cb70 : callableB prog 70 = true := by kernel_rfl
theorem cb72 : callableB prog 72 = true := by kernel_rfl
theorem cb75 : callableB prog 75 = true := by kernel_rfl
theorem cb76 : callableB prog 76 = true := by kernel_rfl
theorem cb77 : callableB prog 77 = true := by kernel_rfl
theorem cb78 : callableB prog 78 = true := by kernel_rfl
theorem cb79 : callableB prog 79 = true := by kernel_rfl
theorem cb80 : callableB prog 80 = true := by kernel_rfl
theorem cb81 : callableB prog 81 = true := by kernel_rfl
theorem cb82 : callableB prog 82 = true := by kernel_rfl
theorem cb83 : callableB prog 83 = true := by kernel_rfl
theorem cb84 : callableB prog 84 = true := by kernel_rfl
theorem cb85 : callableB prog 85 = true := by kernel_rfl
theorem cb86 : callableB prog 86 = true := by kernel_rfl
theorem cb87 : callableB prog 87 = true := by kernel_rfl
theorem cb88 : callableB prog 88 = true := by kernel_rfl
theorem cb89 : callableB prog 89 = true := by kernel_rfl
theorem cb90 : callableB prog 90 = true := by kernel_rfl
theorem cb91 : callableB prog 91 = true := by kernel_rfl
theorem cb92 : callableB prog 92 = true := by kernel_rfl
theorem cb93 : callableB prog 93 = true := by kernel_rfl
theorem cb96 : callableB prog 96 = true := by kernel_rfl
theorem cb98 : callableB prog 98 = true := by kernel_rfl
theorem cb99 : callableB prog 99 = true := by kernel_rfl
theorem cb100 : callableB prog 100 = true := by kernel_rfl
theorem cb101 : callableB prog 101 = true := by kernel_rfl
theorem cb102 : callableB prog 102 = true := by kernel_rfl
theorem cb103 : callableB prog 103 = true := by kernel_rfl
theorem cb105 : callableB prog 105 = true := by kernel_rfl
theorem cb108 : callableB prog 108 = true := by kernel_rfl
theorem cb109 : callableB prog 109 = true := by kernel_rfl
theorem cb110 : callableB prog 110 = true := by kernel_rfl
theorem cb122 : callableB prog 122 = true := by kernel_rfl
theorem cb123 : callableB prog 123 = true := by kernel_rfl
end Go.Proofs.Ytafojmoeaneedaa
