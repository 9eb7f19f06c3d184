/- The seat's types: one instance for each of which the proofs ask. Printed by a program (wip/tys.py). -/
import Derived.Test.YtcjganfppcjdfaaStep
import Derived.Test.YtcjganfppcjdfaaRows
set_option linter.unusedVariables false
namespace Go.Proofs.Ytcjganfppcjdfaa
open Go.RowKit
instance tyI2 : IntTy Try.prog 2 .i64 := ⟨by kernel_rfl⟩
instance tyZ2 : ZeroTy Try.prog 2 (Go.Value.int Go.IntKind.i64 0) := ⟨by kernel_rfl⟩
instance tyI3 : IntTy Try.prog 3 .i64 := ⟨by kernel_rfl⟩
instance tyZ3 : ZeroTy Try.prog 3 (Go.Value.int Go.IntKind.i64 0) := ⟨by kernel_rfl⟩
instance tyB4 : BoolTy Try.prog 4 := ⟨by kernel_rfl⟩
instance tyZ4 : ZeroTy Try.prog 4 (Go.Value.bool false) := ⟨by kernel_rfl⟩
instance tyI5 : IntTy Try.prog 5 .u8 := ⟨by kernel_rfl⟩
instance tyZ5 : ZeroTy Try.prog 5 (Go.Value.int Go.IntKind.u8 0) := ⟨by kernel_rfl⟩
instance tyI6 : IntTy Try.prog 6 .u8 := ⟨by kernel_rfl⟩
instance tyZ6 : ZeroTy Try.prog 6 (Go.Value.int Go.IntKind.u8 0) := ⟨by kernel_rfl⟩
instance tyZ7 : ZeroTy Try.prog 7 (Go.Value.agg #[Go.Value.int Go.IntKind.i64 0, Go.Value.int Go.IntKind.i64 0, Go.Value.bool false, Go.Value.int Go.IntKind.u8 0]) := ⟨by kernel_rfl⟩
instance tyZ8 : ZeroTy Try.prog 8 (Go.Value.agg #[Go.Value.int Go.IntKind.i64 0, Go.Value.int Go.IntKind.i64 0, Go.Value.bool false, Go.Value.int Go.IntKind.u8 0]) := ⟨by kernel_rfl⟩
instance tyS9 : StrTy Try.prog 9 := ⟨by kernel_rfl⟩
instance tyZ9 : ZeroTy Try.prog 9 (Go.Value.string { data := #[] }) := ⟨by kernel_rfl⟩
instance tyS10 : StrTy Try.prog 10 := ⟨by kernel_rfl⟩
instance tyZ10 : ZeroTy Try.prog 10 (Go.Value.string { data := #[] }) := ⟨by kernel_rfl⟩
instance tyS11 : StrTy Try.prog 11 := ⟨by kernel_rfl⟩
instance tyZ11 : ZeroTy Try.prog 11 (Go.Value.string { data := #[] }) := ⟨by kernel_rfl⟩
instance tyI12 : IntTy Try.prog 12 .u64 := ⟨by kernel_rfl⟩
instance tyZ12 : ZeroTy Try.prog 12 (Go.Value.int Go.IntKind.u64 0) := ⟨by kernel_rfl⟩
instance tyZ13 : ZeroTy Try.prog 13 (Go.Value.agg #[Go.Value.string { data := #[] }, Go.Value.int Go.IntKind.u64 0]) := ⟨by kernel_rfl⟩
instance tyZ14 : ZeroTy Try.prog 14 (Go.Value.agg #[Go.Value.string { data := #[] }, Go.Value.int Go.IntKind.u64 0]) := ⟨by kernel_rfl⟩
instance tyZ18 : ZeroTy Try.prog 18 (Go.Value.agg #[Go.Value.pointer none]) := ⟨by kernel_rfl⟩
instance tyZ19 : ZeroTy Try.prog 19 (Go.Value.agg #[Go.Value.pointer none]) := ⟨by kernel_rfl⟩
instance tyZ20 : ZeroTy Try.prog 20 Go.Value.nilIface := ⟨by kernel_rfl⟩
instance tyI21 : IntTy Try.prog 21 .i32 := ⟨by kernel_rfl⟩
instance tyZ21 : ZeroTy Try.prog 21 (Go.Value.int Go.IntKind.i32 0) := ⟨by kernel_rfl⟩
instance tyR22 : RowTy Try.prog 22 54 3 24 := ⟨by kernel_rfl⟩
instance tyZ22 : ZeroTy Try.prog 22 (Go.Value.slice none 0 0) := ⟨by kernel_rfl⟩
instance tyZ25 : ZeroTy Try.prog 25 (Go.Value.agg #[Go.Value.int Go.IntKind.i64 0, Go.Value.int Go.IntKind.i64 0]) := ⟨by kernel_rfl⟩
instance tyZ26 : ZeroTy Try.prog 26 (Go.Value.agg #[Go.Value.int Go.IntKind.i64 0, Go.Value.int Go.IntKind.i64 0]) := ⟨by kernel_rfl⟩
instance tyI27 : IntTy Try.prog 27 .i64 := ⟨by kernel_rfl⟩
instance tyZ27 : ZeroTy Try.prog 27 (Go.Value.int Go.IntKind.i64 0) := ⟨by kernel_rfl⟩
instance tyZ32 : ZeroTy Try.prog 32 (Go.Value.agg #[Go.Value.int Go.IntKind.i64 0, Go.Value.int Go.IntKind.i64 0]) := ⟨by kernel_rfl⟩
instance tyZ33 : ZeroTy Try.prog 33 (Go.Value.agg #[Go.Value.int Go.IntKind.i64 0, Go.Value.int Go.IntKind.i64 0]) := ⟨by kernel_rfl⟩
instance tyI47 : IntTy Try.prog 47 .i16 := ⟨by kernel_rfl⟩
instance tyZ47 : ZeroTy Try.prog 47 (Go.Value.int Go.IntKind.i16 0) := ⟨by kernel_rfl⟩
instance tyR48 : RowTy Try.prog 48 50 1 4 := ⟨by kernel_rfl⟩
instance tyZ48 : ZeroTy Try.prog 48 (Go.Value.slice none 0 0) := ⟨by kernel_rfl⟩
instance tyR49 : RowTy Try.prog 49 52 1 1 := ⟨by kernel_rfl⟩
instance tyZ49 : ZeroTy Try.prog 49 (Go.Value.slice none 0 0) := ⟨by kernel_rfl⟩
instance tyI50 : IntTy Try.prog 50 .u32 := ⟨by kernel_rfl⟩
instance tyZ50 : ZeroTy Try.prog 50 (Go.Value.int Go.IntKind.u32 0) := ⟨by kernel_rfl⟩
instance tyI52 : IntTy Try.prog 52 .i8 := ⟨by kernel_rfl⟩
instance tyZ52 : ZeroTy Try.prog 52 (Go.Value.int Go.IntKind.i8 0) := ⟨by kernel_rfl⟩
instance tyZ53 : ZeroTy Try.prog 53 (Go.Value.agg #[Go.Value.int Go.IntKind.i64 0, Go.Value.int Go.IntKind.i64 0, Go.Value.int Go.IntKind.i64 0]) := ⟨by kernel_rfl⟩
instance tyZ54 : ZeroTy Try.prog 54 (Go.Value.agg #[Go.Value.int Go.IntKind.i64 0, Go.Value.int Go.IntKind.i64 0, Go.Value.int Go.IntKind.i64 0]) := ⟨by kernel_rfl⟩
instance tyR57 : RowTy Try.prog 57 5 1 1 := ⟨by kernel_rfl⟩
instance tyZ57 : ZeroTy Try.prog 57 (Go.Value.slice none 0 0) := ⟨by kernel_rfl⟩
instance tyR72 : RowTy Try.prog 72 3 1 8 := ⟨by kernel_rfl⟩
instance tyZ72 : ZeroTy Try.prog 72 (Go.Value.slice none 0 0) := ⟨by kernel_rfl⟩
instance tyZ73 : ZeroTy Try.prog 73 (Go.Value.agg #[Go.Value.slice none 0 0, Go.Value.bool false]) := ⟨by kernel_rfl⟩
instance tyZ74 : ZeroTy Try.prog 74 (Go.Value.agg #[Go.Value.slice none 0 0, Go.Value.bool false]) := ⟨by kernel_rfl⟩
instance tyI84 : IntTy Try.prog 84 .u64 := ⟨by kernel_rfl⟩
instance tyZ84 : ZeroTy Try.prog 84 (Go.Value.int Go.IntKind.u64 0) := ⟨by kernel_rfl⟩
instance tyI98 : IntTy Try.prog 98 .u64 := ⟨by kernel_rfl⟩
instance tyZ98 : ZeroTy Try.prog 98 (Go.Value.int Go.IntKind.u64 0) := ⟨by kernel_rfl⟩
instance tyZ99 : ZeroTy Try.prog 99 Go.Value.nilIface := ⟨by kernel_rfl⟩
instance tyZ100 : ZeroTy Try.prog 100 Go.Value.nilIface := ⟨by kernel_rfl⟩
instance tyZ106 : ZeroTy Try.prog 106 (Go.Value.agg #[Go.Value.pointer none, Go.Value.pointer none, Go.Value.pointer none, Go.Value.string { data := #[] }]) := ⟨by kernel_rfl⟩
instance tyZ107 : ZeroTy Try.prog 107 (Go.Value.agg #[Go.Value.pointer none, Go.Value.pointer none, Go.Value.pointer none, Go.Value.string { data := #[] }]) := ⟨by kernel_rfl⟩
instance tyI112 : IntTy Try.prog 112 .u8 := ⟨by kernel_rfl⟩
instance tyZ112 : ZeroTy Try.prog 112 (Go.Value.int Go.IntKind.u8 0) := ⟨by kernel_rfl⟩
instance tyI113 : IntTy Try.prog 113 .u8 := ⟨by kernel_rfl⟩
instance tyZ113 : ZeroTy Try.prog 113 (Go.Value.int Go.IntKind.u8 0) := ⟨by kernel_rfl⟩
instance tyI116 : IntTy Try.prog 116 .i32 := ⟨by kernel_rfl⟩
instance tyZ116 : ZeroTy Try.prog 116 (Go.Value.int Go.IntKind.i32 0) := ⟨by kernel_rfl⟩
instance tyI117 : IntTy Try.prog 117 .i32 := ⟨by kernel_rfl⟩
instance tyZ117 : ZeroTy Try.prog 117 (Go.Value.int Go.IntKind.i32 0) := ⟨by kernel_rfl⟩
instance tyZ118 : ZeroTy Try.prog 118 (Go.Value.agg #[Go.Value.int Go.IntKind.u64 0, Go.Value.int Go.IntKind.u64 0, Go.Value.int Go.IntKind.u32 0, Go.Value.int Go.IntKind.u8 0, Go.Value.int Go.IntKind.u8 0, Go.Value.int Go.IntKind.u8 0, Go.Value.int Go.IntKind.u8 0, Go.Value.nilFunc, Go.Value.pointer none, Go.Value.int Go.IntKind.i32 0, Go.Value.int Go.IntKind.i32 0]) := ⟨by kernel_rfl⟩
instance tyZ119 : ZeroTy Try.prog 119 (Go.Value.agg #[Go.Value.int Go.IntKind.u64 0, Go.Value.int Go.IntKind.u64 0, Go.Value.int Go.IntKind.u32 0, Go.Value.int Go.IntKind.u8 0, Go.Value.int Go.IntKind.u8 0, Go.Value.int Go.IntKind.u8 0, Go.Value.int Go.IntKind.u8 0, Go.Value.nilFunc, Go.Value.pointer none, Go.Value.int Go.IntKind.i32 0, Go.Value.int Go.IntKind.i32 0]) := ⟨by kernel_rfl⟩
instance tyZ120 : ZeroTy Try.prog 120 (Go.Value.agg #[Go.Value.string { data := #[] }]) := ⟨by kernel_rfl⟩
instance tyZ121 : ZeroTy Try.prog 121 (Go.Value.agg #[Go.Value.string { data := #[] }]) := ⟨by kernel_rfl⟩
end Go.Proofs.Ytcjganfppcjdfaa
