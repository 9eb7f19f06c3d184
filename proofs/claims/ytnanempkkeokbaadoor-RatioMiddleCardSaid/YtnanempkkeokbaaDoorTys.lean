/- The seat's types: one instance for each of which the proofs ask. Printed by a program (wip/tys.py). -/
import Derived.Test.YtnanempkkeokbaaDoorStep
import Derived.Test.YtnanempkkeokbaaDoorRows
set_option linter.unusedVariables false
namespace Go.Proofs.YtnanempkkeokbaaDoor
open Go.RowKit
instance tyI2 : IntTy Tryd.prog 2 .i64 := ⟨by kernel_rfl⟩
instance tyZ2 : ZeroTy Tryd.prog 2 (Go.Value.int Go.IntKind.i64 0) := ⟨by kernel_rfl⟩
instance tyI3 : IntTy Tryd.prog 3 .i64 := ⟨by kernel_rfl⟩
instance tyZ3 : ZeroTy Tryd.prog 3 (Go.Value.int Go.IntKind.i64 0) := ⟨by kernel_rfl⟩
instance tyB4 : BoolTy Tryd.prog 4 := ⟨by kernel_rfl⟩
instance tyZ4 : ZeroTy Tryd.prog 4 (Go.Value.bool false) := ⟨by kernel_rfl⟩
instance tyI5 : IntTy Tryd.prog 5 .u8 := ⟨by kernel_rfl⟩
instance tyZ5 : ZeroTy Tryd.prog 5 (Go.Value.int Go.IntKind.u8 0) := ⟨by kernel_rfl⟩
instance tyI6 : IntTy Tryd.prog 6 .u8 := ⟨by kernel_rfl⟩
instance tyZ6 : ZeroTy Tryd.prog 6 (Go.Value.int Go.IntKind.u8 0) := ⟨by kernel_rfl⟩
instance tyZ7 : ZeroTy Tryd.prog 7 (Go.Value.agg #[Go.Value.int Go.IntKind.i64 0, Go.Value.int Go.IntKind.i64 0, Go.Value.bool false, Go.Value.int Go.IntKind.u8 0]) := ⟨by kernel_rfl⟩
instance tyZ8 : ZeroTy Tryd.prog 8 (Go.Value.agg #[Go.Value.int Go.IntKind.i64 0, Go.Value.int Go.IntKind.i64 0, Go.Value.bool false, Go.Value.int Go.IntKind.u8 0]) := ⟨by kernel_rfl⟩
instance tyS9 : StrTy Tryd.prog 9 := ⟨by kernel_rfl⟩
instance tyZ9 : ZeroTy Tryd.prog 9 (Go.Value.string { data := #[] }) := ⟨by kernel_rfl⟩
instance tyS10 : StrTy Tryd.prog 10 := ⟨by kernel_rfl⟩
instance tyZ10 : ZeroTy Tryd.prog 10 (Go.Value.string { data := #[] }) := ⟨by kernel_rfl⟩
instance tyS11 : StrTy Tryd.prog 11 := ⟨by kernel_rfl⟩
instance tyZ11 : ZeroTy Tryd.prog 11 (Go.Value.string { data := #[] }) := ⟨by kernel_rfl⟩
instance tyI12 : IntTy Tryd.prog 12 .u64 := ⟨by kernel_rfl⟩
instance tyZ12 : ZeroTy Tryd.prog 12 (Go.Value.int Go.IntKind.u64 0) := ⟨by kernel_rfl⟩
instance tyZ13 : ZeroTy Tryd.prog 13 (Go.Value.agg #[Go.Value.string { data := #[] }, Go.Value.int Go.IntKind.u64 0]) := ⟨by kernel_rfl⟩
instance tyZ14 : ZeroTy Tryd.prog 14 (Go.Value.agg #[Go.Value.string { data := #[] }, Go.Value.int Go.IntKind.u64 0]) := ⟨by kernel_rfl⟩
instance tyZ18 : ZeroTy Tryd.prog 18 (Go.Value.agg #[Go.Value.pointer none]) := ⟨by kernel_rfl⟩
instance tyZ19 : ZeroTy Tryd.prog 19 (Go.Value.agg #[Go.Value.pointer none]) := ⟨by kernel_rfl⟩
instance tyZ20 : ZeroTy Tryd.prog 20 Go.Value.nilIface := ⟨by kernel_rfl⟩
instance tyI21 : IntTy Tryd.prog 21 .i32 := ⟨by kernel_rfl⟩
instance tyZ21 : ZeroTy Tryd.prog 21 (Go.Value.int Go.IntKind.i32 0) := ⟨by kernel_rfl⟩
instance tyZ23 : ZeroTy Tryd.prog 23 (Go.Value.agg #[Go.Value.int Go.IntKind.i64 0, Go.Value.int Go.IntKind.i64 0]) := ⟨by kernel_rfl⟩
instance tyZ24 : ZeroTy Tryd.prog 24 (Go.Value.agg #[Go.Value.int Go.IntKind.i64 0, Go.Value.int Go.IntKind.i64 0]) := ⟨by kernel_rfl⟩
instance tyI25 : IntTy Tryd.prog 25 .i64 := ⟨by kernel_rfl⟩
instance tyZ25 : ZeroTy Tryd.prog 25 (Go.Value.int Go.IntKind.i64 0) := ⟨by kernel_rfl⟩
instance tyR37 : RowTy Tryd.prog 37 34 1 8 := ⟨by kernel_rfl⟩
instance tyZ37 : ZeroTy Tryd.prog 37 (Go.Value.slice none 0 0) := ⟨by kernel_rfl⟩
instance tyR42 : RowTy Tryd.prog 42 24 2 16 := ⟨by kernel_rfl⟩
instance tyZ42 : ZeroTy Tryd.prog 42 (Go.Value.slice none 0 0) := ⟨by kernel_rfl⟩
instance tyR43 : RowTy Tryd.prog 43 5 1 1 := ⟨by kernel_rfl⟩
instance tyZ43 : ZeroTy Tryd.prog 43 (Go.Value.slice none 0 0) := ⟨by kernel_rfl⟩
instance tyI57 : IntTy Tryd.prog 57 .u64 := ⟨by kernel_rfl⟩
instance tyZ57 : ZeroTy Tryd.prog 57 (Go.Value.int Go.IntKind.u64 0) := ⟨by kernel_rfl⟩
instance tyZ72 : ZeroTy Tryd.prog 72 Go.Value.nilIface := ⟨by kernel_rfl⟩
instance tyZ73 : ZeroTy Tryd.prog 73 Go.Value.nilIface := ⟨by kernel_rfl⟩
instance tyI88 : IntTy Tryd.prog 88 .u64 := ⟨by kernel_rfl⟩
instance tyZ88 : ZeroTy Tryd.prog 88 (Go.Value.int Go.IntKind.u64 0) := ⟨by kernel_rfl⟩
instance tyI90 : IntTy Tryd.prog 90 .i64 := ⟨by kernel_rfl⟩
instance tyZ90 : ZeroTy Tryd.prog 90 (Go.Value.int Go.IntKind.i64 0) := ⟨by kernel_rfl⟩
instance tyI98 : IntTy Tryd.prog 98 .i64 := ⟨by kernel_rfl⟩
instance tyZ98 : ZeroTy Tryd.prog 98 (Go.Value.int Go.IntKind.i64 0) := ⟨by kernel_rfl⟩
instance tyI106 : IntTy Tryd.prog 106 .u32 := ⟨by kernel_rfl⟩
instance tyZ106 : ZeroTy Tryd.prog 106 (Go.Value.int Go.IntKind.u32 0) := ⟨by kernel_rfl⟩
instance tyZ113 : ZeroTy Tryd.prog 113 (Go.Value.agg #[Go.Value.string { data := #[] }, Go.Value.string { data := #[] }, Go.Value.nilIface]) := ⟨by kernel_rfl⟩
instance tyZ114 : ZeroTy Tryd.prog 114 (Go.Value.agg #[Go.Value.string { data := #[] }, Go.Value.string { data := #[] }, Go.Value.nilIface]) := ⟨by kernel_rfl⟩
instance tyZ116 : ZeroTy Tryd.prog 116 (Go.Value.agg #[Go.Value.int Go.IntKind.u8 0, Go.Value.int Go.IntKind.u8 0, Go.Value.int Go.IntKind.u8 0, Go.Value.int Go.IntKind.u8 0, Go.Value.int Go.IntKind.u8 0, Go.Value.int Go.IntKind.u8 0, Go.Value.int Go.IntKind.u8 0, Go.Value.int Go.IntKind.u8 0, Go.Value.int Go.IntKind.u8 0, Go.Value.int Go.IntKind.u8 0, Go.Value.int Go.IntKind.u8 0, Go.Value.int Go.IntKind.u8 0, Go.Value.int Go.IntKind.u8 0, Go.Value.int Go.IntKind.u8 0, Go.Value.int Go.IntKind.u8 0, Go.Value.int Go.IntKind.u8 0, Go.Value.int Go.IntKind.u8 0, Go.Value.int Go.IntKind.u8 0, Go.Value.int Go.IntKind.u8 0, Go.Value.int Go.IntKind.u8 0, Go.Value.int Go.IntKind.u8 0, Go.Value.int Go.IntKind.u8 0, Go.Value.int Go.IntKind.u8 0, Go.Value.int Go.IntKind.u8 0]) := ⟨by kernel_rfl⟩
instance tyI120 : IntTy Tryd.prog 120 .u64 := ⟨by kernel_rfl⟩
instance tyZ120 : ZeroTy Tryd.prog 120 (Go.Value.int Go.IntKind.u64 0) := ⟨by kernel_rfl⟩
instance tyZ132 : ZeroTy Tryd.prog 132 (Go.Value.agg #[Go.Value.string { data := #[] }]) := ⟨by kernel_rfl⟩
instance tyZ133 : ZeroTy Tryd.prog 133 (Go.Value.agg #[Go.Value.string { data := #[] }]) := ⟨by kernel_rfl⟩
instance tyZ135 : ZeroTy Tryd.prog 135 (Go.Value.agg #[Go.Value.int Go.IntKind.u64 0, Go.Value.int Go.IntKind.u64 0, Go.Value.int Go.IntKind.u64 0, Go.Value.int Go.IntKind.u64 0, Go.Value.int Go.IntKind.u64 0, Go.Value.int Go.IntKind.u64 0, Go.Value.int Go.IntKind.u64 0, Go.Value.int Go.IntKind.u64 0, Go.Value.int Go.IntKind.u64 0, Go.Value.int Go.IntKind.u64 0, Go.Value.int Go.IntKind.u64 0, Go.Value.int Go.IntKind.u64 0, Go.Value.int Go.IntKind.u64 0, Go.Value.int Go.IntKind.u64 0, Go.Value.int Go.IntKind.u64 0, Go.Value.int Go.IntKind.u64 0, Go.Value.int Go.IntKind.u64 0, Go.Value.int Go.IntKind.u64 0, Go.Value.int Go.IntKind.u64 0, Go.Value.int Go.IntKind.u64 0]) := ⟨by kernel_rfl⟩
instance tyZ136 : ZeroTy Tryd.prog 136 (Go.Value.agg ([Go.Value.int Go.IntKind.u8 0, Go.Value.int Go.IntKind.u8 0, Go.Value.int Go.IntKind.u8 0, Go.Value.int Go.IntKind.u8 0, Go.Value.int Go.IntKind.u8 0, Go.Value.int Go.IntKind.u8 0, Go.Value.int Go.IntKind.u8 0, Go.Value.int Go.IntKind.u8 0, Go.Value.int Go.IntKind.u8 0, Go.Value.int Go.IntKind.u8 0, Go.Value.int Go.IntKind.u8 0, Go.Value.int Go.IntKind.u8 0, Go.Value.int Go.IntKind.u8 0, Go.Value.int Go.IntKind.u8 0, Go.Value.int Go.IntKind.u8 0, Go.Value.int Go.IntKind.u8 0, Go.Value.int Go.IntKind.u8 0, Go.Value.int Go.IntKind.u8 0, Go.Value.int Go.IntKind.u8 0, Go.Value.int Go.IntKind.u8 0, Go.Value.int Go.IntKind.u8 0, Go.Value.int Go.IntKind.u8 0, Go.Value.int Go.IntKind.u8 0, Go.Value.int Go.IntKind.u8 0, Go.Value.int Go.IntKind.u8 0, Go.Value.int Go.IntKind.u8 0, Go.Value.int Go.IntKind.u8 0, Go.Value.int Go.IntKind.u8 0, Go.Value.int Go.IntKind.u8 0, Go.Value.int Go.IntKind.u8 0, Go.Value.int Go.IntKind.u8 0, Go.Value.int Go.IntKind.u8 0].append [Go.Value.int Go.IntKind.u8 0, Go.Value.int Go.IntKind.u8 0, Go.Value.int Go.IntKind.u8 0, Go.Value.int Go.IntKind.u8 0, Go.Value.int Go.IntKind.u8 0, Go.Value.int Go.IntKind.u8 0, Go.Value.int Go.IntKind.u8 0, Go.Value.int Go.IntKind.u8 0, Go.Value.int Go.IntKind.u8 0, Go.Value.int Go.IntKind.u8 0, Go.Value.int Go.IntKind.u8 0, Go.Value.int Go.IntKind.u8 0, Go.Value.int Go.IntKind.u8 0, Go.Value.int Go.IntKind.u8 0, Go.Value.int Go.IntKind.u8 0, Go.Value.int Go.IntKind.u8 0, Go.Value.int Go.IntKind.u8 0, Go.Value.int Go.IntKind.u8 0, Go.Value.int Go.IntKind.u8 0, Go.Value.int Go.IntKind.u8 0, Go.Value.int Go.IntKind.u8 0, Go.Value.int Go.IntKind.u8 0, Go.Value.int Go.IntKind.u8 0, Go.Value.int Go.IntKind.u8 0, Go.Value.int Go.IntKind.u8 0, Go.Value.int Go.IntKind.u8 0, Go.Value.int Go.IntKind.u8 0, Go.Value.int Go.IntKind.u8 0, Go.Value.int Go.IntKind.u8 0, Go.Value.int Go.IntKind.u8 0, Go.Value.int Go.IntKind.u8 0, Go.Value.int Go.IntKind.u8 0, Go.Value.int Go.IntKind.u8 0]).toArray) := ⟨by kernel_rfl⟩
instance tyZ139 : ZeroTy Tryd.prog 139 (Go.Value.agg #[Go.Value.int Go.IntKind.u8 0, Go.Value.int Go.IntKind.u8 0, Go.Value.int Go.IntKind.u8 0, Go.Value.int Go.IntKind.u8 0, Go.Value.int Go.IntKind.u8 0, Go.Value.int Go.IntKind.u8 0, Go.Value.int Go.IntKind.u8 0, Go.Value.int Go.IntKind.u8 0, Go.Value.int Go.IntKind.u8 0, Go.Value.int Go.IntKind.u8 0, Go.Value.int Go.IntKind.u8 0, Go.Value.int Go.IntKind.u8 0, Go.Value.int Go.IntKind.u8 0, Go.Value.int Go.IntKind.u8 0, Go.Value.int Go.IntKind.u8 0, Go.Value.int Go.IntKind.u8 0, Go.Value.int Go.IntKind.u8 0, Go.Value.int Go.IntKind.u8 0, Go.Value.int Go.IntKind.u8 0, Go.Value.int Go.IntKind.u8 0, Go.Value.int Go.IntKind.u8 0, Go.Value.int Go.IntKind.u8 0, Go.Value.int Go.IntKind.u8 0, Go.Value.int Go.IntKind.u8 0, Go.Value.int Go.IntKind.u8 0, Go.Value.int Go.IntKind.u8 0, Go.Value.int Go.IntKind.u8 0, Go.Value.int Go.IntKind.u8 0, Go.Value.int Go.IntKind.u8 0, Go.Value.int Go.IntKind.u8 0, Go.Value.int Go.IntKind.u8 0, Go.Value.int Go.IntKind.u8 0]) := ⟨by kernel_rfl⟩
instance tyZ140 : ZeroTy Tryd.prog 140 (Go.Value.agg #[Go.Value.int Go.IntKind.u8 0, Go.Value.int Go.IntKind.u8 0, Go.Value.int Go.IntKind.u8 0, Go.Value.int Go.IntKind.u8 0, Go.Value.int Go.IntKind.u8 0, Go.Value.int Go.IntKind.u8 0, Go.Value.int Go.IntKind.u8 0, Go.Value.int Go.IntKind.u8 0, Go.Value.int Go.IntKind.u8 0, Go.Value.int Go.IntKind.u8 0, Go.Value.int Go.IntKind.u8 0, Go.Value.int Go.IntKind.u8 0, Go.Value.int Go.IntKind.u8 0, Go.Value.int Go.IntKind.u8 0, Go.Value.int Go.IntKind.u8 0, Go.Value.int Go.IntKind.u8 0, Go.Value.int Go.IntKind.u8 0, Go.Value.int Go.IntKind.u8 0, Go.Value.int Go.IntKind.u8 0, Go.Value.int Go.IntKind.u8 0, Go.Value.int Go.IntKind.u8 0, Go.Value.int Go.IntKind.u8 0, Go.Value.int Go.IntKind.u8 0, Go.Value.int Go.IntKind.u8 0, Go.Value.int Go.IntKind.u8 0, Go.Value.int Go.IntKind.u8 0, Go.Value.int Go.IntKind.u8 0, Go.Value.int Go.IntKind.u8 0, Go.Value.int Go.IntKind.u8 0, Go.Value.int Go.IntKind.u8 0, Go.Value.int Go.IntKind.u8 0, Go.Value.int Go.IntKind.u8 0, Go.Value.int Go.IntKind.u8 0, Go.Value.int Go.IntKind.u8 0, Go.Value.int Go.IntKind.u8 0, Go.Value.int Go.IntKind.u8 0, Go.Value.int Go.IntKind.u8 0, Go.Value.int Go.IntKind.u8 0, Go.Value.int Go.IntKind.u8 0, Go.Value.int Go.IntKind.u8 0, Go.Value.int Go.IntKind.u8 0, Go.Value.int Go.IntKind.u8 0, Go.Value.int Go.IntKind.u8 0, Go.Value.int Go.IntKind.u8 0, Go.Value.int Go.IntKind.u8 0, Go.Value.int Go.IntKind.u8 0, Go.Value.int Go.IntKind.u8 0, Go.Value.int Go.IntKind.u8 0, Go.Value.int Go.IntKind.u8 0, Go.Value.int Go.IntKind.u8 0, Go.Value.int Go.IntKind.u8 0, Go.Value.int Go.IntKind.u8 0, Go.Value.int Go.IntKind.u8 0, Go.Value.int Go.IntKind.u8 0, Go.Value.int Go.IntKind.u8 0, Go.Value.int Go.IntKind.u8 0, Go.Value.int Go.IntKind.u8 0, Go.Value.int Go.IntKind.u8 0, Go.Value.int Go.IntKind.u8 0, Go.Value.int Go.IntKind.u8 0, Go.Value.int Go.IntKind.u8 0, Go.Value.int Go.IntKind.u8 0, Go.Value.int Go.IntKind.u8 0, Go.Value.int Go.IntKind.u8 0]) := ⟨by kernel_rfl⟩
instance tyZ142 : ZeroTy Tryd.prog 142 (Go.Value.agg #[Go.Value.pointer none, Go.Value.pointer none, Go.Value.pointer none, Go.Value.string { data := #[] }]) := ⟨by kernel_rfl⟩
instance tyZ143 : ZeroTy Tryd.prog 143 (Go.Value.agg #[Go.Value.pointer none, Go.Value.pointer none, Go.Value.pointer none, Go.Value.string { data := #[] }]) := ⟨by kernel_rfl⟩
instance tyI148 : IntTy Tryd.prog 148 .u8 := ⟨by kernel_rfl⟩
instance tyZ148 : ZeroTy Tryd.prog 148 (Go.Value.int Go.IntKind.u8 0) := ⟨by kernel_rfl⟩
instance tyI149 : IntTy Tryd.prog 149 .u8 := ⟨by kernel_rfl⟩
instance tyZ149 : ZeroTy Tryd.prog 149 (Go.Value.int Go.IntKind.u8 0) := ⟨by kernel_rfl⟩
instance tyI151 : IntTy Tryd.prog 151 .i32 := ⟨by kernel_rfl⟩
instance tyZ151 : ZeroTy Tryd.prog 151 (Go.Value.int Go.IntKind.i32 0) := ⟨by kernel_rfl⟩
instance tyI152 : IntTy Tryd.prog 152 .i32 := ⟨by kernel_rfl⟩
instance tyZ152 : ZeroTy Tryd.prog 152 (Go.Value.int Go.IntKind.i32 0) := ⟨by kernel_rfl⟩
instance tyZ153 : ZeroTy Tryd.prog 153 (Go.Value.agg #[Go.Value.int Go.IntKind.u64 0, Go.Value.int Go.IntKind.u64 0, Go.Value.int Go.IntKind.u32 0, Go.Value.int Go.IntKind.u8 0, Go.Value.int Go.IntKind.u8 0, Go.Value.int Go.IntKind.u8 0, Go.Value.int Go.IntKind.u8 0, Go.Value.nilFunc, Go.Value.pointer none, Go.Value.int Go.IntKind.i32 0, Go.Value.int Go.IntKind.i32 0]) := ⟨by kernel_rfl⟩
instance tyZ154 : ZeroTy Tryd.prog 154 (Go.Value.agg #[Go.Value.int Go.IntKind.u64 0, Go.Value.int Go.IntKind.u64 0, Go.Value.int Go.IntKind.u32 0, Go.Value.int Go.IntKind.u8 0, Go.Value.int Go.IntKind.u8 0, Go.Value.int Go.IntKind.u8 0, Go.Value.int Go.IntKind.u8 0, Go.Value.nilFunc, Go.Value.pointer none, Go.Value.int Go.IntKind.i32 0, Go.Value.int Go.IntKind.i32 0]) := ⟨by kernel_rfl⟩
end Go.Proofs.YtnanempkkeokbaaDoor
