/- Joined texts: Shelf, Sr1, Rnd. -/
import Derived.Shelf.Strings.Builder1
import Derived.Shelf.Strings.Builder2
import Derived.Shelf.Small.Bits
import Derived.Shelf.Strings.BuilderF
import Derived.Shelf.Strconv.Itoa0
import Derived.Shelf.Strconv.Itoa1
import Derived.Shelf.LaysM
import Derived.Shelf.Strconv.Itoa2
import Derived.Shelf.Strconv.Itoa3
import Derived.Shelf.Strings.Prefix
import Derived.Shelf.Bits.Mul64
import Derived.Shelf.Strings.Repeat
import Derived.Test.YtjmdeplmenbmmaaGreatDoorProg
import Derived.Test.YtjmdeplmenbmmaaGreatDoorW05
import Derived.Test.YtjmdeplmenbmmaaGreatDoorW03
import Derived.LoopN
namespace Go.Proofs
open Go.Shelf
open Go.RowKit in
def Tryz.lays169_ren : Go.Shelf.Ren := ⟨fun | 169 => 214 | n => n, fun | 70 => 244 | 9 => 9 | 0 => 0 | 72 => 247 | 37 => 245 | 127 => 287 | 3 => 3 | 5 => 5 | n => n, fun | n => n⟩
theorem Tryz.lays169 : Go.Proofs.Lays.n169 Tryz.prog Tryz.lays169_ren := {
  mixed := by kernel_rfl
  f169 := Tryz.func214.trans (congrArg some (by kernel_rfl))
  t0 := Tryz.underlying0
  a0 := Tryz.isAgg0
  z0 := Tryz.sizeOf0
  v0 := Tryz.zeroValue0
  t3 := Tryz.underlying3
  a3 := Tryz.isAgg3
  z3 := Tryz.sizeOf3
  v3 := Tryz.zeroValue3
  t9 := Tryz.underlying9
  a9 := Tryz.isAgg9
  z9 := Tryz.sizeOf9
  v9 := Tryz.zeroValue9
  t37 := Tryz.underlying245
  a37 := Tryz.isAgg245
  z37 := Tryz.sizeOf245
  v37 := Tryz.zeroValue245
  t70 := Tryz.underlying244
  a70 := Tryz.isAgg244
  z70 := Tryz.sizeOf244
  v70 := Tryz.zeroValue244
  t72 := Tryz.underlying247
  a72 := Tryz.isAgg247
  z72 := Tryz.sizeOf247
  v72 := Tryz.zeroValue247
  t127 := Tryz.underlying287
  a127 := Tryz.isAgg287
  z127 := Tryz.sizeOf287
  v127 := Tryz.zeroValue287 }
theorem Tryz.Builder_Extra_169 : Builder.Extra Tryz.prog Tryz.lays169_ren := {
  sizeBuilder := by kernel_rfl
  liesBuilder := by kernel_rfl
  t5 := Tryz.underlying5
  a5 := Tryz.isAgg5
  z5 := Tryz.sizeOf5
  v5 := Tryz.zeroValue5
  infoByte := by kernel_rfl
  cellsByte := by kernel_rfl
  sizeByte := by kernel_rfl
  neB5 := by decide }
open Go.RowKit in
open Go.RowKit in
open Go.RowKit in
theorem Tryz.Builder_String_any (B b : Nat) (l : List UInt8) (w : World) (h : Lib.IsBuilder 247 5 B b (Lib.byteCells l) w) (hBw : B ≤ w.heap.size) :
    Calls Tryz.prog 214 #[.pointer (some ⟨b, 0, none⟩)] w fun e w' => e = .returned (.string ⟨l.toArray⟩) ∧ Below B w w' := Any.Builder_String_any Tryz.lays169 Tryz.Builder_Extra_169 B b l w h hBw
open Go.RowKit in
def Tryz.lays165_ren : Go.Shelf.Ren := ⟨fun | 165 => 212 | 240 => 258 | 241 => 259 | 276 => 301 | 277 => 302 | n => n, fun | 70 => 244 | 3 => 3 | 0 => 0 | 4 => 4 | 9 => 9 | 20 => 20 | 72 => 247 | 37 => 245 | 164 => 322 | 5 => 5 | n => n, fun | n => n⟩
theorem Tryz.lays165 : Go.Proofs.Lays.n165 Tryz.prog Tryz.lays165_ren := {
  mixed := by kernel_rfl
  f165 := Tryz.func212.trans (congrArg some (by kernel_rfl))
  f240 := Tryz.func258.trans (congrArg some (by kernel_rfl))
  f241 := Tryz.func259.trans (congrArg some (by kernel_rfl))
  f276 := Tryz.func301.trans (congrArg some (by kernel_rfl))
  f277 := Tryz.func302.trans (congrArg some (by kernel_rfl))
  t0 := Tryz.underlying0
  a0 := Tryz.isAgg0
  z0 := Tryz.sizeOf0
  v0 := Tryz.zeroValue0
  t3 := Tryz.underlying3
  a3 := Tryz.isAgg3
  z3 := Tryz.sizeOf3
  v3 := Tryz.zeroValue3
  t4 := Tryz.underlying4
  a4 := Tryz.isAgg4
  z4 := Tryz.sizeOf4
  v4 := Tryz.zeroValue4
  t9 := Tryz.underlying9
  a9 := Tryz.isAgg9
  z9 := Tryz.sizeOf9
  v9 := Tryz.zeroValue9
  t20 := Tryz.underlying20
  a20 := Tryz.isAgg20
  z20 := Tryz.sizeOf20
  v20 := Tryz.zeroValue20
  t37 := Tryz.underlying245
  a37 := Tryz.isAgg245
  z37 := Tryz.sizeOf245
  v37 := Tryz.zeroValue245
  t70 := Tryz.underlying244
  a70 := Tryz.isAgg244
  z70 := Tryz.sizeOf244
  v70 := Tryz.zeroValue244
  t72 := Tryz.underlying247
  a72 := Tryz.isAgg247
  z72 := Tryz.sizeOf247
  v72 := Tryz.zeroValue247
  t164 := Tryz.underlying322
  a164 := Tryz.isAgg322
  z164 := Tryz.sizeOf322
  v164 := Tryz.zeroValue322 }
theorem Tryz.Builder_Extra_165 : Builder.Extra Tryz.prog Tryz.lays165_ren := {
  sizeBuilder := by kernel_rfl
  liesBuilder := by kernel_rfl
  t5 := Tryz.underlying5
  a5 := Tryz.isAgg5
  z5 := Tryz.sizeOf5
  v5 := Tryz.zeroValue5
  infoByte := by kernel_rfl
  cellsByte := by kernel_rfl
  sizeByte := by kernel_rfl
  neB5 := by decide }
open Go.RowKit in
theorem Tryz.Builder_Grow_fresh (B b n : Nat) (w : World) (hB : B ≤ b) (hbk : w.heap[b]? = some (.cells #[.pointer none, .slice none 0 0] 247 (0, 0))) (hBw : B ≤ w.heap.size) (hn : n ≤ 281474976710656) :
    Calls Tryz.prog 212 #[.pointer (some ⟨b, 0, none⟩), .int .i64 n] w fun e w' => e = .returned (.tuple #[]) ∧ (Lib.BuilderAt 247 5 B b (.pointer (some ⟨b, 0, none⟩)) [] w' ∧ Below B w w') := Any.Builder_Grow_fresh Tryz.lays165 Tryz.Builder_Extra_165 B b n w hB hbk hBw hn
open Go.RowKit in
open Go.RowKit in
open Go.RowKit in
open Go.RowKit in
def Tryz.lays129_ren : Go.Shelf.Ren := ⟨fun | 129 => 294 | n => n, fun | 53 => 257 | 3 => 3 | 4 => 4 | 46 => 152 | 5 => 5 | 9 => 9 | n => n, fun | n => n⟩
theorem Tryz.lays129 : Go.Proofs.Lays.n129 Tryz.prog Tryz.lays129_ren := {
  mixed := by kernel_rfl
  f129 := Tryz.func294.trans (congrArg some (by kernel_rfl))
  t3 := Tryz.underlying3
  a3 := Tryz.isAgg3
  z3 := Tryz.sizeOf3
  v3 := Tryz.zeroValue3
  t4 := Tryz.underlying4
  a4 := Tryz.isAgg4
  z4 := Tryz.sizeOf4
  v4 := Tryz.zeroValue4
  t5 := Tryz.underlying5
  a5 := Tryz.isAgg5
  z5 := Tryz.sizeOf5
  v5 := Tryz.zeroValue5
  t9 := Tryz.underlying9
  a9 := Tryz.isAgg9
  z9 := Tryz.sizeOf9
  v9 := Tryz.zeroValue9
  t46 := Tryz.underlying152
  a46 := Tryz.isAgg152
  z46 := Tryz.sizeOf152
  v46 := Tryz.zeroValue152
  t53 := Tryz.underlying257
  a53 := Tryz.isAgg257
  z53 := Tryz.sizeOf257
  v53 := Tryz.zeroValue257 }
theorem Tryz.bits_Len64 (x : Int) (w : World) (h0 : 0 ≤ x) (h1 : x ≤ 18446744073709551615) :
    Calls Tryz.prog 294 #[.int .u64 x] w fun e w' => e = .returned (.int .i64 (Lib.bitLen x.toNat)) ∧ w' = w := Any.bits_Len64 Tryz.lays129 x w h0 h1
open Go.Lib in
open Go.Lib in
open Go.Lib in
open Go.Lib in
open Go.RowKit Go.Sort Go.Lib in
open Go.RowKit Go.Sort Go.Lib in
open Go.RowKit Go.Sort Go.Lib in
open Go.RowKit Go.Sort Go.Lib in
def Tryz.lays243_ren : Go.Shelf.Ren := ⟨fun | 243 => 156 | 246 => 215 | 283 => 260 | 284 => 261 | 285 => 262 | 286 => 263 | 129 => 294 | 317 => 303 | 318 => 304 | 319 => 305 | 320 => 306 | 337 => 330 | 338 => 331 | n => n, fun | 3 => 3 | 9 => 9 | 2 => 2 | 4 => 4 | 171 => 288 | 0 => 0 | 53 => 257 | 37 => 245 | 5 => 5 | 173 => 291 | 212 => 326 | 51 => 319 | 20 => 20 | 213 => 327 | 46 => 152 | 232 => 357 | 233 => 358 | n => n, fun | 17 => 0 | 18 => 4 | 19 => 5 | n => n⟩
theorem Tryz.lays243 : Go.Proofs.Lays.n243 Tryz.prog Tryz.lays243_ren := {
  mixed := by kernel_rfl
  f129 := Tryz.func294.trans (congrArg some (by kernel_rfl))
  f243 := Tryz.func156.trans (congrArg some (by kernel_rfl))
  f246 := Tryz.func215.trans (congrArg some (by kernel_rfl))
  f283 := Tryz.func260.trans (congrArg some (by kernel_rfl))
  f284 := Tryz.func261.trans (congrArg some (by kernel_rfl))
  f285 := Tryz.func262.trans (congrArg some (by kernel_rfl))
  f286 := Tryz.func263.trans (congrArg some (by kernel_rfl))
  f317 := Tryz.func303.trans (congrArg some (by kernel_rfl))
  f318 := Tryz.func304.trans (congrArg some (by kernel_rfl))
  f319 := Tryz.func305.trans (congrArg some (by kernel_rfl))
  f320 := Tryz.func306.trans (congrArg some (by kernel_rfl))
  f337 := Tryz.func330.trans (congrArg some (by kernel_rfl))
  f338 := Tryz.func331.trans (congrArg some (by kernel_rfl))
  t0 := Tryz.underlying0
  a0 := Tryz.isAgg0
  z0 := Tryz.sizeOf0
  v0 := Tryz.zeroValue0
  t2 := Tryz.underlying2
  a2 := Tryz.isAgg2
  z2 := Tryz.sizeOf2
  v2 := Tryz.zeroValue2
  t3 := Tryz.underlying3
  a3 := Tryz.isAgg3
  z3 := Tryz.sizeOf3
  v3 := Tryz.zeroValue3
  t4 := Tryz.underlying4
  a4 := Tryz.isAgg4
  z4 := Tryz.sizeOf4
  v4 := Tryz.zeroValue4
  t5 := Tryz.underlying5
  a5 := Tryz.isAgg5
  z5 := Tryz.sizeOf5
  v5 := Tryz.zeroValue5
  t9 := Tryz.underlying9
  a9 := Tryz.isAgg9
  z9 := Tryz.sizeOf9
  v9 := Tryz.zeroValue9
  t20 := Tryz.underlying20
  a20 := Tryz.isAgg20
  z20 := Tryz.sizeOf20
  v20 := Tryz.zeroValue20
  t37 := Tryz.underlying245
  a37 := Tryz.isAgg245
  z37 := Tryz.sizeOf245
  v37 := Tryz.zeroValue245
  t46 := Tryz.underlying152
  a46 := Tryz.isAgg152
  z46 := Tryz.sizeOf152
  v46 := Tryz.zeroValue152
  t51 := Tryz.underlying319
  a51 := Tryz.isAgg319
  z51 := Tryz.sizeOf319
  v51 := Tryz.zeroValue319
  t53 := Tryz.underlying257
  a53 := Tryz.isAgg257
  z53 := Tryz.sizeOf257
  v53 := Tryz.zeroValue257
  t171 := Tryz.underlying288
  a171 := Tryz.isAgg288
  z171 := Tryz.sizeOf288
  v171 := Tryz.zeroValue288
  t173 := Tryz.underlying291
  a173 := Tryz.isAgg291
  z173 := Tryz.sizeOf291
  v173 := Tryz.zeroValue291
  t212 := Tryz.underlying326
  a212 := Tryz.isAgg326
  z212 := Tryz.sizeOf326
  v212 := Tryz.zeroValue326
  t213 := Tryz.underlying327
  a213 := Tryz.isAgg327
  z213 := Tryz.sizeOf327
  t232 := Tryz.underlying357
  a232 := Tryz.isAgg357
  z232 := Tryz.sizeOf357
  v232 := Tryz.zeroValue357
  t233 := Tryz.underlying358
  a233 := Tryz.isAgg358
  z233 := Tryz.sizeOf358
  v233 := Tryz.zeroValue358
  g17 := by kernel_rfl
  g18 := by kernel_rfl
  g19 := by kernel_rfl }
open Go.RowKit Go.Sort Go.Lib in
theorem Tryz.internal_strconv_Itoa_small (i : Nat) (hi : i < 100) (w : World) :
    Calls Tryz.prog 156 #[.int .i64 i] w fun e w' => e = .returned (.string ⟨(Lib.decDigits i).toArray⟩) ∧ w' = w := Any.internal_strconv_Itoa_small Tryz.lays243 i hi w
def Tryz.laysM171_ren : Go.Shelf.Ren := ⟨fun | 171 => 76 | 243 => 156 | 246 => 215 | 283 => 260 | 284 => 261 | 285 => 262 | 286 => 263 | 129 => 294 | 317 => 303 | 318 => 304 | 319 => 305 | 320 => 306 | 337 => 330 | 338 => 331 | n => n, fun | 3 => 3 | 9 => 9 | 2 => 2 | 4 => 4 | 171 => 288 | 0 => 0 | 53 => 257 | 37 => 245 | 5 => 5 | 173 => 291 | 212 => 326 | 51 => 319 | 20 => 20 | 213 => 327 | 46 => 152 | 232 => 357 | 233 => 358 | n => n, fun | 17 => 0 | 18 => 4 | 19 => 5 | n => n⟩
theorem Tryz.laysM171 : Go.Proofs.LaysM.n171 Tryz.prog Tryz.laysM171_ren := {
  mixed := by kernel_rfl
  f129 := Tryz.func294.trans (congrArg some (by kernel_rfl))
  f171 := Tryz.func76.trans (congrArg some (by kernel_rfl))
  f243 := Tryz.func156.trans (congrArg some (by kernel_rfl))
  f246 := Tryz.func215.trans (congrArg some (by kernel_rfl))
  f283 := Tryz.func260.trans (congrArg some (by kernel_rfl))
  f284 := Tryz.func261.trans (congrArg some (by kernel_rfl))
  f285 := Tryz.func262.trans (congrArg some (by kernel_rfl))
  f286 := Tryz.func263.trans (congrArg some (by kernel_rfl))
  f317 := Tryz.func303.trans (congrArg some (by kernel_rfl))
  f318 := Tryz.func304.trans (congrArg some (by kernel_rfl))
  f319 := Tryz.func305.trans (congrArg some (by kernel_rfl))
  f320 := Tryz.func306.trans (congrArg some (by kernel_rfl))
  f337 := Tryz.func330.trans (congrArg some (by kernel_rfl))
  f338 := Tryz.func331.trans (congrArg some (by kernel_rfl))
  t0 := Tryz.underlying0
  a0 := Tryz.isAgg0
  z0 := Tryz.sizeOf0
  v0 := Tryz.zeroValue0
  t2 := Tryz.underlying2
  a2 := Tryz.isAgg2
  z2 := Tryz.sizeOf2
  v2 := Tryz.zeroValue2
  t3 := Tryz.underlying3
  a3 := Tryz.isAgg3
  z3 := Tryz.sizeOf3
  v3 := Tryz.zeroValue3
  t4 := Tryz.underlying4
  a4 := Tryz.isAgg4
  z4 := Tryz.sizeOf4
  v4 := Tryz.zeroValue4
  t5 := Tryz.underlying5
  a5 := Tryz.isAgg5
  z5 := Tryz.sizeOf5
  v5 := Tryz.zeroValue5
  t9 := Tryz.underlying9
  a9 := Tryz.isAgg9
  z9 := Tryz.sizeOf9
  v9 := Tryz.zeroValue9
  t20 := Tryz.underlying20
  a20 := Tryz.isAgg20
  z20 := Tryz.sizeOf20
  v20 := Tryz.zeroValue20
  t37 := Tryz.underlying245
  a37 := Tryz.isAgg245
  z37 := Tryz.sizeOf245
  v37 := Tryz.zeroValue245
  t46 := Tryz.underlying152
  a46 := Tryz.isAgg152
  z46 := Tryz.sizeOf152
  v46 := Tryz.zeroValue152
  t51 := Tryz.underlying319
  a51 := Tryz.isAgg319
  z51 := Tryz.sizeOf319
  v51 := Tryz.zeroValue319
  t53 := Tryz.underlying257
  a53 := Tryz.isAgg257
  z53 := Tryz.sizeOf257
  v53 := Tryz.zeroValue257
  t171 := Tryz.underlying288
  a171 := Tryz.isAgg288
  z171 := Tryz.sizeOf288
  v171 := Tryz.zeroValue288
  t173 := Tryz.underlying291
  a173 := Tryz.isAgg291
  z173 := Tryz.sizeOf291
  v173 := Tryz.zeroValue291
  t212 := Tryz.underlying326
  a212 := Tryz.isAgg326
  z212 := Tryz.sizeOf326
  v212 := Tryz.zeroValue326
  t213 := Tryz.underlying327
  a213 := Tryz.isAgg327
  z213 := Tryz.sizeOf327
  t232 := Tryz.underlying357
  a232 := Tryz.isAgg357
  z232 := Tryz.sizeOf357
  v232 := Tryz.zeroValue357
  t233 := Tryz.underlying358
  a233 := Tryz.isAgg358
  z233 := Tryz.sizeOf358
  v233 := Tryz.zeroValue358
  g17 := by kernel_rfl
  g18 := by kernel_rfl
  g19 := by kernel_rfl
  i0 := by kernel_rfl
  i2 := by kernel_rfl
  i3 := by kernel_rfl
  i4 := by kernel_rfl
  i5 := by kernel_rfl
  i9 := by kernel_rfl
  i20 := by kernel_rfl
  i37 := by kernel_rfl
  i46 := by kernel_rfl
  i51 := by kernel_rfl
  i53 := by kernel_rfl
  i171 := by kernel_rfl
  i173 := by kernel_rfl
  i212 := by kernel_rfl
  i232 := by kernel_rfl
  i233 := by kernel_rfl
  m17 := by kernel_rfl
  m18 := by kernel_rfl
  m19 := by kernel_rfl }
open Go.RowKit Go.Sort Go.Lib in
theorem Tryz.strconv_Itoa (n : Int) (h0 : -9223372036854775808 ≤ n) (h1 : n ≤ 9223372036854775807) (w : World) (htab : Lib.TabIs Tryz.prog w "internal/strconv.uint64pow10" .u64 Lib.pow10Tab) :
    Calls Tryz.prog 76 #[.int .i64 n] w fun e w' => e = .returned (.string ⟨(Lib.itoa n).toArray⟩) ∧ ∃ k os, w' = grow (w.drewN k) os := Any.strconv_Itoa Tryz.laysM171 n h0 h1 w htab
open Go.RowKit Go.Sort Go.Lib in
open Go.RowKit Go.Lib in
open Go.RowKit Go.Lib in
open Go.RowKit Go.Lib in
open Go.RowKit Go.Lib in
def Tryz.lays105_ren : Go.Shelf.Ren := ⟨fun | 105 => 307 | 212 => 332 | 99 => 333 | 165 => 212 | 166 => 213 | 170 => 334 | 169 => 214 | 263 => 350 | 264 => 224 | 206 => 351 | 240 => 258 | 241 => 259 | 276 => 301 | 277 => 302 | n => n, fun | 9 => 9 | 3 => 3 | 4 => 4 | 20 => 20 | 0 => 0 | 46 => 152 | 109 => 343 | 5 => 5 | 72 => 247 | 76 => 251 | 51 => 319 | 146 => 359 | 53 => 257 | 148 => 258 | 70 => 244 | 37 => 245 | 75 => 250 | 127 => 287 | 164 => 322 | 80 => 253 | n => n, fun | n => n⟩
theorem Tryz.lays105 : Go.Proofs.Lays.n105 Tryz.prog Tryz.lays105_ren := {
  mixed := by kernel_rfl
  f99 := Tryz.func333.trans (congrArg some (by kernel_rfl))
  f105 := Tryz.func307.trans (congrArg some (by kernel_rfl))
  f165 := Tryz.func212.trans (congrArg some (by kernel_rfl))
  f166 := Tryz.func213.trans (congrArg some (by kernel_rfl))
  f169 := Tryz.func214.trans (congrArg some (by kernel_rfl))
  f170 := Tryz.func334.trans (congrArg some (by kernel_rfl))
  f206 := Tryz.func351.trans (congrArg some (by kernel_rfl))
  f212 := Tryz.func332.trans (congrArg some (by kernel_rfl))
  f240 := Tryz.func258.trans (congrArg some (by kernel_rfl))
  f241 := Tryz.func259.trans (congrArg some (by kernel_rfl))
  f263 := Tryz.func350.trans (congrArg some (by kernel_rfl))
  f264 := Tryz.func224.trans (congrArg some (by kernel_rfl))
  f276 := Tryz.func301.trans (congrArg some (by kernel_rfl))
  f277 := Tryz.func302.trans (congrArg some (by kernel_rfl))
  t0 := Tryz.underlying0
  a0 := Tryz.isAgg0
  z0 := Tryz.sizeOf0
  v0 := Tryz.zeroValue0
  t3 := Tryz.underlying3
  a3 := Tryz.isAgg3
  z3 := Tryz.sizeOf3
  v3 := Tryz.zeroValue3
  t4 := Tryz.underlying4
  a4 := Tryz.isAgg4
  z4 := Tryz.sizeOf4
  v4 := Tryz.zeroValue4
  t5 := Tryz.underlying5
  a5 := Tryz.isAgg5
  z5 := Tryz.sizeOf5
  v5 := Tryz.zeroValue5
  t9 := Tryz.underlying9
  a9 := Tryz.isAgg9
  z9 := Tryz.sizeOf9
  v9 := Tryz.zeroValue9
  t20 := Tryz.underlying20
  a20 := Tryz.isAgg20
  z20 := Tryz.sizeOf20
  v20 := Tryz.zeroValue20
  t37 := Tryz.underlying245
  a37 := Tryz.isAgg245
  z37 := Tryz.sizeOf245
  v37 := Tryz.zeroValue245
  t46 := Tryz.underlying152
  a46 := Tryz.isAgg152
  z46 := Tryz.sizeOf152
  v46 := Tryz.zeroValue152
  t51 := Tryz.underlying319
  a51 := Tryz.isAgg319
  z51 := Tryz.sizeOf319
  v51 := Tryz.zeroValue319
  t53 := Tryz.underlying257
  a53 := Tryz.isAgg257
  z53 := Tryz.sizeOf257
  v53 := Tryz.zeroValue257
  t70 := Tryz.underlying244
  a70 := Tryz.isAgg244
  z70 := Tryz.sizeOf244
  v70 := Tryz.zeroValue244
  t72 := Tryz.underlying247
  a72 := Tryz.isAgg247
  z72 := Tryz.sizeOf247
  v72 := Tryz.zeroValue247
  t75 := Tryz.underlying250
  a75 := Tryz.isAgg250
  z75 := Tryz.sizeOf250
  v75 := Tryz.zeroValue250
  t76 := Tryz.underlying251
  a76 := Tryz.isAgg251
  z76 := Tryz.sizeOf251
  v76 := Tryz.zeroValue251
  t109 := Tryz.underlying343
  a109 := Tryz.isAgg343
  z109 := Tryz.sizeOf343
  v109 := Tryz.zeroValue343
  t127 := Tryz.underlying287
  a127 := Tryz.isAgg287
  z127 := Tryz.sizeOf287
  v127 := Tryz.zeroValue287
  t146 := Tryz.underlying359
  a146 := Tryz.isAgg359
  z146 := Tryz.sizeOf359
  v146 := Tryz.zeroValue359
  t148 := Tryz.underlying258
  a148 := Tryz.isAgg258
  z148 := Tryz.sizeOf258
  v148 := Tryz.zeroValue258
  t164 := Tryz.underlying322
  a164 := Tryz.isAgg322
  z164 := Tryz.sizeOf322
  v164 := Tryz.zeroValue322 }
theorem Tryz.Builder_Extra_105 : Builder.Extra Tryz.prog Tryz.lays105_ren := {
  sizeBuilder := by kernel_rfl
  liesBuilder := by kernel_rfl
  t5 := Tryz.underlying5
  a5 := Tryz.isAgg5
  z5 := Tryz.sizeOf5
  v5 := Tryz.zeroValue5
  infoByte := by kernel_rfl
  cellsByte := by kernel_rfl
  sizeByte := by kernel_rfl
  neB5 := by decide }
open Go.RowKit Go.Lib in
open Go.RowKit Go.Lib in
open Go.RowKit Go.Lib in
open Go.RowKit Go.Lib in
open Go.RowKit Go.Lib in
open Go.RowKit Go.Lib in
open Go.RowKit Go.Lib in
theorem Tryz.strings_Repeat (s : ByteArray) (c : Nat) (w : World) (hc : c ≤ 9223372036854775807) (hlen : s.size * c ≤ 140737488355328) :
    Calls Tryz.prog 307 #[.string s, .int .i64 c] w fun e w' => e = .returned (.string ⟨(Lib.repeatL s.data.toList c).toArray⟩) ∧ Below w.heap.size w w' := Any.strings_Repeat Tryz.lays105 Tryz.Builder_Extra_105 s c w hc hlen
end Go.Proofs
set_option linter.unusedVariables false
namespace Go.Proofs.YtjmdeplmenbmmaaGreatDoor
open Go.RowKit Go.Sort
set_option maxHeartbeats 1000000 in
theorem len1_world (W : World) : Calls Tryz.prog 250 #[.int .u64 1] W fun e w' => e = .returned (.int .i64 1) ∧ w' = W := by
  go_enter Tryz.func250, Tryz.ntmps250
  go_wp2_with (go_at_call 294; refine (Tryz.bits_Len64 1 _ (by decide) (by decide)).mono ?_; rintro e w' ⟨rfl, rfl⟩)
  go_ret
  exact ⟨rfl, rfl⟩
set_option maxHeartbeats 1000000 in
theorem ins1_world (p : Option Addr) (cap : Nat) (fv : Value) (W : World) : Calls Tryz.prog 342 #[.slice p 1 cap, .int .i64 0, .int .i64 1, fv] W fun e w' => e = .returned (.tuple #[]) ∧ w' = W := by
  go_enter Tryz.func342, Tryz.ntmps342
  go_wp2
  refine wp_loop_rounds 1 ?_
  rw [rounds_succ]
  go_wp2
  go_end0
  exact ⟨rfl, rfl⟩
set_option maxRecDepth 100000 in
set_option maxHeartbeats 2000000 in
theorem pdq1_world (p : Option Addr) (cap : Nat) (lim : Int) (fv : Value) (W : World) : Calls Tryz.prog 329 #[.slice p 1 cap, .int .i64 0, .int .i64 1, .int .i64 lim, fv] W fun e w' => e = .returned (.tuple #[]) ∧ w' = W := by
  go_enter Tryz.func329, Tryz.ntmps329
  go_wp2
  refine wp_loop_rounds 1 ?_
  rw [rounds_succ]
  go_wp2_with (go_at_call 342; refine (ins1_world _ _ _ _).mono ?_; rintro e w' ⟨rfl, rfl⟩)
  (try simp only [Exit.inBlock, Exit.then]); refine bodyPost_ret (results_none rfl _ _ _) rfl ?_
  exact ⟨rfl, rfl⟩
set_option maxHeartbeats 1000000 in
theorem sort1_world (p : Option Addr) (cap : Nat) (fv : Value) (W : World) : Calls Tryz.prog 296 #[.slice p 1 cap, fv] W fun e w' => e = .returned (.tuple #[]) ∧ w' = W := by
  go_enter Tryz.func296, Tryz.ntmps296
  go_wp2_with (first | (go_at_call 250; refine (len1_world _).mono ?_; rintro e w' ⟨rfl, rfl⟩) | (go_at_call 329; refine (pdq1_world _ _ _ _ _).mono ?_; rintro e w' ⟨rfl, rfl⟩))
  go_end0
  exact ⟨rfl, rfl⟩
end Go.Proofs.YtjmdeplmenbmmaaGreatDoor
set_option maxHeartbeats 4000000
namespace Go.Proofs.YtjmdeplmenbmmaaGreatDoor
open Go.RowKit
section
variable {P : Program} {Q : Exit → Act → World → Prop} {n k : Nat} {L : FL} {w0 : World} {H : List Hl} {c : Code}
def GR (P : Program) (Q : Exit → Act → World → Prop) (n k : Nat) (L : FL) (w0 : World) (H : List Hl) (c : Code) : Prop := ∀ a w, Fr n L a → St w0 H w → Code.rounds P c Q k a w
theorem G.loopN (k : Nat) (h : GR P Q n k L w0 H c) : G P Q n L w0 H (.loop c) := by
  unfold G
  exact fun a w ha hw => wp_loop_rounds k (h a w ha hw)
theorem GR.step (h : G P (Exit.then (Code.rounds P c Q k) Q) n L w0 H c) : GR P Q n (k + 1) L w0 H c := by
  unfold G at h
  exact fun a w ha hw => h a w ha hw
theorem X.round (h : GR P Q n k L w0 H c) : X (Exit.then (Code.rounds P c Q k) Q) n L w0 H .normal := by
  unfold X
  exact fun a w ha hw => h a w ha hw
variable {d : Option Tmp} {ty : TypeId} {pos : String} {af : Array Edge} {gd : Option (Nat × Bool)} {x y z : Operand} {t : TypeId} {v : Value} {K : Value → Prop}
theorem y_extern {f : FuncId} {xs : List Operand} {vs : List Value} {tys : Array TypeId} (hrun : ∀ w, (callFunc f vs.toArray).run P w = .ok (.value v) w) (ha : AE L xs vs) :
    V P n L w0 H ⟨d, .call { callee := .value (.func f), args := xs.toArray, argTypes := tys }, ty, pos, af, gd⟩ v := by
  unfold V
  intro a w hfr hw
  rw [show execOp a.eval ⟨d, .call { callee := .value (.func f), args := xs.toArray, argTypes := tys }, ty, pos, af, gd⟩ = callFunc f (#[] ++ xs.toArray.map a.eval ++ #[]) from rfl]
  have := ha.map hfr
  simp [this, hrun w]
theorem y_indexArr {b i len : Nat} {k : IntKind} {m : Int} (hx : evO L x = some (.pointer (some ⟨b, 0, none⟩))) (hy : evO L y = some (.int k m)) (hm : m = (i : Int)) (ht : arrayB P t len = true) (hi : Nat.blt i len = true) :
    V P n L w0 H ⟨d, .indexAddr t x y, ty, pos, af, gd⟩ (.pointer (some ⟨b, i, none⟩)) := by
  unfold V
  intro a w ha hw
  unfold arrayB at ht
  cases hu : P.underlying t with
  | none => simp [hu] at ht
  | some dsc =>
    cases dsc <;> simp [hu] at ht
    rename_i l e
    obtain ⟨rfl, hs⟩ := ht
    subst hm
    have hlt : i < l := by simpa [Nat.blt_eq] using hi
    have hadd : (⟨b, 0, none⟩ : Addr).add i = ⟨b, i, none⟩ := by unfold Addr.add; split <;> simp_all
    simp [execOp, ha.eval hx, ha.eval hy, Instr.indexAt, asIntOf, Instr.sureAddr, run_underlying hu, hlt, run_sizeOf_of (info_of_scalarB hs), hadd]
theorem y_sliceArr {b len : Nat} {k : IntKind} {m : Nat} (hx : evO L x = some (.pointer (some ⟨b, 0, none⟩))) (hy : evO L y = some (.int k (m : Int))) (ht : arrayB P t len = true) (hm : Nat.ble m len = true) (h0 : Nat.blt 0 len = true) :
    V P n L w0 H ⟨d, .slice t x none (some y) none, ty, pos, af, gd⟩ (.slice (some ⟨b, 0, none⟩) m len) := by
  unfold V
  intro a w ha hw
  unfold arrayB at ht
  cases hu : P.underlying t with
  | none => simp [hu] at ht
  | some dsc =>
    cases dsc <;> simp [hu] at ht
    rename_i l e
    obtain ⟨rfl, hs⟩ := ht
    have hle : m ≤ l := Nat.le_of_ble_eq_true hm
    have hpos : 0 < l := by simpa [Nat.blt_eq] using h0
    have hadd : (⟨b, 0, none⟩ : Addr).add 0 = ⟨b, 0, none⟩ := by unfold Addr.add; split <;> simp_all
    have h2 := run_sliceBound (P := P) (w := w) k m l .sliceAlen (by omega) (by omega)
    simp [execOp, ha.eval hx, ha.eval hy, Instr.sliceAt, Instr.sliceBounds, Instr.sureAddr, run_underlying hu, h2, run_sizeOf_of (info_of_scalarB hs), hadd]
theorem y_arrPtr {A : Addr} {len m c : Nat} (hx : evO L x = some (.slice (some A) m c)) (ht : arrayB P t len = true) (hm : Nat.ble len m = true) :
    V P n L w0 H ⟨d, .sliceToArrayPointer t x, ty, pos, af, gd⟩ (.pointer (some A)) := by
  unfold V
  intro a w ha hw
  unfold arrayB at ht
  cases hu : P.underlying t with
  | none => simp [hu] at ht
  | some dsc =>
    cases dsc <;> simp [hu] at ht
    rename_i l e
    obtain ⟨rfl, hs⟩ := ht
    have hle : l ≤ m := Nat.le_of_ble_eq_true hm
    simp [execOp, ha.eval hx, Instr.arrayAt, run_underlying hu, Nat.not_lt.2 hle]
theorem y_lenV {A : Option Addr} {m c : Nat} (hx : evO L x = some (.slice A m c)) (ht : isSliceB P t = true) : V P n L w0 H ⟨d, .call { callee := .builtin .len, args := #[x], argTypes := #[t] }, ty, pos, af, gd⟩ (.int .i64 m) := by
  unfold V
  intro a w ha hw
  unfold isSliceB at ht
  cases hu : P.underlying t with
  | none => simp [hu] at ht
  | some dsc =>
    cases dsc <;> simp [hu] at ht
    simp [execOp, resolve, invoke, builtin, ha.eval hx, Builtin.len_, run_underlying hu, goInt]
end
end Go.Proofs.YtjmdeplmenbmmaaGreatDoor
