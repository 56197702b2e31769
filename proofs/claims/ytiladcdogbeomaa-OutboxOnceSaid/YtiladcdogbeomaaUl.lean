/- Law 24 (outbox): contracts of functions that its statements reach, and plain laws behind them (part 12). No condition. -/
import Derived.Test.YtiladcdogbeomaaUk
import Derived.Test.YtiladcdogbeomaaUd
namespace Go.Proofs.Ytiladcdogbeomaa.QRangesPlays
open Go.RowKit Go.Shelf Go.Proofs.YtiladcdogbeomaaW.PrintWords Go.Proofs.YtiladcdogbeomaaW.PrintLast Go.Proofs.YtiladcdogbeomaaW.PrintMore Go.Proofs.Ytiladcdogbeomaa.RowLaws Go.Proofs.Ytiladcdogbeomaa.Lazy
attribute [local go_sem] Oper.semAt_some
attribute [local go_sem] max2_int min2_int max_two min_two
abbrev on26_ops : List Oper := [{ dst := some 107, op := .fieldAddr 52 (.tmp 9) 0, type := 0, pos := "own.go:65", after := #[], guard := none },
  { dst := some 108, op := .load 3 (.tmp 107), type := 3, pos := "own.go:65", after := #[⟨0, .data⟩], guard := none },
  { dst := some 109, op := .binOp .lss 3 (.tmp 108) (.const (.int .i64 0)) 3, type := 4, pos := "own.go:65", after := #[⟨1, .data⟩], guard := none },
  { dst := some 110, op := .move (.tmp 109), type := 4, pos := "own.go:65", after := #[⟨2, .data⟩], guard := none },
  { dst := some 111, op := .fieldAddr 52 (.tmp 9) 1, type := 0, pos := "own.go:65", after := #[⟨3, .guard⟩], guard := some (3, false) },
  { dst := some 112, op := .load 9 (.tmp 111), type := 9, pos := "own.go:65", after := #[⟨4, .data⟩, ⟨3, .guard⟩], guard := some (3, false) },
  { dst := some 113, op := .call { callee := .builtin .len, args := #[.tmp 112], argTypes := #[9] }, type := 3, pos := "own.go:65", after := #[⟨5, .data⟩, ⟨3, .guard⟩], guard := some (3, false) },
  { dst := some 114, op := .move (.tmp 5), type := 9, pos := "own.go:65", after := #[⟨3, .guard⟩], guard := some (3, false) },
  { dst := some 115, op := .call { callee := .builtin .len, args := #[.tmp 114], argTypes := #[9] }, type := 3, pos := "own.go:65", after := #[⟨7, .data⟩, ⟨3, .guard⟩], guard := some (3, false) },
  { dst := some 116, op := .fieldAddr 52 (.tmp 9) 0, type := 0, pos := "own.go:65", after := #[⟨3, .guard⟩], guard := some (3, false) },
  { dst := some 117, op := .load 3 (.tmp 116), type := 3, pos := "own.go:65", after := #[⟨9, .data⟩, ⟨3, .guard⟩], guard := some (3, false) },
  { dst := some 118, op := .binOp .sub 3 (.tmp 115) (.tmp 117) 3, type := 3, pos := "own.go:65", after := #[⟨8, .data⟩, ⟨10, .data⟩, ⟨3, .guard⟩], guard := some (3, false) },
  { dst := some 119, op := .binOp .gtr 3 (.tmp 113) (.tmp 118) 3, type := 4, pos := "own.go:65", after := #[⟨6, .data⟩, ⟨11, .data⟩, ⟨3, .guard⟩], guard := some (3, false) },
  { dst := some 120, op := .pick (.tmp 110) (.const (.bool true)) (.tmp 119), type := 4, pos := "own.go:65", after := #[⟨3, .data⟩, ⟨12, .data⟩], guard := none },
  { dst := some 121, op := .move (.tmp 120), type := 4, pos := "own.go:65", after := #[⟨13, .data⟩, ⟨3, .chain⟩], guard := none },
  { dst := some 122, op := .move (.tmp 5), type := 9, pos := "own.go:65", after := #[⟨14, .guard⟩], guard := some (14, false) },
  { dst := some 123, op := .fieldAddr 52 (.tmp 9) 0, type := 0, pos := "own.go:65", after := #[⟨14, .guard⟩], guard := some (14, false) },
  { dst := some 124, op := .load 3 (.tmp 123), type := 3, pos := "own.go:65", after := #[⟨16, .data⟩, ⟨14, .guard⟩], guard := some (14, false) },
  { dst := some 125, op := .fieldAddr 52 (.tmp 9) 0, type := 0, pos := "own.go:65", after := #[⟨14, .guard⟩], guard := some (14, false) },
  { dst := some 126, op := .load 3 (.tmp 125), type := 3, pos := "own.go:65", after := #[⟨18, .data⟩, ⟨14, .guard⟩], guard := some (14, false) },
  { dst := some 127, op := .fieldAddr 52 (.tmp 9) 1, type := 0, pos := "own.go:65", after := #[⟨14, .guard⟩], guard := some (14, false) },
  { dst := some 128, op := .load 9 (.tmp 127), type := 9, pos := "own.go:65", after := #[⟨20, .data⟩, ⟨14, .guard⟩], guard := some (14, false) },
  { dst := some 129, op := .call { callee := .builtin .len, args := #[.tmp 128], argTypes := #[9] }, type := 3, pos := "own.go:65", after := #[⟨21, .data⟩, ⟨14, .guard⟩], guard := some (14, false) },
  { dst := some 130, op := .binOp .add 3 (.tmp 126) (.tmp 129) 3, type := 3, pos := "own.go:65", after := #[⟨19, .data⟩, ⟨22, .data⟩, ⟨14, .guard⟩], guard := some (14, false) },
  { dst := some 131, op := .slice 9 (.tmp 122) (some (.tmp 124)) (some (.tmp 130)) none, type := 9, pos := "own.go:65", after := #[⟨15, .data⟩, ⟨17, .data⟩, ⟨23, .data⟩, ⟨14, .guard⟩], guard := some (14, false) },
  { dst := some 132, op := .fieldAddr 52 (.tmp 9) 1, type := 0, pos := "own.go:65", after := #[⟨14, .guard⟩], guard := some (14, false) },
  { dst := some 133, op := .load 9 (.tmp 132), type := 9, pos := "own.go:65", after := #[⟨25, .data⟩, ⟨14, .guard⟩], guard := some (14, false) },
  { dst := some 134, op := .binOp .neq 9 (.tmp 131) (.tmp 133) 9, type := 4, pos := "own.go:65", after := #[⟨24, .data⟩, ⟨26, .data⟩, ⟨14, .guard⟩], guard := some (14, false) },
  { dst := some 135, op := .pick (.tmp 121) (.const (.bool true)) (.tmp 134), type := 4, pos := "own.go:65", after := #[⟨14, .data⟩, ⟨27, .data⟩], guard := none },
  { dst := some 136, op := .move (.tmp 135), type := 4, pos := "own.go:65", after := #[⟨28, .data⟩, ⟨14, .chain⟩], guard := none },
  { dst := some 137, op := .fieldAddr 52 (.tmp 9) 1, type := 0, pos := "own.go:65", after := #[⟨29, .guard⟩], guard := some (29, false) },
  { dst := some 138, op := .load 9 (.tmp 137), type := 9, pos := "own.go:65", after := #[⟨30, .data⟩, ⟨29, .guard⟩], guard := some (29, false) },
  { dst := some 139, op := .call { callee := .builtin .len, args := #[.tmp 138], argTypes := #[9] }, type := 3, pos := "own.go:65", after := #[⟨31, .data⟩, ⟨29, .guard⟩], guard := some (29, false) },
  { dst := some 140, op := .fieldAddr 48 (.tmp 7) 2, type := 0, pos := "own.go:65", after := #[⟨29, .guard⟩], guard := some (29, false) },
  { dst := some 141, op := .load 3 (.tmp 140), type := 3, pos := "own.go:65", after := #[⟨33, .data⟩, ⟨29, .guard⟩], guard := some (29, false) },
  { dst := some 142, op := .call { callee := .builtin .max, args := #[.const (.int .i64 0), .tmp 141], argTypes := #[3, 3] }, type := 3, pos := "own.go:65", after := #[⟨34, .data⟩, ⟨29, .guard⟩], guard := some (29, false) },
  { dst := some 143, op := .binOp .gtr 3 (.tmp 139) (.tmp 142) 3, type := 4, pos := "own.go:65", after := #[⟨32, .data⟩, ⟨35, .data⟩, ⟨29, .guard⟩], guard := some (29, false) },
  { dst := some 144, op := .pick (.tmp 136) (.const (.bool true)) (.tmp 143), type := 4, pos := "own.go:65", after := #[⟨29, .data⟩, ⟨36, .data⟩], guard := none },
  { dst := some 145, op := .move (.tmp 144), type := 4, pos := "own.go:65", after := #[⟨37, .data⟩, ⟨29, .chain⟩], guard := none },
  { dst := some 146, op := .fieldAddr 52 (.tmp 9) 1, type := 0, pos := "own.go:65", after := #[⟨38, .guard⟩], guard := some (38, false) },
  { dst := some 147, op := .load 9 (.tmp 146), type := 9, pos := "own.go:65", after := #[⟨39, .data⟩, ⟨38, .guard⟩], guard := some (38, false) },
  { dst := some 148, op := .call { callee := .builtin .len, args := #[.tmp 147], argTypes := #[9] }, type := 3, pos := "own.go:65", after := #[⟨40, .data⟩, ⟨38, .guard⟩], guard := some (38, false) },
  { dst := some 149, op := .binOp .gtr 3 (.tmp 148) (.const (.int .i64 0)) 3, type := 4, pos := "own.go:65", after := #[⟨41, .data⟩, ⟨38, .guard⟩], guard := some (38, false) },
  { dst := some 150, op := .move (.tmp 149), type := 4, pos := "own.go:65", after := #[⟨42, .data⟩, ⟨38, .chain⟩, ⟨38, .guard⟩], guard := some (38, false) },
  { dst := some 151, op := .fieldAddr 52 (.tmp 9) 0, type := 0, pos := "own.go:65", after := #[⟨43, .guard⟩], guard := some (43, true) },
  { dst := some 152, op := .load 3 (.tmp 151), type := 3, pos := "own.go:65", after := #[⟨44, .data⟩, ⟨43, .guard⟩], guard := some (43, true) },
  { dst := some 153, op := .fieldAddr 52 (.tmp 9) 1, type := 0, pos := "own.go:65", after := #[⟨43, .guard⟩], guard := some (43, true) },
  { dst := some 154, op := .load 9 (.tmp 153), type := 9, pos := "own.go:65", after := #[⟨46, .data⟩, ⟨43, .guard⟩], guard := some (43, true) },
  { dst := some 155, op := .call { callee := .builtin .len, args := #[.tmp 154], argTypes := #[9] }, type := 3, pos := "own.go:65", after := #[⟨47, .data⟩, ⟨43, .guard⟩], guard := some (43, true) },
  { dst := some 156, op := .binOp .add 3 (.tmp 152) (.tmp 155) 3, type := 3, pos := "own.go:65", after := #[⟨45, .data⟩, ⟨48, .data⟩, ⟨43, .guard⟩], guard := some (43, true) },
  { dst := some 157, op := .move (.tmp 8), type := 3, pos := "own.go:65", after := #[⟨43, .guard⟩], guard := some (43, true) },
  { dst := some 158, op := .fieldAddr 48 (.tmp 7) 3, type := 0, pos := "own.go:65", after := #[⟨43, .guard⟩], guard := some (43, true) },
  { dst := some 159, op := .load 3 (.tmp 158), type := 3, pos := "own.go:65", after := #[⟨51, .data⟩, ⟨43, .guard⟩], guard := some (43, true) },
  { dst := some 160, op := .call { callee := .builtin .max, args := #[.tmp 157, .tmp 159], argTypes := #[3, 3] }, type := 3, pos := "own.go:65", after := #[⟨50, .data⟩, ⟨52, .data⟩, ⟨43, .guard⟩], guard := some (43, true) },
  { dst := some 161, op := .binOp .gtr 3 (.tmp 156) (.tmp 160) 3, type := 4, pos := "own.go:65", after := #[⟨49, .data⟩, ⟨53, .data⟩, ⟨43, .guard⟩], guard := some (43, true) },
  { dst := some 162, op := .pick (.tmp 150) (.tmp 161) (.const (.bool false)), type := 4, pos := "own.go:65", after := #[⟨43, .data⟩, ⟨54, .data⟩, ⟨38, .guard⟩], guard := some (38, false) },
  { dst := some 163, op := .pick (.tmp 145) (.const (.bool true)) (.tmp 162), type := 4, pos := "own.go:65", after := #[⟨38, .data⟩, ⟨55, .data⟩], guard := none }]
abbrev on26_tab : List (Option Nat) := [none, none, none, none, none, none, none, none, none, none, none, none, none, none, none, none, none, none, none, none, none, none, none, none, none, none, none, none, none, none, none, none, none, none, none, none, none, none, none, none, none, none, none, none, none, none, none, none, none, none, none, none, none, none, none, none, none, none, none, none, none, none, none, none, none, none, none, none, none, none, none, none, none, none, none, none, none, none, none, none, none, none, none, none, none, none, none, none, none, none, none, none, none, none, none, none, none, none, none, none, none, none, none, none, none, none, none, some 0, some 1, some 2, some 3, some 4, some 5, some 6, some 7, some 8, some 9, some 10, some 11, some 12, some 13, some 14, some 15, some 16, some 17, some 18, some 19, some 20, some 21, some 22, some 23, some 24, some 25, some 26, some 27, some 28, some 29, some 30, some 31, some 32, some 33, some 34, some 35, some 36, some 37, some 38, some 39, some 40, some 41, some 42, some 43, some 44, some 45, some 46, some 47, some 48, some 49, some 50, some 51, some 52, some 53, some 54, some 55, some 56, none, none, none, none, none, none, none, none, none, none, none, none, none, none, none, none, none, none, none, none, none, none, none, none, none, none, none, none, none, none, none, none, none, none, none, none, none, none, none, none, none, none, none, none, none, none, none, none, none, none, none, none, none, none, none, none, none, none, none, none, none, none, none, none]

def Once_r26a_val (Y Z : Nat) (t : ByteArray) (a : Int) (d : ByteArray) (sent room limit : Int) : Nat → Value → World → Prop := fun j v W => match j with
  | 0 => v = .pointer (some ⟨Y, 0, none⟩)
  | 1 => v = .int .i64 a
  | 2 => v = .bool false
  | 3 => v = .bool false
  | 4 => v = .pointer (some ⟨Y, 1, none⟩)
  | 5 => v = .string d
  | 6 => v = .int .i64 (d.size : Int)
  | 7 => v = .string t
  | 8 => v = .int .i64 (t.size : Int)
  | 9 => v = .pointer (some ⟨Y, 0, none⟩)
  | 10 => v = .int .i64 a
  | 11 => v = .int .i64 ((t.size : Int) - a)
  | 12 => v = .bool false
  | 13 => v = .bool false
  | 14 => v = .bool false
  | 15 => v = .string t
  | 16 => v = .pointer (some ⟨Y, 0, none⟩)
  | 17 => v = .int .i64 a
  | 18 => v = .pointer (some ⟨Y, 0, none⟩)
  | 19 => v = .int .i64 a
  | 20 => v = .pointer (some ⟨Y, 1, none⟩)
  | 21 => v = .string d
  | 22 => v = .int .i64 (d.size : Int)
  | 23 => v = .int .i64 (a + (d.size : Int))
  | 24 => v = .string (t.extract a.toNat (a + (d.size : Int)).toNat)
  | 25 => v = .pointer (some ⟨Y, 1, none⟩)
  | 26 => v = .string d
  | 27 => v = .bool false
  | 28 => v = .bool false
  | 29 => v = .bool false
  | 30 => v = .pointer (some ⟨Y, 1, none⟩)
  | 31 => v = .string d
  | 32 => v = .int .i64 (d.size : Int)
  | 33 => v = .pointer (some ⟨Z, 4, none⟩)
  | 34 => v = .int .i64 room
  | 35 => v = .int .i64 (if 0 < room then room else 0)
  | 36 => v = .bool false
  | 37 => v = .bool false
  | 38 => v = .bool false
  | 39 => v = .pointer (some ⟨Y, 1, none⟩)
  | 40 => v = .string d
  | 41 => v = .int .i64 (d.size : Int)
  | 42 => v = .bool false
  | 43 => v = .bool false
  | 44 => True
  | 45 => True
  | 46 => True
  | 47 => True
  | 48 => True
  | 49 => True
  | 50 => True
  | 51 => True
  | 52 => True
  | 53 => True
  | 54 => True
  | 55 => v = .bool false
  | 56 => v = .bool false
  | _ => True

set_option maxRecDepth 100000 in
set_option maxHeartbeats 4000000 in
theorem Once_r26a (Y Z : Nat) (t : ByteArray) (a : Int) (d : ByteArray) (sent room limit : Int) (t0 : List Value) (d0 : List Deferred) (w : World) (Q : Exit → Act → World → Prop) (hl : t0.length = on26_tab.length)
    (t5 : t0[5]? = some (.string t)) (t7 : t0[7]? = some (.pointer (some ⟨Z, 0, none⟩))) (t8 : t0[8]? = some (.int .i64 sent)) (t9 : t0[9]? = some (.pointer (some ⟨Y, 0, none⟩))) (ky0 : w.cell? ⟨Y, 0, none⟩ = some (.int .i64 a)) (ky1 : w.cell? ⟨Y, 1, none⟩ = some (.string d)) (kz4 : w.cell? ⟨Z, 4, none⟩ = some (.int .i64 room)) (kz5 : w.cell? ⟨Z, 5, none⟩ = some (.int .i64 limit)) (hb : 0 ≤ a ∧ a + (d.size : Int) ≤ (t.size : Int) ∧ t.size ≤ 262144) (hx : ((t.extract a.toNat (a + (d.size : Int)).toNat).toList == d.toList) = true) (hr : ¬ (if 0 < room then room else 0) < (d.size : Int)) (hz : ¬ 0 < (d.size : Int))
    (hQ : ∀ σ W, Below w.heap.size w W ∧ σ 56 = .bool false → Q .normal (lazyA (fun _ => true) σ t0 on26_tab d0) W) :
    (Code.region 26 on26_ops.toArray true).wp Try.prog Q { tmps := t0.toArray, defers := d0 } w := by
  refine wp_region_valsO (by kernel_rfl) on26_tab (by kernel_rfl) hl (fun i => [44, 45, 46, 47, 48, 49, 50, 51, 52, 53, 54].contains i) (fun i W W' => Below W.heap.size W W') (fun L W => Below w.heap.size w W) (Once_r26a_val Y Z t a d sent room limit) (below_drew (Below.refl _ _)) ?hst ⟨⟨(fun j b h => by cases h), fun _ => rfl⟩, ⟨(fun j b h => by cases h), fun _ => rfl⟩, ⟨(fun j b h => by cases h), fun _ => rfl⟩, ⟨(fun j b h => by cases h), fun _ => rfl⟩, ⟨(fun j b h v W hv => by cases h; exact hv), (fun h => by cases h)⟩, ⟨(fun j b h v W hv => by cases h; exact hv), (fun h => by cases h)⟩, ⟨(fun j b h v W hv => by cases h; exact hv), (fun h => by cases h)⟩, ⟨(fun j b h v W hv => by cases h; exact hv), (fun h => by cases h)⟩, ⟨(fun j b h v W hv => by cases h; exact hv), (fun h => by cases h)⟩, ⟨(fun j b h v W hv => by cases h; exact hv), (fun h => by cases h)⟩, ⟨(fun j b h v W hv => by cases h; exact hv), (fun h => by cases h)⟩, ⟨(fun j b h v W hv => by cases h; exact hv), (fun h => by cases h)⟩, ⟨(fun j b h v W hv => by cases h; exact hv), (fun h => by cases h)⟩, ⟨(fun j b h => by cases h), fun _ => rfl⟩, ⟨(fun j b h => by cases h), fun _ => rfl⟩, ⟨(fun j b h v W hv => by cases h; exact hv), (fun h => by cases h)⟩, ⟨(fun j b h v W hv => by cases h; exact hv), (fun h => by cases h)⟩, ⟨(fun j b h v W hv => by cases h; exact hv), (fun h => by cases h)⟩, ⟨(fun j b h v W hv => by cases h; exact hv), (fun h => by cases h)⟩, ⟨(fun j b h v W hv => by cases h; exact hv), (fun h => by cases h)⟩, ⟨(fun j b h v W hv => by cases h; exact hv), (fun h => by cases h)⟩, ⟨(fun j b h v W hv => by cases h; exact hv), (fun h => by cases h)⟩, ⟨(fun j b h v W hv => by cases h; exact hv), (fun h => by cases h)⟩, ⟨(fun j b h v W hv => by cases h; exact hv), (fun h => by cases h)⟩, ⟨(fun j b h v W hv => by cases h; exact hv), (fun h => by cases h)⟩, ⟨(fun j b h v W hv => by cases h; exact hv), (fun h => by cases h)⟩, ⟨(fun j b h v W hv => by cases h; exact hv), (fun h => by cases h)⟩, ⟨(fun j b h v W hv => by cases h; exact hv), (fun h => by cases h)⟩, ⟨(fun j b h => by cases h), fun _ => rfl⟩, ⟨(fun j b h => by cases h), fun _ => rfl⟩, ⟨(fun j b h v W hv => by cases h; exact hv), (fun h => by cases h)⟩, ⟨(fun j b h v W hv => by cases h; exact hv), (fun h => by cases h)⟩, ⟨(fun j b h v W hv => by cases h; exact hv), (fun h => by cases h)⟩, ⟨(fun j b h v W hv => by cases h; exact hv), (fun h => by cases h)⟩, ⟨(fun j b h v W hv => by cases h; exact hv), (fun h => by cases h)⟩, ⟨(fun j b h v W hv => by cases h; exact hv), (fun h => by cases h)⟩, ⟨(fun j b h v W hv => by cases h; exact hv), (fun h => by cases h)⟩, ⟨(fun j b h => by cases h), fun _ => rfl⟩, ⟨(fun j b h => by cases h), fun _ => rfl⟩, ⟨(fun j b h v W hv => by cases h; exact hv), (fun h => by cases h)⟩, ⟨(fun j b h v W hv => by cases h; exact hv), (fun h => by cases h)⟩, ⟨(fun j b h v W hv => by cases h; exact hv), (fun h => by cases h)⟩, ⟨(fun j b h v W hv => by cases h; exact hv), (fun h => by cases h)⟩, ⟨(fun j b h v W hv => by cases h; exact hv), (fun h => by cases h)⟩, ⟨(fun j b h v W hv => by cases h; exact hv), (fun h => by cases h)⟩, ⟨(fun j b h v W hv => by cases h; exact hv), (fun h => by cases h)⟩, ⟨(fun j b h v W hv => by cases h; exact hv), (fun h => by cases h)⟩, ⟨(fun j b h v W hv => by cases h; exact hv), (fun h => by cases h)⟩, ⟨(fun j b h v W hv => by cases h; exact hv), (fun h => by cases h)⟩, ⟨(fun j b h v W hv => by cases h; exact hv), (fun h => by cases h)⟩, ⟨(fun j b h v W hv => by cases h; exact hv), (fun h => by cases h)⟩, ⟨(fun j b h v W hv => by cases h; exact hv), (fun h => by cases h)⟩, ⟨(fun j b h v W hv => by cases h; exact hv), (fun h => by cases h)⟩, ⟨(fun j b h v W hv => by cases h; exact hv), (fun h => by cases h)⟩, ⟨(fun j b h v W hv => by cases h; exact hv), (fun h => by cases h)⟩, ⟨(fun j b h v W hv => by cases h; exact hv), (fun h => by cases h)⟩, ⟨(fun j b h => by cases h), fun _ => rfl⟩, trivial⟩ ⟨?s0, ?s1, ?s2, ?s3, ?s4, ?s5, ?s6, ?s7, ?s8, ?s9, ?s10, ?s11, ?s12, ?s13, ?s14, ?s15, ?s16, ?s17, ?s18, ?s19, ?s20, ?s21, ?s22, ?s23, ?s24, ?s25, ?s26, ?s27, ?s28, ?s29, ?s30, ?s31, ?s32, ?s33, ?s34, ?s35, ?s36, ?s37, ?s38, ?s39, ?s40, ?s41, ?s42, ?s43, ?s44, ?s45, ?s46, ?s47, ?s48, ?s49, ?s50, ?s51, ?s52, ?s53, ?s54, ?s55, ?s56, trivial⟩ ?hskip ?hdone
  case hst =>
    intro L i j v W W' hLi hLj hne hcl hR h
    match j with
    | 0 => exact h
    | 1 => exact h
    | 2 => exact h
    | 3 => exact h
    | 4 => exact h
    | 5 => exact h
    | 6 => exact h
    | 7 => exact h
    | 8 => exact h
    | 9 => exact h
    | 10 => exact h
    | 11 => exact h
    | 12 => exact h
    | 13 => exact h
    | 14 => exact h
    | 15 => exact h
    | 16 => exact h
    | 17 => exact h
    | 18 => exact h
    | 19 => exact h
    | 20 => exact h
    | 21 => exact h
    | 22 => exact h
    | 23 => exact h
    | 24 => exact h
    | 25 => exact h
    | 26 => exact h
    | 27 => exact h
    | 28 => exact h
    | 29 => exact h
    | 30 => exact h
    | 31 => exact h
    | 32 => exact h
    | 33 => exact h
    | 34 => exact h
    | 35 => exact h
    | 36 => exact h
    | 37 => exact h
    | 38 => exact h
    | 39 => exact h
    | 40 => exact h
    | 41 => exact h
    | 42 => exact h
    | 43 => exact h
    | 44 => exact h
    | 45 => exact h
    | 46 => exact h
    | 47 => exact h
    | 48 => exact h
    | 49 => exact h
    | 50 => exact h
    | 51 => exact h
    | 52 => exact h
    | 53 => exact h
    | 54 => exact h
    | 55 => exact h
    | 56 => exact h
    | n + 57 => trivial

  case s0 =>
    intro _ L ρ W hLi hcl hold hJ hT
    have q9 := hT.2.1 9 _ t9 rfl
    refine Op1.of_run (v := .pointer (some ⟨Y, 0, none⟩)) (W' := W) (by clear hT hJ hcl hold; go_simp) ⟨Below.refl _ _, hJ, rfl⟩

  case s1 =>
    intro _ L ρ W hLi hcl hold hJ hT
    have q107 : ρ (.tmp 107) = .pointer (some ⟨Y, 0, none⟩) := hT.1 107 0 rfl rfl
    have cc := (hJ.cell (World.block_lt_of_cell? _ _ ky0)).trans ky0
    refine Op1.of_run (v := .int .i64 a) (W' := W) (by clear hT hJ hcl hold; go_simp) ⟨Below.refl _ _, hJ, rfl⟩

  case s2 =>
    intro _ L ρ W hLi hcl hold hJ hT
    have q108 : ρ (.tmp 108) = .int .i64 a := hT.1 108 1 rfl rfl
    have qc := hT.2.2.1 (Go.Value.int Go.IntKind.i64 0)
    have h0 : ¬ a < 0 := by omega
    refine Op1.of_run (v := .bool false) (W' := W) (by clear hT hJ hcl hold; go_simp) ⟨Below.refl _ _, hJ, rfl⟩

  case s3 =>
    intro _ L ρ W hLi hcl hold hJ hT
    have q109 : ρ (.tmp 109) = .bool false := hT.1 109 2 rfl rfl
    refine Op1.of_run (v := .bool false) (W' := W) (by clear hT hJ hcl hold; go_simp) ⟨Below.refl _ _, hJ, rfl⟩

  case s4 =>
    intro _ L ρ W hLi hcl hold hJ hT
    have q9 := hT.2.1 9 _ t9 rfl
    refine Op1.of_run (v := .pointer (some ⟨Y, 1, none⟩)) (W' := W) (by clear hT hJ hcl hold; go_simp) ⟨Below.refl _ _, hJ, rfl⟩

  case s5 =>
    intro _ L ρ W hLi hcl hold hJ hT
    have q111 : ρ (.tmp 111) = .pointer (some ⟨Y, 1, none⟩) := hT.1 111 4 rfl rfl
    have cc := (hJ.cell (World.block_lt_of_cell? _ _ ky1)).trans ky1
    refine Op1.of_run (v := .string d) (W' := W) (by clear hT hJ hcl hold; go_simp) ⟨Below.refl _ _, hJ, rfl⟩

  case s6 =>
    intro _ L ρ W hLi hcl hold hJ hT
    have q112 : ρ (.tmp 112) = .string d := hT.1 112 5 rfl rfl
    refine Op1.of_run (v := .int .i64 (d.size : Int)) (W' := W) (by clear hT hJ hcl hold; go_simp) ⟨Below.refl _ _, hJ, rfl⟩

  case s7 =>
    intro _ L ρ W hLi hcl hold hJ hT
    have q5 := hT.2.1 5 _ t5 rfl
    refine Op1.of_run (v := .string t) (W' := W) (by clear hT hJ hcl hold; go_simp) ⟨Below.refl _ _, hJ, rfl⟩

  case s8 =>
    intro _ L ρ W hLi hcl hold hJ hT
    have q114 : ρ (.tmp 114) = .string t := hT.1 114 7 rfl rfl
    refine Op1.of_run (v := .int .i64 (t.size : Int)) (W' := W) (by clear hT hJ hcl hold; go_simp) ⟨Below.refl _ _, hJ, rfl⟩

  case s9 =>
    intro _ L ρ W hLi hcl hold hJ hT
    have q9 := hT.2.1 9 _ t9 rfl
    refine Op1.of_run (v := .pointer (some ⟨Y, 0, none⟩)) (W' := W) (by clear hT hJ hcl hold; go_simp) ⟨Below.refl _ _, hJ, rfl⟩

  case s10 =>
    intro _ L ρ W hLi hcl hold hJ hT
    have q116 : ρ (.tmp 116) = .pointer (some ⟨Y, 0, none⟩) := hT.1 116 9 rfl rfl
    have cc := (hJ.cell (World.block_lt_of_cell? _ _ ky0)).trans ky0
    refine Op1.of_run (v := .int .i64 a) (W' := W) (by clear hT hJ hcl hold; go_simp) ⟨Below.refl _ _, hJ, rfl⟩

  case s11 =>
    intro _ L ρ W hLi hcl hold hJ hT
    have q115 : ρ (.tmp 115) = .int .i64 (t.size : Int) := hT.1 115 8 rfl rfl
    have q117 : ρ (.tmp 117) = .int .i64 a := hT.1 117 10 rfl rfl
    have e1 : IntKind.i64.wrap ((t.size : Int) - a) = (t.size : Int) - a := IntWalk.i64_in _ (by omega)
    refine Op1.of_run (v := .int .i64 ((t.size : Int) - a)) (W' := W) (by clear hT hJ hcl hold; go_simp) ⟨Below.refl _ _, hJ, rfl⟩

  case s12 =>
    intro _ L ρ W hLi hcl hold hJ hT
    have q113 : ρ (.tmp 113) = .int .i64 (d.size : Int) := hT.1 113 6 rfl rfl
    have q118 : ρ (.tmp 118) = .int .i64 ((t.size : Int) - a) := hT.1 118 11 rfl rfl
    have h0 : ¬ (t.size : Int) - a < (d.size : Int) := by omega
    refine Op1.of_run (v := .bool false) (W' := W) (by clear hT hJ hcl hold; go_simp) ⟨Below.refl _ _, hJ, rfl⟩

  case s13 =>
    intro _ L ρ W hLi hcl hold hJ hT
    have q110 : ρ (.tmp 110) = .bool false := hT.1 110 3 rfl rfl
    have q119 : ρ (.tmp 119) = .bool false := hT.1 119 12 rfl rfl
    have qc := hT.2.2.1 (Go.Value.bool true)
    refine Op1.of_run (v := .bool false) (W' := W) (by clear hT hJ hcl hold; go_simp) ⟨Below.refl _ _, hJ, rfl⟩

  case s14 =>
    intro _ L ρ W hLi hcl hold hJ hT
    have q120 : ρ (.tmp 120) = .bool false := hT.1 120 13 rfl rfl
    refine Op1.of_run (v := .bool false) (W' := W) (by clear hT hJ hcl hold; go_simp) ⟨Below.refl _ _, hJ, rfl⟩

  case s15 =>
    intro _ L ρ W hLi hcl hold hJ hT
    have q5 := hT.2.1 5 _ t5 rfl
    refine Op1.of_run (v := .string t) (W' := W) (by clear hT hJ hcl hold; go_simp) ⟨Below.refl _ _, hJ, rfl⟩

  case s16 =>
    intro _ L ρ W hLi hcl hold hJ hT
    have q9 := hT.2.1 9 _ t9 rfl
    refine Op1.of_run (v := .pointer (some ⟨Y, 0, none⟩)) (W' := W) (by clear hT hJ hcl hold; go_simp) ⟨Below.refl _ _, hJ, rfl⟩

  case s17 =>
    intro _ L ρ W hLi hcl hold hJ hT
    have q123 : ρ (.tmp 123) = .pointer (some ⟨Y, 0, none⟩) := hT.1 123 16 rfl rfl
    have cc := (hJ.cell (World.block_lt_of_cell? _ _ ky0)).trans ky0
    refine Op1.of_run (v := .int .i64 a) (W' := W) (by clear hT hJ hcl hold; go_simp) ⟨Below.refl _ _, hJ, rfl⟩

  case s18 =>
    intro _ L ρ W hLi hcl hold hJ hT
    have q9 := hT.2.1 9 _ t9 rfl
    refine Op1.of_run (v := .pointer (some ⟨Y, 0, none⟩)) (W' := W) (by clear hT hJ hcl hold; go_simp) ⟨Below.refl _ _, hJ, rfl⟩

  case s19 =>
    intro _ L ρ W hLi hcl hold hJ hT
    have q125 : ρ (.tmp 125) = .pointer (some ⟨Y, 0, none⟩) := hT.1 125 18 rfl rfl
    have cc := (hJ.cell (World.block_lt_of_cell? _ _ ky0)).trans ky0
    refine Op1.of_run (v := .int .i64 a) (W' := W) (by clear hT hJ hcl hold; go_simp) ⟨Below.refl _ _, hJ, rfl⟩

  case s20 =>
    intro _ L ρ W hLi hcl hold hJ hT
    have q9 := hT.2.1 9 _ t9 rfl
    refine Op1.of_run (v := .pointer (some ⟨Y, 1, none⟩)) (W' := W) (by clear hT hJ hcl hold; go_simp) ⟨Below.refl _ _, hJ, rfl⟩

  case s21 =>
    intro _ L ρ W hLi hcl hold hJ hT
    have q127 : ρ (.tmp 127) = .pointer (some ⟨Y, 1, none⟩) := hT.1 127 20 rfl rfl
    have cc := (hJ.cell (World.block_lt_of_cell? _ _ ky1)).trans ky1
    refine Op1.of_run (v := .string d) (W' := W) (by clear hT hJ hcl hold; go_simp) ⟨Below.refl _ _, hJ, rfl⟩

  case s22 =>
    intro _ L ρ W hLi hcl hold hJ hT
    have q128 : ρ (.tmp 128) = .string d := hT.1 128 21 rfl rfl
    refine Op1.of_run (v := .int .i64 (d.size : Int)) (W' := W) (by clear hT hJ hcl hold; go_simp) ⟨Below.refl _ _, hJ, rfl⟩

  case s23 =>
    intro _ L ρ W hLi hcl hold hJ hT
    have q126 : ρ (.tmp 126) = .int .i64 a := hT.1 126 19 rfl rfl
    have q129 : ρ (.tmp 129) = .int .i64 (d.size : Int) := hT.1 129 22 rfl rfl
    have e1 : IntKind.i64.wrap (a + (d.size : Int)) = a + (d.size : Int) := IntWalk.i64_in _ (by omega)
    refine Op1.of_run (v := .int .i64 (a + (d.size : Int))) (W' := W) (by clear hT hJ hcl hold; go_simp) ⟨Below.refl _ _, hJ, rfl⟩

  case s24 =>
    intro _ L ρ W hLi hcl hold hJ hT
    have q122 : ρ (.tmp 122) = .string t := hT.1 122 15 rfl rfl
    have q124 : ρ (.tmp 124) = .int .i64 a := hT.1 124 17 rfl rfl
    have q130 : ρ (.tmp 130) = .int .i64 (a + (d.size : Int)) := hT.1 130 23 rfl rfl
    have a1 : a ≤ a + (d.size : Int) := by omega
    have a2 : a + (d.size : Int) ≤ (t.size : Int) := hb.2.1
    have a0 : 0 ≤ a := hb.1
    refine Op1.of_run (v := .string (t.extract a.toNat (a + (d.size : Int)).toNat)) (W' := W) (by clear hT hJ hcl hold; go_simp) ⟨Below.refl _ _, hJ, rfl⟩

  case s25 =>
    intro _ L ρ W hLi hcl hold hJ hT
    have q9 := hT.2.1 9 _ t9 rfl
    refine Op1.of_run (v := .pointer (some ⟨Y, 1, none⟩)) (W' := W) (by clear hT hJ hcl hold; go_simp) ⟨Below.refl _ _, hJ, rfl⟩

  case s26 =>
    intro _ L ρ W hLi hcl hold hJ hT
    have q132 : ρ (.tmp 132) = .pointer (some ⟨Y, 1, none⟩) := hT.1 132 25 rfl rfl
    have cc := (hJ.cell (World.block_lt_of_cell? _ _ ky1)).trans ky1
    refine Op1.of_run (v := .string d) (W' := W) (by clear hT hJ hcl hold; go_simp) ⟨Below.refl _ _, hJ, rfl⟩

  case s27 =>
    intro _ L ρ W hLi hcl hold hJ hT
    have q131 : ρ (.tmp 131) = .string (t.extract a.toNat (a + (d.size : Int)).toNat) := hT.1 131 24 rfl rfl
    have q133 : ρ (.tmp 133) = .string d := hT.1 133 26 rfl rfl
    refine Op1.of_run (v := .bool false) (W' := W) (by clear hT hJ hcl hold; go_simp) ⟨Below.refl _ _, hJ, rfl⟩

  case s28 =>
    intro _ L ρ W hLi hcl hold hJ hT
    have q121 : ρ (.tmp 121) = .bool false := hT.1 121 14 rfl rfl
    have q134 : ρ (.tmp 134) = .bool false := hT.1 134 27 rfl rfl
    have qc := hT.2.2.1 (Go.Value.bool true)
    refine Op1.of_run (v := .bool false) (W' := W) (by clear hT hJ hcl hold; go_simp) ⟨Below.refl _ _, hJ, rfl⟩

  case s29 =>
    intro _ L ρ W hLi hcl hold hJ hT
    have q135 : ρ (.tmp 135) = .bool false := hT.1 135 28 rfl rfl
    refine Op1.of_run (v := .bool false) (W' := W) (by clear hT hJ hcl hold; go_simp) ⟨Below.refl _ _, hJ, rfl⟩

  case s30 =>
    intro _ L ρ W hLi hcl hold hJ hT
    have q9 := hT.2.1 9 _ t9 rfl
    refine Op1.of_run (v := .pointer (some ⟨Y, 1, none⟩)) (W' := W) (by clear hT hJ hcl hold; go_simp) ⟨Below.refl _ _, hJ, rfl⟩

  case s31 =>
    intro _ L ρ W hLi hcl hold hJ hT
    have q137 : ρ (.tmp 137) = .pointer (some ⟨Y, 1, none⟩) := hT.1 137 30 rfl rfl
    have cc := (hJ.cell (World.block_lt_of_cell? _ _ ky1)).trans ky1
    refine Op1.of_run (v := .string d) (W' := W) (by clear hT hJ hcl hold; go_simp) ⟨Below.refl _ _, hJ, rfl⟩

  case s32 =>
    intro _ L ρ W hLi hcl hold hJ hT
    have q138 : ρ (.tmp 138) = .string d := hT.1 138 31 rfl rfl
    refine Op1.of_run (v := .int .i64 (d.size : Int)) (W' := W) (by clear hT hJ hcl hold; go_simp) ⟨Below.refl _ _, hJ, rfl⟩

  case s33 =>
    intro _ L ρ W hLi hcl hold hJ hT
    have q7 := hT.2.1 7 _ t7 rfl
    refine Op1.of_run (v := .pointer (some ⟨Z, 4, none⟩)) (W' := W) (by clear hT hJ hcl hold; go_simp) ⟨Below.refl _ _, hJ, rfl⟩

  case s34 =>
    intro _ L ρ W hLi hcl hold hJ hT
    have q140 : ρ (.tmp 140) = .pointer (some ⟨Z, 4, none⟩) := hT.1 140 33 rfl rfl
    have cc := (hJ.cell (World.block_lt_of_cell? _ _ kz4)).trans kz4
    refine Op1.of_run (v := .int .i64 room) (W' := W) (by clear hT hJ hcl hold; go_simp) ⟨Below.refl _ _, hJ, rfl⟩

  case s35 =>
    intro _ L ρ W hLi hcl hold hJ hT
    have q141 : ρ (.tmp 141) = .int .i64 room := hT.1 141 34 rfl rfl
    have qc := hT.2.2.1 (Go.Value.int Go.IntKind.i64 0)
    refine Op1.of_run (v := .int .i64 (if 0 < room then room else 0)) (W' := W) (by clear hT hJ hcl hold; go_simp) ⟨Below.refl _ _, hJ, rfl⟩

  case s36 =>
    intro _ L ρ W hLi hcl hold hJ hT
    have q139 : ρ (.tmp 139) = .int .i64 (d.size : Int) := hT.1 139 32 rfl rfl
    have q142 : ρ (.tmp 142) = .int .i64 (if 0 < room then room else 0) := hT.1 142 35 rfl rfl
    refine Op1.of_run (v := .bool false) (W' := W) (by clear hT hJ hcl hold; go_simp) ⟨Below.refl _ _, hJ, rfl⟩

  case s37 =>
    intro _ L ρ W hLi hcl hold hJ hT
    have q136 : ρ (.tmp 136) = .bool false := hT.1 136 29 rfl rfl
    have q143 : ρ (.tmp 143) = .bool false := hT.1 143 36 rfl rfl
    have qc := hT.2.2.1 (Go.Value.bool true)
    refine Op1.of_run (v := .bool false) (W' := W) (by clear hT hJ hcl hold; go_simp) ⟨Below.refl _ _, hJ, rfl⟩

  case s38 =>
    intro _ L ρ W hLi hcl hold hJ hT
    have q144 : ρ (.tmp 144) = .bool false := hT.1 144 37 rfl rfl
    refine Op1.of_run (v := .bool false) (W' := W) (by clear hT hJ hcl hold; go_simp) ⟨Below.refl _ _, hJ, rfl⟩

  case s39 =>
    intro _ L ρ W hLi hcl hold hJ hT
    have q9 := hT.2.1 9 _ t9 rfl
    refine Op1.of_run (v := .pointer (some ⟨Y, 1, none⟩)) (W' := W) (by clear hT hJ hcl hold; go_simp) ⟨Below.refl _ _, hJ, rfl⟩

  case s40 =>
    intro _ L ρ W hLi hcl hold hJ hT
    have q146 : ρ (.tmp 146) = .pointer (some ⟨Y, 1, none⟩) := hT.1 146 39 rfl rfl
    have cc := (hJ.cell (World.block_lt_of_cell? _ _ ky1)).trans ky1
    refine Op1.of_run (v := .string d) (W' := W) (by clear hT hJ hcl hold; go_simp) ⟨Below.refl _ _, hJ, rfl⟩

  case s41 =>
    intro _ L ρ W hLi hcl hold hJ hT
    have q147 : ρ (.tmp 147) = .string d := hT.1 147 40 rfl rfl
    refine Op1.of_run (v := .int .i64 (d.size : Int)) (W' := W) (by clear hT hJ hcl hold; go_simp) ⟨Below.refl _ _, hJ, rfl⟩

  case s42 =>
    intro _ L ρ W hLi hcl hold hJ hT
    have q148 : ρ (.tmp 148) = .int .i64 (d.size : Int) := hT.1 148 41 rfl rfl
    have qc := hT.2.2.1 (Go.Value.int Go.IntKind.i64 0)
    have hd0 : d = ByteArray.empty := by apply ByteArray.ext; exact Array.eq_empty_of_size_eq_zero (by show d.size = 0; omega)
    refine Op1.of_run (v := .bool false) (W' := W) (by clear hT hJ hcl hold; go_simp) ⟨Below.refl _ _, hJ, rfl⟩

  case s43 =>
    intro _ L ρ W hLi hcl hold hJ hT
    have q149 : ρ (.tmp 149) = .bool false := hT.1 149 42 rfl rfl
    refine Op1.of_run (v := .bool false) (W' := W) (by clear hT hJ hcl hold; go_simp) ⟨Below.refl _ _, hJ, rfl⟩

  case s44 => intro h; cases h

  case s45 => intro h; cases h

  case s46 => intro h; cases h

  case s47 => intro h; cases h

  case s48 => intro h; cases h

  case s49 => intro h; cases h

  case s50 => intro h; cases h

  case s51 => intro h; cases h

  case s52 => intro h; cases h

  case s53 => intro h; cases h

  case s54 => intro h; cases h

  case s55 =>
    intro _ L ρ W hLi hcl hold hJ hT
    have q150 : ρ (.tmp 150) = .bool false := hT.1 150 43 rfl rfl
    have z161 := hT.1 161 54 rfl rfl
    have qc := hT.2.2.1 (Go.Value.bool false)
    refine Op1.of_run (v := .bool false) (W' := W) (by clear hT hJ hcl hold; go_simp) ⟨Below.refl _ _, hJ, rfl⟩

  case s56 =>
    intro _ L ρ W hLi hcl hold hJ hT
    have q145 : ρ (.tmp 145) = .bool false := hT.1 145 38 rfl rfl
    have q162 : ρ (.tmp 162) = .bool false := hT.1 162 55 rfl rfl
    have qc := hT.2.2.1 (Go.Value.bool true)
    refine Op1.of_run (v := .bool false) (W' := W) (by clear hT hJ hcl hold; go_simp) ⟨Below.refl _ _, hJ, rfl⟩

  case hskip =>
    intro i hi L W hLi hJ
    have hi2 : i = 44 ∨ i = 45 ∨ i = 46 ∨ i = 47 ∨ i = 48 ∨ i = 49 ∨ i = 50 ∨ i = 51 ∨ i = 52 ∨ i = 53 ∨ i = 54 := by simpa using hi
    rcases hi2 with rfl | rfl | rfl | rfl | rfl | rfl | rfl | rfl | rfl | rfl | rfl <;> exact ⟨hJ, trivial⟩

  case hdone =>
    intro σ L W hL hJ hV
    exact hQ σ W ⟨hJ, hV 56 (by decide)⟩
def Once_r26b_val (Y Z : Nat) (t : ByteArray) (a : Int) (d : ByteArray) (sent room limit : Int) : Nat → Value → World → Prop := fun j v W => match j with
  | 0 => v = .pointer (some ⟨Y, 0, none⟩)
  | 1 => v = .int .i64 a
  | 2 => v = .bool false
  | 3 => v = .bool false
  | 4 => v = .pointer (some ⟨Y, 1, none⟩)
  | 5 => v = .string d
  | 6 => v = .int .i64 (d.size : Int)
  | 7 => v = .string t
  | 8 => v = .int .i64 (t.size : Int)
  | 9 => v = .pointer (some ⟨Y, 0, none⟩)
  | 10 => v = .int .i64 a
  | 11 => v = .int .i64 ((t.size : Int) - a)
  | 12 => v = .bool false
  | 13 => v = .bool false
  | 14 => v = .bool false
  | 15 => v = .string t
  | 16 => v = .pointer (some ⟨Y, 0, none⟩)
  | 17 => v = .int .i64 a
  | 18 => v = .pointer (some ⟨Y, 0, none⟩)
  | 19 => v = .int .i64 a
  | 20 => v = .pointer (some ⟨Y, 1, none⟩)
  | 21 => v = .string d
  | 22 => v = .int .i64 (d.size : Int)
  | 23 => v = .int .i64 (a + (d.size : Int))
  | 24 => v = .string (t.extract a.toNat (a + (d.size : Int)).toNat)
  | 25 => v = .pointer (some ⟨Y, 1, none⟩)
  | 26 => v = .string d
  | 27 => v = .bool false
  | 28 => v = .bool false
  | 29 => v = .bool false
  | 30 => v = .pointer (some ⟨Y, 1, none⟩)
  | 31 => v = .string d
  | 32 => v = .int .i64 (d.size : Int)
  | 33 => v = .pointer (some ⟨Z, 4, none⟩)
  | 34 => v = .int .i64 room
  | 35 => v = .int .i64 (if 0 < room then room else 0)
  | 36 => v = .bool false
  | 37 => v = .bool false
  | 38 => v = .bool false
  | 39 => v = .pointer (some ⟨Y, 1, none⟩)
  | 40 => v = .string d
  | 41 => v = .int .i64 (d.size : Int)
  | 42 => v = .bool true
  | 43 => v = .bool true
  | 44 => v = .pointer (some ⟨Y, 0, none⟩)
  | 45 => v = .int .i64 a
  | 46 => v = .pointer (some ⟨Y, 1, none⟩)
  | 47 => v = .string d
  | 48 => v = .int .i64 (d.size : Int)
  | 49 => v = .int .i64 (a + (d.size : Int))
  | 50 => v = .int .i64 sent
  | 51 => v = .pointer (some ⟨Z, 5, none⟩)
  | 52 => v = .int .i64 limit
  | 53 => v = .int .i64 (if sent < limit then limit else sent)
  | 54 => v = .bool false
  | 55 => v = .bool false
  | 56 => v = .bool false
  | _ => True

set_option maxRecDepth 100000 in
set_option maxHeartbeats 4000000 in
theorem Once_r26b (Y Z : Nat) (t : ByteArray) (a : Int) (d : ByteArray) (sent room limit : Int) (t0 : List Value) (d0 : List Deferred) (w : World) (Q : Exit → Act → World → Prop) (hl : t0.length = on26_tab.length)
    (t5 : t0[5]? = some (.string t)) (t7 : t0[7]? = some (.pointer (some ⟨Z, 0, none⟩))) (t8 : t0[8]? = some (.int .i64 sent)) (t9 : t0[9]? = some (.pointer (some ⟨Y, 0, none⟩))) (ky0 : w.cell? ⟨Y, 0, none⟩ = some (.int .i64 a)) (ky1 : w.cell? ⟨Y, 1, none⟩ = some (.string d)) (kz4 : w.cell? ⟨Z, 4, none⟩ = some (.int .i64 room)) (kz5 : w.cell? ⟨Z, 5, none⟩ = some (.int .i64 limit)) (hb : 0 ≤ a ∧ a + (d.size : Int) ≤ (t.size : Int) ∧ t.size ≤ 262144) (hx : ((t.extract a.toNat (a + (d.size : Int)).toNat).toList == d.toList) = true) (hr : ¬ (if 0 < room then room else 0) < (d.size : Int)) (hz : 0 < (d.size : Int)) (hlm : ¬ (if sent < limit then limit else sent) < a + (d.size : Int))
    (hQ : ∀ σ W, Below w.heap.size w W ∧ σ 56 = .bool false → Q .normal (lazyA (fun _ => true) σ t0 on26_tab d0) W) :
    (Code.region 26 on26_ops.toArray true).wp Try.prog Q { tmps := t0.toArray, defers := d0 } w := by
  refine wp_region_valsO (by kernel_rfl) on26_tab (by kernel_rfl) hl (fun i => [].contains i) (fun i W W' => Below W.heap.size W W') (fun L W => Below w.heap.size w W) (Once_r26b_val Y Z t a d sent room limit) (below_drew (Below.refl _ _)) ?hst ⟨⟨(fun j b h => by cases h), fun _ => rfl⟩, ⟨(fun j b h => by cases h), fun _ => rfl⟩, ⟨(fun j b h => by cases h), fun _ => rfl⟩, ⟨(fun j b h => by cases h), fun _ => rfl⟩, ⟨(fun j b h v W hv => by cases h; exact hv), (fun h => by cases h)⟩, ⟨(fun j b h v W hv => by cases h; exact hv), (fun h => by cases h)⟩, ⟨(fun j b h v W hv => by cases h; exact hv), (fun h => by cases h)⟩, ⟨(fun j b h v W hv => by cases h; exact hv), (fun h => by cases h)⟩, ⟨(fun j b h v W hv => by cases h; exact hv), (fun h => by cases h)⟩, ⟨(fun j b h v W hv => by cases h; exact hv), (fun h => by cases h)⟩, ⟨(fun j b h v W hv => by cases h; exact hv), (fun h => by cases h)⟩, ⟨(fun j b h v W hv => by cases h; exact hv), (fun h => by cases h)⟩, ⟨(fun j b h v W hv => by cases h; exact hv), (fun h => by cases h)⟩, ⟨(fun j b h => by cases h), fun _ => rfl⟩, ⟨(fun j b h => by cases h), fun _ => rfl⟩, ⟨(fun j b h v W hv => by cases h; exact hv), (fun h => by cases h)⟩, ⟨(fun j b h v W hv => by cases h; exact hv), (fun h => by cases h)⟩, ⟨(fun j b h v W hv => by cases h; exact hv), (fun h => by cases h)⟩, ⟨(fun j b h v W hv => by cases h; exact hv), (fun h => by cases h)⟩, ⟨(fun j b h v W hv => by cases h; exact hv), (fun h => by cases h)⟩, ⟨(fun j b h v W hv => by cases h; exact hv), (fun h => by cases h)⟩, ⟨(fun j b h v W hv => by cases h; exact hv), (fun h => by cases h)⟩, ⟨(fun j b h v W hv => by cases h; exact hv), (fun h => by cases h)⟩, ⟨(fun j b h v W hv => by cases h; exact hv), (fun h => by cases h)⟩, ⟨(fun j b h v W hv => by cases h; exact hv), (fun h => by cases h)⟩, ⟨(fun j b h v W hv => by cases h; exact hv), (fun h => by cases h)⟩, ⟨(fun j b h v W hv => by cases h; exact hv), (fun h => by cases h)⟩, ⟨(fun j b h v W hv => by cases h; exact hv), (fun h => by cases h)⟩, ⟨(fun j b h => by cases h), fun _ => rfl⟩, ⟨(fun j b h => by cases h), fun _ => rfl⟩, ⟨(fun j b h v W hv => by cases h; exact hv), (fun h => by cases h)⟩, ⟨(fun j b h v W hv => by cases h; exact hv), (fun h => by cases h)⟩, ⟨(fun j b h v W hv => by cases h; exact hv), (fun h => by cases h)⟩, ⟨(fun j b h v W hv => by cases h; exact hv), (fun h => by cases h)⟩, ⟨(fun j b h v W hv => by cases h; exact hv), (fun h => by cases h)⟩, ⟨(fun j b h v W hv => by cases h; exact hv), (fun h => by cases h)⟩, ⟨(fun j b h v W hv => by cases h; exact hv), (fun h => by cases h)⟩, ⟨(fun j b h => by cases h), fun _ => rfl⟩, ⟨(fun j b h => by cases h), fun _ => rfl⟩, ⟨(fun j b h v W hv => by cases h; exact hv), (fun h => by cases h)⟩, ⟨(fun j b h v W hv => by cases h; exact hv), (fun h => by cases h)⟩, ⟨(fun j b h v W hv => by cases h; exact hv), (fun h => by cases h)⟩, ⟨(fun j b h v W hv => by cases h; exact hv), (fun h => by cases h)⟩, ⟨(fun j b h v W hv => by cases h; exact hv), (fun h => by cases h)⟩, ⟨(fun j b h v W hv => by cases h; exact hv), (fun h => by cases h)⟩, ⟨(fun j b h v W hv => by cases h; exact hv), (fun h => by cases h)⟩, ⟨(fun j b h v W hv => by cases h; exact hv), (fun h => by cases h)⟩, ⟨(fun j b h v W hv => by cases h; exact hv), (fun h => by cases h)⟩, ⟨(fun j b h v W hv => by cases h; exact hv), (fun h => by cases h)⟩, ⟨(fun j b h v W hv => by cases h; exact hv), (fun h => by cases h)⟩, ⟨(fun j b h v W hv => by cases h; exact hv), (fun h => by cases h)⟩, ⟨(fun j b h v W hv => by cases h; exact hv), (fun h => by cases h)⟩, ⟨(fun j b h v W hv => by cases h; exact hv), (fun h => by cases h)⟩, ⟨(fun j b h v W hv => by cases h; exact hv), (fun h => by cases h)⟩, ⟨(fun j b h v W hv => by cases h; exact hv), (fun h => by cases h)⟩, ⟨(fun j b h v W hv => by cases h; exact hv), (fun h => by cases h)⟩, ⟨(fun j b h => by cases h), fun _ => rfl⟩, trivial⟩ ⟨?s0, ?s1, ?s2, ?s3, ?s4, ?s5, ?s6, ?s7, ?s8, ?s9, ?s10, ?s11, ?s12, ?s13, ?s14, ?s15, ?s16, ?s17, ?s18, ?s19, ?s20, ?s21, ?s22, ?s23, ?s24, ?s25, ?s26, ?s27, ?s28, ?s29, ?s30, ?s31, ?s32, ?s33, ?s34, ?s35, ?s36, ?s37, ?s38, ?s39, ?s40, ?s41, ?s42, ?s43, ?s44, ?s45, ?s46, ?s47, ?s48, ?s49, ?s50, ?s51, ?s52, ?s53, ?s54, ?s55, ?s56, trivial⟩ ?hskip ?hdone
  case hst =>
    intro L i j v W W' hLi hLj hne hcl hR h
    match j with
    | 0 => exact h
    | 1 => exact h
    | 2 => exact h
    | 3 => exact h
    | 4 => exact h
    | 5 => exact h
    | 6 => exact h
    | 7 => exact h
    | 8 => exact h
    | 9 => exact h
    | 10 => exact h
    | 11 => exact h
    | 12 => exact h
    | 13 => exact h
    | 14 => exact h
    | 15 => exact h
    | 16 => exact h
    | 17 => exact h
    | 18 => exact h
    | 19 => exact h
    | 20 => exact h
    | 21 => exact h
    | 22 => exact h
    | 23 => exact h
    | 24 => exact h
    | 25 => exact h
    | 26 => exact h
    | 27 => exact h
    | 28 => exact h
    | 29 => exact h
    | 30 => exact h
    | 31 => exact h
    | 32 => exact h
    | 33 => exact h
    | 34 => exact h
    | 35 => exact h
    | 36 => exact h
    | 37 => exact h
    | 38 => exact h
    | 39 => exact h
    | 40 => exact h
    | 41 => exact h
    | 42 => exact h
    | 43 => exact h
    | 44 => exact h
    | 45 => exact h
    | 46 => exact h
    | 47 => exact h
    | 48 => exact h
    | 49 => exact h
    | 50 => exact h
    | 51 => exact h
    | 52 => exact h
    | 53 => exact h
    | 54 => exact h
    | 55 => exact h
    | 56 => exact h
    | n + 57 => trivial

  case s0 =>
    intro _ L ρ W hLi hcl hold hJ hT
    have q9 := hT.2.1 9 _ t9 rfl
    refine Op1.of_run (v := .pointer (some ⟨Y, 0, none⟩)) (W' := W) (by clear hT hJ hcl hold; go_simp) ⟨Below.refl _ _, hJ, rfl⟩

  case s1 =>
    intro _ L ρ W hLi hcl hold hJ hT
    have q107 : ρ (.tmp 107) = .pointer (some ⟨Y, 0, none⟩) := hT.1 107 0 rfl rfl
    have cc := (hJ.cell (World.block_lt_of_cell? _ _ ky0)).trans ky0
    refine Op1.of_run (v := .int .i64 a) (W' := W) (by clear hT hJ hcl hold; go_simp) ⟨Below.refl _ _, hJ, rfl⟩

  case s2 =>
    intro _ L ρ W hLi hcl hold hJ hT
    have q108 : ρ (.tmp 108) = .int .i64 a := hT.1 108 1 rfl rfl
    have qc := hT.2.2.1 (Go.Value.int Go.IntKind.i64 0)
    have h0 : ¬ a < 0 := by omega
    refine Op1.of_run (v := .bool false) (W' := W) (by clear hT hJ hcl hold; go_simp) ⟨Below.refl _ _, hJ, rfl⟩

  case s3 =>
    intro _ L ρ W hLi hcl hold hJ hT
    have q109 : ρ (.tmp 109) = .bool false := hT.1 109 2 rfl rfl
    refine Op1.of_run (v := .bool false) (W' := W) (by clear hT hJ hcl hold; go_simp) ⟨Below.refl _ _, hJ, rfl⟩

  case s4 =>
    intro _ L ρ W hLi hcl hold hJ hT
    have q9 := hT.2.1 9 _ t9 rfl
    refine Op1.of_run (v := .pointer (some ⟨Y, 1, none⟩)) (W' := W) (by clear hT hJ hcl hold; go_simp) ⟨Below.refl _ _, hJ, rfl⟩

  case s5 =>
    intro _ L ρ W hLi hcl hold hJ hT
    have q111 : ρ (.tmp 111) = .pointer (some ⟨Y, 1, none⟩) := hT.1 111 4 rfl rfl
    have cc := (hJ.cell (World.block_lt_of_cell? _ _ ky1)).trans ky1
    refine Op1.of_run (v := .string d) (W' := W) (by clear hT hJ hcl hold; go_simp) ⟨Below.refl _ _, hJ, rfl⟩

  case s6 =>
    intro _ L ρ W hLi hcl hold hJ hT
    have q112 : ρ (.tmp 112) = .string d := hT.1 112 5 rfl rfl
    refine Op1.of_run (v := .int .i64 (d.size : Int)) (W' := W) (by clear hT hJ hcl hold; go_simp) ⟨Below.refl _ _, hJ, rfl⟩

  case s7 =>
    intro _ L ρ W hLi hcl hold hJ hT
    have q5 := hT.2.1 5 _ t5 rfl
    refine Op1.of_run (v := .string t) (W' := W) (by clear hT hJ hcl hold; go_simp) ⟨Below.refl _ _, hJ, rfl⟩

  case s8 =>
    intro _ L ρ W hLi hcl hold hJ hT
    have q114 : ρ (.tmp 114) = .string t := hT.1 114 7 rfl rfl
    refine Op1.of_run (v := .int .i64 (t.size : Int)) (W' := W) (by clear hT hJ hcl hold; go_simp) ⟨Below.refl _ _, hJ, rfl⟩

  case s9 =>
    intro _ L ρ W hLi hcl hold hJ hT
    have q9 := hT.2.1 9 _ t9 rfl
    refine Op1.of_run (v := .pointer (some ⟨Y, 0, none⟩)) (W' := W) (by clear hT hJ hcl hold; go_simp) ⟨Below.refl _ _, hJ, rfl⟩

  case s10 =>
    intro _ L ρ W hLi hcl hold hJ hT
    have q116 : ρ (.tmp 116) = .pointer (some ⟨Y, 0, none⟩) := hT.1 116 9 rfl rfl
    have cc := (hJ.cell (World.block_lt_of_cell? _ _ ky0)).trans ky0
    refine Op1.of_run (v := .int .i64 a) (W' := W) (by clear hT hJ hcl hold; go_simp) ⟨Below.refl _ _, hJ, rfl⟩

  case s11 =>
    intro _ L ρ W hLi hcl hold hJ hT
    have q115 : ρ (.tmp 115) = .int .i64 (t.size : Int) := hT.1 115 8 rfl rfl
    have q117 : ρ (.tmp 117) = .int .i64 a := hT.1 117 10 rfl rfl
    have e1 : IntKind.i64.wrap ((t.size : Int) - a) = (t.size : Int) - a := IntWalk.i64_in _ (by omega)
    refine Op1.of_run (v := .int .i64 ((t.size : Int) - a)) (W' := W) (by clear hT hJ hcl hold; go_simp) ⟨Below.refl _ _, hJ, rfl⟩

  case s12 =>
    intro _ L ρ W hLi hcl hold hJ hT
    have q113 : ρ (.tmp 113) = .int .i64 (d.size : Int) := hT.1 113 6 rfl rfl
    have q118 : ρ (.tmp 118) = .int .i64 ((t.size : Int) - a) := hT.1 118 11 rfl rfl
    have h0 : ¬ (t.size : Int) - a < (d.size : Int) := by omega
    refine Op1.of_run (v := .bool false) (W' := W) (by clear hT hJ hcl hold; go_simp) ⟨Below.refl _ _, hJ, rfl⟩

  case s13 =>
    intro _ L ρ W hLi hcl hold hJ hT
    have q110 : ρ (.tmp 110) = .bool false := hT.1 110 3 rfl rfl
    have q119 : ρ (.tmp 119) = .bool false := hT.1 119 12 rfl rfl
    have qc := hT.2.2.1 (Go.Value.bool true)
    refine Op1.of_run (v := .bool false) (W' := W) (by clear hT hJ hcl hold; go_simp) ⟨Below.refl _ _, hJ, rfl⟩

  case s14 =>
    intro _ L ρ W hLi hcl hold hJ hT
    have q120 : ρ (.tmp 120) = .bool false := hT.1 120 13 rfl rfl
    refine Op1.of_run (v := .bool false) (W' := W) (by clear hT hJ hcl hold; go_simp) ⟨Below.refl _ _, hJ, rfl⟩

  case s15 =>
    intro _ L ρ W hLi hcl hold hJ hT
    have q5 := hT.2.1 5 _ t5 rfl
    refine Op1.of_run (v := .string t) (W' := W) (by clear hT hJ hcl hold; go_simp) ⟨Below.refl _ _, hJ, rfl⟩

  case s16 =>
    intro _ L ρ W hLi hcl hold hJ hT
    have q9 := hT.2.1 9 _ t9 rfl
    refine Op1.of_run (v := .pointer (some ⟨Y, 0, none⟩)) (W' := W) (by clear hT hJ hcl hold; go_simp) ⟨Below.refl _ _, hJ, rfl⟩

  case s17 =>
    intro _ L ρ W hLi hcl hold hJ hT
    have q123 : ρ (.tmp 123) = .pointer (some ⟨Y, 0, none⟩) := hT.1 123 16 rfl rfl
    have cc := (hJ.cell (World.block_lt_of_cell? _ _ ky0)).trans ky0
    refine Op1.of_run (v := .int .i64 a) (W' := W) (by clear hT hJ hcl hold; go_simp) ⟨Below.refl _ _, hJ, rfl⟩

  case s18 =>
    intro _ L ρ W hLi hcl hold hJ hT
    have q9 := hT.2.1 9 _ t9 rfl
    refine Op1.of_run (v := .pointer (some ⟨Y, 0, none⟩)) (W' := W) (by clear hT hJ hcl hold; go_simp) ⟨Below.refl _ _, hJ, rfl⟩

  case s19 =>
    intro _ L ρ W hLi hcl hold hJ hT
    have q125 : ρ (.tmp 125) = .pointer (some ⟨Y, 0, none⟩) := hT.1 125 18 rfl rfl
    have cc := (hJ.cell (World.block_lt_of_cell? _ _ ky0)).trans ky0
    refine Op1.of_run (v := .int .i64 a) (W' := W) (by clear hT hJ hcl hold; go_simp) ⟨Below.refl _ _, hJ, rfl⟩

  case s20 =>
    intro _ L ρ W hLi hcl hold hJ hT
    have q9 := hT.2.1 9 _ t9 rfl
    refine Op1.of_run (v := .pointer (some ⟨Y, 1, none⟩)) (W' := W) (by clear hT hJ hcl hold; go_simp) ⟨Below.refl _ _, hJ, rfl⟩

  case s21 =>
    intro _ L ρ W hLi hcl hold hJ hT
    have q127 : ρ (.tmp 127) = .pointer (some ⟨Y, 1, none⟩) := hT.1 127 20 rfl rfl
    have cc := (hJ.cell (World.block_lt_of_cell? _ _ ky1)).trans ky1
    refine Op1.of_run (v := .string d) (W' := W) (by clear hT hJ hcl hold; go_simp) ⟨Below.refl _ _, hJ, rfl⟩

  case s22 =>
    intro _ L ρ W hLi hcl hold hJ hT
    have q128 : ρ (.tmp 128) = .string d := hT.1 128 21 rfl rfl
    refine Op1.of_run (v := .int .i64 (d.size : Int)) (W' := W) (by clear hT hJ hcl hold; go_simp) ⟨Below.refl _ _, hJ, rfl⟩

  case s23 =>
    intro _ L ρ W hLi hcl hold hJ hT
    have q126 : ρ (.tmp 126) = .int .i64 a := hT.1 126 19 rfl rfl
    have q129 : ρ (.tmp 129) = .int .i64 (d.size : Int) := hT.1 129 22 rfl rfl
    have e1 : IntKind.i64.wrap (a + (d.size : Int)) = a + (d.size : Int) := IntWalk.i64_in _ (by omega)
    refine Op1.of_run (v := .int .i64 (a + (d.size : Int))) (W' := W) (by clear hT hJ hcl hold; go_simp) ⟨Below.refl _ _, hJ, rfl⟩

  case s24 =>
    intro _ L ρ W hLi hcl hold hJ hT
    have q122 : ρ (.tmp 122) = .string t := hT.1 122 15 rfl rfl
    have q124 : ρ (.tmp 124) = .int .i64 a := hT.1 124 17 rfl rfl
    have q130 : ρ (.tmp 130) = .int .i64 (a + (d.size : Int)) := hT.1 130 23 rfl rfl
    have a1 : a ≤ a + (d.size : Int) := by omega
    have a2 : a + (d.size : Int) ≤ (t.size : Int) := hb.2.1
    have a0 : 0 ≤ a := hb.1
    refine Op1.of_run (v := .string (t.extract a.toNat (a + (d.size : Int)).toNat)) (W' := W) (by clear hT hJ hcl hold; go_simp) ⟨Below.refl _ _, hJ, rfl⟩

  case s25 =>
    intro _ L ρ W hLi hcl hold hJ hT
    have q9 := hT.2.1 9 _ t9 rfl
    refine Op1.of_run (v := .pointer (some ⟨Y, 1, none⟩)) (W' := W) (by clear hT hJ hcl hold; go_simp) ⟨Below.refl _ _, hJ, rfl⟩

  case s26 =>
    intro _ L ρ W hLi hcl hold hJ hT
    have q132 : ρ (.tmp 132) = .pointer (some ⟨Y, 1, none⟩) := hT.1 132 25 rfl rfl
    have cc := (hJ.cell (World.block_lt_of_cell? _ _ ky1)).trans ky1
    refine Op1.of_run (v := .string d) (W' := W) (by clear hT hJ hcl hold; go_simp) ⟨Below.refl _ _, hJ, rfl⟩

  case s27 =>
    intro _ L ρ W hLi hcl hold hJ hT
    have q131 : ρ (.tmp 131) = .string (t.extract a.toNat (a + (d.size : Int)).toNat) := hT.1 131 24 rfl rfl
    have q133 : ρ (.tmp 133) = .string d := hT.1 133 26 rfl rfl
    refine Op1.of_run (v := .bool false) (W' := W) (by clear hT hJ hcl hold; go_simp) ⟨Below.refl _ _, hJ, rfl⟩

  case s28 =>
    intro _ L ρ W hLi hcl hold hJ hT
    have q121 : ρ (.tmp 121) = .bool false := hT.1 121 14 rfl rfl
    have q134 : ρ (.tmp 134) = .bool false := hT.1 134 27 rfl rfl
    have qc := hT.2.2.1 (Go.Value.bool true)
    refine Op1.of_run (v := .bool false) (W' := W) (by clear hT hJ hcl hold; go_simp) ⟨Below.refl _ _, hJ, rfl⟩

  case s29 =>
    intro _ L ρ W hLi hcl hold hJ hT
    have q135 : ρ (.tmp 135) = .bool false := hT.1 135 28 rfl rfl
    refine Op1.of_run (v := .bool false) (W' := W) (by clear hT hJ hcl hold; go_simp) ⟨Below.refl _ _, hJ, rfl⟩

  case s30 =>
    intro _ L ρ W hLi hcl hold hJ hT
    have q9 := hT.2.1 9 _ t9 rfl
    refine Op1.of_run (v := .pointer (some ⟨Y, 1, none⟩)) (W' := W) (by clear hT hJ hcl hold; go_simp) ⟨Below.refl _ _, hJ, rfl⟩

  case s31 =>
    intro _ L ρ W hLi hcl hold hJ hT
    have q137 : ρ (.tmp 137) = .pointer (some ⟨Y, 1, none⟩) := hT.1 137 30 rfl rfl
    have cc := (hJ.cell (World.block_lt_of_cell? _ _ ky1)).trans ky1
    refine Op1.of_run (v := .string d) (W' := W) (by clear hT hJ hcl hold; go_simp) ⟨Below.refl _ _, hJ, rfl⟩

  case s32 =>
    intro _ L ρ W hLi hcl hold hJ hT
    have q138 : ρ (.tmp 138) = .string d := hT.1 138 31 rfl rfl
    refine Op1.of_run (v := .int .i64 (d.size : Int)) (W' := W) (by clear hT hJ hcl hold; go_simp) ⟨Below.refl _ _, hJ, rfl⟩

  case s33 =>
    intro _ L ρ W hLi hcl hold hJ hT
    have q7 := hT.2.1 7 _ t7 rfl
    refine Op1.of_run (v := .pointer (some ⟨Z, 4, none⟩)) (W' := W) (by clear hT hJ hcl hold; go_simp) ⟨Below.refl _ _, hJ, rfl⟩

  case s34 =>
    intro _ L ρ W hLi hcl hold hJ hT
    have q140 : ρ (.tmp 140) = .pointer (some ⟨Z, 4, none⟩) := hT.1 140 33 rfl rfl
    have cc := (hJ.cell (World.block_lt_of_cell? _ _ kz4)).trans kz4
    refine Op1.of_run (v := .int .i64 room) (W' := W) (by clear hT hJ hcl hold; go_simp) ⟨Below.refl _ _, hJ, rfl⟩

  case s35 =>
    intro _ L ρ W hLi hcl hold hJ hT
    have q141 : ρ (.tmp 141) = .int .i64 room := hT.1 141 34 rfl rfl
    have qc := hT.2.2.1 (Go.Value.int Go.IntKind.i64 0)
    refine Op1.of_run (v := .int .i64 (if 0 < room then room else 0)) (W' := W) (by clear hT hJ hcl hold; go_simp) ⟨Below.refl _ _, hJ, rfl⟩

  case s36 =>
    intro _ L ρ W hLi hcl hold hJ hT
    have q139 : ρ (.tmp 139) = .int .i64 (d.size : Int) := hT.1 139 32 rfl rfl
    have q142 : ρ (.tmp 142) = .int .i64 (if 0 < room then room else 0) := hT.1 142 35 rfl rfl
    refine Op1.of_run (v := .bool false) (W' := W) (by clear hT hJ hcl hold; go_simp) ⟨Below.refl _ _, hJ, rfl⟩

  case s37 =>
    intro _ L ρ W hLi hcl hold hJ hT
    have q136 : ρ (.tmp 136) = .bool false := hT.1 136 29 rfl rfl
    have q143 : ρ (.tmp 143) = .bool false := hT.1 143 36 rfl rfl
    have qc := hT.2.2.1 (Go.Value.bool true)
    refine Op1.of_run (v := .bool false) (W' := W) (by clear hT hJ hcl hold; go_simp) ⟨Below.refl _ _, hJ, rfl⟩

  case s38 =>
    intro _ L ρ W hLi hcl hold hJ hT
    have q144 : ρ (.tmp 144) = .bool false := hT.1 144 37 rfl rfl
    refine Op1.of_run (v := .bool false) (W' := W) (by clear hT hJ hcl hold; go_simp) ⟨Below.refl _ _, hJ, rfl⟩

  case s39 =>
    intro _ L ρ W hLi hcl hold hJ hT
    have q9 := hT.2.1 9 _ t9 rfl
    refine Op1.of_run (v := .pointer (some ⟨Y, 1, none⟩)) (W' := W) (by clear hT hJ hcl hold; go_simp) ⟨Below.refl _ _, hJ, rfl⟩

  case s40 =>
    intro _ L ρ W hLi hcl hold hJ hT
    have q146 : ρ (.tmp 146) = .pointer (some ⟨Y, 1, none⟩) := hT.1 146 39 rfl rfl
    have cc := (hJ.cell (World.block_lt_of_cell? _ _ ky1)).trans ky1
    refine Op1.of_run (v := .string d) (W' := W) (by clear hT hJ hcl hold; go_simp) ⟨Below.refl _ _, hJ, rfl⟩

  case s41 =>
    intro _ L ρ W hLi hcl hold hJ hT
    have q147 : ρ (.tmp 147) = .string d := hT.1 147 40 rfl rfl
    refine Op1.of_run (v := .int .i64 (d.size : Int)) (W' := W) (by clear hT hJ hcl hold; go_simp) ⟨Below.refl _ _, hJ, rfl⟩

  case s42 =>
    intro _ L ρ W hLi hcl hold hJ hT
    have q148 : ρ (.tmp 148) = .int .i64 (d.size : Int) := hT.1 148 41 rfl rfl
    have qc := hT.2.2.1 (Go.Value.int Go.IntKind.i64 0)
    have hz2 : 0 < d.size := by omega
    refine Op1.of_run (v := .bool true) (W' := W) (by clear hT hJ hcl hold; go_simp) ⟨Below.refl _ _, hJ, rfl⟩

  case s43 =>
    intro _ L ρ W hLi hcl hold hJ hT
    have q149 : ρ (.tmp 149) = .bool true := hT.1 149 42 rfl rfl
    refine Op1.of_run (v := .bool true) (W' := W) (by clear hT hJ hcl hold; go_simp) ⟨Below.refl _ _, hJ, rfl⟩

  case s44 =>
    intro _ L ρ W hLi hcl hold hJ hT
    have q9 := hT.2.1 9 _ t9 rfl
    refine Op1.of_run (v := .pointer (some ⟨Y, 0, none⟩)) (W' := W) (by clear hT hJ hcl hold; go_simp) ⟨Below.refl _ _, hJ, rfl⟩

  case s45 =>
    intro _ L ρ W hLi hcl hold hJ hT
    have q151 : ρ (.tmp 151) = .pointer (some ⟨Y, 0, none⟩) := hT.1 151 44 rfl rfl
    have cc := (hJ.cell (World.block_lt_of_cell? _ _ ky0)).trans ky0
    refine Op1.of_run (v := .int .i64 a) (W' := W) (by clear hT hJ hcl hold; go_simp) ⟨Below.refl _ _, hJ, rfl⟩

  case s46 =>
    intro _ L ρ W hLi hcl hold hJ hT
    have q9 := hT.2.1 9 _ t9 rfl
    refine Op1.of_run (v := .pointer (some ⟨Y, 1, none⟩)) (W' := W) (by clear hT hJ hcl hold; go_simp) ⟨Below.refl _ _, hJ, rfl⟩

  case s47 =>
    intro _ L ρ W hLi hcl hold hJ hT
    have q153 : ρ (.tmp 153) = .pointer (some ⟨Y, 1, none⟩) := hT.1 153 46 rfl rfl
    have cc := (hJ.cell (World.block_lt_of_cell? _ _ ky1)).trans ky1
    refine Op1.of_run (v := .string d) (W' := W) (by clear hT hJ hcl hold; go_simp) ⟨Below.refl _ _, hJ, rfl⟩

  case s48 =>
    intro _ L ρ W hLi hcl hold hJ hT
    have q154 : ρ (.tmp 154) = .string d := hT.1 154 47 rfl rfl
    refine Op1.of_run (v := .int .i64 (d.size : Int)) (W' := W) (by clear hT hJ hcl hold; go_simp) ⟨Below.refl _ _, hJ, rfl⟩

  case s49 =>
    intro _ L ρ W hLi hcl hold hJ hT
    have q152 : ρ (.tmp 152) = .int .i64 a := hT.1 152 45 rfl rfl
    have q155 : ρ (.tmp 155) = .int .i64 (d.size : Int) := hT.1 155 48 rfl rfl
    have e1 : IntKind.i64.wrap (a + (d.size : Int)) = a + (d.size : Int) := IntWalk.i64_in _ (by omega)
    refine Op1.of_run (v := .int .i64 (a + (d.size : Int))) (W' := W) (by clear hT hJ hcl hold; go_simp) ⟨Below.refl _ _, hJ, rfl⟩

  case s50 =>
    intro _ L ρ W hLi hcl hold hJ hT
    have q8 := hT.2.1 8 _ t8 rfl
    refine Op1.of_run (v := .int .i64 sent) (W' := W) (by clear hT hJ hcl hold; go_simp) ⟨Below.refl _ _, hJ, rfl⟩

  case s51 =>
    intro _ L ρ W hLi hcl hold hJ hT
    have q7 := hT.2.1 7 _ t7 rfl
    refine Op1.of_run (v := .pointer (some ⟨Z, 5, none⟩)) (W' := W) (by clear hT hJ hcl hold; go_simp) ⟨Below.refl _ _, hJ, rfl⟩

  case s52 =>
    intro _ L ρ W hLi hcl hold hJ hT
    have q158 : ρ (.tmp 158) = .pointer (some ⟨Z, 5, none⟩) := hT.1 158 51 rfl rfl
    have cc := (hJ.cell (World.block_lt_of_cell? _ _ kz5)).trans kz5
    refine Op1.of_run (v := .int .i64 limit) (W' := W) (by clear hT hJ hcl hold; go_simp) ⟨Below.refl _ _, hJ, rfl⟩

  case s53 =>
    intro _ L ρ W hLi hcl hold hJ hT
    have q157 : ρ (.tmp 157) = .int .i64 sent := hT.1 157 50 rfl rfl
    have q159 : ρ (.tmp 159) = .int .i64 limit := hT.1 159 52 rfl rfl
    refine Op1.of_run (v := .int .i64 (if sent < limit then limit else sent)) (W' := W) (by clear hT hJ hcl hold; go_simp) ⟨Below.refl _ _, hJ, rfl⟩

  case s54 =>
    intro _ L ρ W hLi hcl hold hJ hT
    have q156 : ρ (.tmp 156) = .int .i64 (a + (d.size : Int)) := hT.1 156 49 rfl rfl
    have q160 : ρ (.tmp 160) = .int .i64 (if sent < limit then limit else sent) := hT.1 160 53 rfl rfl
    refine Op1.of_run (v := .bool false) (W' := W) (by clear hT hJ hcl hold; go_simp) ⟨Below.refl _ _, hJ, rfl⟩

  case s55 =>
    intro _ L ρ W hLi hcl hold hJ hT
    have q150 : ρ (.tmp 150) = .bool true := hT.1 150 43 rfl rfl
    have q161 : ρ (.tmp 161) = .bool false := hT.1 161 54 rfl rfl
    have qc := hT.2.2.1 (Go.Value.bool false)
    refine Op1.of_run (v := .bool false) (W' := W) (by clear hT hJ hcl hold; go_simp) ⟨Below.refl _ _, hJ, rfl⟩

  case s56 =>
    intro _ L ρ W hLi hcl hold hJ hT
    have q145 : ρ (.tmp 145) = .bool false := hT.1 145 38 rfl rfl
    have q162 : ρ (.tmp 162) = .bool false := hT.1 162 55 rfl rfl
    have qc := hT.2.2.1 (Go.Value.bool true)
    refine Op1.of_run (v := .bool false) (W' := W) (by clear hT hJ hcl hold; go_simp) ⟨Below.refl _ _, hJ, rfl⟩

  case hskip => intro i hi; simp at hi

  case hdone =>
    intro σ L W hL hJ hV
    exact hQ σ W ⟨hJ, hV 56 (by decide)⟩
end Go.Proofs.Ytiladcdogbeomaa.QRangesPlays

namespace Go.Proofs.Ytiladcdogbeomaa.QRangesPlays
open Go.RowKit Go.Shelf Go.Proofs.YtiladcdogbeomaaW.PrintWords Go.Proofs.YtiladcdogbeomaaW.PrintLast Go.Proofs.YtiladcdogbeomaaW.PrintMore Go.Proofs.Ytiladcdogbeomaa.RowLaws Go.Proofs.Ytiladcdogbeomaa.Lazy
attribute [local go_sem] Oper.semAt_some
/-- A row of bools of the call's own. -/
def CR (W : World) (B : Nat) (v : Value) (cs : List Bool) : Prop := Kd.R Kd.bool 4 W B (fun _ => True) v cs
/-- What is marked has come. -/
def Came (cs : List Bool) (C : List S95) : Prop := ∀ k (h : k < cs.length), cs[k] = true → has C k
/-- What went, told with its number of elements. -/
def WentV (v : Value) (i : Nat) : Prop := ∃ A n c, v = .slice A n c ∧ n ≤ i ∧ (n = 0 → v = .slice none 0 0)
structure OnS (X g gc ga : Nat) (w : World) (t : ByteArray) (S : Int) (C A : List S95) (f1 f2 f3 f4 : Bool) (tr : ByteArray) (m : Value) (x y : Bool) (z : Int) (v cv : Value) (cs : List Bool) (W : World) : Prop where
  o : OSP g gc ga w t S C A f1 f2 f3 f4 W
  b : W.heap[X]? = some (wdO g tr m x y z v)
  r : RefW w.heap.size tr m v W
  c : CR W w.heap.size cv cs
  cl : cs.length = 2001
  cm : Came cs C
  hx : w.heap.size ≤ X
  hne : X ≠ g ∧ X ≠ gc ∧ X ≠ ga
section
variable {X g gc ga : Nat} {w : World} {t t' tr t4 : ByteArray} {S S' : Int} {C A C' A' : List S95} {f1 f2 f3 f4 e1 e2 e3 e4 : Bool} {m u4 v v' cv : Value} {x y x4 y4 : Bool} {z z4 : Int} {cs : List Bool} {W W' : World}
theorem OnS.below (h : OnS X g gc ga w t S C A f1 f2 f3 f4 tr m x y z v cv cs W) (hb : Below W.heap.size W W') : OnS X g gc ga w t S C A f1 f2 f3 f4 tr m x y z v cv cs W' :=
  ⟨h.o.below hb, (hb.block _ (lt_of_block h.b)).trans h.b, h.r.below hb, Kd.R_below h.c hb, h.cl, h.cm, h.hx, h.hne⟩
/-- A call of the box. -/
theorem OnS.on (h : OnS X g gc ga w t S C A f1 f2 f3 f4 tr m x y z v cv cs W) (hx' : OSP g gc ga w t' S' C' A' e1 e2 e3 e4 W') (ho : On (O3 g gc ga) W W') (hC : ∀ n, has C n → has C' n) : OnS X g gc ga w t' S' C' A' e1 e2 e3 e4 tr m x y z v cv cs W' :=
  ⟨hx', keep3 ho h.b h.hne.1 h.hne.2.1 h.hne.2.2, h.r.on h.o ho, row_on h.c h.o (by decide) (by decide) ho, h.cl, fun k hk e => hC _ (h.cm k hk e), h.hx, h.hne⟩
/-- The reference's box is laid anew. -/
theorem OnS.ref (h : OnS X g gc ga w t S C A f1 f2 f3 f4 tr m x y z v cv cs W) (hr : RefW w.heap.size t4 u4 v W) : OnS X g gc ga w t S C A f1 f2 f3 f4 t4 u4 x4 y4 z4 v cv cs (((((W.setCell ⟨X, 1, none⟩ (.string t4)).setCell ⟨X, 2, none⟩ u4).setCell ⟨X, 3, none⟩ (.bool x4)).setCell ⟨X, 4, none⟩ (.bool y4)).setCell ⟨X, 5, none⟩ (.int .u8 z4)) := by
  have ho := on_putR W X (.string t4) u4 (.bool x4) (.bool y4) (.int .u8 z4)
  exact ⟨h.o.puts h.b (fun i => by simp) h.hne h.hx ho, putR h.b _ _ _ _ _, hr.puts h.b (by decide) (by decide) ho, row_puts h.c h.b (by decide) ho, h.cl, h.cm, h.hx, h.hne⟩
/-- The whole world is laid anew. -/
theorem OnS.wd (h : OnS X g gc ga w t S C A f1 f2 f3 f4 tr m x y z v cv cs W) (hr : RefW w.heap.size t4 u4 v W) : OnS X g gc ga w t S C A f1 f2 f3 f4 t4 u4 x4 y4 z4 v cv cs (((((((W.setCell ⟨X, 0, none⟩ (.pointer (some ⟨g, 0, none⟩))).setCell ⟨X, 1, none⟩ (.string t4)).setCell ⟨X, 2, none⟩ u4).setCell ⟨X, 3, none⟩ (.bool x4)).setCell ⟨X, 4, none⟩ (.bool y4)).setCell ⟨X, 5, none⟩ (.int .u8 z4)).setCell ⟨X, 6, none⟩ v) := by
  have ho := on_put7 W X (.pointer (some ⟨g, 0, none⟩)) (.string t4) u4 (.bool x4) (.bool y4) (.int .u8 z4) v
  exact ⟨h.o.puts h.b (fun i => by simp) h.hne h.hx ho, put7 h.b _ _ _ _ _ _ _, hr.puts h.b (by decide) (by decide) ho, row_puts h.c h.b (by decide) ho, h.cl, h.cm, h.hx, h.hne⟩
/-- A row whose head holds no two numbers is another block than a set's. -/
theorem Row.far1 {sv : Value} {l : List S95} {T : Nat → Prop} (h : Row W sv l) (hk : Kept W W' T) (hT : ∀ q, T q → ∀ a b, W.cell? ⟨q, 0, none⟩ = some (.int .i64 a) → W.cell? ⟨q, 1, none⟩ ≠ some (.int .i64 b)) : Row W' sv l := by
  rcases h with h | ⟨b0, c0, rfl, r2, r3, r4⟩
  · exact .inl h
  · refine .inr ⟨b0, c0, rfl, ?_, r3, Nat.lt_of_lt_of_le r4 hk.1⟩
    refine ⟨r2.1, r2.2.1, fun hn => ?_⟩
    obtain ⟨bk, o, hA, z0, z1⟩ := row_at r2 0 (by have := r2.1; omega)
    cases hA
    have hne : ¬ T b0 := fun e => hT b0 e _ _ (by simpa using z0) (by simpa using z1)
    refine ⟨_, rfl, ?_⟩
    intro j p hj
    obtain ⟨ad, hA, hcc⟩ := r2.2.2 hn
    injection hA with hA
    subst hA
    obtain ⟨cs, c1, c2, c3⟩ := hcc j p hj
    refine ⟨cs, c1, c2, fun q u' hu => ?_⟩
    have hcell := c3 q u' hu
    rw [add_off] at hcell ⊢
    exact (World.cell?_of_block (hk.2 b0 (World.block_lt_of_cell? _ _ hcell) hne)).trans hcell
theorem OSP.far1 {T : Nat → Prop} (h : OSP g gc ga w t S C A f1 f2 f3 f4 W) (hk : Kept W W' T) (hT : ∀ q, T q → ∀ a b, W.cell? ⟨q, 0, none⟩ = some (.int .i64 a) → W.cell? ⟨q, 1, none⟩ ≠ some (.int .i64 b)) (h1 : ¬ T g) (h2 : ¬ T gc) (h3 : ¬ T ga) (hb : Below w.heap.size w W') : OSP g gc ga w t S C A f1 f2 f3 f4 W' := by
  obtain ⟨sv, s1, s2⟩ := h.bx.sc
  obtain ⟨tv, t1, t2⟩ := h.bx.sa
  exact ⟨⟨(hk.2 g (lt_of_block h.bx.blk) h1).trans h.bx.blk, ⟨sv, (hk.2 gc h.bx.sc.lt h2).trans s1, s2.far1 hk hT⟩, ⟨tv, (hk.2 ga h.bx.sa.lt h3).trans t1, t2.far1 hk hT⟩⟩, h.bp, hb, h.l1, h.l2, h.l3, h.n1, h.n2, h.n3⟩
/-- A chunk more went; the world's last cell is still to be written. -/
theorem OnS.went (h : OnS X g gc ga w t S C A f1 f2 f3 f4 tr m x y z v cv cs W) {ws ws' : List Ch} (hw : WR W w.heap.size v ws) (hv : ws = [] → v = .slice none 0 0) (hw' : WR W' w.heap.size v' ws') (hl : ws'.length ≤ 1000) (hg : W.grownBy W' v.ownBlock) (hb : Below w.heap.size W W') :
    OnS X g gc ga w t S C A f1 f2 f3 f4 tr m x y z v' cv cs (W'.setCell ⟨X, 6, none⟩ v') := by
  have hk : Kept W W' (fun k => v.ownBlock = some k) := ⟨hg.size, fun k hk hn => hg.block k hk (fun e => hn e.symm)⟩
  have hty : ∀ k, v.ownBlock = some k → ∃ cells, W.heap[k]? = some (.cells cells 46 (0, 0)) := Kd.R_typed hw
  have hne : ∀ k ty cells, W.heap[k]? = some (.cells cells ty (0, 0)) → ty ≠ 46 → v.ownBlock ≠ some k := by
    intro k ty cells hc ht e
    obtain ⟨c2, h2⟩ := hty k e
    rw [hc] at h2
    injection h2 with h2
    injection h2 with _ h2 _
    exact ht h2
  obtain ⟨sv, s1, s2⟩ := h.o.bx.sc
  obtain ⟨tv, t1, t2⟩ := h.o.bx.sa
  have hfar : ∀ q, v.ownBlock = some q → ∀ a b, W.cell? ⟨q, 0, none⟩ = some (.int .i64 a) → W.cell? ⟨q, 1, none⟩ ≠ some (.int .i64 b) := by
    intro q hq a b _ hc
    by_cases h0 : ws = []
    · rw [hv h0] at hq; simp [Value.ownBlock] at hq
    · obtain ⟨A2, c2, rfl, hat⟩ := hw.at rfl
      obtain ⟨q2, p, rfl, _, hc1, _⟩ := hat 0 (List.length_pos_iff.2 h0)
      have : q2 = q := by simpa [Value.ownBlock] using hq
      subst this
      rw [Nat.zero_mul, Nat.zero_add] at hc1
      rw [hc1] at hc; cases hc
  have o2 := h.o.far1 hk hfar (hne _ _ _ h.o.bx.blk (by decide)) (hne _ _ _ s1 (by decide)) (hne _ _ _ t1 (by decide)) (h.o.hb.trans hb)
  have b2 := (hk.2 X (lt_of_block h.b) (hne _ _ _ h.b (by decide))).trans h.b
  obtain ⟨ms, h1, h2⟩ := h.r.mr
  have m2 := Kd.R_over h1 hw (by decide) hg
  have c2 := Kd.R_over h.c hw (by decide) hg
  have ho : On (fun i => i = X) W' (W'.setCell ⟨X, 6, none⟩ v') := On.setCell (S := fun i => i = X) X 6 v' rfl W'
  exact ⟨o2.puts b2 (fun i => by simp) h.hne h.hx ho, cells_set (i := 6) v' b2, ⟨⟨ms, row_puts m2 b2 (by decide) ho, h2⟩, h.r.ht, ws', row_puts hw' b2 (by decide) ho, hl⟩, row_puts c2 b2 (by decide) ho, h.cl, h.cm, h.hx, h.hne⟩
variable {q n cap : Nat}
theorem OnS.cells (h : OnS X g gc ga w t S C A f1 f2 f3 f4 tr m x y z v (.slice (some ⟨q, 0, none⟩) n cap) cs W) : n = 2001 := by
  have := (Kd.R_reads' h.c).1
  rw [h.cl] at this; exact this
/-- A place's mark is read. -/
theorem OnS.read (h : OnS X g gc ga w t S C A f1 f2 f3 f4 tr m x y z v (.slice (some ⟨q, 0, none⟩) n cap) cs W) {k : Nat} (hk : k < 2001) (hC : ¬ has C k) : W.cell? ⟨q, k, none⟩ = some (.bool false) := by
  have hn := h.cells
  have := (Kd.R_celln false h.c (k : Int) (by omega) (by omega)).1
  rw [show ((k : Int)).toNat = k by omega] at this
  rw [this]
  have hkl : k < cs.length := by rw [h.cl]; exact hk
  have e : rdOf false cs (k : Int) = cs[k] := by
    unfold rdOf
    rw [show ((k : Int)).toNat = k by omega, List.getD_eq_getElem?_getD, List.getElem?_eq_getElem hkl]; rfl
  rw [e]
  have hf : cs[k] = false := by
    cases hc : cs[k] with
    | false => rfl
    | true => exact absurd (h.cm k hkl hc) hC
  rw [hf]
theorem OnS.frozen (h : OnS X g gc ga w t S C A f1 f2 f3 f4 tr m x y z v (.slice (some ⟨q, 0, none⟩) n cap) cs W) {k : Nat} (hk : k < 2001) : (∃ b, W.cell? ⟨q, k, none⟩ = some (.bool b)) ∧ W.frozen? ⟨q, k, none⟩ = false := by
  have hn := h.cells
  have := Kd.R_celln false h.c (k : Int) (by omega) (by omega)
  rw [show ((k : Int)).toNat = k by omega] at this
  exact ⟨⟨_, this.1⟩, this.2⟩
/-- A place is marked. -/
theorem OnS.mark (h : OnS X g gc ga w t S C A f1 f2 f3 f4 tr m x y z v (.slice (some ⟨q, 0, none⟩) n cap) cs W) {k : Nat} (hk : k < 2001) (hC : has C k) : ∃ cs', OnS X g gc ga w t S C A f1 f2 f3 f4 tr m x y z v (.slice (some ⟨q, 0, none⟩) n cap) cs' (W.setCell ⟨q, k, none⟩ (.bool true)) := by
  have hn := h.cells
  obtain ⟨cells, hq⟩ := Kd.R_typed h.c q (by simp [Value.ownBlock])
  have hb := Kd.R_base h.c q (by simp [Value.ownBlock])
  have h0 := (Kd.R_celln false h.c 0 (by omega) (by omega)).1
  have ho : On (fun i => i = q) W (W.setCell ⟨q, k, none⟩ (.bool true)) := On.setCell (S := fun i => i = q) q k _ rfl W
  have hne : ∀ k ty c2, W.heap[k]? = some (.cells c2 ty (0, 0)) → ty ≠ 4 → q ≠ k := by
    rintro k ty c2 hc ht rfl
    rw [hc] at hq
    injection hq with hq
    injection hq with _ hq _
    exact ht hq
  obtain ⟨sv, s1, s2⟩ := h.o.bx.sc
  obtain ⟨tv, t1, t2⟩ := h.o.bx.sa
  have hr := Kd.R_putn h.c (k : Int) true
  rw [show ((k : Int)).toNat = k by omega] at hr
  have hX := hne _ _ _ h.b (by decide)
  refine ⟨cs.set k true, h.o.far0 ho.kept (by rintro p rfl i e; rw [show (0 : Int).toNat = 0 from rfl] at h0; rw [h0] at e; cases e) (fun e => hne _ _ _ h.o.bx.blk (by decide) e.symm) (fun e => hne _ _ _ s1 (by decide) e.symm) (fun e => hne _ _ _ t1 (by decide) e.symm) (h.o.hb.trans (ho.low (fun _ hi => by subst hi; exact hb) h.o.hb.size)), (ho.block _ (lt_of_block h.b) (fun e => hX e.symm)).trans h.b, h.r.puts hq (by decide) (by decide) ho, hr, by rw [List.length_set]; exact h.cl, ?_, h.hx, h.hne⟩
  intro j hj e
  by_cases hjk : j = k
  · subst hjk; exact hC
  · rw [List.getElem_set_ne (fun e => hjk e.symm)] at e
    exact h.cm j (by rw [List.length_set] at hj; exact hj) e
end
end Go.Proofs.Ytiladcdogbeomaa.QRangesPlays

namespace Go.Proofs.Ytiladcdogbeomaa.Acts
open Go.RowKit Go.Proofs.Ytiladcdogbeomaa.Opens Go.Proofs.YtiladcdogbeomaaW.PrintWords Go.Proofs.Ytiladcdogbeomaa.QRangesPlays
abbrev O7 := Int × Ch × Int × Int × Int
def k48o : Kd O7 := Kd.pair (Kd.int .u8) (Kd.pair kch (Kd.pair (Kd.int .i64) (Kd.pair (Kd.int .i64) (Kd.int .i64))))
def okCh (x : Ch) : Prop := (Lit.int .i64 x.1).wf = true ∧ x.2.1.size ≤ 9223372036854775807 ∧ True
def ok48o (x : O7) : Prop := (Lit.int .u8 x.1).wf = true ∧ okCh x.2.1 ∧ (Lit.int .i64 x.2.2.1).wf = true ∧ (Lit.int .i64 x.2.2.2.1).wf = true ∧ (Lit.int .i64 x.2.2.2.2).wf = true
def okOacts (xs : List O7) : Prop := xs.length ≤ 9223372036854775807 ∧ ∀ x ∈ xs, ok48o x
def toA7 (x : O7) : A7 := ⟨x.1, x.2.1.1, x.2.1.2.1, x.2.1.2.2, x.2.2.1, x.2.2.2.1, x.2.2.2.2⟩
theorem k48_open {w : World} {x : O7} {cs : List Value} (h : k48o.K w x cs) : cs = [.int .u8 x.1, .int .i64 x.2.1.1, .string x.2.1.2.1, .bool x.2.1.2.2, .int .i64 x.2.2.1, .int .i64 x.2.2.2.1, .int .i64 x.2.2.2.2] := by
  obtain ⟨c1, c2, e, h1, c3, c4, e2, h2, c5, c6, e3, h3, c7, c8, e4, h4, h5⟩ := h
  have h1' : c1 = [.int .u8 x.1] := h1
  have h2' := kch_open h2
  have h3' : c5 = [.int .i64 x.2.2.1] := h3
  have h4' : c7 = [.int .i64 x.2.2.2.1] := h4
  have h5' : c8 = [.int .i64 x.2.2.2.2] := h5
  rw [e, e2, e3, e4, h1', h2', h3', h4', h5']
  rfl
theorem opens46 : Opens Try.prog 46 kch okCh :=
  opens_struct (fun x : Ch => x) (fun y => y) (fun _ => rfl) Try.underlying46 (by kernel_rfl) (at_cons (off := 0) (off' := 1) (opens_int Try.underlying3) (at_cons (off := 1) (off' := 2) (opens_string Try.underlying9) (at_last (off := 2) (opens_bool Try.underlying4) (by kernel_rfl)) (by kernel_rfl)) (by kernel_rfl))
theorem opens48 : Opens Try.prog 48 k48o ok48o :=
  opens_struct (fun x : O7 => x) (fun y => y) (fun _ => rfl) Try.underlying48 (by kernel_rfl) (at_cons (off := 0) (off' := 1) (opens_int Try.underlying5) (at_cons (off := 1) (off' := 4) opens46 (at_cons (off := 4) (off' := 5) (opens_int Try.underlying3) (at_cons (off := 5) (off' := 6) (opens_int Try.underlying3) (at_last (off := 6) (opens_int Try.underlying3) (by kernel_rfl)) (by kernel_rfl)) (by kernel_rfl)) (by kernel_rfl)) (by kernel_rfl))
theorem opens35 : Opens Try.prog 35 (Kd.slice 48 k48o) okOacts := opens_slice Try.underlying35 (by kernel_rfl) opens48
theorem aRow_of {W : World} {A : Option Addr} {n : Nat} {l : List O7} (h : Kd.C k48o W A n l) : ARow W A (l.map toA7) := by
  have hz : k48o.sz = 7 := rfl
  have key : ∀ j (hj : j < l.length), ∃ ad, A = some ad ∧ ∀ i v, [.int .u8 l[j].1, .int .i64 l[j].2.1.1, .string l[j].2.1.2.1, .bool l[j].2.1.2.2, .int .i64 l[j].2.2.1, .int .i64 l[j].2.2.2.1, .int .i64 l[j].2.2.2.2][i]? = some v → W.cell? (ad.add (j * 7 + i)) = some v := by
    intro j hj
    obtain ⟨ad, rfl, hc⟩ := h.2.2 (by have := h.1; omega)
    obtain ⟨c, hl, hx, hcell⟩ := hc j l[j] (List.getElem?_eq_getElem hj)
    have hx' := k48_open hx
    subst hx'
    refine ⟨ad, rfl, fun i v hv => ?_⟩
    have := hcell i v hv
    rwa [hz] at this
  intro i hi
  have hil : i < l.length := by rw [List.length_map] at hi; exact hi
  obtain ⟨ad, hA, zz⟩ := key 0 (by omega)
  have z0 := zz 0 _ rfl
  have hsp : ad.spot = none := by
    have e : ad.add (0 * 7 + 0) = ad := by unfold Addr.add; rw [if_pos (by omega)]
    rw [e] at z0
    unfold World.cell? at z0
    split at z0
    · split at z0
      · cases z0
      · rename_i hs; simpa using hs
    · cases z0
  obtain ⟨b, o, sp⟩ := ad
  obtain rfl : sp = none := hsp
  obtain ⟨ad2, hA2, zz⟩ := key i hil
  rw [hA] at hA2
  obtain rfl : (⟨b, o, none⟩ : Addr) = ad2 := Option.some.inj hA2
  have ha : ∀ j, Addr.add ⟨b, o, none⟩ j = ⟨b, o + j, none⟩ := fun j => by
    unfold Addr.add
    split
    · rename_i h; subst h; rfl
    · rfl
  have hg : (l.map toA7)[i] = toA7 l[i] := List.getElem_map ..
  have k0 := zz 0 _ rfl
  have k1 := zz 1 _ rfl
  have k2 := zz 2 _ rfl
  have k3 := zz 3 _ rfl
  have k4 := zz 4 _ rfl
  have k5 := zz 5 _ rfl
  have k6 := zz 6 _ rfl
  rw [ha] at k0 k1 k2 k3 k4 k5 k6
  rw [hg]
  exact ⟨b, o, hA, k0, k1, k2, k3, k4, k5, k6⟩
theorem aOk_of {l : List O7} (h : okOacts l) : ∀ j (hj : j < (l.map toA7).length), 0 ≤ (l.map toA7)[j].k ∧ (l.map toA7)[j].k < 256 := fun j hj => by
  have hjl : j < l.length := by rw [List.length_map] at hj; exact hj
  rw [show (l.map toA7)[j] = toA7 l[j] from List.getElem_map ..]
  exact wf_u8 (h.2 l[j] (List.getElem_mem hjl)).1
end Go.Proofs.Ytiladcdogbeomaa.Acts
