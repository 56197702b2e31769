/- Law 17 (ranges): contracts of functions that its statements reach, and plain laws behind them (part 8 of 12). No condition. -/
import Derived.Test.YtiladcdogbeomaaMg
namespace Go.Proofs.Ytiladcdogbeomaa.QRangesPlays
open Go.RowKit Go.Shelf Go.Proofs.YtiladcdogbeomaaW.PrintWords Go.Proofs.YtiladcdogbeomaaW.PrintLast Go.Proofs.YtiladcdogbeomaaW.PrintMore Go.Proofs.Ytiladcdogbeomaa.RowLaws Go.Proofs.Ytiladcdogbeomaa.Lazy
attribute [local go_sem] Oper.semAt_some
def Slg (l : List S95) (v : Value) (W : World) : Prop := ∃ A n c, v = .slice A n c ∧ l.length = n ∧ n ≤ c ∧ Kd.C k95 W A n l
theorem Slg.below {l : List S95} {v : Value} {W W' : World} (h : Slg l v W) (hb : Below W.heap.size W W') : Slg l v W' := by
  obtain ⟨A, n, c, h1, h2, h3, h4⟩ := h
  exact ⟨A, n, c, h1, h2, h3, Kd.C_below h4 hb⟩
theorem OwnS.slg {W : World} {B : Nat} {v : Value} {l : List S95} (h : OwnS W B v l) : Slg l v W := by
  obtain ⟨A, c, rfl, h2, h3⟩ := h.reads
  exact ⟨A, _, c, rfl, rfl, h2, h3⟩
theorem Has_at (g : Nat) (m : Int) (l : List S95) (w : World) (hs : SetAt w g l) (hl : l.length * 16 ≤ 140737488351232) :
    Calls Try.prog 40 #[.pointer (some ⟨g, 0, none⟩), .int .i64 m] w fun e w' => e = .returned (.bool ((l.map pr).any (Iter.tch m m))) ∧ Below w.heap.size w w' := by
  obtain ⟨sv, h1, h2⟩ := hs
  exact Set_Has.calls g m l sv w (cell_of_one h1) h2 hl
abbrev e5_ops : List Oper := [{ dst := some 49, op := .move (.tmp 9), type := 74, pos := "law.go:50", after := #[], guard := none },
  { dst := some 50, op := .fieldAddr 80 (.tmp 4) 0, type := 0, pos := "law.go:50", after := #[], guard := none },
  { dst := some 51, op := .load 74 (.tmp 50), type := 74, pos := "law.go:50", after := #[⟨1, .data⟩], guard := none },
  { dst := some 52, op := .call { callee := .value (.func 38), args := #[.tmp 49, .tmp 51], argTypes := #[74, 74] }, type := 4, pos := "law.go:50", after := #[⟨0, .data⟩, ⟨2, .data⟩], guard := none },
  { dst := some 53, op := .move (.tmp 52), type := 4, pos := "law.go:50", after := #[⟨3, .data⟩, ⟨3, .chain⟩], guard := none },
  { dst := some 54, op := .move (.tmp 0), type := 70, pos := "law.go:50", after := #[⟨4, .guard⟩], guard := some (4, true) },
  { dst := some 55, op := .call { callee := .value (.func 43), args := #[.tmp 54], argTypes := #[70] }, type := 3, pos := "law.go:50", after := #[⟨5, .data⟩, ⟨4, .chain⟩, ⟨4, .guard⟩], guard := some (4, true) },
  { dst := some 56, op := .fieldAddr 80 (.tmp 4) 0, type := 0, pos := "law.go:50", after := #[⟨4, .guard⟩], guard := some (4, true) },
  { dst := some 57, op := .load 74 (.tmp 56), type := 74, pos := "law.go:50", after := #[⟨7, .data⟩, ⟨4, .guard⟩], guard := some (4, true) },
  { dst := some 58, op := .call { callee := .builtin .len, args := #[.tmp 57], argTypes := #[74] }, type := 3, pos := "law.go:50", after := #[⟨8, .data⟩, ⟨4, .guard⟩], guard := some (4, true) },
  { dst := some 59, op := .binOp .eql 3 (.tmp 55) (.tmp 58) 3, type := 4, pos := "law.go:50", after := #[⟨6, .data⟩, ⟨9, .data⟩, ⟨4, .guard⟩], guard := some (4, true) },
  { dst := some 60, op := .pick (.tmp 53) (.tmp 59) (.const (.bool false)), type := 4, pos := "law.go:50", after := #[⟨4, .data⟩, ⟨10, .data⟩], guard := none },
  { dst := some 61, op := .move (.tmp 60), type := 4, pos := "law.go:50", after := #[⟨11, .data⟩, ⟨6, .chain⟩], guard := none },
  { dst := some 62, op := .move (.tmp 0), type := 70, pos := "law.go:50", after := #[⟨12, .guard⟩], guard := some (12, true) },
  { dst := some 63, op := .call { callee := .value (.func 50), args := #[.tmp 62], argTypes := #[70] }, type := 3, pos := "law.go:50", after := #[⟨13, .data⟩, ⟨12, .chain⟩, ⟨12, .guard⟩], guard := some (12, true) },
  { dst := some 64, op := .load 80 (.tmp 4), type := 80, pos := "law.go:50", after := #[⟨12, .guard⟩], guard := some (12, true) },
  { dst := some 65, op := .call { callee := .value (.func 76), args := #[.tmp 64], argTypes := #[80] }, type := 3, pos := "law.go:50", after := #[⟨15, .data⟩, ⟨14, .chain⟩, ⟨12, .guard⟩], guard := some (12, true) },
  { dst := some 66, op := .binOp .eql 3 (.tmp 63) (.tmp 65) 3, type := 4, pos := "law.go:50", after := #[⟨14, .data⟩, ⟨16, .data⟩, ⟨12, .guard⟩], guard := some (12, true) },
  { dst := some 67, op := .pick (.tmp 61) (.tmp 66) (.const (.bool false)), type := 4, pos := "law.go:50", after := #[⟨12, .data⟩, ⟨17, .data⟩], guard := none },
  { dst := some 68, op := .move (.tmp 67), type := 4, pos := "law.go:50", after := #[⟨18, .data⟩, ⟨16, .chain⟩], guard := none },
  { dst := some 69, op := .move (.tmp 0), type := 70, pos := "law.go:50", after := #[⟨19, .guard⟩], guard := some (19, true) },
  { dst := some 70, op := .fieldAddr 84 (.tmp 5) 1, type := 0, pos := "law.go:50", after := #[⟨19, .guard⟩], guard := some (19, true) },
  { dst := some 71, op := .load 3 (.tmp 70), type := 3, pos := "law.go:50", after := #[⟨21, .data⟩, ⟨19, .guard⟩], guard := some (19, true) },
  { dst := some 72, op := .call { callee := .value (.func 40), args := #[.tmp 69, .tmp 71], argTypes := #[70, 3] }, type := 4, pos := "law.go:50", after := #[⟨20, .data⟩, ⟨22, .data⟩, ⟨19, .chain⟩, ⟨19, .guard⟩], guard := some (19, true) },
  { dst := some 73, op := .load 80 (.tmp 4), type := 80, pos := "law.go:50", after := #[⟨19, .guard⟩], guard := some (19, true) },
  { dst := some 74, op := .fieldAddr 84 (.tmp 5) 1, type := 0, pos := "law.go:50", after := #[⟨19, .guard⟩], guard := some (19, true) },
  { dst := some 75, op := .load 3 (.tmp 74), type := 3, pos := "law.go:50", after := #[⟨25, .data⟩, ⟨19, .guard⟩], guard := some (19, true) },
  { dst := some 76, op := .call { callee := .value (.func 86), args := #[.tmp 73, .tmp 75], argTypes := #[80, 3] }, type := 4, pos := "law.go:50", after := #[⟨24, .data⟩, ⟨26, .data⟩, ⟨23, .chain⟩, ⟨19, .guard⟩], guard := some (19, true) },
  { dst := some 77, op := .binOp .eql 4 (.tmp 72) (.tmp 76) 4, type := 4, pos := "law.go:50", after := #[⟨23, .data⟩, ⟨27, .data⟩, ⟨19, .guard⟩], guard := some (19, true) },
  { dst := some 78, op := .pick (.tmp 68) (.tmp 77) (.const (.bool false)), type := 4, pos := "law.go:50", after := #[⟨19, .data⟩, ⟨28, .data⟩], guard := none },
  { dst := some 79, op := .move (.tmp 78), type := 4, pos := "law.go:50", after := #[⟨29, .data⟩, ⟨27, .chain⟩], guard := none },
  { dst := some 80, op := .move (.tmp 0), type := 70, pos := "law.go:50", after := #[⟨30, .guard⟩], guard := some (30, true) },
  { dst := some 81, op := .fieldAddr 84 (.tmp 5) 2, type := 0, pos := "law.go:50", after := #[⟨30, .guard⟩], guard := some (30, true) },
  { dst := some 82, op := .load 3 (.tmp 81), type := 3, pos := "law.go:50", after := #[⟨32, .data⟩, ⟨30, .guard⟩], guard := some (30, true) },
  { dst := some 83, op := .call { callee := .value (.func 40), args := #[.tmp 80, .tmp 82], argTypes := #[70, 3] }, type := 4, pos := "law.go:50", after := #[⟨31, .data⟩, ⟨33, .data⟩, ⟨30, .chain⟩, ⟨30, .guard⟩], guard := some (30, true) },
  { dst := some 84, op := .load 80 (.tmp 4), type := 80, pos := "law.go:50", after := #[⟨30, .guard⟩], guard := some (30, true) },
  { dst := some 85, op := .fieldAddr 84 (.tmp 5) 2, type := 0, pos := "law.go:50", after := #[⟨30, .guard⟩], guard := some (30, true) },
  { dst := some 86, op := .load 3 (.tmp 85), type := 3, pos := "law.go:50", after := #[⟨36, .data⟩, ⟨30, .guard⟩], guard := some (30, true) },
  { dst := some 87, op := .call { callee := .value (.func 86), args := #[.tmp 84, .tmp 86], argTypes := #[80, 3] }, type := 4, pos := "law.go:50", after := #[⟨35, .data⟩, ⟨37, .data⟩, ⟨34, .chain⟩, ⟨30, .guard⟩], guard := some (30, true) },
  { dst := some 88, op := .binOp .eql 4 (.tmp 83) (.tmp 87) 4, type := 4, pos := "law.go:50", after := #[⟨34, .data⟩, ⟨38, .data⟩, ⟨30, .guard⟩], guard := some (30, true) },
  { dst := some 89, op := .pick (.tmp 79) (.tmp 88) (.const (.bool false)), type := 4, pos := "law.go:50", after := #[⟨30, .data⟩, ⟨39, .data⟩], guard := none },
  { dst := some 90, op := .move (.tmp 89), type := 4, pos := "law.go:50", after := #[⟨40, .data⟩, ⟨38, .chain⟩], guard := none },
  { dst := some 91, op := .move (.tmp 0), type := 70, pos := "law.go:50", after := #[⟨41, .guard⟩], guard := some (41, true) },
  { dst := some 92, op := .fieldAddr 84 (.tmp 5) 1, type := 0, pos := "law.go:50", after := #[⟨41, .guard⟩], guard := some (41, true) },
  { dst := some 93, op := .load 3 (.tmp 92), type := 3, pos := "law.go:50", after := #[⟨43, .data⟩, ⟨41, .guard⟩], guard := some (41, true) },
  { dst := some 94, op := .fieldAddr 84 (.tmp 5) 2, type := 0, pos := "law.go:50", after := #[⟨41, .guard⟩], guard := some (41, true) },
  { dst := some 95, op := .load 3 (.tmp 94), type := 3, pos := "law.go:50", after := #[⟨45, .data⟩, ⟨41, .guard⟩], guard := some (41, true) },
  { dst := some 96, op := .call { callee := .value (.func 46), args := #[.tmp 91, .tmp 93, .tmp 95], argTypes := #[70, 3, 3] }, type := 74, pos := "law.go:50", after := #[⟨42, .data⟩, ⟨44, .data⟩, ⟨46, .data⟩, ⟨41, .chain⟩, ⟨41, .guard⟩], guard := some (41, true) },
  { dst := some 97, op := .load 80 (.tmp 4), type := 80, pos := "law.go:50", after := #[⟨41, .guard⟩], guard := some (41, true) },
  { dst := some 98, op := .fieldAddr 84 (.tmp 5) 1, type := 0, pos := "law.go:50", after := #[⟨41, .guard⟩], guard := some (41, true) },
  { dst := some 99, op := .load 3 (.tmp 98), type := 3, pos := "law.go:50", after := #[⟨49, .data⟩, ⟨41, .guard⟩], guard := some (41, true) },
  { dst := some 100, op := .fieldAddr 84 (.tmp 5) 2, type := 0, pos := "law.go:50", after := #[⟨41, .guard⟩], guard := some (41, true) },
  { dst := some 101, op := .load 3 (.tmp 100), type := 3, pos := "law.go:50", after := #[⟨51, .data⟩, ⟨41, .guard⟩], guard := some (41, true) },
  { dst := some 102, op := .call { callee := .value (.func 87), args := #[.tmp 97, .tmp 99, .tmp 101], argTypes := #[80, 3, 3] }, type := 74, pos := "law.go:50", after := #[⟨48, .data⟩, ⟨50, .data⟩, ⟨52, .data⟩, ⟨47, .chain⟩, ⟨41, .guard⟩], guard := some (41, true) },
  { dst := some 103, op := .call { callee := .value (.func 38), args := #[.tmp 96, .tmp 102], argTypes := #[74, 74] }, type := 4, pos := "law.go:50", after := #[⟨47, .data⟩, ⟨53, .data⟩, ⟨53, .chain⟩, ⟨41, .guard⟩], guard := some (41, true) },
  { dst := some 104, op := .pick (.tmp 90) (.tmp 103) (.const (.bool false)), type := 4, pos := "law.go:50", after := #[⟨41, .data⟩, ⟨54, .data⟩], guard := none },
  { dst := some 10, op := .assign (.tmp 104), type := 4, pos := "law.go:50", after := #[⟨55, .data⟩, ⟨54, .chain⟩, ⟨0, .phase⟩, ⟨1, .phase⟩, ⟨2, .phase⟩, ⟨3, .phase⟩, ⟨4, .phase⟩, ⟨5, .phase⟩, ⟨6, .phase⟩, ⟨7, .phase⟩, ⟨8, .phase⟩, ⟨9, .phase⟩, ⟨10, .phase⟩, ⟨11, .phase⟩, ⟨12, .phase⟩, ⟨13, .phase⟩, ⟨14, .phase⟩, ⟨15, .phase⟩, ⟨16, .phase⟩, ⟨17, .phase⟩, ⟨18, .phase⟩, ⟨19, .phase⟩, ⟨20, .phase⟩, ⟨21, .phase⟩, ⟨22, .phase⟩, ⟨23, .phase⟩, ⟨24, .phase⟩, ⟨25, .phase⟩, ⟨26, .phase⟩, ⟨27, .phase⟩, ⟨28, .phase⟩, ⟨29, .phase⟩, ⟨30, .phase⟩, ⟨31, .phase⟩, ⟨32, .phase⟩, ⟨33, .phase⟩, ⟨34, .phase⟩, ⟨35, .phase⟩, ⟨36, .phase⟩, ⟨37, .phase⟩, ⟨38, .phase⟩, ⟨39, .phase⟩, ⟨40, .phase⟩, ⟨41, .phase⟩, ⟨42, .phase⟩, ⟨43, .phase⟩, ⟨44, .phase⟩, ⟨45, .phase⟩, ⟨46, .phase⟩, ⟨47, .phase⟩, ⟨48, .phase⟩, ⟨49, .phase⟩, ⟨50, .phase⟩, ⟨51, .phase⟩, ⟨52, .phase⟩, ⟨53, .phase⟩, ⟨54, .phase⟩, ⟨55, .phase⟩], guard := none }]

abbrev e5_tab : List (Option Nat) := [none, none, none, none, none, none, none, none, none, none, some 56, none, none, none, none, none, none, none, none, none, none, none, none, none, none, none, none, none, none, none, none, none, none, none, none, none, none, none, none, none, none, none, none, none, none, none, none, none, none, some 0, some 1, some 2, some 3, some 4, some 5, some 6, some 7, some 8, some 9, some 10, some 11, some 12, some 13, some 14, some 15, some 16, some 17, some 18, some 19, some 20, some 21, some 22, some 23, some 24, some 25, some 26, some 27, some 28, some 29, some 30, some 31, some 32, some 33, some 34, some 35, some 36, some 37, some 38, some 39, some 40, some 41, some 42, some 43, some 44, some 45, some 46, some 47, some 48, some 49, some 50, some 51, some 52, some 53, some 54, some 55, none, none, none, none, none, none, none, none, none, none, none, none, none, none, none]
def e5_val (X Y g : Nat) (A A9 : Option Addr) (c c9 : Nat) (l : List S95) (f t : Int) : Nat → Value → World → Prop := fun j v W => match j with
  | 0 => v = Value.slice A9 l.length c9
  | 1 => v = Value.pointer (some ⟨X, 0, none⟩)
  | 2 => v = Value.slice A l.length c
  | 3 => v = Value.bool true
  | 4 => v = Value.bool true
  | 5 => v = Value.pointer (some ⟨g, 0, none⟩)
  | 6 => v = Value.int .i64 (l.length : Int)
  | 7 => v = Value.pointer (some ⟨X, 0, none⟩)
  | 8 => v = Value.slice A l.length c
  | 9 => v = Value.int .i64 (l.length : Int)
  | 10 => v = Value.bool true
  | 11 => v = Value.bool true
  | 12 => v = Value.bool true
  | 13 => v = Value.pointer (some ⟨g, 0, none⟩)
  | 14 => v = Value.int .i64 (cntF l)
  | 15 => v = Value.agg #[.slice A l.length c]
  | 16 => v = Value.int .i64 (cntF l)
  | 17 => v = Value.bool true
  | 18 => v = Value.bool true
  | 19 => v = Value.bool true
  | 20 => v = Value.pointer (some ⟨g, 0, none⟩)
  | 21 => v = Value.pointer (some ⟨Y, 1, none⟩)
  | 22 => v = Value.int .i64 f
  | 23 => v = Value.bool ((l.map pr).any (Iter.tch f f))
  | 24 => v = Value.agg #[.slice A l.length c]
  | 25 => v = Value.pointer (some ⟨Y, 1, none⟩)
  | 26 => v = Value.int .i64 f
  | 27 => v = Value.bool ((l.map pr).any (Iter.tch f f))
  | 28 => v = Value.bool true
  | 29 => v = Value.bool true
  | 30 => v = Value.bool true
  | 31 => v = Value.pointer (some ⟨g, 0, none⟩)
  | 32 => v = Value.pointer (some ⟨Y, 2, none⟩)
  | 33 => v = Value.int .i64 t
  | 34 => v = Value.bool ((l.map pr).any (Iter.tch t t))
  | 35 => v = Value.agg #[.slice A l.length c]
  | 36 => v = Value.pointer (some ⟨Y, 2, none⟩)
  | 37 => v = Value.int .i64 t
  | 38 => v = Value.bool ((l.map pr).any (Iter.tch t t))
  | 39 => v = Value.bool true
  | 40 => v = Value.bool true
  | 41 => v = Value.bool true
  | 42 => v = Value.pointer (some ⟨g, 0, none⟩)
  | 43 => v = Value.pointer (some ⟨Y, 1, none⟩)
  | 44 => v = Value.int .i64 f
  | 45 => v = Value.pointer (some ⟨Y, 2, none⟩)
  | 46 => v = Value.int .i64 t
  | 47 => Slg (gapsL f t l) v W
  | 48 => v = Value.agg #[.slice A l.length c]
  | 49 => v = Value.pointer (some ⟨Y, 1, none⟩)
  | 50 => v = Value.int .i64 f
  | 51 => v = Value.pointer (some ⟨Y, 2, none⟩)
  | 52 => v = Value.int .i64 t
  | 53 => Slg (gapsL f t l) v W
  | 54 => v = Value.bool true
  | 55 => v = Value.bool true
  | 56 => v = Value.bool true
  | _ => True
set_option maxRecDepth 100000 in
set_option maxHeartbeats 8000000 in
theorem Same_r5 (X Y g : Nat) (A A9 : Option Addr) (c c9 : Nat) (l : List S95) (f t : Int) (t0 : List Value) (d0 : List Deferred) (w : World) (Q : Exit → Act → World → Prop) (hl : t0.length = e5_tab.length)
    (t0_ : t0[0]? = some (.pointer (some ⟨g, 0, none⟩))) (t4 : t0[4]? = some (.pointer (some ⟨X, 0, none⟩))) (t5 : t0[5]? = some (.pointer (some ⟨Y, 0, none⟩))) (t9 : t0[9]? = some (.slice A9 l.length c9))
    (h4 : w.cell? ⟨X, 0, none⟩ = some (.slice A l.length c)) (h51 : w.cell? ⟨Y, 1, none⟩ = some (.int .i64 f)) (h52 : w.cell? ⟨Y, 2, none⟩ = some (.int .i64 t)) (hC : Kd.C k95 w A l.length l) (hlc : l.length ≤ c) (hC9 : Kd.C k95 w A9 l.length l) (hlc9 : l.length ≤ c9)
    (hw : wf 0 l) (hS : SetAt w g l) (hll : l.length < 8796093022208) (hl16 : l.length * 16 ≤ 140737488351232) (hgl : (gapsL f t l).length < 8796093022208)
    (hQ : ∀ σ W, Below w.heap.size w W → σ 56 = .bool true → Q .normal (lazyA (fun _ => true) σ t0 e5_tab d0) W) :
    (Code.region 5 e5_ops.toArray true).wp Try.prog Q { tmps := t0.toArray, defers := d0 } w := by
  have hX : X < w.heap.size := World.block_lt_of_cell? _ _ h4
  have hY : Y < w.heap.size := World.block_lt_of_cell? _ _ h51

  refine wp_region_vals (by kernel_rfl) e5_tab (by kernel_rfl) hl (fun W W' => Below W.heap.size W W') (fun _ => True) (e5_val X Y g A A9 c c9 l f t) (below_drew (Below.refl _ _)) trivial (fun _ _ _ h k => h.trans (k.mono h.size)) ?hst ⟨(fun j b h => by cases h), (fun j b h => by cases h), (fun j b h => by cases h), (fun j b h => by cases h), (fun j b h => by cases h), (fun j b h v W hv => by cases h; exact hv), (fun j b h v W hv => by cases h; exact hv), (fun j b h v W hv => by cases h; exact hv), (fun j b h v W hv => by cases h; exact hv), (fun j b h v W hv => by cases h; exact hv), (fun j b h v W hv => by cases h; exact hv), (fun j b h => by cases h), (fun j b h => by cases h), (fun j b h v W hv => by cases h; exact hv), (fun j b h v W hv => by cases h; exact hv), (fun j b h v W hv => by cases h; exact hv), (fun j b h v W hv => by cases h; exact hv), (fun j b h v W hv => by cases h; exact hv), (fun j b h => by cases h), (fun j b h => by cases h), (fun j b h v W hv => by cases h; exact hv), (fun j b h v W hv => by cases h; exact hv), (fun j b h v W hv => by cases h; exact hv), (fun j b h v W hv => by cases h; exact hv), (fun j b h v W hv => by cases h; exact hv), (fun j b h v W hv => by cases h; exact hv), (fun j b h v W hv => by cases h; exact hv), (fun j b h v W hv => by cases h; exact hv), (fun j b h v W hv => by cases h; exact hv), (fun j b h => by cases h), (fun j b h => by cases h), (fun j b h v W hv => by cases h; exact hv), (fun j b h v W hv => by cases h; exact hv), (fun j b h v W hv => by cases h; exact hv), (fun j b h v W hv => by cases h; exact hv), (fun j b h v W hv => by cases h; exact hv), (fun j b h v W hv => by cases h; exact hv), (fun j b h v W hv => by cases h; exact hv), (fun j b h v W hv => by cases h; exact hv), (fun j b h v W hv => by cases h; exact hv), (fun j b h => by cases h), (fun j b h => by cases h), (fun j b h v W hv => by cases h; exact hv), (fun j b h v W hv => by cases h; exact hv), (fun j b h v W hv => by cases h; exact hv), (fun j b h v W hv => by cases h; exact hv), (fun j b h v W hv => by cases h; exact hv), (fun j b h v W hv => by cases h; exact hv), (fun j b h v W hv => by cases h; exact hv), (fun j b h v W hv => by cases h; exact hv), (fun j b h v W hv => by cases h; exact hv), (fun j b h v W hv => by cases h; exact hv), (fun j b h v W hv => by cases h; exact hv), (fun j b h v W hv => by cases h; exact hv), (fun j b h v W hv => by cases h; exact hv), (fun j b h => by cases h), (fun j b h => by cases h), trivial⟩ ⟨?s0, ?s1, ?s2, ?s3, ?s4, ?s5, ?s6, ?s7, ?s8, ?s9, ?s10, ?s11, ?s12, ?s13, ?s14, ?s15, ?s16, ?s17, ?s18, ?s19, ?s20, ?s21, ?s22, ?s23, ?s24, ?s25, ?s26, ?s27, ?s28, ?s29, ?s30, ?s31, ?s32, ?s33, ?s34, ?s35, ?s36, ?s37, ?s38, ?s39, ?s40, ?s41, ?s42, ?s43, ?s44, ?s45, ?s46, ?s47, ?s48, ?s49, ?s50, ?s51, ?s52, ?s53, ?s54, ?s55, ?s56, trivial⟩ ?hdone
  case hst =>
    intro j v W W' hJ hR h
    match j with
    | 0 => exact h
    | 1 => exact h
    | 2 => exact h
    | 3 => exact h
    | 4 => exact h
    | 5 => exact h
    | 6 => exact h
    | 7 => exact h
    | 8 => exact h
    | 9 => exact h
    | 10 => exact h
    | 11 => exact h
    | 12 => exact h
    | 13 => exact h
    | 14 => exact h
    | 15 => exact h
    | 16 => exact h
    | 17 => exact h
    | 18 => exact h
    | 19 => exact h
    | 20 => exact h
    | 21 => exact h
    | 22 => exact h
    | 23 => exact h
    | 24 => exact h
    | 25 => exact h
    | 26 => exact h
    | 27 => exact h
    | 28 => exact h
    | 29 => exact h
    | 30 => exact h
    | 31 => exact h
    | 32 => exact h
    | 33 => exact h
    | 34 => exact h
    | 35 => exact h
    | 36 => exact h
    | 37 => exact h
    | 38 => exact h
    | 39 => exact h
    | 40 => exact h
    | 41 => exact h
    | 42 => exact h
    | 43 => exact h
    | 44 => exact h
    | 45 => exact h
    | 46 => exact h
    | 47 => exact Slg.below h hR
    | 48 => exact h
    | 49 => exact h
    | 50 => exact h
    | 51 => exact h
    | 52 => exact h
    | 53 => exact Slg.below h hR
    | 54 => exact h
    | 55 => exact h
    | 56 => exact h
    | n + 57 => trivial
  case s0 =>
    intro ρ W hR hJ hT
    have q9 := hT.2.1 9 _ t9 rfl
    refine Op1.of_run (v := Value.slice A9 l.length c9) (W' := W) (by clear hT hJ; go_simp) ⟨Below.refl _ _, trivial, rfl⟩
  case s1 =>
    intro ρ W hR hJ hT
    have q4 := hT.2.1 4 _ t4 rfl
    refine Op1.of_run (v := Value.pointer (some ⟨X, 0, none⟩)) (W' := W) (by clear hT hJ; go_simp) ⟨Below.refl _ _, trivial, rfl⟩
  case s2 =>
    intro ρ W hR hJ hT
    have q50 : ρ (.tmp 50) = Value.pointer (some ⟨X, 0, none⟩) := hT.1 50 1 rfl rfl
    have cc := (hR.cell (p := ⟨X, 0, none⟩) hX).trans h4
    refine Op1.of_run (v := Value.slice A l.length c) (W' := W) (by clear hT hJ; go_simp) ⟨Below.refl _ _, trivial, rfl⟩
  case s3 =>
    intro ρ W hR hJ hT
    have q49 : ρ (.tmp 49) = Value.slice A9 l.length c9 := hT.1 49 0 rfl rfl
    have q51 : ρ (.tmp 51) = Value.slice A l.length c := hT.1 51 2 rfl rfl
    have qf := hT.2.2.2 38
    refine Op1.of_call (f := 38) (args := #[Value.slice A9 l.length c9, Value.slice A l.length c]) (W' := W) (by clear hT hJ; go_simp) ?_
    refine (RefSame_calls l W rfl rfl (Kd.C_below hC9 hR) (Kd.C_below hC hR) hlc9 hlc hll).mono ?_
    rintro e W2 ⟨rfl, hb⟩
    exact ⟨_, rfl, hb, trivial, rfl⟩
  case s4 =>
    intro ρ W hR hJ hT
    have q52 : ρ (.tmp 52) = Value.bool true := hT.1 52 3 rfl rfl
    refine Op1.of_run (v := Value.bool true) (W' := W) (by clear hT hJ; go_simp) ⟨Below.refl _ _, trivial, rfl⟩
  case s5 =>
    intro ρ W hR hJ hT
    have q0 := hT.2.1 0 _ t0_ rfl
    refine Op1.of_run (v := Value.pointer (some ⟨g, 0, none⟩)) (W' := W) (by clear hT hJ; go_simp) ⟨Below.refl _ _, trivial, rfl⟩
  case s6 =>
    intro ρ W hR hJ hT
    have q54 : ρ (.tmp 54) = Value.pointer (some ⟨g, 0, none⟩) := hT.1 54 5 rfl rfl
    have qf := hT.2.2.2 43
    refine Op1.of_call (f := 43) (args := #[Value.pointer (some ⟨g, 0, none⟩)]) (W' := W) (by clear hT hJ; go_simp) ?_
    refine (Set_Len.calls g l W (hS.below hR).isSet hll).mono ?_
    rintro e W2 ⟨rfl, hb⟩
    exact ⟨_, rfl, hb, trivial, rfl⟩
  case s7 =>
    intro ρ W hR hJ hT
    have q4 := hT.2.1 4 _ t4 rfl
    refine Op1.of_run (v := Value.pointer (some ⟨X, 0, none⟩)) (W' := W) (by clear hT hJ; go_simp) ⟨Below.refl _ _, trivial, rfl⟩
  case s8 =>
    intro ρ W hR hJ hT
    have q56 : ρ (.tmp 56) = Value.pointer (some ⟨X, 0, none⟩) := hT.1 56 7 rfl rfl
    have cc := (hR.cell (p := ⟨X, 0, none⟩) hX).trans h4
    refine Op1.of_run (v := Value.slice A l.length c) (W' := W) (by clear hT hJ; go_simp) ⟨Below.refl _ _, trivial, rfl⟩
  case s9 =>
    intro ρ W hR hJ hT
    have q57 : ρ (.tmp 57) = Value.slice A l.length c := hT.1 57 8 rfl rfl
    refine Op1.of_run (v := Value.int .i64 (l.length : Int)) (W' := W) (by clear hT hJ; go_simp) ⟨Below.refl _ _, trivial, rfl⟩
  case s10 =>
    intro ρ W hR hJ hT
    have q55 : ρ (.tmp 55) = Value.int .i64 (l.length : Int) := hT.1 55 6 rfl rfl
    have q58 : ρ (.tmp 58) = Value.int .i64 (l.length : Int) := hT.1 58 9 rfl rfl
    have qq : ∀ b : Bool, (b == b) = true := by simp
    refine Op1.of_run (v := Value.bool true) (W' := W) (by clear hT hJ; go_simp) ⟨Below.refl _ _, trivial, rfl⟩
  case s11 =>
    intro ρ W hR hJ hT
    have q53 : ρ (.tmp 53) = Value.bool true := hT.1 53 4 rfl rfl
    have q59 : ρ (.tmp 59) = Value.bool true := hT.1 59 10 rfl rfl
    have qc := hT.2.2.1 (Value.bool false)
    refine Op1.of_run (v := Value.bool true) (W' := W) (by clear hT hJ; go_simp) ⟨Below.refl _ _, trivial, rfl⟩
  case s12 =>
    intro ρ W hR hJ hT
    have q60 : ρ (.tmp 60) = Value.bool true := hT.1 60 11 rfl rfl
    refine Op1.of_run (v := Value.bool true) (W' := W) (by clear hT hJ; go_simp) ⟨Below.refl _ _, trivial, rfl⟩
  case s13 =>
    intro ρ W hR hJ hT
    have q0 := hT.2.1 0 _ t0_ rfl
    refine Op1.of_run (v := Value.pointer (some ⟨g, 0, none⟩)) (W' := W) (by clear hT hJ; go_simp) ⟨Below.refl _ _, trivial, rfl⟩
  case s14 =>
    intro ρ W hR hJ hT
    have q62 : ρ (.tmp 62) = Value.pointer (some ⟨g, 0, none⟩) := hT.1 62 13 rfl rfl
    have qf := hT.2.2.2 50
    refine Op1.of_call (f := 50) (args := #[Value.pointer (some ⟨g, 0, none⟩)]) (W' := W) (by clear hT hJ; go_simp) ?_
    refine (Set_Count.calls g l W (hS.below hR).isSet hll).mono ?_
    rintro e W2 ⟨rfl, hb⟩
    exact ⟨_, rfl, hb, trivial, rfl⟩
  case s15 =>
    intro ρ W hR hJ hT
    have q4 := hT.2.1 4 _ t4 rfl
    have cc := (hR.cell (p := ⟨X, 0, none⟩) hX).trans h4
    refine Op1.of_run (v := Value.agg #[.slice A l.length c]) (W' := W) (by clear hT hJ; go_simp) ⟨Below.refl _ _, trivial, rfl⟩
  case s16 =>
    intro ρ W hR hJ hT
    have q64 : ρ (.tmp 64) = Value.agg #[.slice A l.length c] := hT.1 64 15 rfl rfl
    have qf := hT.2.2.2 76
    refine Op1.of_call (f := 76) (args := #[Value.agg #[.slice A l.length c]]) (W' := W) (by clear hT hJ; go_simp) ?_
    refine (RefCount_calls l _ W ⟨A, c, rfl, hlc, (Kd.C_below hC hR)⟩ hll).mono ?_
    rintro e W2 ⟨rfl, hb⟩
    exact ⟨_, rfl, hb, trivial, rfl⟩
  case s17 =>
    intro ρ W hR hJ hT
    have q63 : ρ (.tmp 63) = Value.int .i64 (cntF l) := hT.1 63 14 rfl rfl
    have q65 : ρ (.tmp 65) = Value.int .i64 (cntF l) := hT.1 65 16 rfl rfl
    have qq : ∀ b : Bool, (b == b) = true := by simp
    refine Op1.of_run (v := Value.bool true) (W' := W) (by clear hT hJ; go_simp) ⟨Below.refl _ _, trivial, rfl⟩
  case s18 =>
    intro ρ W hR hJ hT
    have q61 : ρ (.tmp 61) = Value.bool true := hT.1 61 12 rfl rfl
    have q66 : ρ (.tmp 66) = Value.bool true := hT.1 66 17 rfl rfl
    have qc := hT.2.2.1 (Value.bool false)
    refine Op1.of_run (v := Value.bool true) (W' := W) (by clear hT hJ; go_simp) ⟨Below.refl _ _, trivial, rfl⟩
  case s19 =>
    intro ρ W hR hJ hT
    have q67 : ρ (.tmp 67) = Value.bool true := hT.1 67 18 rfl rfl
    refine Op1.of_run (v := Value.bool true) (W' := W) (by clear hT hJ; go_simp) ⟨Below.refl _ _, trivial, rfl⟩
  case s20 =>
    intro ρ W hR hJ hT
    have q0 := hT.2.1 0 _ t0_ rfl
    refine Op1.of_run (v := Value.pointer (some ⟨g, 0, none⟩)) (W' := W) (by clear hT hJ; go_simp) ⟨Below.refl _ _, trivial, rfl⟩
  case s21 =>
    intro ρ W hR hJ hT
    have q5 := hT.2.1 5 _ t5 rfl
    refine Op1.of_run (v := Value.pointer (some ⟨Y, 1, none⟩)) (W' := W) (by clear hT hJ; go_simp) ⟨Below.refl _ _, trivial, rfl⟩
  case s22 =>
    intro ρ W hR hJ hT
    have q70 : ρ (.tmp 70) = Value.pointer (some ⟨Y, 1, none⟩) := hT.1 70 21 rfl rfl
    have cc := (hR.cell (p := ⟨Y, 1, none⟩) hY).trans h51
    refine Op1.of_run (v := Value.int .i64 f) (W' := W) (by clear hT hJ; go_simp) ⟨Below.refl _ _, trivial, rfl⟩
  case s23 =>
    intro ρ W hR hJ hT
    have q69 : ρ (.tmp 69) = Value.pointer (some ⟨g, 0, none⟩) := hT.1 69 20 rfl rfl
    have q71 : ρ (.tmp 71) = Value.int .i64 f := hT.1 71 22 rfl rfl
    have qf := hT.2.2.2 40
    refine Op1.of_call (f := 40) (args := #[Value.pointer (some ⟨g, 0, none⟩), Value.int .i64 f]) (W' := W) (by clear hT hJ; go_simp) ?_
    refine (Has_at g f l W (hS.below hR) hl16).mono ?_
    rintro e W2 ⟨rfl, hb⟩
    exact ⟨_, rfl, hb, trivial, rfl⟩
  case s24 =>
    intro ρ W hR hJ hT
    have q4 := hT.2.1 4 _ t4 rfl
    have cc := (hR.cell (p := ⟨X, 0, none⟩) hX).trans h4
    refine Op1.of_run (v := Value.agg #[.slice A l.length c]) (W' := W) (by clear hT hJ; go_simp) ⟨Below.refl _ _, trivial, rfl⟩
  case s25 =>
    intro ρ W hR hJ hT
    have q5 := hT.2.1 5 _ t5 rfl
    refine Op1.of_run (v := Value.pointer (some ⟨Y, 1, none⟩)) (W' := W) (by clear hT hJ; go_simp) ⟨Below.refl _ _, trivial, rfl⟩
  case s26 =>
    intro ρ W hR hJ hT
    have q74 : ρ (.tmp 74) = Value.pointer (some ⟨Y, 1, none⟩) := hT.1 74 25 rfl rfl
    have cc := (hR.cell (p := ⟨Y, 1, none⟩) hY).trans h51
    refine Op1.of_run (v := Value.int .i64 f) (W' := W) (by clear hT hJ; go_simp) ⟨Below.refl _ _, trivial, rfl⟩
  case s27 =>
    intro ρ W hR hJ hT
    have q73 : ρ (.tmp 73) = Value.agg #[.slice A l.length c] := hT.1 73 24 rfl rfl
    have q75 : ρ (.tmp 75) = Value.int .i64 f := hT.1 75 26 rfl rfl
    have qf := hT.2.2.2 86
    refine Op1.of_call (f := 86) (args := #[Value.agg #[.slice A l.length c], Value.int .i64 f]) (W' := W) (by clear hT hJ; go_simp) ?_
    refine (RefHas_calls l f _ W ⟨A, c, rfl, hlc, (Kd.C_below hC hR)⟩ hll).mono ?_
    rintro e W2 ⟨rfl, hb⟩
    exact ⟨_, rfl, hb, trivial, rfl⟩
  case s28 =>
    intro ρ W hR hJ hT
    have q72 : ρ (.tmp 72) = Value.bool ((l.map pr).any (Iter.tch f f)) := hT.1 72 23 rfl rfl
    have q76 : ρ (.tmp 76) = Value.bool ((l.map pr).any (Iter.tch f f)) := hT.1 76 27 rfl rfl
    have qq : ∀ b : Bool, (b == b) = true := by simp
    refine Op1.of_run (v := Value.bool true) (W' := W) (by clear hT hJ; go_simp) ⟨Below.refl _ _, trivial, rfl⟩
  case s29 =>
    intro ρ W hR hJ hT
    have q68 : ρ (.tmp 68) = Value.bool true := hT.1 68 19 rfl rfl
    have q77 : ρ (.tmp 77) = Value.bool true := hT.1 77 28 rfl rfl
    have qc := hT.2.2.1 (Value.bool false)
    refine Op1.of_run (v := Value.bool true) (W' := W) (by clear hT hJ; go_simp) ⟨Below.refl _ _, trivial, rfl⟩
  case s30 =>
    intro ρ W hR hJ hT
    have q78 : ρ (.tmp 78) = Value.bool true := hT.1 78 29 rfl rfl
    refine Op1.of_run (v := Value.bool true) (W' := W) (by clear hT hJ; go_simp) ⟨Below.refl _ _, trivial, rfl⟩
  case s31 =>
    intro ρ W hR hJ hT
    have q0 := hT.2.1 0 _ t0_ rfl
    refine Op1.of_run (v := Value.pointer (some ⟨g, 0, none⟩)) (W' := W) (by clear hT hJ; go_simp) ⟨Below.refl _ _, trivial, rfl⟩
  case s32 =>
    intro ρ W hR hJ hT
    have q5 := hT.2.1 5 _ t5 rfl
    refine Op1.of_run (v := Value.pointer (some ⟨Y, 2, none⟩)) (W' := W) (by clear hT hJ; go_simp) ⟨Below.refl _ _, trivial, rfl⟩
  case s33 =>
    intro ρ W hR hJ hT
    have q81 : ρ (.tmp 81) = Value.pointer (some ⟨Y, 2, none⟩) := hT.1 81 32 rfl rfl
    have cc := (hR.cell (p := ⟨Y, 2, none⟩) hY).trans h52
    refine Op1.of_run (v := Value.int .i64 t) (W' := W) (by clear hT hJ; go_simp) ⟨Below.refl _ _, trivial, rfl⟩
  case s34 =>
    intro ρ W hR hJ hT
    have q80 : ρ (.tmp 80) = Value.pointer (some ⟨g, 0, none⟩) := hT.1 80 31 rfl rfl
    have q82 : ρ (.tmp 82) = Value.int .i64 t := hT.1 82 33 rfl rfl
    have qf := hT.2.2.2 40
    refine Op1.of_call (f := 40) (args := #[Value.pointer (some ⟨g, 0, none⟩), Value.int .i64 t]) (W' := W) (by clear hT hJ; go_simp) ?_
    refine (Has_at g t l W (hS.below hR) hl16).mono ?_
    rintro e W2 ⟨rfl, hb⟩
    exact ⟨_, rfl, hb, trivial, rfl⟩
  case s35 =>
    intro ρ W hR hJ hT
    have q4 := hT.2.1 4 _ t4 rfl
    have cc := (hR.cell (p := ⟨X, 0, none⟩) hX).trans h4
    refine Op1.of_run (v := Value.agg #[.slice A l.length c]) (W' := W) (by clear hT hJ; go_simp) ⟨Below.refl _ _, trivial, rfl⟩
  case s36 =>
    intro ρ W hR hJ hT
    have q5 := hT.2.1 5 _ t5 rfl
    refine Op1.of_run (v := Value.pointer (some ⟨Y, 2, none⟩)) (W' := W) (by clear hT hJ; go_simp) ⟨Below.refl _ _, trivial, rfl⟩
  case s37 =>
    intro ρ W hR hJ hT
    have q85 : ρ (.tmp 85) = Value.pointer (some ⟨Y, 2, none⟩) := hT.1 85 36 rfl rfl
    have cc := (hR.cell (p := ⟨Y, 2, none⟩) hY).trans h52
    refine Op1.of_run (v := Value.int .i64 t) (W' := W) (by clear hT hJ; go_simp) ⟨Below.refl _ _, trivial, rfl⟩
  case s38 =>
    intro ρ W hR hJ hT
    have q84 : ρ (.tmp 84) = Value.agg #[.slice A l.length c] := hT.1 84 35 rfl rfl
    have q86 : ρ (.tmp 86) = Value.int .i64 t := hT.1 86 37 rfl rfl
    have qf := hT.2.2.2 86
    refine Op1.of_call (f := 86) (args := #[Value.agg #[.slice A l.length c], Value.int .i64 t]) (W' := W) (by clear hT hJ; go_simp) ?_
    refine (RefHas_calls l t _ W ⟨A, c, rfl, hlc, (Kd.C_below hC hR)⟩ hll).mono ?_
    rintro e W2 ⟨rfl, hb⟩
    exact ⟨_, rfl, hb, trivial, rfl⟩
  case s39 =>
    intro ρ W hR hJ hT
    have q83 : ρ (.tmp 83) = Value.bool ((l.map pr).any (Iter.tch t t)) := hT.1 83 34 rfl rfl
    have q87 : ρ (.tmp 87) = Value.bool ((l.map pr).any (Iter.tch t t)) := hT.1 87 38 rfl rfl
    have qq : ∀ b : Bool, (b == b) = true := by simp
    refine Op1.of_run (v := Value.bool true) (W' := W) (by clear hT hJ; go_simp) ⟨Below.refl _ _, trivial, rfl⟩
  case s40 =>
    intro ρ W hR hJ hT
    have q79 : ρ (.tmp 79) = Value.bool true := hT.1 79 30 rfl rfl
    have q88 : ρ (.tmp 88) = Value.bool true := hT.1 88 39 rfl rfl
    have qc := hT.2.2.1 (Value.bool false)
    refine Op1.of_run (v := Value.bool true) (W' := W) (by clear hT hJ; go_simp) ⟨Below.refl _ _, trivial, rfl⟩
  case s41 =>
    intro ρ W hR hJ hT
    have q89 : ρ (.tmp 89) = Value.bool true := hT.1 89 40 rfl rfl
    refine Op1.of_run (v := Value.bool true) (W' := W) (by clear hT hJ; go_simp) ⟨Below.refl _ _, trivial, rfl⟩
  case s42 =>
    intro ρ W hR hJ hT
    have q0 := hT.2.1 0 _ t0_ rfl
    refine Op1.of_run (v := Value.pointer (some ⟨g, 0, none⟩)) (W' := W) (by clear hT hJ; go_simp) ⟨Below.refl _ _, trivial, rfl⟩
  case s43 =>
    intro ρ W hR hJ hT
    have q5 := hT.2.1 5 _ t5 rfl
    refine Op1.of_run (v := Value.pointer (some ⟨Y, 1, none⟩)) (W' := W) (by clear hT hJ; go_simp) ⟨Below.refl _ _, trivial, rfl⟩
  case s44 =>
    intro ρ W hR hJ hT
    have q92 : ρ (.tmp 92) = Value.pointer (some ⟨Y, 1, none⟩) := hT.1 92 43 rfl rfl
    have cc := (hR.cell (p := ⟨Y, 1, none⟩) hY).trans h51
    refine Op1.of_run (v := Value.int .i64 f) (W' := W) (by clear hT hJ; go_simp) ⟨Below.refl _ _, trivial, rfl⟩
  case s45 =>
    intro ρ W hR hJ hT
    have q5 := hT.2.1 5 _ t5 rfl
    refine Op1.of_run (v := Value.pointer (some ⟨Y, 2, none⟩)) (W' := W) (by clear hT hJ; go_simp) ⟨Below.refl _ _, trivial, rfl⟩
  case s46 =>
    intro ρ W hR hJ hT
    have q94 : ρ (.tmp 94) = Value.pointer (some ⟨Y, 2, none⟩) := hT.1 94 45 rfl rfl
    have cc := (hR.cell (p := ⟨Y, 2, none⟩) hY).trans h52
    refine Op1.of_run (v := Value.int .i64 t) (W' := W) (by clear hT hJ; go_simp) ⟨Below.refl _ _, trivial, rfl⟩
  case s47 =>
    intro ρ W hR hJ hT
    have q91 : ρ (.tmp 91) = Value.pointer (some ⟨g, 0, none⟩) := hT.1 91 42 rfl rfl
    have q93 : ρ (.tmp 93) = Value.int .i64 f := hT.1 93 44 rfl rfl
    have q95 : ρ (.tmp 95) = Value.int .i64 t := hT.1 95 46 rfl rfl
    have qf := hT.2.2.2 46
    refine Op1.of_call (f := 46) (args := #[Value.pointer (some ⟨g, 0, none⟩), Value.int .i64 f, Value.int .i64 t]) (W' := W) (by clear hT hJ; go_simp) ?_
    refine (Gaps_calls g f t l W (hS.below hR) hw).mono ?_
    rintro e W2 ⟨u, rfl, ho, hb⟩
    exact ⟨_, rfl, hb, trivial, ho.slg⟩
  case s48 =>
    intro ρ W hR hJ hT
    have q4 := hT.2.1 4 _ t4 rfl
    have cc := (hR.cell (p := ⟨X, 0, none⟩) hX).trans h4
    refine Op1.of_run (v := Value.agg #[.slice A l.length c]) (W' := W) (by clear hT hJ; go_simp) ⟨Below.refl _ _, trivial, rfl⟩
  case s49 =>
    intro ρ W hR hJ hT
    have q5 := hT.2.1 5 _ t5 rfl
    refine Op1.of_run (v := Value.pointer (some ⟨Y, 1, none⟩)) (W' := W) (by clear hT hJ; go_simp) ⟨Below.refl _ _, trivial, rfl⟩
  case s50 =>
    intro ρ W hR hJ hT
    have q98 : ρ (.tmp 98) = Value.pointer (some ⟨Y, 1, none⟩) := hT.1 98 49 rfl rfl
    have cc := (hR.cell (p := ⟨Y, 1, none⟩) hY).trans h51
    refine Op1.of_run (v := Value.int .i64 f) (W' := W) (by clear hT hJ; go_simp) ⟨Below.refl _ _, trivial, rfl⟩
  case s51 =>
    intro ρ W hR hJ hT
    have q5 := hT.2.1 5 _ t5 rfl
    refine Op1.of_run (v := Value.pointer (some ⟨Y, 2, none⟩)) (W' := W) (by clear hT hJ; go_simp) ⟨Below.refl _ _, trivial, rfl⟩
  case s52 =>
    intro ρ W hR hJ hT
    have q100 : ρ (.tmp 100) = Value.pointer (some ⟨Y, 2, none⟩) := hT.1 100 51 rfl rfl
    have cc := (hR.cell (p := ⟨Y, 2, none⟩) hY).trans h52
    refine Op1.of_run (v := Value.int .i64 t) (W' := W) (by clear hT hJ; go_simp) ⟨Below.refl _ _, trivial, rfl⟩
  case s53 =>
    intro ρ W hR hJ hT
    have q97 : ρ (.tmp 97) = Value.agg #[.slice A l.length c] := hT.1 97 48 rfl rfl
    have q99 : ρ (.tmp 99) = Value.int .i64 f := hT.1 99 50 rfl rfl
    have q101 : ρ (.tmp 101) = Value.int .i64 t := hT.1 101 52 rfl rfl
    have qf := hT.2.2.2 87
    refine Op1.of_call (f := 87) (args := #[Value.agg #[.slice A l.length c], Value.int .i64 f, Value.int .i64 t]) (W' := W) (by clear hT hJ; go_simp) ?_
    refine (RefGaps_calls l f t _ W ⟨A, c, rfl, hlc, (Kd.C_below hC hR)⟩ hw).mono ?_
    rintro e W2 ⟨u, rfl, ho, hb⟩
    exact ⟨_, rfl, hb, trivial, ho.slg⟩
  case s54 =>
    intro ρ W hR hJ hT
    obtain ⟨B96, n96, e96, q96, k96, m96, r96⟩ := (show Slg (gapsL f t l) (ρ (.tmp 96)) W from hT.1 96 47 rfl rfl)
    obtain ⟨B102, n102, e102, q102, k102, m102, r102⟩ := (show Slg (gapsL f t l) (ρ (.tmp 102)) W from hT.1 102 53 rfl rfl)
    have qf := hT.2.2.2 38
    refine Op1.of_call (f := 38) (args := #[Value.slice B96 n96 e96, Value.slice B102 n102 e102]) (W' := W) (by clear hT hJ; go_simp) ?_
    refine (RefSame_calls (gapsL f t l) W k96 k102 r96 r102 m96 m102 hgl).mono ?_
    rintro e W2 ⟨rfl, hb⟩
    exact ⟨_, rfl, hb, trivial, rfl⟩
  case s55 =>
    intro ρ W hR hJ hT
    have q90 : ρ (.tmp 90) = Value.bool true := hT.1 90 41 rfl rfl
    have q103 : ρ (.tmp 103) = Value.bool true := hT.1 103 54 rfl rfl
    have qc := hT.2.2.1 (Value.bool false)
    refine Op1.of_run (v := Value.bool true) (W' := W) (by clear hT hJ; go_simp) ⟨Below.refl _ _, trivial, rfl⟩
  case s56 =>
    intro ρ W hR hJ hT
    have q104 : ρ (.tmp 104) = Value.bool true := hT.1 104 55 rfl rfl
    refine Op1.of_run (v := Value.bool true) (W' := W) (by clear hT hJ; go_simp) ⟨Below.refl _ _, trivial, rfl⟩
  case hdone =>
    intro σ W hR hJ hV
    exact hQ σ W hR (hV 56 (by decide))
end Go.Proofs.Ytiladcdogbeomaa.QRangesPlays

namespace Go.Proofs.Ytiladcdogbeomaa.QRangesPlays
open Go.RowKit Go.Shelf Go.Proofs.YtiladcdogbeomaaW.PrintWords Go.Proofs.YtiladcdogbeomaaW.PrintLast Go.Proofs.YtiladcdogbeomaaW.PrintMore Go.Proofs.Ytiladcdogbeomaa.RowLaws Go.Proofs.Ytiladcdogbeomaa.Lazy
attribute [local go_sem] Oper.semAt_some
theorem gaps_len {f t : Int} {l : List S95} : (gapsL f t l).length ≤ l.length + 1 := by
  unfold gapsL
  split
  · rw [gaps_of rfl, List.length_append]
    have h1 := gfold_len (l.map pr) f (Iter.hits (l.map pr) f t (l.map pr).length)
    have h2 := Iter.hits_length (l.map pr) f t (l.map pr).length
    have h3 : (l.map pr).length = l.length := by simp
    have h4 : (if (gfold (l.map pr) f (Iter.hits (l.map pr) f t (l.map pr).length)).2 ≤ t then [(⟨(gfold (l.map pr) f (Iter.hits (l.map pr) f t (l.map pr).length)).2, t⟩ : S95)] else []).length ≤ 1 := by split <;> simp
    omega
  · simp
/-- The worlds of a call of 'same': its two boxes. -/
structure SmW (X : Nat) (s4 : Value) (k f t : Int) (w W : World) : Prop where
  h4 : W.heap[X]? = some (.cells #[s4] 80 (0, 0))
  h5 : W.heap[X + 1]? = some (.cells #[.int .u8 k, .int .i64 f, .int .i64 t] 84 (0, 0))
  hb : Below w.heap.size w W
theorem SmW.below {X : Nat} {s4 : Value} {k f t : Int} {w W W' : World} (h : SmW X s4 k f t w W) (hb : Below W.heap.size W W') : SmW X s4 k f t w W' :=
  ⟨(hb.block _ (lt_of_block h.h4)).trans h.h4, (hb.block _ (lt_of_block h.h5)).trans h.h5, below_step h.hb hb⟩
theorem sm_start {w W2 : World} {k f t : Int} {s4 : Value}
    (hb : Below ((w.alloc (.cells #[s4] 80)).alloc (.cells #[.int .u8 k, .int .i64 f, .int .i64 t] 84)).heap.size ((w.alloc (.cells #[s4] 80)).alloc (.cells #[.int .u8 k, .int .i64 f, .int .i64 t] 84)) W2) : SmW w.heap.size s4 k f t w W2 := by
  refine SmW.below (W := (w.alloc (.cells #[s4] 80)).alloc (.cells #[.int .u8 k, .int .i64 f, .int .i64 t] 84)) ?_ hb
  exact ⟨blk_alloc (heap_alloc_new w _) _, new_two w _ _, below_alloc (below_alloc (Below.refl _ _) _) _⟩
theorem SmW.c4 {X : Nat} {s4 : Value} {k f t : Int} {w W : World} (h : SmW X s4 k f t w W) : W.cell? ⟨X, 0, none⟩ = some s4 := cell_of_one h.h4
theorem SmW.c5 {X : Nat} {s4 : Value} {k f t : Int} {w W : World} (h : SmW X s4 k f t w W) : W.cell? ⟨X + 1, 1, none⟩ = some (.int .i64 f) ∧ W.cell? ⟨X + 1, 2, none⟩ = some (.int .i64 t) := by
  have h5 := h.h5
  refine ⟨?_, ?_⟩ <;> (unfold World.cell?; rw [h5]; rfl)
theorem Max_at (g : Nat) (l : List S95) (w : World) (hs : SetAt w g l) (hl : l.length * 16 ≤ 140737488351232) :
    Calls Try.prog 49 #[.pointer (some ⟨g, 0, none⟩)] w fun e w' => e = .returned (.tuple #[.int .i64 ((l.getLast?.map (·.f1)).getD 0), .bool (l.length != 0)]) ∧ Below w.heap.size w w' := by
  obtain ⟨sv, h1, h2⟩ := hs
  exact Set_Max.calls g l sv w (cell_of_one h1) h2 hl
theorem rowC_int (l : List S95) (i : Nat) (h : i < l.length) : ∃ a, (rowC l)[i * 2]? = some (.int .i64 a) := by
  have e : (rowC l).drop (i * 2) = [.int .i64 l[i].f0, .int .i64 l[i].f1] ++ rowC (l.drop (i + 1)) := by
    rw [rowC_drop, List.drop_eq_getElem_cons h]; rfl
  refine ⟨l[i].f0, ?_⟩
  have h2 : ((rowC l).drop (i * 2))[0]? = some (.int .i64 l[i].f0) := by rw [e]; rfl
  rwa [List.getElem?_drop, Nat.add_zero] at h2
set_option maxRecDepth 100000 in
set_option maxHeartbeats 4000000 in
theorem Same_cons (g : Nat) (k f t : Int) (l : List S95) (v : Value) (w : World) (hs : SetAt w g l) (hR : RS w v l) (hw : wf 0 l) (n : Nat) (hn : l.length = n + 1) :
    Calls Try.prog 45 #[.pointer (some ⟨g, 0, none⟩), v, .agg #[.int .u8 k, .int .i64 f, .int .i64 t]] w fun e w' => e = .returned (.bool true) ∧ Below w.heap.size w w' := by
  have hl : l.length ≤ 549755813890 := by have := wf_len hw (by omega); omega
  have hl16 : l.length * 16 ≤ 140737488351232 := by omega
  have hgl : (gapsL f t l).length < 8796093022208 := by have := gaps_len (f := f) (t := t) (l := l); omega
  obtain ⟨A, c, rfl, hlc, hC⟩ := hR
  obtain ⟨b, o, rfl, _, r1⟩ := row_at hC n (by omega)
  obtain ⟨T, hT⟩ : ∃ T, l[n].f1 = T := ⟨_, rfl⟩
  have hlast : (l.getLast?.map (·.f1)).getD 0 = T := by
    rw [← hT, List.getLast?_eq_getElem?, List.getElem?_eq_getElem (by omega)]
    simp [hn]
  rw [hT] at r1
  have HM := Aside0.mk (fun W (hb : Below w.heap.size w W) => Max_at g l W (hs.below hb) hl16)
  rw [hlast, hn] at HM
  have HSP := Aside0.mk (fun W (hb : Below w.heap.size w W) => Set_Spans.calls g l l W (hs.below hb).isSet (show slices_Clone.f l = some l by unfold slices_Clone.f; rw [if_pos (by omega)]))
  have HS := Aside0.mk hs
  have HC := Aside0.mk hC
  have hb2 : b < w.heap.size := World.block_lt_of_cell? _ _ r1
  have wn : IntKind.i64.wrap ((n : Int) + 1 - 1) = (n : Int) := IntWalk.i64_in _ (by omega) |>.trans (by omega)
  have HLC := Aside0.mk hlc
  rw [hn] at hlc
  have en : ((n + 1 : Nat) : Int) = (n : Int) + 1 := by omega
  clear hs hC hlast hT
  rw [hn]
  go_enter Try.func45, Try.ntmps45
  go_wp2_with (first
    | (go_at_call 49; refine (HM.out _ (below_alloc (below_alloc (Below.refl _ _) _) _)).mono ?_; rintro e w2 ⟨rfl, hb⟩; have HD := Aside0.mk (sm_start hb); have c4 := HD.out.c4; have r2 := (HD.out.hb.cell (p := ⟨b, o + n * 2 + 1, none⟩) hb2).trans r1; clear hb)
    | (go_at_call 39; refine (HSP.out _ HD.out.hb).mono ?_; rintro e w3 ⟨v9, rfl, ho, hb⟩; have HO := Aside0.mk (own95 ho); have HD3 := Aside0.mk (HD.out.below hb); clear ho hb))
  have hrow : w3.ownsRow w2.heap.size 95 2 v9 (n + 1) (rowC l) := by have := HO.out; unfold OwnS at this; rwa [hn] at this
  obtain ⟨gb, c9, rfl⟩ := ownsRow_succ hrow
  obtain ⟨A9, c9', hv9, hlc9, hC9⟩ := HO.out.reads
  injection hv9 with e1 e2 e3
  subst e1
  subst e3
  have hgb : w.heap.size ≤ gb := Nat.le_trans HD.out.hb.size (HO.out.lt (k := gb) rfl).1
  have hgb2 : gb < w3.heap.size := (HO.out.lt (k := gb) rfl).2
  refine Same_r5 w.heap.size (w.heap.size + 1) g _ _ c c9 l f t _ _ _ _ (by rfl) (by rfl) (by rfl) (by rfl) (by rw [hn]; rfl) (by rw [hn]; exact HD3.out.c4) HD3.out.c5.1 HD3.out.c5.2 (Kd.C_below HC.out HD3.out.hb) HLC.out hC9 hlc9 hw (HS.out.below HD3.out.hb) (by omega) hl16 hgl ?_
  intro σ W6 hB6 hσ
  have HD6 := Aside0.mk (HD3.out.below hB6)
  have HR6 := Aside0.mk (show ∃ ys : List Value, W6.ownsRow w.heap.size 95 2 (.slice (some ⟨gb, 0, none⟩) (n + 1) c9) (n + 1) ys ∧ ∀ i, i < n + 1 → ∃ a, ys[i * 2]? = some (.int .i64 a) from ⟨rowC l, by
    have h := (HO.out.below hB6).lower HD.out.hb.size
    unfold OwnS at h
    rwa [hn] at h, fun i hi => rowC_int l i (by omega)⟩)
  simp only [lazyA, lazyT, e5_tab, List.zipWith_cons_cons, List.zipWith_nil_left, cond_true]
  clear hB6 hC9 hrow
  rename_i K0 hK0
  refine hK0 _ _ ?_
  rw [hσ]
  obtain ⟨L, hL⟩ : ∃ L, n + 1 = L := ⟨_, rfl⟩
  rw [hL] at HR6 ⊢
  have hL2 : L ≤ 549755813890 := by omega
  clear en wn
  go_wp2
  go_loopw [11] (fun i wr => ∃ k : Nat, k ≤ L ∧ i = .int .i64 k ∧ Aside0 (∃ ys : List Value, wr.ownsRow w.heap.size 95 2 (.slice (some ⟨gb, 0, none⟩) (L) c9) (L) ys ∧ ∀ i, i < L → ∃ a, ys[i * 2]? = some (.int .i64 a)) ∧ Aside0 (Below w.heap.size w wr)) (fun i _ => L - (intOf i).toNat)
  case atStart => exact ⟨0, Nat.zero_le _, rfl, HR6, ⟨HD6.out.hb⟩⟩
  case round =>
    obtain ⟨k, hk, rfl, HY, HW⟩ := hrel
    by_cases hlt : k < L
    · obtain ⟨ys, hy1, hy2⟩ := HY.out
      obtain ⟨a, ha⟩ := hy2 k hlt
      have h0 := (hy1.cellAt (k * 2) (by omega)).trans ha
      have z0 := hy1.frozenAt (k * 2)
      have hst := fun u => hy1.stored (k * 2) u
      have HST := Aside0.mk (fun (a : Int) => (show ∃ ys : List Value, (wr.setCell ⟨gb, k * 2, none⟩ (.int .i64 a)).ownsRow w.heap.size 95 2 (.slice (some ⟨gb, 0, none⟩) (L) c9) (L) ys ∧ ∀ i, i < L → ∃ a, ys[i * 2]? = some (.int .i64 a) from ⟨_, (hst _).1, fun i hi => by
        by_cases e : i = k
        · subst e
          refine ⟨a, ?_⟩
          have := (List.getElem?_eq_some_iff.1 ha).1
          rw [List.getElem?_set_self this]
        · obtain ⟨a2, h2⟩ := hy2 i hi
          exact ⟨a2, by rw [List.getElem?_set_ne (by omega)]; exact h2⟩⟩))
      clear hy1 hy2 hst ha HY
      go_wp2
      go_roundw
      case rel => exact ⟨k + 1, by omega, by simp, ⟨HST.out _⟩, ⟨HW.out.setCell (p := ⟨gb, k * 2, none⟩) hgb _⟩⟩
      case measure => simp [intOf]; omega
    · have hk2 : k = L := by omega
      go_wp2
      go_ret
      exact ⟨rfl, HW.out⟩
set_option maxRecDepth 100000 in
set_option maxHeartbeats 4000000 in
theorem Same_nil (g : Nat) (k f t : Int) (v : Value) (w : World) (hs : SetAt w g []) (hR : RS w v []) :
    Calls Try.prog 45 #[.pointer (some ⟨g, 0, none⟩), v, .agg #[.int .u8 k, .int .i64 f, .int .i64 t]] w fun e w' => e = .returned (.bool true) ∧ Below w.heap.size w w' := by
  have hgl : (gapsL f t ([] : List S95)).length < 8796093022208 := by have := gaps_len (f := f) (t := t) (l := ([] : List S95)); simp at this; omega
  obtain ⟨A, c, rfl, hlc, hC⟩ := hR
  have HM := Aside0.mk (fun W (hb : Below w.heap.size w W) => (show Calls Try.prog 49 #[.pointer (some ⟨g, 0, none⟩)] W fun e w' => e = .returned (.tuple #[.int .i64 0, .bool false]) ∧ Below W.heap.size W w' from Max_at g [] W (hs.below hb) (by simp)))
  have HSP := Aside0.mk (fun W (hb : Below w.heap.size w W) => Set_Spans.calls g [] [] W (hs.below hb).isSet (show slices_Clone.f [] = some [] by unfold slices_Clone.f; rw [if_pos (by simp)]))
  have HS := Aside0.mk hs
  have HC := Aside0.mk hC
  have HLC := Aside0.mk hlc
  clear hs hC hlc
  simp only [List.length_nil]
  go_enter Try.func45, Try.ntmps45
  go_wp2_with (first
    | (go_at_call 49; refine (HM.out _ (below_alloc (below_alloc (Below.refl _ _) _) _)).mono ?_; rintro e w2 ⟨rfl, hb⟩; have HD := Aside0.mk (sm_start hb); have c4 := HD.out.c4; clear hb)
    | (go_at_call 39; refine (HSP.out _ HD.out.hb).mono ?_; rintro e w3 ⟨v9, rfl, ho, hb⟩; have HO := Aside0.mk (own95 ho); have HD3 := Aside0.mk (HD.out.below hb); clear ho hb))
  obtain ⟨A9, c9, hv9, hlc9, hC9⟩ := HO.out.reads
  subst hv9
  refine Same_r5 w.heap.size (w.heap.size + 1) g A A9 c c9 [] f t _ _ _ _ (by rfl) (by rfl) (by rfl) (by rfl) (by rfl) HD3.out.c4 HD3.out.c5.1 HD3.out.c5.2 (Kd.C_below HC.out HD3.out.hb) HLC.out hC9 hlc9 trivial (HS.out.below HD3.out.hb) (by simp) (by simp) hgl ?_
  intro σ W6 hB6 hσ
  have HD6 := Aside0.mk (HD3.out.below hB6)
  simp only [lazyA, lazyT, e5_tab, List.zipWith_cons_cons, List.zipWith_nil_left, cond_true]
  clear hB6 hC9
  rename_i K0 hK0
  refine hK0 _ _ ?_
  rw [hσ]
  simp only [List.length_nil]
  go_wp2
  refine wp_loop_rounds 1 ?_
  rw [rounds_succ]
  go_wp2
  go_ret
  exact ⟨rfl, HD6.out.hb⟩
theorem Same_calls (g : Nat) (k f t : Int) (l : List S95) (v : Value) (w : World) (hs : SetAt w g l) (hR : RS w v l) (hw : wf 0 l) :
    Calls Try.prog 45 #[.pointer (some ⟨g, 0, none⟩), v, .agg #[.int .u8 k, .int .i64 f, .int .i64 t]] w fun e w' => e = .returned (.bool true) ∧ Below w.heap.size w w' := by
  cases h : l with
  | nil => subst h; exact Same_nil g k f t v w hs hR
  | cons x r => exact Same_cons g k f t l v w hs hR hw r.length (by rw [h]; rfl)
end Go.Proofs.Ytiladcdogbeomaa.QRangesPlays
