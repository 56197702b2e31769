/- Law 17 (ranges): contracts of functions that its statements reach, and plain laws behind them (further part 4). No condition. -/
import Derived.Test.YtiladcdogbeomaaMl
import Derived.Test.YtiladcdogbeomaaMn
namespace Go.Proofs.Ytiladcdogbeomaa.QRangesPlays
open Go.RowKit Go.Shelf Go.Proofs.YtiladcdogbeomaaW.PrintWords Go.Proofs.YtiladcdogbeomaaW.PrintLast Go.Proofs.YtiladcdogbeomaaW.PrintMore Go.Proofs.Ytiladcdogbeomaa.RowLaws Go.Proofs.Ytiladcdogbeomaa.Lazy
attribute [local go_sem] Oper.semAt_some max2_int min2_int max_two min_two
/-- The least, the greatest of two numbers, as the program tells them. -/
def lo2 (p q : Int) : Int := if q < p then q else p
def hi2 (p q : Int) : Int := if p < q then q else p
theorem lo2_rem {p q : Int} (hp : 0 ≤ p ∧ p < 65536) (hq : 0 ≤ q ∧ q < 65536) : Int.tmod (lo2 p q) 2000 = lo2 p q % 2000 := by
  have h : 0 ≤ lo2 p q := by unfold lo2; split <;> omega
  exact Int.tmod_eq_emod_of_nonneg h
theorem hi2_rem {p q : Int} (hp : 0 ≤ p ∧ p < 65536) (hq : 0 ≤ q ∧ q < 65536) : Int.tmod (hi2 p q) 2000 = hi2 p q % 2000 := by
  have h : 0 ≤ hi2 p q := by unfold hi2; split <;> omega
  exact Int.tmod_eq_emod_of_nonneg h
abbrev od8_ops : List Oper := [{ dst := some 24, op := .move (.tmp 0), type := 22, pos := "own.go:17", after := #[], guard := none },
  { dst := some 25, op := .move (.tmp 8), type := 3, pos := "own.go:17", after := #[], guard := none },
  { dst := some 26, op := .indexAddr 22 (.tmp 24) (.tmp 25), type := 0, pos := "own.go:17", after := #[⟨0, .data⟩, ⟨1, .data⟩], guard := none },
  { dst := some 27, op := .indexAddr 28 (.tmp 26) (.const (.int .i64 0)), type := 0, pos := "own.go:17", after := #[⟨2, .data⟩], guard := none },
  { dst := some 28, op := .load 27 (.tmp 27), type := 27, pos := "own.go:17", after := #[⟨3, .data⟩], guard := none },
  { dst := some 29, op := .move (.tmp 0), type := 22, pos := "own.go:17", after := #[], guard := none },
  { dst := some 30, op := .move (.tmp 8), type := 3, pos := "own.go:17", after := #[], guard := none },
  { dst := some 31, op := .indexAddr 22 (.tmp 29) (.tmp 30), type := 0, pos := "own.go:17", after := #[⟨5, .data⟩, ⟨6, .data⟩], guard := none },
  { dst := some 32, op := .indexAddr 28 (.tmp 31) (.const (.int .i64 1)), type := 0, pos := "own.go:17", after := #[⟨7, .data⟩], guard := none },
  { dst := some 33, op := .load 27 (.tmp 32), type := 27, pos := "own.go:17", after := #[⟨8, .data⟩], guard := none },
  { dst := some 34, op := .call { callee := .builtin .min, args := #[.tmp 28, .tmp 33], argTypes := #[27, 27] }, type := 27, pos := "own.go:17", after := #[⟨4, .data⟩, ⟨9, .data⟩], guard := none },
  { dst := some 35, op := .binOp .rem 27 (.tmp 34) (.const (.int .u16 2000)) 27, type := 27, pos := "own.go:17", after := #[⟨10, .data⟩], guard := none },
  { dst := some 36, op := .convert 27 3 (.tmp 35), type := 3, pos := "own.go:17", after := #[⟨11, .data⟩], guard := none },
  { dst := some 37, op := .move (.tmp 0), type := 22, pos := "own.go:17", after := #[], guard := none },
  { dst := some 38, op := .move (.tmp 8), type := 3, pos := "own.go:17", after := #[], guard := none },
  { dst := some 39, op := .indexAddr 22 (.tmp 37) (.tmp 38), type := 0, pos := "own.go:17", after := #[⟨13, .data⟩, ⟨14, .data⟩], guard := none },
  { dst := some 40, op := .indexAddr 28 (.tmp 39) (.const (.int .i64 0)), type := 0, pos := "own.go:17", after := #[⟨15, .data⟩], guard := none },
  { dst := some 41, op := .load 27 (.tmp 40), type := 27, pos := "own.go:17", after := #[⟨16, .data⟩], guard := none },
  { dst := some 42, op := .move (.tmp 0), type := 22, pos := "own.go:17", after := #[], guard := none },
  { dst := some 43, op := .move (.tmp 8), type := 3, pos := "own.go:17", after := #[], guard := none },
  { dst := some 44, op := .indexAddr 22 (.tmp 42) (.tmp 43), type := 0, pos := "own.go:17", after := #[⟨18, .data⟩, ⟨19, .data⟩], guard := none },
  { dst := some 45, op := .indexAddr 28 (.tmp 44) (.const (.int .i64 1)), type := 0, pos := "own.go:17", after := #[⟨20, .data⟩], guard := none },
  { dst := some 46, op := .load 27 (.tmp 45), type := 27, pos := "own.go:17", after := #[⟨21, .data⟩], guard := none },
  { dst := some 47, op := .call { callee := .builtin .max, args := #[.tmp 41, .tmp 46], argTypes := #[27, 27] }, type := 27, pos := "own.go:17", after := #[⟨17, .data⟩, ⟨22, .data⟩], guard := none },
  { dst := some 48, op := .binOp .rem 27 (.tmp 47) (.const (.int .u16 2000)) 27, type := 27, pos := "own.go:17", after := #[⟨23, .data⟩, ⟨26, .gcOnly .lateStores⟩], guard := none },
  { dst := some 49, op := .convert 27 3 (.tmp 48), type := 3, pos := "own.go:17", after := #[⟨24, .data⟩, ⟨26, .gcOnly .lateStores⟩], guard := none },
  { dst := some 9, op := .assign (.tmp 36), type := 3, pos := "own.go:17", after := #[⟨12, .data⟩, ⟨0, .phase⟩, ⟨1, .phase⟩, ⟨2, .phase⟩, ⟨3, .phase⟩, ⟨4, .phase⟩, ⟨5, .phase⟩, ⟨6, .phase⟩, ⟨7, .phase⟩, ⟨8, .phase⟩, ⟨9, .phase⟩, ⟨10, .phase⟩, ⟨11, .phase⟩, ⟨12, .phase⟩, ⟨13, .textOnly .lateStores⟩, ⟨14, .textOnly .lateStores⟩, ⟨15, .textOnly .lateStores⟩, ⟨16, .textOnly .lateStores⟩, ⟨17, .textOnly .lateStores⟩, ⟨18, .textOnly .lateStores⟩, ⟨19, .textOnly .lateStores⟩, ⟨20, .textOnly .lateStores⟩, ⟨21, .textOnly .lateStores⟩, ⟨22, .textOnly .lateStores⟩, ⟨23, .textOnly .lateStoresUnsure⟩, ⟨24, .textOnly .lateStores⟩, ⟨25, .textOnly .lateStores⟩], guard := none },
  { dst := some 10, op := .assign (.tmp 49), type := 3, pos := "own.go:17", after := #[⟨25, .data⟩, ⟨26, .chain⟩, ⟨0, .phase⟩, ⟨1, .phase⟩, ⟨2, .phase⟩, ⟨3, .phase⟩, ⟨4, .phase⟩, ⟨5, .phase⟩, ⟨6, .phase⟩, ⟨7, .phase⟩, ⟨8, .phase⟩, ⟨9, .phase⟩, ⟨10, .phase⟩, ⟨11, .phase⟩, ⟨12, .phase⟩, ⟨13, .phase⟩, ⟨14, .phase⟩, ⟨15, .phase⟩, ⟨16, .phase⟩, ⟨17, .phase⟩, ⟨18, .phase⟩, ⟨19, .phase⟩, ⟨20, .phase⟩, ⟨21, .phase⟩, ⟨22, .phase⟩, ⟨23, .phase⟩, ⟨24, .phase⟩, ⟨25, .phase⟩, ⟨26, .phase⟩], guard := none }]
abbrev od8_tab : List (Option Nat) := [none, none, none, none, none, none, none, none, none, some 26, some 27, none, none, none, none, none, none, none, none, none, none, none, none, none, some 0, some 1, some 2, some 3, some 4, some 5, some 6, some 7, some 8, some 9, some 10, some 11, some 12, some 13, some 14, some 15, some 16, some 17, some 18, some 19, some 20, some 21, some 22, some 23, some 24, some 25, none, none, none, none, none, none, none, none, none, none, none, none, none, none, none, none, none, none, none, none, none, none, none, none, none, none, none, none, none, none, none, none, none, none, none, none, none, none, none, none, none, none, none, none, none, none, none, none, none, none, none, none, none, none, none, none, none, none, none, none, none, none, none, none, none, none, none, none, none, none, none, none, none, none, none, none, none, none]

def od8_val (b0 o0 m c0 i : Nat) (p q : Int) : Nat → Value → World → Prop := fun j v W => match j with
  | 0 => v = .slice (some ⟨b0, o0, none⟩) m c0
  | 1 => v = .int .i64 (i : Int)
  | 2 => v = .pointer (some ⟨b0, o0 + i * 2, none⟩)
  | 3 => v = .pointer (some ⟨b0, o0 + i * 2, none⟩)
  | 4 => v = .int .u16 p
  | 5 => v = .slice (some ⟨b0, o0, none⟩) m c0
  | 6 => v = .int .i64 (i : Int)
  | 7 => v = .pointer (some ⟨b0, o0 + i * 2, none⟩)
  | 8 => v = .pointer (some ⟨b0, o0 + i * 2 + 1, none⟩)
  | 9 => v = .int .u16 q
  | 10 => v = .int .u16 (lo2 p q)
  | 11 => v = .int .u16 (lo2 p q % 2000)
  | 12 => v = .int .i64 (lo2 p q % 2000)
  | 13 => v = .slice (some ⟨b0, o0, none⟩) m c0
  | 14 => v = .int .i64 (i : Int)
  | 15 => v = .pointer (some ⟨b0, o0 + i * 2, none⟩)
  | 16 => v = .pointer (some ⟨b0, o0 + i * 2, none⟩)
  | 17 => v = .int .u16 p
  | 18 => v = .slice (some ⟨b0, o0, none⟩) m c0
  | 19 => v = .int .i64 (i : Int)
  | 20 => v = .pointer (some ⟨b0, o0 + i * 2, none⟩)
  | 21 => v = .pointer (some ⟨b0, o0 + i * 2 + 1, none⟩)
  | 22 => v = .int .u16 q
  | 23 => v = .int .u16 (hi2 p q)
  | 24 => v = .int .u16 (hi2 p q % 2000)
  | 25 => v = .int .i64 (hi2 p q % 2000)
  | 26 => v = .int .i64 (lo2 p q % 2000)
  | 27 => v = .int .i64 (hi2 p q % 2000)
  | _ => True

set_option maxRecDepth 100000 in
set_option maxHeartbeats 4000000 in
theorem Order_r8 (b0 o0 m c0 i : Nat) (p q : Int) (t0 : List Value) (d0 : List Deferred) (w : World) (Q : Exit → Act → World → Prop) (hl : t0.length = od8_tab.length)
    (t0_ : t0[0]? = some (.slice (some ⟨b0, o0, none⟩) m c0)) (t8 : t0[8]? = some (.int .i64 (i : Int))) (hi : i < m)
    (k0 : w.cell? ⟨b0, o0 + i * 2, none⟩ = some (.int .u16 p)) (k1 : w.cell? ⟨b0, o0 + i * 2 + 1, none⟩ = some (.int .u16 q)) (hp : 0 ≤ p ∧ p < 65536) (hq : 0 ≤ q ∧ q < 65536)
    (hQ : ∀ σ W, Below w.heap.size w W → σ 26 = .int .i64 (lo2 p q % 2000) ∧ σ 27 = .int .i64 (hi2 p q % 2000) → Q .normal (lazyA (fun _ => true) σ t0 od8_tab d0) W) :
    (Code.region 8 od8_ops.toArray true).wp Try.prog Q { tmps := t0.toArray, defers := d0 } w := by
  refine wp_region_vals (by kernel_rfl) od8_tab (by kernel_rfl) hl (fun W W' => Below W.heap.size W W') (fun _ => True) (od8_val b0 o0 m c0 i p q) (below_drew (Below.refl _ _)) trivial (fun _ _ _ h k => below_step h k) ?hst ⟨(fun j b h => by cases h), (fun j b h => by cases h), (fun j b h => by cases h), (fun j b h => by cases h), (fun j b h => by cases h), (fun j b h => by cases h), (fun j b h => by cases h), (fun j b h => by cases h), (fun j b h => by cases h), (fun j b h => by cases h), (fun j b h => by cases h), (fun j b h => by cases h), (fun j b h => by cases h), (fun j b h => by cases h), (fun j b h => by cases h), (fun j b h => by cases h), (fun j b h => by cases h), (fun j b h => by cases h), (fun j b h => by cases h), (fun j b h => by cases h), (fun j b h => by cases h), (fun j b h => by cases h), (fun j b h => by cases h), (fun j b h => by cases h), (fun j b h => by cases h), (fun j b h => by cases h), (fun j b h => by cases h), (fun j b h => by cases h), trivial⟩ ⟨?s0, ?s1, ?s2, ?s3, ?s4, ?s5, ?s6, ?s7, ?s8, ?s9, ?s10, ?s11, ?s12, ?s13, ?s14, ?s15, ?s16, ?s17, ?s18, ?s19, ?s20, ?s21, ?s22, ?s23, ?s24, ?s25, ?s26, ?s27, trivial⟩ ?hdone
  case hst =>
    intro j v W W' hJ hR h
    match j with
    | 0 => exact h
    | 1 => exact h
    | 2 => exact h
    | 3 => exact h
    | 4 => exact h
    | 5 => exact h
    | 6 => exact h
    | 7 => exact h
    | 8 => exact h
    | 9 => exact h
    | 10 => exact h
    | 11 => exact h
    | 12 => exact h
    | 13 => exact h
    | 14 => exact h
    | 15 => exact h
    | 16 => exact h
    | 17 => exact h
    | 18 => exact h
    | 19 => exact h
    | 20 => exact h
    | 21 => exact h
    | 22 => exact h
    | 23 => exact h
    | 24 => exact h
    | 25 => exact h
    | 26 => exact h
    | 27 => exact h
    | n + 28 => trivial

  case s0 =>
    intro ρ W hR hJ hT
    have q0 := hT.2.1 0 _ t0_ rfl
    refine Op1.of_run (v := .slice (some ⟨b0, o0, none⟩) m c0) (W' := W) (by clear hT hJ; go_simp) ⟨Below.refl _ _, trivial, rfl⟩

  case s1 =>
    intro ρ W hR hJ hT
    have q8 := hT.2.1 8 _ t8 rfl
    refine Op1.of_run (v := .int .i64 (i : Int)) (W' := W) (by clear hT hJ; go_simp) ⟨Below.refl _ _, trivial, rfl⟩

  case s2 =>
    intro ρ W hR hJ hT
    have q24 : ρ (.tmp 24) = .slice (some ⟨b0, o0, none⟩) m c0 := hT.1 24 0 rfl rfl
    have q25 : ρ (.tmp 25) = .int .i64 (i : Int) := hT.1 25 1 rfl rfl
    have i1 : (i : Int) < (m : Int) := by omega
    refine Op1.of_run (v := .pointer (some ⟨b0, o0 + i * 2, none⟩)) (W' := W) (by clear hT hJ; go_simp) ⟨Below.refl _ _, trivial, rfl⟩

  case s3 =>
    intro ρ W hR hJ hT
    have q26 : ρ (.tmp 26) = .pointer (some ⟨b0, o0 + i * 2, none⟩) := hT.1 26 2 rfl rfl
    have qc := hT.2.2.1 (Go.Value.int Go.IntKind.i64 0)
    refine Op1.of_run (v := .pointer (some ⟨b0, o0 + i * 2, none⟩)) (W' := W) (by clear hT hJ; go_simp) ⟨Below.refl _ _, trivial, rfl⟩

  case s4 =>
    intro ρ W hR hJ hT
    have q27 : ρ (.tmp 27) = .pointer (some ⟨b0, o0 + i * 2, none⟩) := hT.1 27 3 rfl rfl
    have cc := (hR.cell (World.block_lt_of_cell? _ _ k0)).trans k0
    refine Op1.of_run (v := .int .u16 p) (W' := W) (by clear hT hJ; go_simp) ⟨Below.refl _ _, trivial, rfl⟩

  case s5 =>
    intro ρ W hR hJ hT
    have q0 := hT.2.1 0 _ t0_ rfl
    refine Op1.of_run (v := .slice (some ⟨b0, o0, none⟩) m c0) (W' := W) (by clear hT hJ; go_simp) ⟨Below.refl _ _, trivial, rfl⟩

  case s6 =>
    intro ρ W hR hJ hT
    have q8 := hT.2.1 8 _ t8 rfl
    refine Op1.of_run (v := .int .i64 (i : Int)) (W' := W) (by clear hT hJ; go_simp) ⟨Below.refl _ _, trivial, rfl⟩

  case s7 =>
    intro ρ W hR hJ hT
    have q29 : ρ (.tmp 29) = .slice (some ⟨b0, o0, none⟩) m c0 := hT.1 29 5 rfl rfl
    have q30 : ρ (.tmp 30) = .int .i64 (i : Int) := hT.1 30 6 rfl rfl
    have i1 : (i : Int) < (m : Int) := by omega
    refine Op1.of_run (v := .pointer (some ⟨b0, o0 + i * 2, none⟩)) (W' := W) (by clear hT hJ; go_simp) ⟨Below.refl _ _, trivial, rfl⟩

  case s8 =>
    intro ρ W hR hJ hT
    have q31 : ρ (.tmp 31) = .pointer (some ⟨b0, o0 + i * 2, none⟩) := hT.1 31 7 rfl rfl
    have qc := hT.2.2.1 (Go.Value.int Go.IntKind.i64 1)
    refine Op1.of_run (v := .pointer (some ⟨b0, o0 + i * 2 + 1, none⟩)) (W' := W) (by clear hT hJ; go_simp) ⟨Below.refl _ _, trivial, rfl⟩

  case s9 =>
    intro ρ W hR hJ hT
    have q32 : ρ (.tmp 32) = .pointer (some ⟨b0, o0 + i * 2 + 1, none⟩) := hT.1 32 8 rfl rfl
    have cc := (hR.cell (World.block_lt_of_cell? _ _ k1)).trans k1
    refine Op1.of_run (v := .int .u16 q) (W' := W) (by clear hT hJ; go_simp) ⟨Below.refl _ _, trivial, rfl⟩

  case s10 =>
    intro ρ W hR hJ hT
    have q28 : ρ (.tmp 28) = .int .u16 p := hT.1 28 4 rfl rfl
    have q33 : ρ (.tmp 33) = .int .u16 q := hT.1 33 9 rfl rfl
    refine Op1.of_run (v := .int .u16 (lo2 p q)) (W' := W) (by clear hT hJ; unfold lo2; go_simp) ⟨Below.refl _ _, trivial, rfl⟩

  case s11 =>
    intro ρ W hR hJ hT
    have q34 : ρ (.tmp 34) = .int .u16 (lo2 p q) := hT.1 34 10 rfl rfl
    have qc := hT.2.2.1 (Go.Value.int Go.IntKind.u16 2000)
    have e1 : Int.tmod (lo2 p q) 2000 = lo2 p q % 2000 := lo2_rem hp hq
    refine Op1.of_run (v := .int .u16 (lo2 p q % 2000)) (W' := W) (by clear hT hJ; go_simp) ⟨Below.refl _ _, trivial, rfl⟩

  case s12 =>
    intro ρ W hR hJ hT
    have q35 : ρ (.tmp 35) = .int .u16 (lo2 p q % 2000) := hT.1 35 11 rfl rfl
    have e1 : IntKind.i64.wrap (lo2 p q % 2000) = lo2 p q % 2000 := IntWalk.i64_in _ (by omega)
    refine Op1.of_run (v := .int .i64 (lo2 p q % 2000)) (W' := W) (by clear hT hJ; go_simp) ⟨Below.refl _ _, trivial, rfl⟩

  case s13 =>
    intro ρ W hR hJ hT
    have q0 := hT.2.1 0 _ t0_ rfl
    refine Op1.of_run (v := .slice (some ⟨b0, o0, none⟩) m c0) (W' := W) (by clear hT hJ; go_simp) ⟨Below.refl _ _, trivial, rfl⟩

  case s14 =>
    intro ρ W hR hJ hT
    have q8 := hT.2.1 8 _ t8 rfl
    refine Op1.of_run (v := .int .i64 (i : Int)) (W' := W) (by clear hT hJ; go_simp) ⟨Below.refl _ _, trivial, rfl⟩

  case s15 =>
    intro ρ W hR hJ hT
    have q37 : ρ (.tmp 37) = .slice (some ⟨b0, o0, none⟩) m c0 := hT.1 37 13 rfl rfl
    have q38 : ρ (.tmp 38) = .int .i64 (i : Int) := hT.1 38 14 rfl rfl
    have i1 : (i : Int) < (m : Int) := by omega
    refine Op1.of_run (v := .pointer (some ⟨b0, o0 + i * 2, none⟩)) (W' := W) (by clear hT hJ; go_simp) ⟨Below.refl _ _, trivial, rfl⟩

  case s16 =>
    intro ρ W hR hJ hT
    have q39 : ρ (.tmp 39) = .pointer (some ⟨b0, o0 + i * 2, none⟩) := hT.1 39 15 rfl rfl
    have qc := hT.2.2.1 (Go.Value.int Go.IntKind.i64 0)
    refine Op1.of_run (v := .pointer (some ⟨b0, o0 + i * 2, none⟩)) (W' := W) (by clear hT hJ; go_simp) ⟨Below.refl _ _, trivial, rfl⟩

  case s17 =>
    intro ρ W hR hJ hT
    have q40 : ρ (.tmp 40) = .pointer (some ⟨b0, o0 + i * 2, none⟩) := hT.1 40 16 rfl rfl
    have cc := (hR.cell (World.block_lt_of_cell? _ _ k0)).trans k0
    refine Op1.of_run (v := .int .u16 p) (W' := W) (by clear hT hJ; go_simp) ⟨Below.refl _ _, trivial, rfl⟩

  case s18 =>
    intro ρ W hR hJ hT
    have q0 := hT.2.1 0 _ t0_ rfl
    refine Op1.of_run (v := .slice (some ⟨b0, o0, none⟩) m c0) (W' := W) (by clear hT hJ; go_simp) ⟨Below.refl _ _, trivial, rfl⟩

  case s19 =>
    intro ρ W hR hJ hT
    have q8 := hT.2.1 8 _ t8 rfl
    refine Op1.of_run (v := .int .i64 (i : Int)) (W' := W) (by clear hT hJ; go_simp) ⟨Below.refl _ _, trivial, rfl⟩

  case s20 =>
    intro ρ W hR hJ hT
    have q42 : ρ (.tmp 42) = .slice (some ⟨b0, o0, none⟩) m c0 := hT.1 42 18 rfl rfl
    have q43 : ρ (.tmp 43) = .int .i64 (i : Int) := hT.1 43 19 rfl rfl
    have i1 : (i : Int) < (m : Int) := by omega
    refine Op1.of_run (v := .pointer (some ⟨b0, o0 + i * 2, none⟩)) (W' := W) (by clear hT hJ; go_simp) ⟨Below.refl _ _, trivial, rfl⟩

  case s21 =>
    intro ρ W hR hJ hT
    have q44 : ρ (.tmp 44) = .pointer (some ⟨b0, o0 + i * 2, none⟩) := hT.1 44 20 rfl rfl
    have qc := hT.2.2.1 (Go.Value.int Go.IntKind.i64 1)
    refine Op1.of_run (v := .pointer (some ⟨b0, o0 + i * 2 + 1, none⟩)) (W' := W) (by clear hT hJ; go_simp) ⟨Below.refl _ _, trivial, rfl⟩

  case s22 =>
    intro ρ W hR hJ hT
    have q45 : ρ (.tmp 45) = .pointer (some ⟨b0, o0 + i * 2 + 1, none⟩) := hT.1 45 21 rfl rfl
    have cc := (hR.cell (World.block_lt_of_cell? _ _ k1)).trans k1
    refine Op1.of_run (v := .int .u16 q) (W' := W) (by clear hT hJ; go_simp) ⟨Below.refl _ _, trivial, rfl⟩

  case s23 =>
    intro ρ W hR hJ hT
    have q41 : ρ (.tmp 41) = .int .u16 p := hT.1 41 17 rfl rfl
    have q46 : ρ (.tmp 46) = .int .u16 q := hT.1 46 22 rfl rfl
    refine Op1.of_run (v := .int .u16 (hi2 p q)) (W' := W) (by clear hT hJ; unfold hi2; go_simp) ⟨Below.refl _ _, trivial, rfl⟩

  case s24 =>
    intro ρ W hR hJ hT
    have q47 : ρ (.tmp 47) = .int .u16 (hi2 p q) := hT.1 47 23 rfl rfl
    have qc := hT.2.2.1 (Go.Value.int Go.IntKind.u16 2000)
    have e1 : Int.tmod (hi2 p q) 2000 = hi2 p q % 2000 := hi2_rem hp hq
    refine Op1.of_run (v := .int .u16 (hi2 p q % 2000)) (W' := W) (by clear hT hJ; go_simp) ⟨Below.refl _ _, trivial, rfl⟩

  case s25 =>
    intro ρ W hR hJ hT
    have q48 : ρ (.tmp 48) = .int .u16 (hi2 p q % 2000) := hT.1 48 24 rfl rfl
    have e1 : IntKind.i64.wrap (hi2 p q % 2000) = hi2 p q % 2000 := IntWalk.i64_in _ (by omega)
    refine Op1.of_run (v := .int .i64 (hi2 p q % 2000)) (W' := W) (by clear hT hJ; go_simp) ⟨Below.refl _ _, trivial, rfl⟩

  case s26 =>
    intro ρ W hR hJ hT
    have q36 : ρ (.tmp 36) = .int .i64 (lo2 p q % 2000) := hT.1 36 12 rfl rfl
    refine Op1.of_run (v := .int .i64 (lo2 p q % 2000)) (W' := W) (by clear hT hJ; go_simp) ⟨Below.refl _ _, trivial, rfl⟩

  case s27 =>
    intro ρ W hR hJ hT
    have q49 : ρ (.tmp 49) = .int .i64 (hi2 p q % 2000) := hT.1 49 25 rfl rfl
    refine Op1.of_run (v := .int .i64 (hi2 p q % 2000)) (W' := W) (by clear hT hJ; go_simp) ⟨Below.refl _ _, trivial, rfl⟩

  case hdone =>
    intro σ W hR hJ hV
    exact hQ σ W hR ⟨hV 26 (by decide), hV 27 (by decide)⟩
abbrev od13_ops : List Oper := [{ dst := some 75, op := .move (.tmp 0), type := 22, pos := "own.go:23", after := #[], guard := none },
  { dst := some 76, op := .move (.tmp 11), type := 3, pos := "own.go:23", after := #[], guard := none },
  { dst := some 77, op := .indexAddr 22 (.tmp 75) (.tmp 76), type := 0, pos := "own.go:23", after := #[⟨0, .data⟩, ⟨1, .data⟩], guard := none },
  { dst := some 78, op := .indexAddr 28 (.tmp 77) (.const (.int .i64 0)), type := 0, pos := "own.go:23", after := #[⟨2, .data⟩], guard := none },
  { dst := some 79, op := .load 27 (.tmp 78), type := 27, pos := "own.go:23", after := #[⟨3, .data⟩], guard := none },
  { dst := some 80, op := .move (.tmp 0), type := 22, pos := "own.go:23", after := #[], guard := none },
  { dst := some 81, op := .move (.tmp 11), type := 3, pos := "own.go:23", after := #[], guard := none },
  { dst := some 82, op := .indexAddr 22 (.tmp 80) (.tmp 81), type := 0, pos := "own.go:23", after := #[⟨5, .data⟩, ⟨6, .data⟩], guard := none },
  { dst := some 83, op := .indexAddr 28 (.tmp 82) (.const (.int .i64 1)), type := 0, pos := "own.go:23", after := #[⟨7, .data⟩], guard := none },
  { dst := some 84, op := .load 27 (.tmp 83), type := 27, pos := "own.go:23", after := #[⟨8, .data⟩], guard := none },
  { dst := some 85, op := .call { callee := .builtin .min, args := #[.tmp 79, .tmp 84], argTypes := #[27, 27] }, type := 27, pos := "own.go:23", after := #[⟨4, .data⟩, ⟨9, .data⟩], guard := none },
  { dst := some 86, op := .binOp .rem 27 (.tmp 85) (.const (.int .u16 2000)) 27, type := 27, pos := "own.go:23", after := #[⟨10, .data⟩], guard := none },
  { dst := some 87, op := .convert 27 3 (.tmp 86), type := 3, pos := "own.go:23", after := #[⟨11, .data⟩], guard := none },
  { dst := some 88, op := .move (.tmp 0), type := 22, pos := "own.go:23", after := #[], guard := none },
  { dst := some 89, op := .move (.tmp 11), type := 3, pos := "own.go:23", after := #[], guard := none },
  { dst := some 90, op := .indexAddr 22 (.tmp 88) (.tmp 89), type := 0, pos := "own.go:23", after := #[⟨13, .data⟩, ⟨14, .data⟩], guard := none },
  { dst := some 91, op := .indexAddr 28 (.tmp 90) (.const (.int .i64 0)), type := 0, pos := "own.go:23", after := #[⟨15, .data⟩], guard := none },
  { dst := some 92, op := .load 27 (.tmp 91), type := 27, pos := "own.go:23", after := #[⟨16, .data⟩], guard := none },
  { dst := some 93, op := .move (.tmp 0), type := 22, pos := "own.go:23", after := #[], guard := none },
  { dst := some 94, op := .move (.tmp 11), type := 3, pos := "own.go:23", after := #[], guard := none },
  { dst := some 95, op := .indexAddr 22 (.tmp 93) (.tmp 94), type := 0, pos := "own.go:23", after := #[⟨18, .data⟩, ⟨19, .data⟩], guard := none },
  { dst := some 96, op := .indexAddr 28 (.tmp 95) (.const (.int .i64 1)), type := 0, pos := "own.go:23", after := #[⟨20, .data⟩], guard := none },
  { dst := some 97, op := .load 27 (.tmp 96), type := 27, pos := "own.go:23", after := #[⟨21, .data⟩], guard := none },
  { dst := some 98, op := .call { callee := .builtin .max, args := #[.tmp 92, .tmp 97], argTypes := #[27, 27] }, type := 27, pos := "own.go:23", after := #[⟨17, .data⟩, ⟨22, .data⟩], guard := none },
  { dst := some 99, op := .binOp .rem 27 (.tmp 98) (.const (.int .u16 2000)) 27, type := 27, pos := "own.go:23", after := #[⟨23, .data⟩, ⟨26, .gcOnly .lateStores⟩], guard := none },
  { dst := some 100, op := .convert 27 3 (.tmp 99), type := 3, pos := "own.go:23", after := #[⟨24, .data⟩, ⟨26, .gcOnly .lateStores⟩], guard := none },
  { dst := some 9, op := .assign (.tmp 87), type := 3, pos := "own.go:23", after := #[⟨12, .data⟩, ⟨0, .phase⟩, ⟨1, .phase⟩, ⟨2, .phase⟩, ⟨3, .phase⟩, ⟨4, .phase⟩, ⟨5, .phase⟩, ⟨6, .phase⟩, ⟨7, .phase⟩, ⟨8, .phase⟩, ⟨9, .phase⟩, ⟨10, .phase⟩, ⟨11, .phase⟩, ⟨12, .phase⟩, ⟨13, .textOnly .lateStores⟩, ⟨14, .textOnly .lateStores⟩, ⟨15, .textOnly .lateStores⟩, ⟨16, .textOnly .lateStores⟩, ⟨17, .textOnly .lateStores⟩, ⟨18, .textOnly .lateStores⟩, ⟨19, .textOnly .lateStores⟩, ⟨20, .textOnly .lateStores⟩, ⟨21, .textOnly .lateStores⟩, ⟨22, .textOnly .lateStores⟩, ⟨23, .textOnly .lateStoresUnsure⟩, ⟨24, .textOnly .lateStores⟩, ⟨25, .textOnly .lateStores⟩], guard := none },
  { dst := some 10, op := .assign (.tmp 100), type := 3, pos := "own.go:23", after := #[⟨25, .data⟩, ⟨26, .chain⟩, ⟨0, .phase⟩, ⟨1, .phase⟩, ⟨2, .phase⟩, ⟨3, .phase⟩, ⟨4, .phase⟩, ⟨5, .phase⟩, ⟨6, .phase⟩, ⟨7, .phase⟩, ⟨8, .phase⟩, ⟨9, .phase⟩, ⟨10, .phase⟩, ⟨11, .phase⟩, ⟨12, .phase⟩, ⟨13, .phase⟩, ⟨14, .phase⟩, ⟨15, .phase⟩, ⟨16, .phase⟩, ⟨17, .phase⟩, ⟨18, .phase⟩, ⟨19, .phase⟩, ⟨20, .phase⟩, ⟨21, .phase⟩, ⟨22, .phase⟩, ⟨23, .phase⟩, ⟨24, .phase⟩, ⟨25, .phase⟩, ⟨26, .phase⟩], guard := none }]
abbrev od13_tab : List (Option Nat) := [none, none, none, none, none, none, none, none, none, some 26, some 27, none, none, none, none, none, none, none, none, none, none, none, none, none, none, none, none, none, none, none, none, none, none, none, none, none, none, none, none, none, none, none, none, none, none, none, none, none, none, none, none, none, none, none, none, none, none, none, none, none, none, none, none, none, none, none, none, none, none, none, none, none, none, none, none, some 0, some 1, some 2, some 3, some 4, some 5, some 6, some 7, some 8, some 9, some 10, some 11, some 12, some 13, some 14, some 15, some 16, some 17, some 18, some 19, some 20, some 21, some 22, some 23, some 24, some 25, none, none, none, none, none, none, none, none, none, none, none, none, none, none, none, none, none, none, none, none, none, none, none, none, none, none, none]

def od13_val (b0 o0 m c0 i : Nat) (p q : Int) : Nat → Value → World → Prop := fun j v W => match j with
  | 0 => v = .slice (some ⟨b0, o0, none⟩) m c0
  | 1 => v = .int .i64 (i : Int)
  | 2 => v = .pointer (some ⟨b0, o0 + i * 2, none⟩)
  | 3 => v = .pointer (some ⟨b0, o0 + i * 2, none⟩)
  | 4 => v = .int .u16 p
  | 5 => v = .slice (some ⟨b0, o0, none⟩) m c0
  | 6 => v = .int .i64 (i : Int)
  | 7 => v = .pointer (some ⟨b0, o0 + i * 2, none⟩)
  | 8 => v = .pointer (some ⟨b0, o0 + i * 2 + 1, none⟩)
  | 9 => v = .int .u16 q
  | 10 => v = .int .u16 (lo2 p q)
  | 11 => v = .int .u16 (lo2 p q % 2000)
  | 12 => v = .int .i64 (lo2 p q % 2000)
  | 13 => v = .slice (some ⟨b0, o0, none⟩) m c0
  | 14 => v = .int .i64 (i : Int)
  | 15 => v = .pointer (some ⟨b0, o0 + i * 2, none⟩)
  | 16 => v = .pointer (some ⟨b0, o0 + i * 2, none⟩)
  | 17 => v = .int .u16 p
  | 18 => v = .slice (some ⟨b0, o0, none⟩) m c0
  | 19 => v = .int .i64 (i : Int)
  | 20 => v = .pointer (some ⟨b0, o0 + i * 2, none⟩)
  | 21 => v = .pointer (some ⟨b0, o0 + i * 2 + 1, none⟩)
  | 22 => v = .int .u16 q
  | 23 => v = .int .u16 (hi2 p q)
  | 24 => v = .int .u16 (hi2 p q % 2000)
  | 25 => v = .int .i64 (hi2 p q % 2000)
  | 26 => v = .int .i64 (lo2 p q % 2000)
  | 27 => v = .int .i64 (hi2 p q % 2000)
  | _ => True

set_option maxRecDepth 100000 in
set_option maxHeartbeats 4000000 in
theorem Order_r13 (b0 o0 m c0 i : Nat) (p q : Int) (t0 : List Value) (d0 : List Deferred) (w : World) (Q : Exit → Act → World → Prop) (hl : t0.length = od13_tab.length)
    (t0_ : t0[0]? = some (.slice (some ⟨b0, o0, none⟩) m c0)) (t11 : t0[11]? = some (.int .i64 (i : Int))) (hi : i < m)
    (k0 : w.cell? ⟨b0, o0 + i * 2, none⟩ = some (.int .u16 p)) (k1 : w.cell? ⟨b0, o0 + i * 2 + 1, none⟩ = some (.int .u16 q)) (hp : 0 ≤ p ∧ p < 65536) (hq : 0 ≤ q ∧ q < 65536)
    (hQ : ∀ σ W, Below w.heap.size w W → σ 26 = .int .i64 (lo2 p q % 2000) ∧ σ 27 = .int .i64 (hi2 p q % 2000) → Q .normal (lazyA (fun _ => true) σ t0 od13_tab d0) W) :
    (Code.region 13 od13_ops.toArray true).wp Try.prog Q { tmps := t0.toArray, defers := d0 } w := by
  refine wp_region_vals (by kernel_rfl) od13_tab (by kernel_rfl) hl (fun W W' => Below W.heap.size W W') (fun _ => True) (od13_val b0 o0 m c0 i p q) (below_drew (Below.refl _ _)) trivial (fun _ _ _ h k => below_step h k) ?hst ⟨(fun j b h => by cases h), (fun j b h => by cases h), (fun j b h => by cases h), (fun j b h => by cases h), (fun j b h => by cases h), (fun j b h => by cases h), (fun j b h => by cases h), (fun j b h => by cases h), (fun j b h => by cases h), (fun j b h => by cases h), (fun j b h => by cases h), (fun j b h => by cases h), (fun j b h => by cases h), (fun j b h => by cases h), (fun j b h => by cases h), (fun j b h => by cases h), (fun j b h => by cases h), (fun j b h => by cases h), (fun j b h => by cases h), (fun j b h => by cases h), (fun j b h => by cases h), (fun j b h => by cases h), (fun j b h => by cases h), (fun j b h => by cases h), (fun j b h => by cases h), (fun j b h => by cases h), (fun j b h => by cases h), (fun j b h => by cases h), trivial⟩ ⟨?s0, ?s1, ?s2, ?s3, ?s4, ?s5, ?s6, ?s7, ?s8, ?s9, ?s10, ?s11, ?s12, ?s13, ?s14, ?s15, ?s16, ?s17, ?s18, ?s19, ?s20, ?s21, ?s22, ?s23, ?s24, ?s25, ?s26, ?s27, trivial⟩ ?hdone
  case hst =>
    intro j v W W' hJ hR h
    match j with
    | 0 => exact h
    | 1 => exact h
    | 2 => exact h
    | 3 => exact h
    | 4 => exact h
    | 5 => exact h
    | 6 => exact h
    | 7 => exact h
    | 8 => exact h
    | 9 => exact h
    | 10 => exact h
    | 11 => exact h
    | 12 => exact h
    | 13 => exact h
    | 14 => exact h
    | 15 => exact h
    | 16 => exact h
    | 17 => exact h
    | 18 => exact h
    | 19 => exact h
    | 20 => exact h
    | 21 => exact h
    | 22 => exact h
    | 23 => exact h
    | 24 => exact h
    | 25 => exact h
    | 26 => exact h
    | 27 => exact h
    | n + 28 => trivial

  case s0 =>
    intro ρ W hR hJ hT
    have q0 := hT.2.1 0 _ t0_ rfl
    refine Op1.of_run (v := .slice (some ⟨b0, o0, none⟩) m c0) (W' := W) (by clear hT hJ; go_simp) ⟨Below.refl _ _, trivial, rfl⟩

  case s1 =>
    intro ρ W hR hJ hT
    have q11 := hT.2.1 11 _ t11 rfl
    refine Op1.of_run (v := .int .i64 (i : Int)) (W' := W) (by clear hT hJ; go_simp) ⟨Below.refl _ _, trivial, rfl⟩

  case s2 =>
    intro ρ W hR hJ hT
    have q75 : ρ (.tmp 75) = .slice (some ⟨b0, o0, none⟩) m c0 := hT.1 75 0 rfl rfl
    have q76 : ρ (.tmp 76) = .int .i64 (i : Int) := hT.1 76 1 rfl rfl
    have i1 : (i : Int) < (m : Int) := by omega
    refine Op1.of_run (v := .pointer (some ⟨b0, o0 + i * 2, none⟩)) (W' := W) (by clear hT hJ; go_simp) ⟨Below.refl _ _, trivial, rfl⟩

  case s3 =>
    intro ρ W hR hJ hT
    have q77 : ρ (.tmp 77) = .pointer (some ⟨b0, o0 + i * 2, none⟩) := hT.1 77 2 rfl rfl
    have qc := hT.2.2.1 (Go.Value.int Go.IntKind.i64 0)
    refine Op1.of_run (v := .pointer (some ⟨b0, o0 + i * 2, none⟩)) (W' := W) (by clear hT hJ; go_simp) ⟨Below.refl _ _, trivial, rfl⟩

  case s4 =>
    intro ρ W hR hJ hT
    have q78 : ρ (.tmp 78) = .pointer (some ⟨b0, o0 + i * 2, none⟩) := hT.1 78 3 rfl rfl
    have cc := (hR.cell (World.block_lt_of_cell? _ _ k0)).trans k0
    refine Op1.of_run (v := .int .u16 p) (W' := W) (by clear hT hJ; go_simp) ⟨Below.refl _ _, trivial, rfl⟩

  case s5 =>
    intro ρ W hR hJ hT
    have q0 := hT.2.1 0 _ t0_ rfl
    refine Op1.of_run (v := .slice (some ⟨b0, o0, none⟩) m c0) (W' := W) (by clear hT hJ; go_simp) ⟨Below.refl _ _, trivial, rfl⟩

  case s6 =>
    intro ρ W hR hJ hT
    have q11 := hT.2.1 11 _ t11 rfl
    refine Op1.of_run (v := .int .i64 (i : Int)) (W' := W) (by clear hT hJ; go_simp) ⟨Below.refl _ _, trivial, rfl⟩

  case s7 =>
    intro ρ W hR hJ hT
    have q80 : ρ (.tmp 80) = .slice (some ⟨b0, o0, none⟩) m c0 := hT.1 80 5 rfl rfl
    have q81 : ρ (.tmp 81) = .int .i64 (i : Int) := hT.1 81 6 rfl rfl
    have i1 : (i : Int) < (m : Int) := by omega
    refine Op1.of_run (v := .pointer (some ⟨b0, o0 + i * 2, none⟩)) (W' := W) (by clear hT hJ; go_simp) ⟨Below.refl _ _, trivial, rfl⟩

  case s8 =>
    intro ρ W hR hJ hT
    have q82 : ρ (.tmp 82) = .pointer (some ⟨b0, o0 + i * 2, none⟩) := hT.1 82 7 rfl rfl
    have qc := hT.2.2.1 (Go.Value.int Go.IntKind.i64 1)
    refine Op1.of_run (v := .pointer (some ⟨b0, o0 + i * 2 + 1, none⟩)) (W' := W) (by clear hT hJ; go_simp) ⟨Below.refl _ _, trivial, rfl⟩

  case s9 =>
    intro ρ W hR hJ hT
    have q83 : ρ (.tmp 83) = .pointer (some ⟨b0, o0 + i * 2 + 1, none⟩) := hT.1 83 8 rfl rfl
    have cc := (hR.cell (World.block_lt_of_cell? _ _ k1)).trans k1
    refine Op1.of_run (v := .int .u16 q) (W' := W) (by clear hT hJ; go_simp) ⟨Below.refl _ _, trivial, rfl⟩

  case s10 =>
    intro ρ W hR hJ hT
    have q79 : ρ (.tmp 79) = .int .u16 p := hT.1 79 4 rfl rfl
    have q84 : ρ (.tmp 84) = .int .u16 q := hT.1 84 9 rfl rfl
    refine Op1.of_run (v := .int .u16 (lo2 p q)) (W' := W) (by clear hT hJ; unfold lo2; go_simp) ⟨Below.refl _ _, trivial, rfl⟩

  case s11 =>
    intro ρ W hR hJ hT
    have q85 : ρ (.tmp 85) = .int .u16 (lo2 p q) := hT.1 85 10 rfl rfl
    have qc := hT.2.2.1 (Go.Value.int Go.IntKind.u16 2000)
    have e1 : Int.tmod (lo2 p q) 2000 = lo2 p q % 2000 := lo2_rem hp hq
    refine Op1.of_run (v := .int .u16 (lo2 p q % 2000)) (W' := W) (by clear hT hJ; go_simp) ⟨Below.refl _ _, trivial, rfl⟩

  case s12 =>
    intro ρ W hR hJ hT
    have q86 : ρ (.tmp 86) = .int .u16 (lo2 p q % 2000) := hT.1 86 11 rfl rfl
    have e1 : IntKind.i64.wrap (lo2 p q % 2000) = lo2 p q % 2000 := IntWalk.i64_in _ (by omega)
    refine Op1.of_run (v := .int .i64 (lo2 p q % 2000)) (W' := W) (by clear hT hJ; go_simp) ⟨Below.refl _ _, trivial, rfl⟩

  case s13 =>
    intro ρ W hR hJ hT
    have q0 := hT.2.1 0 _ t0_ rfl
    refine Op1.of_run (v := .slice (some ⟨b0, o0, none⟩) m c0) (W' := W) (by clear hT hJ; go_simp) ⟨Below.refl _ _, trivial, rfl⟩

  case s14 =>
    intro ρ W hR hJ hT
    have q11 := hT.2.1 11 _ t11 rfl
    refine Op1.of_run (v := .int .i64 (i : Int)) (W' := W) (by clear hT hJ; go_simp) ⟨Below.refl _ _, trivial, rfl⟩

  case s15 =>
    intro ρ W hR hJ hT
    have q88 : ρ (.tmp 88) = .slice (some ⟨b0, o0, none⟩) m c0 := hT.1 88 13 rfl rfl
    have q89 : ρ (.tmp 89) = .int .i64 (i : Int) := hT.1 89 14 rfl rfl
    have i1 : (i : Int) < (m : Int) := by omega
    refine Op1.of_run (v := .pointer (some ⟨b0, o0 + i * 2, none⟩)) (W' := W) (by clear hT hJ; go_simp) ⟨Below.refl _ _, trivial, rfl⟩

  case s16 =>
    intro ρ W hR hJ hT
    have q90 : ρ (.tmp 90) = .pointer (some ⟨b0, o0 + i * 2, none⟩) := hT.1 90 15 rfl rfl
    have qc := hT.2.2.1 (Go.Value.int Go.IntKind.i64 0)
    refine Op1.of_run (v := .pointer (some ⟨b0, o0 + i * 2, none⟩)) (W' := W) (by clear hT hJ; go_simp) ⟨Below.refl _ _, trivial, rfl⟩

  case s17 =>
    intro ρ W hR hJ hT
    have q91 : ρ (.tmp 91) = .pointer (some ⟨b0, o0 + i * 2, none⟩) := hT.1 91 16 rfl rfl
    have cc := (hR.cell (World.block_lt_of_cell? _ _ k0)).trans k0
    refine Op1.of_run (v := .int .u16 p) (W' := W) (by clear hT hJ; go_simp) ⟨Below.refl _ _, trivial, rfl⟩

  case s18 =>
    intro ρ W hR hJ hT
    have q0 := hT.2.1 0 _ t0_ rfl
    refine Op1.of_run (v := .slice (some ⟨b0, o0, none⟩) m c0) (W' := W) (by clear hT hJ; go_simp) ⟨Below.refl _ _, trivial, rfl⟩

  case s19 =>
    intro ρ W hR hJ hT
    have q11 := hT.2.1 11 _ t11 rfl
    refine Op1.of_run (v := .int .i64 (i : Int)) (W' := W) (by clear hT hJ; go_simp) ⟨Below.refl _ _, trivial, rfl⟩

  case s20 =>
    intro ρ W hR hJ hT
    have q93 : ρ (.tmp 93) = .slice (some ⟨b0, o0, none⟩) m c0 := hT.1 93 18 rfl rfl
    have q94 : ρ (.tmp 94) = .int .i64 (i : Int) := hT.1 94 19 rfl rfl
    have i1 : (i : Int) < (m : Int) := by omega
    refine Op1.of_run (v := .pointer (some ⟨b0, o0 + i * 2, none⟩)) (W' := W) (by clear hT hJ; go_simp) ⟨Below.refl _ _, trivial, rfl⟩

  case s21 =>
    intro ρ W hR hJ hT
    have q95 : ρ (.tmp 95) = .pointer (some ⟨b0, o0 + i * 2, none⟩) := hT.1 95 20 rfl rfl
    have qc := hT.2.2.1 (Go.Value.int Go.IntKind.i64 1)
    refine Op1.of_run (v := .pointer (some ⟨b0, o0 + i * 2 + 1, none⟩)) (W' := W) (by clear hT hJ; go_simp) ⟨Below.refl _ _, trivial, rfl⟩

  case s22 =>
    intro ρ W hR hJ hT
    have q96 : ρ (.tmp 96) = .pointer (some ⟨b0, o0 + i * 2 + 1, none⟩) := hT.1 96 21 rfl rfl
    have cc := (hR.cell (World.block_lt_of_cell? _ _ k1)).trans k1
    refine Op1.of_run (v := .int .u16 q) (W' := W) (by clear hT hJ; go_simp) ⟨Below.refl _ _, trivial, rfl⟩

  case s23 =>
    intro ρ W hR hJ hT
    have q92 : ρ (.tmp 92) = .int .u16 p := hT.1 92 17 rfl rfl
    have q97 : ρ (.tmp 97) = .int .u16 q := hT.1 97 22 rfl rfl
    refine Op1.of_run (v := .int .u16 (hi2 p q)) (W' := W) (by clear hT hJ; unfold hi2; go_simp) ⟨Below.refl _ _, trivial, rfl⟩

  case s24 =>
    intro ρ W hR hJ hT
    have q98 : ρ (.tmp 98) = .int .u16 (hi2 p q) := hT.1 98 23 rfl rfl
    have qc := hT.2.2.1 (Go.Value.int Go.IntKind.u16 2000)
    have e1 : Int.tmod (hi2 p q) 2000 = hi2 p q % 2000 := hi2_rem hp hq
    refine Op1.of_run (v := .int .u16 (hi2 p q % 2000)) (W' := W) (by clear hT hJ; go_simp) ⟨Below.refl _ _, trivial, rfl⟩

  case s25 =>
    intro ρ W hR hJ hT
    have q99 : ρ (.tmp 99) = .int .u16 (hi2 p q % 2000) := hT.1 99 24 rfl rfl
    have e1 : IntKind.i64.wrap (hi2 p q % 2000) = hi2 p q % 2000 := IntWalk.i64_in _ (by omega)
    refine Op1.of_run (v := .int .i64 (hi2 p q % 2000)) (W' := W) (by clear hT hJ; go_simp) ⟨Below.refl _ _, trivial, rfl⟩

  case s26 =>
    intro ρ W hR hJ hT
    have q87 : ρ (.tmp 87) = .int .i64 (lo2 p q % 2000) := hT.1 87 12 rfl rfl
    refine Op1.of_run (v := .int .i64 (lo2 p q % 2000)) (W' := W) (by clear hT hJ; go_simp) ⟨Below.refl _ _, trivial, rfl⟩

  case s27 =>
    intro ρ W hR hJ hT
    have q100 : ρ (.tmp 100) = .int .i64 (hi2 p q % 2000) := hT.1 100 25 rfl rfl
    refine Op1.of_run (v := .int .i64 (hi2 p q % 2000)) (W' := W) (by clear hT hJ; go_simp) ⟨Below.refl _ _, trivial, rfl⟩

  case hdone =>
    intro σ W hR hJ hV
    exact hQ σ W hR ⟨hV 26 (by decide), hV 27 (by decide)⟩
end Go.Proofs.Ytiladcdogbeomaa.QRangesPlays

namespace Go.Proofs.Ytiladcdogbeomaa.QRangesPlays
open Go.RowKit Go.Shelf Go.Proofs.YtiladcdogbeomaaW.PrintWords Go.Proofs.YtiladcdogbeomaaW.PrintLast Go.Proofs.YtiladcdogbeomaaW.PrintMore Go.Proofs.Ytiladcdogbeomaa.RowLaws Go.Proofs.Ytiladcdogbeomaa.Lazy
attribute [local go_sem] Oper.semAt_some
def PairRow (W : World) (A : Option Addr) (xs : List (Int × Int)) : Prop :=
  ∀ i (h : i < xs.length), ∃ b o, A = some ⟨b, o, none⟩ ∧ W.cell? ⟨b, o + i * 2, none⟩ = some (.int .u16 xs[i].1) ∧ W.cell? ⟨b, o + i * 2 + 1, none⟩ = some (.int .u16 xs[i].2)
def PairsOk (xs : List (Int × Int)) : Prop := ∀ x ∈ xs, (0 ≤ x.1 ∧ x.1 < 65536) ∧ (0 ≤ x.2 ∧ x.2 < 65536)
abbrev plo (x : Int × Int) : Int := lo2 x.1 x.2 % 2000
abbrev phi (x : Int × Int) : Int := hi2 x.1 x.2 % 2000
/-- A number stands in one of the spans told by places for which P holds. -/
def inP (xs : List (Int × Int)) (P : Nat → Prop) (n : Int) : Prop := ∃ j, ∃ h : j < xs.length, P j ∧ plo xs[j] ≤ n ∧ n ≤ phi xs[j]
/-- What a round does to a set. -/
def ordS (f t : Int) (l : List S95) : List S95 := if f ≤ t then ins f t l else l
theorem ord_wf {x : Int × Int} {l : List S95} (h : wf 0 l) : wf 0 (ordS (plo x) (phi x) l) := by
  unfold ordS
  split
  · exact wf_ins (by show (0 : Int) ≤ lo2 x.1 x.2 % 2000; omega) ‹_› (by show hi2 x.1 x.2 % 2000 ≤ 1099511627776; omega) h
  · exact h
theorem ord_has {f t : Int} {l : List S95} (h : wf 0 l) (n : Int) : has (ordS f t l) n ↔ (f ≤ n ∧ n ≤ t) ∨ has l n := by
  unfold ordS
  split
  · exact has_ins n h ‹_›
  · constructor
    · exact .inr
    · rintro (h | h)
      · omega
      · exact h
theorem inP_step {xs : List (Int × Int)} {P P' : Nat → Prop} {j : Nat} (hj : j < xs.length) (hP : ∀ i, P' i ↔ P i ∨ i = j) (n : Int) : inP xs P' n ↔ (plo xs[j] ≤ n ∧ n ≤ phi xs[j]) ∨ inP xs P n := by
  constructor
  · rintro ⟨i, hi, h1, h2⟩
    rcases (hP i).1 h1 with h | rfl
    · exact .inr ⟨i, hi, h, h2⟩
    · exact .inl h2
  · rintro (h | ⟨i, hi, h1, h2⟩)
    · exact ⟨j, hj, (hP j).2 (.inr rfl), h⟩
    · exact ⟨i, hi, (hP i).2 (.inl h1), h2⟩
/-- Both sets behind i rounds. -/
structure OrdW (g1 g2 : Nat) (N : Int) (xs : List (Int × Int)) (w : World) (i : Nat) (b : Bool) (la lb : List S95) (W : World) : Prop where
  s1 : SetAt W g1 la
  s2 : SetAt W g2 lb
  w1 : wf 0 la
  w2 : wf 0 lb
  h1 : ∀ n, has la n ↔ inP xs (fun j => j < i) n
  h2 : ∀ n, has lb n ↔ inP xs (fun j => xs.length ≤ j + i) n
  hb : b = true ↔ inP xs (fun j => j < i) N
  hB : Below w.heap.size w W
section
variable {g1 g2 : Nat} {N : Int} {xs : List (Int × Int)} {w W W' : World} {i : Nat} {b : Bool} {la lb : List S95}
theorem OrdW.below (h : OrdW g1 g2 N xs w i b la lb W) (hb : Below W.heap.size W W') : OrdW g1 g2 N xs w i b la lb W' := ⟨h.s1.below hb, h.s2.below hb, h.w1, h.w2, h.h1, h.h2, h.hb, below_step h.hB hb⟩
end
theorem ord_add {x : Int × Int} {l : List S95} (h : plo x ≤ phi x) : addL (plo x) (phi x) l = ordS (plo x) (phi x) l := by
  have hm : may (plo x) (phi x) = true := by
    have h1 : (0 : Int) ≤ plo x := by show (0 : Int) ≤ lo2 x.1 x.2 % 2000; omega
    have h2 : phi x ≤ 1099511627776 := by show hi2 x.1 x.2 % 2000 ≤ 1099511627776; omega
    unfold may; simp [h1, h, h2]
  unfold addL ordS
  rw [if_pos hm, if_pos h]
theorem ord_no {x : Int × Int} {l : List S95} (h : ¬ plo x ≤ phi x) : ordS (plo x) (phi x) l = l := by unfold ordS; rw [if_neg h]
theorem OrdW.next {g1 g2 : Nat} {N : Int} {xs : List (Int × Int)} {w W W' : World} {i K : Nat} {b b' : Bool} {la lb : List S95} (h : OrdW g1 g2 N xs w i b la lb W) (hi : i < xs.length) (hk : K < xs.length) (hK : xs.length - 1 - i = K)
    (s1 : SetAt W' g1 (ordS (plo xs[i]) (phi xs[i]) la)) (s2 : SetAt W' g2 (ordS (plo xs[K]) (phi xs[K]) lb)) (hb : b' = true ↔ (plo xs[i] ≤ N ∧ N ≤ phi xs[i]) ∨ b = true) (hB : Below w.heap.size w W') :
    OrdW g1 g2 N xs w (i + 1) b' (ordS (plo xs[i]) (phi xs[i]) la) (ordS (plo xs[K]) (phi xs[K]) lb) W' := by
  refine ⟨s1, s2, ord_wf h.w1, ord_wf h.w2, fun n => ?_, fun n => ?_, ?_, hB⟩
  · rw [ord_has h.w1, h.h1 n, inP_step hi (P := fun j => j < i) (P' := fun j => j < i + 1) (fun q => by omega)]
  · rw [ord_has h.w2, h.h2 n, inP_step hk (P := fun j => xs.length ≤ j + i) (P' := fun j => xs.length ≤ j + (i + 1)) (fun q => by omega)]
  · rw [hb, h.hb, inP_step hi (P := fun j => j < i) (P' := fun j => j < i + 1) (fun q => by omega)]
theorem ord_add' {x : Int × Int} {f t : Int} {l : List S95} (hf : plo x = f) (ht : phi x = t) (h : f ≤ t) : addL f t l = ordS f t l := by subst hf; subst ht; exact ord_add h
theorem ord_no' {f t : Int} {l : List S95} (h : ¬ f ≤ t) : ordS f t l = l := by unfold ordS; rw [if_neg h]
theorem OrdW.next' {g1 g2 : Nat} {N : Int} {xs : List (Int × Int)} {w W W' : World} {i K : Nat} {b b' : Bool} {la lb : List S95} {f1 t1 f2 t2 : Int} (h : OrdW g1 g2 N xs w i b la lb W) (hi : i < xs.length) (hk : K < xs.length) (hK : xs.length - 1 - i = K)
    (hf1 : plo xs[i] = f1) (ht1 : phi xs[i] = t1) (hf2 : plo xs[K] = f2) (ht2 : phi xs[K] = t2)
    (s1 : SetAt W' g1 (ordS f1 t1 la)) (s2 : SetAt W' g2 (ordS f2 t2 lb)) (hb : b' = true ↔ (f1 ≤ N ∧ N ≤ t1) ∨ b = true) (hB : Below w.heap.size w W') :
    OrdW g1 g2 N xs w (i + 1) b' (ordS f1 t1 la) (ordS f2 t2 lb) W' := by
  subst hf1; subst ht1; subst hf2; subst ht2
  exact h.next hi hk hK s1 s2 hb hB
/-- A set, when another one is written. -/
theorem SetAt.other {g g' : Nat} {l l' : List S95} {W W' : World} (h : SetAt W g l) (k : SetAt W g' l') (ho : Only g' W W') (hne : g ≠ g') : SetAt W' g l := by
  have hl := h.lt
  obtain ⟨sv, h1, h2⟩ := h
  refine ⟨sv, (ho.block g hl (by intro e; injection e; exact hne ‹_›)).trans h1, ?_⟩
  rcases h2 with h2 | ⟨b, c, rfl, r2, r3, r4⟩
  · exact .inl h2
  · exact .inr ⟨b, c, rfl, k.rows ho r2, r3, Nat.lt_of_lt_of_le r4 ho.size⟩
set_option maxRecDepth 100000 in
set_option maxHeartbeats 4000000 in
theorem Order_walk (A : Option Addr) (c : Nat) (xs : List (Int × Int)) (N : Int) (w : World) (hA : PairRow w A xs) (hx : PairsOk xs) (hc : xs.length ≤ c) (hN : 0 ≤ N ∧ N < 65536) :
    Calls Try.prog 6 #[.slice A xs.length c, .int .u16 N] w fun e w' => e = .returned (.bool true) ∧ Below w.heap.size w w' := by
  have HA := Aside0.mk hA
  have HX := Aside0.mk hx
  obtain ⟨n, hn⟩ : ∃ n, xs.length = n := ⟨_, rfl⟩
  have HNN := Aside0.mk hn
  rw [hn] at hc ⊢
  clear hA hx hn
  by_cases h60 : 60 < n
  · have e1 : (60 : Int) < (n : Int) := by omega
    go_enter Try.func6, Try.ntmps6
    go_wp2_with (go_at_call 35; refine (Awake_calls _).mono ?_; rintro e w2 ⟨rfl, hb⟩; have HB := Aside0.mk hb; clear hb)
    go_ret
    exact ⟨rfl, HB.out⟩
  · have e1 : ¬ (60 : Int) < (n : Int) := by omega
    have HM : Mk_ 0 := rfl
    go_enter Try.func6, Try.ntmps6
    go_wp2_with (first
      | (have hm_ := (HM : Mk_ 0); clear hm_ HM; have HM : Mk_ 1 := rfl; go_at_call 36; refine (New_calls _).mono ?_; rintro e w2 ⟨g1, rfl, hs, hb, hg⟩; have HS1 := Aside0.mk hs; have HB1 := Aside0.mk hb; have HG1 := Aside0.mk hg; clear hs hb hg)
      | (have hm_ := (HM : Mk_ 1); clear hm_ HM; have HM : Mk_ 2 := rfl; go_at_call 36; refine (New_calls _).mono ?_; rintro e w3 ⟨g2, rfl, hs, hb, hg⟩; have HS2 := Aside0.mk hs; have HB2 := Aside0.mk hb; have HG2 := Aside0.mk hg; clear hs hb hg))
    have HO0 := Aside0.mk (show OrdW g1 g2 N xs w 0 false [] [] w3 from ⟨HS1.out.below HB2.out, HS2.out, trivial, trivial, fun n => by simp [has, inP], fun n => by simp only [has, inP]; constructor; (rintro ⟨x, hx, _⟩; cases hx); (rintro ⟨j, hj, h, _⟩; omega), by simp [inP], below_step HB1.out HB2.out⟩)
    have HGG := Aside0.mk (show w.heap.size ≤ g1 ∧ w.heap.size ≤ g2 ∧ g1 ≠ g2 from ⟨Nat.le_of_eq HG1.out.symm, by have := HG2.out; have := HB1.out.size; omega, by have h1 := HS1.out.lt; have h2 := HG2.out; omega⟩)
    clear HS1 HS2 HB1 HB2 HG1 HG2 HM
    go_loopw [7, 8] (fun bv iv wr => ∃ (j : Nat) (b : Bool), j ≤ n ∧ bv = .bool b ∧ iv = .int .i64 j ∧ Aside0 (∃ la lb, OrdW g1 g2 N xs w j b la lb wr)) (fun _ iv _ => n - (intOf iv).toNat)
    case atStart => exact ⟨0, false, Nat.zero_le _, rfl, rfl, ⟨[], [], HO0.out⟩⟩
    case round =>
      obtain ⟨j, b, hj, rfl, rfl, HL⟩ := hrel
      obtain ⟨la, lb, ho⟩ := HL.out
      clear HO0 HL
      by_cases hlt : j < n
      · have hlt2 : ((j : Nat) : Int) < (n : Int) := by omega
        have hjx : j < xs.length := by have := HNN.out; omega
        obtain ⟨b0, o0, rfl, r0, r1⟩ := HA.out j hjx
        have hok := HX.out xs[j] (List.getElem_mem _)
        obtain ⟨K, hK⟩ : ∃ K, n - 1 - j = K := ⟨_, rfl⟩
        have hkx : K < xs.length := by have := HNN.out; omega
        obtain ⟨b1, o1, hA1, y0, y1⟩ := HA.out K hkx
        cases hA1
        have hok2 := HX.out xs[K] (List.getElem_mem _)
        have HOR := Aside0.mk ho
        have c0 := (ho.hB.cell (World.block_lt_of_cell? _ _ r0)).trans r0
        have c1 := (ho.hB.cell (World.block_lt_of_cell? _ _ r1)).trans r1
        clear ho
        go_wp2
        refine Order_r8 b0 o0 n c j xs[j].1 xs[j].2 _ _ _ _ (by rfl) (by rfl) (by rfl) hlt c0 c1 hok.1 hok.2 ?_
        intro σ W6 hB6 hσ
        obtain ⟨σ1, σ2⟩ := hσ
        have HO6 := Aside0.mk (HOR.out.below hB6)
        simp only [lazyA, lazyT, od8_tab, List.zipWith_cons_cons, List.zipWith_nil_left, cond_true]
        clear c0 c1 hB6
        rename_i K0 hK0
        refine hK0 _ _ ?_
        obtain ⟨f1, hf1⟩ : ∃ x, plo xs[j] = x := ⟨_, rfl⟩
        obtain ⟨t1, ht1⟩ : ∃ x, phi xs[j] = x := ⟨_, rfl⟩
        obtain ⟨f2, hf2⟩ : ∃ x, plo xs[K] = x := ⟨_, rfl⟩
        obtain ⟨t2, ht2⟩ : ∃ x, phi xs[K] = x := ⟨_, rfl⟩
        rw [show lo2 xs[j].1 xs[j].2 % 2000 = f1 from hf1] at σ1
        rw [show hi2 xs[j].1 xs[j].2 % 2000 = t1 from ht1] at σ2
        have HFT := Aside0.mk (And.intro hf1 (And.intro ht1 (And.intro hf2 ht2)))
        clear hf1 ht1 hf2 ht2
        rw [σ1, σ2]
        have eK1 : IntKind.i64.wrap ((n : Int) - 1) = (n : Int) - 1 := IntWalk.i64_in _ (by omega)
        have eK2 : IntKind.i64.wrap ((n : Int) - 1 - (j : Int)) = (K : Int) := by rw [IntWalk.i64_in _ (by omega)]; omega
        have eN : IntKind.i64.wrap N = N := IntWalk.i64_in _ (by omega)
        have hKn : K < n := by omega
        by_cases hft : f1 ≤ t1
        · have HF := Aside0.mk hft
          by_cases hfN : f1 ≤ N
          · have HFN := Aside0.mk hfN
            by_cases hNt : N ≤ t1
            · have HNT := Aside0.mk hNt
              cases b with
              | false =>
                go_wp2_with (go_at_call 37; refine (Add_calls g1 f1 t1 la _ HO6.out.s1 HO6.out.w1).mono ?_; rintro e w7 ⟨rfl, h1, h2, _⟩; rw [ord_add' HFT.out.1 HFT.out.2.1 HF.out] at h1; have HS7 := Aside0.mk (And.intro h1 (And.intro (HO6.out.s2.other HO6.out.s1 h2 (Ne.symm HGG.out.2.2)) (Only.belowN HO6.out.hB h2 HGG.out.1 HO6.out.hB.size))); clear h1 h2)
                have d0 := (HS7.out.2.2.cell (World.block_lt_of_cell? _ _ y0)).trans y0
                have d1 := (HS7.out.2.2.cell (World.block_lt_of_cell? _ _ y1)).trans y1
                refine Order_r13 b0 o0 n c K xs[K].1 xs[K].2 _ _ _ _ (by rfl) (by rfl) (by rfl) hKn d0 d1 hok2.1 hok2.2 ?_
                intro σ9 W8 hB8 hσ9
                obtain ⟨τ1, τ2⟩ := hσ9
                have HS8 := Aside0.mk (And.intro (HS7.out.1.below hB8) (And.intro (HS7.out.2.1.below hB8) (below_step HS7.out.2.2 hB8)))
                simp only [lazyA, lazyT, od13_tab, List.zipWith_cons_cons, List.zipWith_nil_left, cond_true]
                clear d0 d1 hB8
                rename_i K9 hK9
                refine hK9 _ _ ?_
                rw [show lo2 xs[K].1 xs[K].2 % 2000 = f2 from HFT.out.2.2.1] at τ1
                rw [show hi2 xs[K].1 xs[K].2 % 2000 = t2 from HFT.out.2.2.2] at τ2
                rw [τ1, τ2]
                by_cases hft2 : f2 ≤ t2
                · have HF2 := Aside0.mk hft2
                  go_wp2_with (go_at_call 37; refine (Add_calls g2 f2 t2 lb _ HS8.out.2.1 HOR.out.w2).mono ?_; rintro e w9 ⟨rfl, h1, h2, _⟩; rw [ord_add' HFT.out.2.2.1 HFT.out.2.2.2 HF2.out] at h1; have HS9 := Aside0.mk (And.intro (HS8.out.1.other HS8.out.2.1 h2 HGG.out.2.2) (And.intro h1 (Only.belowN HS8.out.2.2 h2 HGG.out.2.1 HS8.out.2.2.size))); clear h1 h2)
                  go_roundw
                  case rel => exact ⟨j + 1, _, by omega, rfl, by simp, ⟨_, _, HOR.out.next' hjx hkx (by have := HNN.out; omega) HFT.out.1 HFT.out.2.1 HFT.out.2.2.1 HFT.out.2.2.2 HS9.out.1 HS9.out.2.1 ⟨fun _ => .inl ⟨HFN.out, HNT.out⟩, fun _ => rfl⟩ HS9.out.2.2⟩⟩
                  case measure => simp [intOf]; omega
                · have HF2 := Aside0.mk hft2
                  go_wp2
                  go_roundw
                  case rel => exact ⟨j + 1, _, by omega, rfl, by simp, ⟨_, _, HOR.out.next' hjx hkx (by have := HNN.out; omega) HFT.out.1 HFT.out.2.1 HFT.out.2.2.1 HFT.out.2.2.2 HS8.out.1 (by rw [ord_no' HF2.out]; exact HS8.out.2.1) ⟨fun _ => .inl ⟨HFN.out, HNT.out⟩, fun _ => rfl⟩ HS8.out.2.2⟩⟩
                  case measure => simp [intOf]; omega
              | true =>
                go_wp2_with (go_at_call 37; refine (Add_calls g1 f1 t1 la _ HO6.out.s1 HO6.out.w1).mono ?_; rintro e w7 ⟨rfl, h1, h2, _⟩; rw [ord_add' HFT.out.1 HFT.out.2.1 HF.out] at h1; have HS7 := Aside0.mk (And.intro h1 (And.intro (HO6.out.s2.other HO6.out.s1 h2 (Ne.symm HGG.out.2.2)) (Only.belowN HO6.out.hB h2 HGG.out.1 HO6.out.hB.size))); clear h1 h2)
                have d0 := (HS7.out.2.2.cell (World.block_lt_of_cell? _ _ y0)).trans y0
                have d1 := (HS7.out.2.2.cell (World.block_lt_of_cell? _ _ y1)).trans y1
                refine Order_r13 b0 o0 n c K xs[K].1 xs[K].2 _ _ _ _ (by rfl) (by rfl) (by rfl) hKn d0 d1 hok2.1 hok2.2 ?_
                intro σ9 W8 hB8 hσ9
                obtain ⟨τ1, τ2⟩ := hσ9
                have HS8 := Aside0.mk (And.intro (HS7.out.1.below hB8) (And.intro (HS7.out.2.1.below hB8) (below_step HS7.out.2.2 hB8)))
                simp only [lazyA, lazyT, od13_tab, List.zipWith_cons_cons, List.zipWith_nil_left, cond_true]
                clear d0 d1 hB8
                rename_i K9 hK9
                refine hK9 _ _ ?_
                rw [show lo2 xs[K].1 xs[K].2 % 2000 = f2 from HFT.out.2.2.1] at τ1
                rw [show hi2 xs[K].1 xs[K].2 % 2000 = t2 from HFT.out.2.2.2] at τ2
                rw [τ1, τ2]
                by_cases hft2 : f2 ≤ t2
                · have HF2 := Aside0.mk hft2
                  go_wp2_with (go_at_call 37; refine (Add_calls g2 f2 t2 lb _ HS8.out.2.1 HOR.out.w2).mono ?_; rintro e w9 ⟨rfl, h1, h2, _⟩; rw [ord_add' HFT.out.2.2.1 HFT.out.2.2.2 HF2.out] at h1; have HS9 := Aside0.mk (And.intro (HS8.out.1.other HS8.out.2.1 h2 HGG.out.2.2) (And.intro h1 (Only.belowN HS8.out.2.2 h2 HGG.out.2.1 HS8.out.2.2.size))); clear h1 h2)
                  go_roundw
                  case rel => exact ⟨j + 1, _, by omega, rfl, by simp, ⟨_, _, HOR.out.next' hjx hkx (by have := HNN.out; omega) HFT.out.1 HFT.out.2.1 HFT.out.2.2.1 HFT.out.2.2.2 HS9.out.1 HS9.out.2.1 ⟨fun _ => .inl ⟨HFN.out, HNT.out⟩, fun _ => rfl⟩ HS9.out.2.2⟩⟩
                  case measure => simp [intOf]; omega
                · have HF2 := Aside0.mk hft2
                  go_wp2
                  go_roundw
                  case rel => exact ⟨j + 1, _, by omega, rfl, by simp, ⟨_, _, HOR.out.next' hjx hkx (by have := HNN.out; omega) HFT.out.1 HFT.out.2.1 HFT.out.2.2.1 HFT.out.2.2.2 HS8.out.1 (by rw [ord_no' HF2.out]; exact HS8.out.2.1) ⟨fun _ => .inl ⟨HFN.out, HNT.out⟩, fun _ => rfl⟩ HS8.out.2.2⟩⟩
                  case measure => simp [intOf]; omega
            · have HNT := Aside0.mk hNt
              cases b with
              | false =>
                go_wp2_with (go_at_call 37; refine (Add_calls g1 f1 t1 la _ HO6.out.s1 HO6.out.w1).mono ?_; rintro e w7 ⟨rfl, h1, h2, _⟩; rw [ord_add' HFT.out.1 HFT.out.2.1 HF.out] at h1; have HS7 := Aside0.mk (And.intro h1 (And.intro (HO6.out.s2.other HO6.out.s1 h2 (Ne.symm HGG.out.2.2)) (Only.belowN HO6.out.hB h2 HGG.out.1 HO6.out.hB.size))); clear h1 h2)
                have d0 := (HS7.out.2.2.cell (World.block_lt_of_cell? _ _ y0)).trans y0
                have d1 := (HS7.out.2.2.cell (World.block_lt_of_cell? _ _ y1)).trans y1
                refine Order_r13 b0 o0 n c K xs[K].1 xs[K].2 _ _ _ _ (by rfl) (by rfl) (by rfl) hKn d0 d1 hok2.1 hok2.2 ?_
                intro σ9 W8 hB8 hσ9
                obtain ⟨τ1, τ2⟩ := hσ9
                have HS8 := Aside0.mk (And.intro (HS7.out.1.below hB8) (And.intro (HS7.out.2.1.below hB8) (below_step HS7.out.2.2 hB8)))
                simp only [lazyA, lazyT, od13_tab, List.zipWith_cons_cons, List.zipWith_nil_left, cond_true]
                clear d0 d1 hB8
                rename_i K9 hK9
                refine hK9 _ _ ?_
                rw [show lo2 xs[K].1 xs[K].2 % 2000 = f2 from HFT.out.2.2.1] at τ1
                rw [show hi2 xs[K].1 xs[K].2 % 2000 = t2 from HFT.out.2.2.2] at τ2
                rw [τ1, τ2]
                by_cases hft2 : f2 ≤ t2
                · have HF2 := Aside0.mk hft2
                  go_wp2_with (go_at_call 37; refine (Add_calls g2 f2 t2 lb _ HS8.out.2.1 HOR.out.w2).mono ?_; rintro e w9 ⟨rfl, h1, h2, _⟩; rw [ord_add' HFT.out.2.2.1 HFT.out.2.2.2 HF2.out] at h1; have HS9 := Aside0.mk (And.intro (HS8.out.1.other HS8.out.2.1 h2 HGG.out.2.2) (And.intro h1 (Only.belowN HS8.out.2.2 h2 HGG.out.2.1 HS8.out.2.2.size))); clear h1 h2)
                  go_roundw
                  case rel => exact ⟨j + 1, _, by omega, rfl, by simp, ⟨_, _, HOR.out.next' hjx hkx (by have := HNN.out; omega) HFT.out.1 HFT.out.2.1 HFT.out.2.2.1 HFT.out.2.2.2 HS9.out.1 HS9.out.2.1 (by have a := HFN.out; have c := HNT.out; constructor; (intro h; simp at h; omega); (rintro (h | h); omega; cases h)) HS9.out.2.2⟩⟩
                  case measure => simp [intOf]; omega
                · have HF2 := Aside0.mk hft2
                  go_wp2
                  go_roundw
                  case rel => exact ⟨j + 1, _, by omega, rfl, by simp, ⟨_, _, HOR.out.next' hjx hkx (by have := HNN.out; omega) HFT.out.1 HFT.out.2.1 HFT.out.2.2.1 HFT.out.2.2.2 HS8.out.1 (by rw [ord_no' HF2.out]; exact HS8.out.2.1) (by have a := HFN.out; have c := HNT.out; constructor; (intro h; simp at h; omega); (rintro (h | h); omega; cases h)) HS8.out.2.2⟩⟩
                  case measure => simp [intOf]; omega
              | true =>
                go_wp2_with (go_at_call 37; refine (Add_calls g1 f1 t1 la _ HO6.out.s1 HO6.out.w1).mono ?_; rintro e w7 ⟨rfl, h1, h2, _⟩; rw [ord_add' HFT.out.1 HFT.out.2.1 HF.out] at h1; have HS7 := Aside0.mk (And.intro h1 (And.intro (HO6.out.s2.other HO6.out.s1 h2 (Ne.symm HGG.out.2.2)) (Only.belowN HO6.out.hB h2 HGG.out.1 HO6.out.hB.size))); clear h1 h2)
                have d0 := (HS7.out.2.2.cell (World.block_lt_of_cell? _ _ y0)).trans y0
                have d1 := (HS7.out.2.2.cell (World.block_lt_of_cell? _ _ y1)).trans y1
                refine Order_r13 b0 o0 n c K xs[K].1 xs[K].2 _ _ _ _ (by rfl) (by rfl) (by rfl) hKn d0 d1 hok2.1 hok2.2 ?_
                intro σ9 W8 hB8 hσ9
                obtain ⟨τ1, τ2⟩ := hσ9
                have HS8 := Aside0.mk (And.intro (HS7.out.1.below hB8) (And.intro (HS7.out.2.1.below hB8) (below_step HS7.out.2.2 hB8)))
                simp only [lazyA, lazyT, od13_tab, List.zipWith_cons_cons, List.zipWith_nil_left, cond_true]
                clear d0 d1 hB8
                rename_i K9 hK9
                refine hK9 _ _ ?_
                rw [show lo2 xs[K].1 xs[K].2 % 2000 = f2 from HFT.out.2.2.1] at τ1
                rw [show hi2 xs[K].1 xs[K].2 % 2000 = t2 from HFT.out.2.2.2] at τ2
                rw [τ1, τ2]
                by_cases hft2 : f2 ≤ t2
                · have HF2 := Aside0.mk hft2
                  go_wp2_with (go_at_call 37; refine (Add_calls g2 f2 t2 lb _ HS8.out.2.1 HOR.out.w2).mono ?_; rintro e w9 ⟨rfl, h1, h2, _⟩; rw [ord_add' HFT.out.2.2.1 HFT.out.2.2.2 HF2.out] at h1; have HS9 := Aside0.mk (And.intro (HS8.out.1.other HS8.out.2.1 h2 HGG.out.2.2) (And.intro h1 (Only.belowN HS8.out.2.2 h2 HGG.out.2.1 HS8.out.2.2.size))); clear h1 h2)
                  go_roundw
                  case rel => exact ⟨j + 1, _, by omega, rfl, by simp, ⟨_, _, HOR.out.next' hjx hkx (by have := HNN.out; omega) HFT.out.1 HFT.out.2.1 HFT.out.2.2.1 HFT.out.2.2.2 HS9.out.1 HS9.out.2.1 ⟨fun _ => .inr rfl, fun _ => rfl⟩ HS9.out.2.2⟩⟩
                  case measure => simp [intOf]; omega
                · have HF2 := Aside0.mk hft2
                  go_wp2
                  go_roundw
                  case rel => exact ⟨j + 1, _, by omega, rfl, by simp, ⟨_, _, HOR.out.next' hjx hkx (by have := HNN.out; omega) HFT.out.1 HFT.out.2.1 HFT.out.2.2.1 HFT.out.2.2.2 HS8.out.1 (by rw [ord_no' HF2.out]; exact HS8.out.2.1) ⟨fun _ => .inr rfl, fun _ => rfl⟩ HS8.out.2.2⟩⟩
                  case measure => simp [intOf]; omega
          · have HFN := Aside0.mk hfN
            cases b with
            | false =>
              go_wp2_with (go_at_call 37; refine (Add_calls g1 f1 t1 la _ HO6.out.s1 HO6.out.w1).mono ?_; rintro e w7 ⟨rfl, h1, h2, _⟩; rw [ord_add' HFT.out.1 HFT.out.2.1 HF.out] at h1; have HS7 := Aside0.mk (And.intro h1 (And.intro (HO6.out.s2.other HO6.out.s1 h2 (Ne.symm HGG.out.2.2)) (Only.belowN HO6.out.hB h2 HGG.out.1 HO6.out.hB.size))); clear h1 h2)
              have d0 := (HS7.out.2.2.cell (World.block_lt_of_cell? _ _ y0)).trans y0
              have d1 := (HS7.out.2.2.cell (World.block_lt_of_cell? _ _ y1)).trans y1
              refine Order_r13 b0 o0 n c K xs[K].1 xs[K].2 _ _ _ _ (by rfl) (by rfl) (by rfl) hKn d0 d1 hok2.1 hok2.2 ?_
              intro σ9 W8 hB8 hσ9
              obtain ⟨τ1, τ2⟩ := hσ9
              have HS8 := Aside0.mk (And.intro (HS7.out.1.below hB8) (And.intro (HS7.out.2.1.below hB8) (below_step HS7.out.2.2 hB8)))
              simp only [lazyA, lazyT, od13_tab, List.zipWith_cons_cons, List.zipWith_nil_left, cond_true]
              clear d0 d1 hB8
              rename_i K9 hK9 h9
              refine hK9 _ _ ?_
              rw [show lo2 xs[K].1 xs[K].2 % 2000 = f2 from HFT.out.2.2.1] at τ1
              rw [show hi2 xs[K].1 xs[K].2 % 2000 = t2 from HFT.out.2.2.2] at τ2
              rw [τ1, τ2]
              by_cases hft2 : f2 ≤ t2
              · have HF2 := Aside0.mk hft2
                go_wp2_with (go_at_call 37; refine (Add_calls g2 f2 t2 lb _ HS8.out.2.1 HOR.out.w2).mono ?_; rintro e w9 ⟨rfl, h1, h2, _⟩; rw [ord_add' HFT.out.2.2.1 HFT.out.2.2.2 HF2.out] at h1; have HS9 := Aside0.mk (And.intro (HS8.out.1.other HS8.out.2.1 h2 HGG.out.2.2) (And.intro h1 (Only.belowN HS8.out.2.2 h2 HGG.out.2.1 HS8.out.2.2.size))); clear h1 h2)
                go_roundw
                case rel => exact ⟨j + 1, _, by omega, rfl, by simp, ⟨_, _, HOR.out.next' hjx hkx (by have := HNN.out; omega) HFT.out.1 HFT.out.2.1 HFT.out.2.2.1 HFT.out.2.2.2 HS9.out.1 HS9.out.2.1 ⟨(fun h => by cases h), (fun h => by rcases h with ⟨h, _⟩ | h; exact absurd h (Int.not_le.2 HFN.out); cases h)⟩ HS9.out.2.2⟩⟩
                case measure => simp [intOf]; omega
              · have HF2 := Aside0.mk hft2
                go_wp2
                go_roundw
                case rel => exact ⟨j + 1, _, by omega, rfl, by simp, ⟨_, _, HOR.out.next' hjx hkx (by have := HNN.out; omega) HFT.out.1 HFT.out.2.1 HFT.out.2.2.1 HFT.out.2.2.2 HS8.out.1 (by rw [ord_no' HF2.out]; exact HS8.out.2.1) ⟨(fun h => by cases h), (fun h => by rcases h with ⟨h, _⟩ | h; exact absurd h (Int.not_le.2 HFN.out); cases h)⟩ HS8.out.2.2⟩⟩
                case measure => simp [intOf]; omega
            | true =>
              go_wp2_with (go_at_call 37; refine (Add_calls g1 f1 t1 la _ HO6.out.s1 HO6.out.w1).mono ?_; rintro e w7 ⟨rfl, h1, h2, _⟩; rw [ord_add' HFT.out.1 HFT.out.2.1 HF.out] at h1; have HS7 := Aside0.mk (And.intro h1 (And.intro (HO6.out.s2.other HO6.out.s1 h2 (Ne.symm HGG.out.2.2)) (Only.belowN HO6.out.hB h2 HGG.out.1 HO6.out.hB.size))); clear h1 h2)
              have d0 := (HS7.out.2.2.cell (World.block_lt_of_cell? _ _ y0)).trans y0
              have d1 := (HS7.out.2.2.cell (World.block_lt_of_cell? _ _ y1)).trans y1
              refine Order_r13 b0 o0 n c K xs[K].1 xs[K].2 _ _ _ _ (by rfl) (by rfl) (by rfl) hKn d0 d1 hok2.1 hok2.2 ?_
              intro σ9 W8 hB8 hσ9
              obtain ⟨τ1, τ2⟩ := hσ9
              have HS8 := Aside0.mk (And.intro (HS7.out.1.below hB8) (And.intro (HS7.out.2.1.below hB8) (below_step HS7.out.2.2 hB8)))
              simp only [lazyA, lazyT, od13_tab, List.zipWith_cons_cons, List.zipWith_nil_left, cond_true]
              clear d0 d1 hB8
              rename_i K9 hK9
              refine hK9 _ _ ?_
              rw [show lo2 xs[K].1 xs[K].2 % 2000 = f2 from HFT.out.2.2.1] at τ1
              rw [show hi2 xs[K].1 xs[K].2 % 2000 = t2 from HFT.out.2.2.2] at τ2
              rw [τ1, τ2]
              by_cases hft2 : f2 ≤ t2
              · have HF2 := Aside0.mk hft2
                go_wp2_with (go_at_call 37; refine (Add_calls g2 f2 t2 lb _ HS8.out.2.1 HOR.out.w2).mono ?_; rintro e w9 ⟨rfl, h1, h2, _⟩; rw [ord_add' HFT.out.2.2.1 HFT.out.2.2.2 HF2.out] at h1; have HS9 := Aside0.mk (And.intro (HS8.out.1.other HS8.out.2.1 h2 HGG.out.2.2) (And.intro h1 (Only.belowN HS8.out.2.2 h2 HGG.out.2.1 HS8.out.2.2.size))); clear h1 h2)
                go_roundw
                case rel => exact ⟨j + 1, _, by omega, rfl, by simp, ⟨_, _, HOR.out.next' hjx hkx (by have := HNN.out; omega) HFT.out.1 HFT.out.2.1 HFT.out.2.2.1 HFT.out.2.2.2 HS9.out.1 HS9.out.2.1 ⟨fun _ => .inr rfl, fun _ => rfl⟩ HS9.out.2.2⟩⟩
                case measure => simp [intOf]; omega
              · have HF2 := Aside0.mk hft2
                go_wp2
                go_roundw
                case rel => exact ⟨j + 1, _, by omega, rfl, by simp, ⟨_, _, HOR.out.next' hjx hkx (by have := HNN.out; omega) HFT.out.1 HFT.out.2.1 HFT.out.2.2.1 HFT.out.2.2.2 HS8.out.1 (by rw [ord_no' HF2.out]; exact HS8.out.2.1) ⟨fun _ => .inr rfl, fun _ => rfl⟩ HS8.out.2.2⟩⟩
                case measure => simp [intOf]; omega
        · have HF := Aside0.mk hft
          have HS7 := Aside0.mk (show SetAt W6 g1 (ordS f1 t1 la) ∧ SetAt W6 g2 lb ∧ Below w.heap.size w W6 from ⟨by rw [ord_no' hft]; exact HO6.out.s1, HO6.out.s2, HO6.out.hB⟩)
          go_wp2
          have d0 := (HS7.out.2.2.cell (World.block_lt_of_cell? _ _ y0)).trans y0
          have d1 := (HS7.out.2.2.cell (World.block_lt_of_cell? _ _ y1)).trans y1
          refine Order_r13 b0 o0 n c K xs[K].1 xs[K].2 _ _ _ _ (by rfl) (by rfl) (by rfl) hKn d0 d1 hok2.1 hok2.2 ?_
          intro σ9 W8 hB8 hσ9
          obtain ⟨τ1, τ2⟩ := hσ9
          have HS8 := Aside0.mk (And.intro (HS7.out.1.below hB8) (And.intro (HS7.out.2.1.below hB8) (below_step HS7.out.2.2 hB8)))
          simp only [lazyA, lazyT, od13_tab, List.zipWith_cons_cons, List.zipWith_nil_left, cond_true]
          clear d0 d1 hB8
          rename_i K9 hK9
          refine hK9 _ _ ?_
          rw [show lo2 xs[K].1 xs[K].2 % 2000 = f2 from HFT.out.2.2.1] at τ1
          rw [show hi2 xs[K].1 xs[K].2 % 2000 = t2 from HFT.out.2.2.2] at τ2
          rw [τ1, τ2]
          by_cases hft2 : f2 ≤ t2
          · have HF2 := Aside0.mk hft2
            go_wp2_with (go_at_call 37; refine (Add_calls g2 f2 t2 lb _ HS8.out.2.1 HOR.out.w2).mono ?_; rintro e w9 ⟨rfl, h1, h2, _⟩; rw [ord_add' HFT.out.2.2.1 HFT.out.2.2.2 HF2.out] at h1; have HS9 := Aside0.mk (And.intro (HS8.out.1.other HS8.out.2.1 h2 HGG.out.2.2) (And.intro h1 (Only.belowN HS8.out.2.2 h2 HGG.out.2.1 HS8.out.2.2.size))); clear h1 h2)
            go_roundw
            case rel => exact ⟨j + 1, _, by omega, rfl, by simp, ⟨_, _, HOR.out.next' hjx hkx (by have := HNN.out; omega) HFT.out.1 HFT.out.2.1 HFT.out.2.2.1 HFT.out.2.2.2 HS9.out.1 HS9.out.2.1 ⟨.inr, (fun h => by rcases h with ⟨h1, h2⟩ | h; exact absurd (Int.le_trans h1 h2) (Int.not_le.2 HF.out); exact h)⟩ HS9.out.2.2⟩⟩
            case measure => simp [intOf]; omega
          · have HF2 := Aside0.mk hft2
            go_wp2
            go_roundw
            case rel => exact ⟨j + 1, _, by omega, rfl, by simp, ⟨_, _, HOR.out.next' hjx hkx (by have := HNN.out; omega) HFT.out.1 HFT.out.2.1 HFT.out.2.2.1 HFT.out.2.2.2 HS8.out.1 (by rw [ord_no' HF2.out]; exact HS8.out.2.1) ⟨.inr, (fun h => by rcases h with ⟨h1, h2⟩ | h; exact absurd (Int.le_trans h1 h2) (Int.not_le.2 HF.out); exact h)⟩ HS8.out.2.2⟩⟩
            case measure => simp [intOf]; omega
      · have hj2 : j = n := by omega
        subst hj2
        have hxl : xs.length = j := HNN.out
        have hall : la = lb := wf_ext ho.w1 ho.w2 (fun m => by
          rw [ho.h1 m, ho.h2 m]
          constructor
          · rintro ⟨q, hq, _, h2⟩; exact ⟨q, hq, by omega, h2⟩
          · rintro ⟨q, hq, _, h2⟩; exact ⟨q, hq, by omega, h2⟩)
        have hany : (la.map pr).any (Iter.tch N N) = b := by
          have h1 := any_has (l := la) (m := N)
          rw [ho.h1 N, ← ho.hb] at h1
          cases b
          · exact Bool.eq_false_iff.2 (fun h => by have := h1.1 h; cases this)
          · exact h1.2 rfl
        have hll : la.length < 8796093022208 := by have := wf_len ho.w1 (by omega); omega
        have HANY := Aside0.mk hany
        have HLL := Aside0.mk hll
        have HLL2 := Aside0.mk (show la.length * 16 ≤ 140737488351232 by have := wf_len ho.w1 (by omega); omega)
        have HOR := Aside0.mk ho
        have hcl : slices_Clone.f la = some la := by unfold slices_Clone.f; rw [if_pos hll]
        have HSA := Aside0.mk (fun W (hb : Below wr.heap.size wr W) => Set_Spans.calls g1 la la W (HOR.out.s1.below hb).isSet hcl)
        have HSB := Aside0.mk (fun W (hb : Below wr.heap.size wr W) => Set_Spans.calls g2 la la W ((hall ▸ HOR.out.s2 : SetAt wr g2 la).below hb).isSet hcl)
        have eN : IntKind.i64.wrap N = N := IntWalk.i64_in _ (by omega)
        have HM : Mk_ 0 := rfl
        clear ho hany hll hcl hall hxl
        cases b with
        | false =>
          go_wp2_with (first
            | (have hm_ := (HM : Mk_ 0); clear hm_ HM; have HM : Mk_ 1 := rfl; go_at_call 39; refine (HSA.out wr (Below.refl _ _)).mono ?_; rintro e w4 ⟨v4, rfl, hr, hb⟩; obtain ⟨A4, c4, rfl, hc4, hC4⟩ := Kd.R_reads hr; have H4 := Aside0.mk (And.intro hc4 hC4); have HC := Aside0.mk hb; clear hr hb hc4 hC4)
            | (have hm_ := (HM : Mk_ 1); clear hm_ HM; have HM : Mk_ 2 := rfl; go_at_call 39; refine (HSB.out _ HC.out).mono ?_; rintro e w5 ⟨v5, rfl, hr, hb⟩; obtain ⟨A5, c5, rfl, hc5, hC5⟩ := Kd.R_reads hr; have H5 := Aside0.mk (And.intro hc5 hC5); have H6 := Aside0.mk (Kd.C_below H4.out.2 hb); have HC5 := Aside0.mk (below_step HC.out hb); clear hr hb hc5 hC5)
            | (go_at_call 38; refine (RefSame_calls la _ rfl rfl H6.out H5.out.2 H4.out.1 H5.out.1 HLL.out).mono ?_; rintro e w6 ⟨rfl, hb⟩; have HC6 := Aside0.mk (below_step HC5.out hb); clear hb)
            | (go_at_call 40; refine (Has_at g1 N la _ (HOR.out.s1.below HC6.out) HLL2.out).mono ?_; rintro e w7 ⟨rfl, hb⟩; rw [HANY.out]; have HC7 := Aside0.mk (below_step HC6.out hb); clear hb)
            | (go_at_call 35; refine (Awake_calls _).mono ?_; rintro e w8 ⟨rfl, hb⟩; have HC8 := Aside0.mk (below_step HC7.out hb); clear hb))
          go_ret
          exact ⟨rfl, below_step HOR.out.hB HC8.out⟩
        | true =>
          go_wp2_with (first
            | (have hm_ := (HM : Mk_ 0); clear hm_ HM; have HM : Mk_ 1 := rfl; go_at_call 39; refine (HSA.out wr (Below.refl _ _)).mono ?_; rintro e w4 ⟨v4, rfl, hr, hb⟩; obtain ⟨A4, c4, rfl, hc4, hC4⟩ := Kd.R_reads hr; have H4 := Aside0.mk (And.intro hc4 hC4); have HC := Aside0.mk hb; clear hr hb hc4 hC4)
            | (have hm_ := (HM : Mk_ 1); clear hm_ HM; have HM : Mk_ 2 := rfl; go_at_call 39; refine (HSB.out _ HC.out).mono ?_; rintro e w5 ⟨v5, rfl, hr, hb⟩; obtain ⟨A5, c5, rfl, hc5, hC5⟩ := Kd.R_reads hr; have H5 := Aside0.mk (And.intro hc5 hC5); have H6 := Aside0.mk (Kd.C_below H4.out.2 hb); have HC5 := Aside0.mk (below_step HC.out hb); clear hr hb hc5 hC5)
            | (go_at_call 38; refine (RefSame_calls la _ rfl rfl H6.out H5.out.2 H4.out.1 H5.out.1 HLL.out).mono ?_; rintro e w6 ⟨rfl, hb⟩; have HC6 := Aside0.mk (below_step HC5.out hb); clear hb)
            | (go_at_call 40; refine (Has_at g1 N la _ (HOR.out.s1.below HC6.out) HLL2.out).mono ?_; rintro e w7 ⟨rfl, hb⟩; rw [HANY.out]; have HC7 := Aside0.mk (below_step HC6.out hb); clear hb)
            | (go_at_call 35; refine (Awake_calls _).mono ?_; rintro e w8 ⟨rfl, hb⟩; have HC8 := Aside0.mk (below_step HC7.out hb); clear hb))
          go_ret
          exact ⟨rfl, below_step HOR.out.hB HC8.out⟩
end Go.Proofs.Ytiladcdogbeomaa.QRangesPlays

namespace Go.Proofs.Ytiladcdogbeomaa.Acts
open Go.RowKit Go.Proofs.Ytiladcdogbeomaa.Opens Go.Proofs.YtiladcdogbeomaaW.PrintWords Go.Proofs.Ytiladcdogbeomaa.QRangesPlays
def kpair : Kd (Int × Int) := Kd.pair (Kd.int .u16) (Kd.int .u16)
def okPair (x : Int × Int) : Prop := (Lit.int .u16 x.1).wf = true ∧ (Lit.int .u16 x.2).wf = true
def okPairs (xs : List (Int × Int)) : Prop := xs.length ≤ 9223372036854775807 ∧ ∀ x ∈ xs, okPair x
theorem kpair_open {w : World} {x : Int × Int} {cs : List Value} (h : kpair.K w x cs) : cs = [.int .u16 x.1, .int .u16 x.2] := by
  obtain ⟨c1, c2, e, h1, h2⟩ := h
  have h1' : c1 = [.int .u16 x.1] := h1
  have h2' : c2 = [.int .u16 x.2] := h2
  rw [e, h1', h2']
  rfl
theorem opens28 : Opens Try.prog 28 kpair okPair :=
  opens_array (fun x : Int × Int => x) (fun y => y) (fun _ => rfl) Try.underlying28 (by kernel_rfl) (at_cons (off := 0) (off' := 1) (opens_int Try.underlying27) (at_last (off := 1) (opens_int Try.underlying27) (by kernel_rfl)) (by kernel_rfl))
theorem opens22 : Opens Try.prog 22 (Kd.slice 28 kpair) okPairs := opens_slice Try.underlying22 (by kernel_rfl) opens28
theorem pairRow_of {W : World} {A : Option Addr} {n : Nat} {l : List (Int × Int)} (h : Kd.C kpair W A n l) : PairRow W A l := by
  have hz : kpair.sz = 2 := rfl
  have key : ∀ j (hj : j < l.length), ∃ ad, A = some ad ∧ W.cell? (ad.add (j * 2)) = some (.int .u16 l[j].1) ∧ W.cell? (ad.add (j * 2 + 1)) = some (.int .u16 l[j].2) := by
    intro j hj
    obtain ⟨ad, rfl, hc⟩ := h.2.2 (by have := h.1; omega)
    obtain ⟨c, hl, hx, hcell⟩ := hc j l[j] (List.getElem?_eq_getElem hj)
    have hx' := kpair_open hx
    subst hx'
    have e0 := hcell 0 (.int .u16 l[j].1) rfl
    have e1 := hcell 1 (.int .u16 l[j].2) rfl
    rw [hz] at e0 e1
    exact ⟨ad, rfl, by simpa using e0, e1⟩
  intro i hi
  obtain ⟨ad, hA, z0, _⟩ := key 0 (by omega)
  have hsp : ad.spot = none := by
    have e : ad.add (0 * 2) = ad := by unfold Addr.add; rw [if_pos (by omega)]
    rw [e] at z0
    unfold World.cell? at z0
    split at z0
    · split at z0
      · cases z0
      · rename_i hs; simpa using hs
    · cases z0
  obtain ⟨b, o, sp⟩ := ad
  obtain rfl : sp = none := hsp
  obtain ⟨ad2, hA2, z0, z1⟩ := key i hi
  rw [hA] at hA2
  obtain rfl : (⟨b, o, none⟩ : Addr) = ad2 := Option.some.inj hA2
  have ha : ∀ j, Addr.add ⟨b, o, none⟩ j = ⟨b, o + j, none⟩ := fun j => by
    unfold Addr.add
    split
    · rename_i h; subst h; rfl
    · rfl
  rw [ha] at z0 z1
  exact ⟨b, o, hA, z0, z1⟩
theorem wf_u16 {x : Int} (h : (Lit.int .u16 x).wf = true) : 0 ≤ x ∧ x < 65536 := by
  have := h
  simp [Lit.wf, IntKind.min, IntKind.max, IntKind.signed, IntKind.bits] at this
  omega
theorem pairsOk_of {l : List (Int × Int)} (h : okPairs l) : PairsOk l := fun x hx => ⟨wf_u16 (h.2 x hx).1, wf_u16 (h.2 x hx).2⟩
end Go.Proofs.Ytiladcdogbeomaa.Acts
