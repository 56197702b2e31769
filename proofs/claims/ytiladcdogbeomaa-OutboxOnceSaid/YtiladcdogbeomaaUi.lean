/- Law 24 (outbox): contracts of functions that its statements reach, and plain laws behind them (part 9). No condition. -/
import Derived.Test.YtiladcdogbeomaaUh
namespace Go.Proofs.Ytiladcdogbeomaa.QRangesPlays
open Go.RowKit Go.Shelf Go.Proofs.YtiladcdogbeomaaW.PrintWords Go.Proofs.YtiladcdogbeomaaW.PrintLast Go.Proofs.YtiladcdogbeomaaW.PrintMore Go.Proofs.Ytiladcdogbeomaa.RowLaws Go.Proofs.Ytiladcdogbeomaa.Lazy
attribute [local go_sem] Oper.semAt_some
attribute [local go_sem] max2_int min2_int max_two min_two
abbrev rw4_ops : List Oper := [{ dst := some 35, op := .fieldAddr 40 (.tmp 2) 0, type := 0, pos := "ref.go:112", after := #[], guard := none },
  { dst := some 36, op := .load 9 (.tmp 35), type := 9, pos := "ref.go:112", after := #[⟨0, .data⟩], guard := none },
  { dst := some 37, op := .fieldAddr 46 (.tmp 3) 0, type := 0, pos := "ref.go:112", after := #[], guard := none },
  { dst := some 38, op := .load 3 (.tmp 37), type := 3, pos := "ref.go:112", after := #[⟨2, .data⟩], guard := none },
  { dst := some 39, op := .move (.tmp 5), type := 3, pos := "ref.go:112", after := #[], guard := none },
  { dst := some 40, op := .slice 9 (.tmp 36) (some (.tmp 38)) (some (.tmp 39)) none, type := 9, pos := "ref.go:112", after := #[⟨1, .data⟩, ⟨3, .data⟩, ⟨4, .data⟩], guard := none },
  { dst := some 41, op := .fieldAddr 46 (.tmp 3) 1, type := 0, pos := "ref.go:112", after := #[], guard := none },
  { dst := some 42, op := .load 9 (.tmp 41), type := 9, pos := "ref.go:112", after := #[⟨6, .data⟩], guard := none },
  { dst := some 43, op := .binOp .eql 9 (.tmp 40) (.tmp 42) 9, type := 4, pos := "ref.go:112", after := #[⟨5, .data⟩, ⟨7, .data⟩], guard := none },
  { dst := some 44, op := .move (.tmp 43), type := 4, pos := "ref.go:112", after := #[⟨8, .data⟩], guard := none },
  { dst := some 45, op := .fieldAddr 46 (.tmp 3) 2, type := 0, pos := "ref.go:112", after := #[⟨9, .guard⟩], guard := some (9, true) },
  { dst := some 46, op := .load 4 (.tmp 45), type := 4, pos := "ref.go:112", after := #[⟨10, .data⟩, ⟨9, .guard⟩], guard := some (9, true) },
  { dst := some 47, op := .unOp .not 4 (.tmp 46), type := 4, pos := "ref.go:112", after := #[⟨11, .data⟩, ⟨9, .guard⟩], guard := some (9, true) },
  { dst := some 48, op := .move (.tmp 47), type := 4, pos := "ref.go:112", after := #[⟨12, .data⟩, ⟨9, .chain⟩, ⟨9, .guard⟩], guard := some (9, true) },
  { dst := some 49, op := .fieldAddr 40 (.tmp 2) 2, type := 0, pos := "ref.go:112", after := #[⟨13, .guard⟩], guard := some (13, false) },
  { dst := some 50, op := .load 4 (.tmp 49), type := 4, pos := "ref.go:112", after := #[⟨14, .data⟩, ⟨13, .guard⟩], guard := some (13, false) },
  { dst := some 51, op := .move (.tmp 50), type := 4, pos := "ref.go:112", after := #[⟨15, .data⟩, ⟨13, .chain⟩, ⟨13, .guard⟩], guard := some (13, false) },
  { dst := some 52, op := .fieldAddr 40 (.tmp 2) 3, type := 0, pos := "ref.go:112", after := #[⟨16, .guard⟩], guard := some (16, true) },
  { dst := some 53, op := .load 4 (.tmp 52), type := 4, pos := "ref.go:112", after := #[⟨17, .data⟩, ⟨16, .guard⟩], guard := some (16, true) },
  { dst := some 54, op := .pick (.tmp 51) (.tmp 53) (.const (.bool false)), type := 4, pos := "ref.go:112", after := #[⟨16, .data⟩, ⟨18, .data⟩, ⟨13, .guard⟩], guard := some (13, false) },
  { dst := some 55, op := .move (.tmp 54), type := 4, pos := "ref.go:112", after := #[⟨19, .data⟩, ⟨16, .chain⟩, ⟨13, .guard⟩], guard := some (13, false) },
  { dst := some 56, op := .move (.tmp 5), type := 3, pos := "ref.go:112", after := #[⟨20, .guard⟩], guard := some (20, true) },
  { dst := some 57, op := .fieldAddr 40 (.tmp 2) 0, type := 0, pos := "ref.go:112", after := #[⟨20, .guard⟩], guard := some (20, true) },
  { dst := some 58, op := .load 9 (.tmp 57), type := 9, pos := "ref.go:112", after := #[⟨22, .data⟩, ⟨20, .guard⟩], guard := some (20, true) },
  { dst := some 59, op := .call { callee := .builtin .len, args := #[.tmp 58], argTypes := #[9] }, type := 3, pos := "ref.go:112", after := #[⟨23, .data⟩, ⟨20, .guard⟩], guard := some (20, true) },
  { dst := some 60, op := .binOp .eql 3 (.tmp 56) (.tmp 59) 3, type := 4, pos := "ref.go:112", after := #[⟨21, .data⟩, ⟨24, .data⟩, ⟨20, .guard⟩], guard := some (20, true) },
  { dst := some 61, op := .pick (.tmp 55) (.tmp 60) (.const (.bool false)), type := 4, pos := "ref.go:112", after := #[⟨20, .data⟩, ⟨25, .data⟩, ⟨13, .guard⟩], guard := some (13, false) },
  { dst := some 62, op := .pick (.tmp 48) (.const (.bool true)) (.tmp 61), type := 4, pos := "ref.go:112", after := #[⟨13, .data⟩, ⟨26, .data⟩, ⟨9, .guard⟩], guard := some (9, true) },
  { dst := some 63, op := .pick (.tmp 44) (.tmp 62) (.const (.bool false)), type := 4, pos := "ref.go:112", after := #[⟨9, .data⟩, ⟨27, .data⟩], guard := none },
  { dst := some 4, op := .assign (.tmp 63), type := 4, pos := "ref.go:112", after := #[⟨28, .data⟩, ⟨20, .chain⟩, ⟨0, .phase⟩, ⟨1, .phase⟩, ⟨2, .phase⟩, ⟨3, .phase⟩, ⟨4, .phase⟩, ⟨5, .phase⟩, ⟨6, .phase⟩, ⟨7, .phase⟩, ⟨8, .phase⟩, ⟨9, .phase⟩, ⟨10, .phase⟩, ⟨11, .phase⟩, ⟨12, .phase⟩, ⟨13, .phase⟩, ⟨14, .phase⟩, ⟨15, .phase⟩, ⟨16, .phase⟩, ⟨17, .phase⟩, ⟨18, .phase⟩, ⟨19, .phase⟩, ⟨20, .phase⟩, ⟨21, .phase⟩, ⟨22, .phase⟩, ⟨23, .phase⟩, ⟨24, .phase⟩, ⟨25, .phase⟩, ⟨26, .phase⟩, ⟨27, .phase⟩, ⟨28, .phase⟩], guard := none }]
abbrev rw4_tab : List (Option Nat) := [none, none, none, none, some 29, none, none, none, none, none, none, none, none, none, none, none, none, none, none, none, none, none, none, none, none, none, none, none, none, none, none, none, none, none, none, some 0, some 1, some 2, some 3, some 4, some 5, some 6, some 7, some 8, some 9, some 10, some 11, some 12, some 13, some 14, some 15, some 16, some 17, some 18, some 19, some 20, some 21, some 22, some 23, some 24, some 25, some 26, some 27, some 28]

def RWas_r4a_val (X Y : Nat) (t : ByteArray) (off : Int) (s : ByteArray) (fin : Bool) (x : Bool) (y : Bool) : Nat → Value → World → Prop := fun j v W => match j with
  | 0 => v = .pointer (some ⟨X, 0, none⟩)
  | 1 => v = .string t
  | 2 => v = .pointer (some ⟨Y, 0, none⟩)
  | 3 => v = .int .i64 off
  | 4 => v = .int .i64 (off + (s.size : Int))
  | 5 => v = .string (t.extract off.toNat (off + (s.size : Int)).toNat)
  | 6 => v = .pointer (some ⟨Y, 1, none⟩)
  | 7 => v = .string s
  | 8 => v = .bool false
  | 9 => v = .bool false
  | 10 => v = undef
  | 11 => v = undef
  | 12 => v = undef
  | 13 => v = undef
  | 14 => v = undef
  | 15 => v = undef
  | 16 => v = undef
  | 17 => v = undef
  | 18 => v = undef
  | 19 => v = undef
  | 20 => v = undef
  | 21 => v = undef
  | 22 => v = undef
  | 23 => v = undef
  | 24 => v = undef
  | 25 => v = undef
  | 26 => v = undef
  | 27 => v = undef
  | 28 => v = .bool false
  | 29 => v = .bool false
  | _ => True

set_option maxRecDepth 100000 in
set_option maxHeartbeats 4000000 in
theorem RWas_r4a (X Y : Nat) (t : ByteArray) (off : Int) (s : ByteArray) (fin : Bool) (x : Bool) (y : Bool) (t0 : List Value) (d0 : List Deferred) (w : World) (Q : Exit → Act → World → Prop) (hl : t0.length = rw4_tab.length)
    (t2 : t0[2]? = some (.pointer (some ⟨X, 0, none⟩))) (t3 : t0[3]? = some (.pointer (some ⟨Y, 0, none⟩))) (t5 : t0[5]? = some (.int .i64 (off + (s.size : Int)))) (kb0 : w.cell? ⟨X, 0, none⟩ = some (.string t)) (kx0 : w.cell? ⟨Y, 0, none⟩ = some (.int .i64 off)) (kx1 : w.cell? ⟨Y, 1, none⟩ = some (.string s)) (kx2 : w.cell? ⟨Y, 2, none⟩ = some (.bool fin)) (hb : 0 ≤ off ∧ off + (s.size : Int) ≤ (t.size : Int)) (hx : ((t.extract off.toNat (off + (s.size : Int)).toNat).toList == s.toList) = false) 
    (hQ : ∀ σ W, Below w.heap.size w W ∧ σ 29 = .bool false → Q .normal (lazyA (fun _ => true) σ t0 rw4_tab d0) W) :
    (Code.region 4 rw4_ops.toArray true).wp Try.prog Q { tmps := t0.toArray, defers := d0 } w := by
  refine wp_region_valsU (by kernel_rfl) rw4_tab (by kernel_rfl) hl (fun i => [10, 11, 12, 13, 14, 15, 16, 17, 18, 19, 20, 21, 22, 23, 24, 25, 26, 27].contains i) (fun i W W' => Below W.heap.size W W') (fun L W => Below w.heap.size w W) (RWas_r4a_val X Y t off s fin x y) (below_drew (Below.refl _ _)) ?hst ⟨⟨(fun j b h => by cases h), fun _ => rfl⟩, ⟨(fun j b h => by cases h), fun _ => rfl⟩, ⟨(fun j b h => by cases h), fun _ => rfl⟩, ⟨(fun j b h => by cases h), fun _ => rfl⟩, ⟨(fun j b h => by cases h), fun _ => rfl⟩, ⟨(fun j b h => by cases h), fun _ => rfl⟩, ⟨(fun j b h => by cases h), fun _ => rfl⟩, ⟨(fun j b h => by cases h), fun _ => rfl⟩, ⟨(fun j b h => by cases h), fun _ => rfl⟩, ⟨(fun j b h => by cases h), fun _ => rfl⟩, ⟨(fun j b h v W hv => by cases h; exact .inl hv), (fun h => by cases h)⟩, ⟨(fun j b h v W hv => by cases h; exact .inl hv), (fun h => by cases h)⟩, ⟨(fun j b h v W hv => by cases h; exact .inl hv), (fun h => by cases h)⟩, ⟨(fun j b h v W hv => by cases h; exact .inl hv), (fun h => by cases h)⟩, ⟨(fun j b h v W hv => by cases h; exact .inr ⟨rfl, hv⟩), (fun h => by cases h)⟩, ⟨(fun j b h v W hv => by cases h; exact .inr ⟨rfl, hv⟩), (fun h => by cases h)⟩, ⟨(fun j b h v W hv => by cases h; exact .inr ⟨rfl, hv⟩), (fun h => by cases h)⟩, ⟨(fun j b h v W hv => by cases h; exact .inr ⟨rfl, hv⟩), (fun h => by cases h)⟩, ⟨(fun j b h v W hv => by cases h; exact .inr ⟨rfl, hv⟩), (fun h => by cases h)⟩, ⟨(fun j b h v W hv => by cases h; exact .inr ⟨rfl, hv⟩), (fun h => by cases h)⟩, ⟨(fun j b h v W hv => by cases h; exact .inr ⟨rfl, hv⟩), (fun h => by cases h)⟩, ⟨(fun j b h v W hv => by cases h; exact .inr ⟨rfl, hv⟩), (fun h => by cases h)⟩, ⟨(fun j b h v W hv => by cases h; exact .inr ⟨rfl, hv⟩), (fun h => by cases h)⟩, ⟨(fun j b h v W hv => by cases h; exact .inr ⟨rfl, hv⟩), (fun h => by cases h)⟩, ⟨(fun j b h v W hv => by cases h; exact .inr ⟨rfl, hv⟩), (fun h => by cases h)⟩, ⟨(fun j b h v W hv => by cases h; exact .inr ⟨rfl, hv⟩), (fun h => by cases h)⟩, ⟨(fun j b h v W hv => by cases h; exact .inr ⟨rfl, hv⟩), (fun h => by cases h)⟩, ⟨(fun j b h v W hv => by cases h; exact .inl hv), (fun h => by cases h)⟩, ⟨(fun j b h => by cases h), fun _ => rfl⟩, ⟨(fun j b h => by cases h), fun _ => rfl⟩, trivial⟩ ⟨?s0, ?s1, ?s2, ?s3, ?s4, ?s5, ?s6, ?s7, ?s8, ?s9, ?s10, ?s11, ?s12, ?s13, ?s14, ?s15, ?s16, ?s17, ?s18, ?s19, ?s20, ?s21, ?s22, ?s23, ?s24, ?s25, ?s26, ?s27, ?s28, ?s29, trivial⟩ ?hskip ?hdone
  case hst =>
    intro L i j v W W' hLi hLj hne hcl hR h
    match j with
    | 0 => exact h
    | 1 => exact h
    | 2 => exact h
    | 3 => exact h
    | 4 => exact h
    | 5 => exact h
    | 6 => exact h
    | 7 => exact h
    | 8 => exact h
    | 9 => exact h
    | 10 => exact h
    | 11 => exact h
    | 12 => exact h
    | 13 => exact h
    | 14 => exact h
    | 15 => exact h
    | 16 => exact h
    | 17 => exact h
    | 18 => exact h
    | 19 => exact h
    | 20 => exact h
    | 21 => exact h
    | 22 => exact h
    | 23 => exact h
    | 24 => exact h
    | 25 => exact h
    | 26 => exact h
    | 27 => exact h
    | 28 => exact h
    | 29 => exact h
    | n + 30 => trivial

  case s0 =>
    intro _ L ρ W hLi hcl hold hJ hT
    have q2 := hT.2.1 2 _ t2 rfl
    refine Op1.of_run (v := .pointer (some ⟨X, 0, none⟩)) (W' := W) (by clear hT hJ hcl hold; go_simp) ⟨Below.refl _ _, hJ, rfl⟩

  case s1 =>
    intro _ L ρ W hLi hcl hold hJ hT
    have q35 : ρ (.tmp 35) = .pointer (some ⟨X, 0, none⟩) := hT.1 35 0 rfl rfl
    have cc := (hJ.cell (World.block_lt_of_cell? _ _ kb0)).trans kb0
    refine Op1.of_run (v := .string t) (W' := W) (by clear hT hJ hcl hold; go_simp) ⟨Below.refl _ _, hJ, rfl⟩

  case s2 =>
    intro _ L ρ W hLi hcl hold hJ hT
    have q3 := hT.2.1 3 _ t3 rfl
    refine Op1.of_run (v := .pointer (some ⟨Y, 0, none⟩)) (W' := W) (by clear hT hJ hcl hold; go_simp) ⟨Below.refl _ _, hJ, rfl⟩

  case s3 =>
    intro _ L ρ W hLi hcl hold hJ hT
    have q37 : ρ (.tmp 37) = .pointer (some ⟨Y, 0, none⟩) := hT.1 37 2 rfl rfl
    have cc := (hJ.cell (World.block_lt_of_cell? _ _ kx0)).trans kx0
    refine Op1.of_run (v := .int .i64 off) (W' := W) (by clear hT hJ hcl hold; go_simp) ⟨Below.refl _ _, hJ, rfl⟩

  case s4 =>
    intro _ L ρ W hLi hcl hold hJ hT
    have q5 := hT.2.1 5 _ t5 rfl
    refine Op1.of_run (v := .int .i64 (off + (s.size : Int))) (W' := W) (by clear hT hJ hcl hold; go_simp) ⟨Below.refl _ _, hJ, rfl⟩

  case s5 =>
    intro _ L ρ W hLi hcl hold hJ hT
    have q36 : ρ (.tmp 36) = .string t := hT.1 36 1 rfl rfl
    have q38 : ρ (.tmp 38) = .int .i64 off := hT.1 38 3 rfl rfl
    have q39 : ρ (.tmp 39) = .int .i64 (off + (s.size : Int)) := hT.1 39 4 rfl rfl
    have a1 : off ≤ off + (s.size : Int) := by omega
    have a2 : off + (s.size : Int) ≤ (t.size : Int) := hb.2
    have a0 : 0 ≤ off := hb.1
    refine Op1.of_run (v := .string (t.extract off.toNat (off + (s.size : Int)).toNat)) (W' := W) (by clear hT hJ hcl hold; go_simp) ⟨Below.refl _ _, hJ, rfl⟩

  case s6 =>
    intro _ L ρ W hLi hcl hold hJ hT
    have q3 := hT.2.1 3 _ t3 rfl
    refine Op1.of_run (v := .pointer (some ⟨Y, 1, none⟩)) (W' := W) (by clear hT hJ hcl hold; go_simp) ⟨Below.refl _ _, hJ, rfl⟩

  case s7 =>
    intro _ L ρ W hLi hcl hold hJ hT
    have q41 : ρ (.tmp 41) = .pointer (some ⟨Y, 1, none⟩) := hT.1 41 6 rfl rfl
    have cc := (hJ.cell (World.block_lt_of_cell? _ _ kx1)).trans kx1
    refine Op1.of_run (v := .string s) (W' := W) (by clear hT hJ hcl hold; go_simp) ⟨Below.refl _ _, hJ, rfl⟩

  case s8 =>
    intro _ L ρ W hLi hcl hold hJ hT
    have q40 : ρ (.tmp 40) = .string (t.extract off.toNat (off + (s.size : Int)).toNat) := hT.1 40 5 rfl rfl
    have q42 : ρ (.tmp 42) = .string s := hT.1 42 7 rfl rfl
    refine Op1.of_run (v := .bool false) (W' := W) (by clear hT hJ hcl hold; go_simp) ⟨Below.refl _ _, hJ, rfl⟩

  case s9 =>
    intro _ L ρ W hLi hcl hold hJ hT
    have q43 : ρ (.tmp 43) = .bool false := hT.1 43 8 rfl rfl
    refine Op1.of_run (v := .bool false) (W' := W) (by clear hT hJ hcl hold; go_simp) ⟨Below.refl _ _, hJ, rfl⟩

  case s10 => intro h; cases h

  case s11 => intro h; cases h

  case s12 => intro h; cases h

  case s13 => intro h; cases h

  case s14 => intro h; cases h

  case s15 => intro h; cases h

  case s16 => intro h; cases h

  case s17 => intro h; cases h

  case s18 => intro h; cases h

  case s19 => intro h; cases h

  case s20 => intro h; cases h

  case s21 => intro h; cases h

  case s22 => intro h; cases h

  case s23 => intro h; cases h

  case s24 => intro h; cases h

  case s25 => intro h; cases h

  case s26 => intro h; cases h

  case s27 => intro h; cases h

  case s28 =>
    intro _ L ρ W hLi hcl hold hJ hT
    have q44 : ρ (.tmp 44) = .bool false := hT.1 44 9 rfl rfl
    have q62 : ρ (.tmp 62) = undef := hT.1 62 27 rfl rfl
    have qc := hT.2.2.1 (Go.Value.bool false)
    refine Op1.of_run (v := .bool false) (W' := W) (by clear hT hJ hcl hold; go_simp) ⟨Below.refl _ _, hJ, rfl⟩

  case s29 =>
    intro _ L ρ W hLi hcl hold hJ hT
    have q63 : ρ (.tmp 63) = .bool false := hT.1 63 28 rfl rfl
    refine Op1.of_run (v := .bool false) (W' := W) (by clear hT hJ hcl hold; go_simp) ⟨Below.refl _ _, hJ, rfl⟩

  case hskip =>
    intro i hi L W hLi hJ
    have hi2 : i = 10 ∨ i = 11 ∨ i = 12 ∨ i = 13 ∨ i = 14 ∨ i = 15 ∨ i = 16 ∨ i = 17 ∨ i = 18 ∨ i = 19 ∨ i = 20 ∨ i = 21 ∨ i = 22 ∨ i = 23 ∨ i = 24 ∨ i = 25 ∨ i = 26 ∨ i = 27 := by simpa using hi
    rcases hi2 with rfl | rfl | rfl | rfl | rfl | rfl | rfl | rfl | rfl | rfl | rfl | rfl | rfl | rfl | rfl | rfl | rfl | rfl <;> exact ⟨hJ, rfl⟩

  case hdone =>
    intro σ L W hL hJ hV
    exact hQ σ W ⟨hJ, hV 29 (by decide)⟩
def RWas_r4b_val (X Y : Nat) (t : ByteArray) (off : Int) (s : ByteArray) (x : Bool) (y : Bool) : Nat → Value → World → Prop := fun j v W => match j with
  | 0 => v = .pointer (some ⟨X, 0, none⟩)
  | 1 => v = .string t
  | 2 => v = .pointer (some ⟨Y, 0, none⟩)
  | 3 => v = .int .i64 off
  | 4 => v = .int .i64 (off + (s.size : Int))
  | 5 => v = .string (t.extract off.toNat (off + (s.size : Int)).toNat)
  | 6 => v = .pointer (some ⟨Y, 1, none⟩)
  | 7 => v = .string s
  | 8 => v = .bool true
  | 9 => v = .bool true
  | 10 => v = .pointer (some ⟨Y, 2, none⟩)
  | 11 => v = .bool false
  | 12 => v = .bool true
  | 13 => v = .bool true
  | 14 => v = undef
  | 15 => v = undef
  | 16 => v = undef
  | 17 => v = undef
  | 18 => v = undef
  | 19 => v = undef
  | 20 => v = undef
  | 21 => v = undef
  | 22 => v = undef
  | 23 => v = undef
  | 24 => v = undef
  | 25 => v = undef
  | 26 => v = undef
  | 27 => v = .bool true
  | 28 => v = .bool true
  | 29 => v = .bool true
  | _ => True

set_option maxRecDepth 100000 in
set_option maxHeartbeats 4000000 in
theorem RWas_r4b (X Y : Nat) (t : ByteArray) (off : Int) (s : ByteArray) (x : Bool) (y : Bool) (t0 : List Value) (d0 : List Deferred) (w : World) (Q : Exit → Act → World → Prop) (hl : t0.length = rw4_tab.length)
    (t2 : t0[2]? = some (.pointer (some ⟨X, 0, none⟩))) (t3 : t0[3]? = some (.pointer (some ⟨Y, 0, none⟩))) (t5 : t0[5]? = some (.int .i64 (off + (s.size : Int)))) (kb0 : w.cell? ⟨X, 0, none⟩ = some (.string t)) (kx0 : w.cell? ⟨Y, 0, none⟩ = some (.int .i64 off)) (kx1 : w.cell? ⟨Y, 1, none⟩ = some (.string s)) (kx2 : w.cell? ⟨Y, 2, none⟩ = some (.bool false)) (hb : 0 ≤ off ∧ off + (s.size : Int) ≤ (t.size : Int)) (hx : ((t.extract off.toNat (off + (s.size : Int)).toNat).toList == s.toList) = true) 
    (hQ : ∀ σ W, Below w.heap.size w W ∧ σ 29 = .bool true → Q .normal (lazyA (fun _ => true) σ t0 rw4_tab d0) W) :
    (Code.region 4 rw4_ops.toArray true).wp Try.prog Q { tmps := t0.toArray, defers := d0 } w := by
  refine wp_region_valsU (by kernel_rfl) rw4_tab (by kernel_rfl) hl (fun i => [14, 15, 16, 17, 18, 19, 20, 21, 22, 23, 24, 25, 26].contains i) (fun i W W' => Below W.heap.size W W') (fun L W => Below w.heap.size w W) (RWas_r4b_val X Y t off s x y) (below_drew (Below.refl _ _)) ?hst ⟨⟨(fun j b h => by cases h), fun _ => rfl⟩, ⟨(fun j b h => by cases h), fun _ => rfl⟩, ⟨(fun j b h => by cases h), fun _ => rfl⟩, ⟨(fun j b h => by cases h), fun _ => rfl⟩, ⟨(fun j b h => by cases h), fun _ => rfl⟩, ⟨(fun j b h => by cases h), fun _ => rfl⟩, ⟨(fun j b h => by cases h), fun _ => rfl⟩, ⟨(fun j b h => by cases h), fun _ => rfl⟩, ⟨(fun j b h => by cases h), fun _ => rfl⟩, ⟨(fun j b h => by cases h), fun _ => rfl⟩, ⟨(fun j b h v W hv => by cases h; exact .inl hv), (fun h => by cases h)⟩, ⟨(fun j b h v W hv => by cases h; exact .inl hv), (fun h => by cases h)⟩, ⟨(fun j b h v W hv => by cases h; exact .inl hv), (fun h => by cases h)⟩, ⟨(fun j b h v W hv => by cases h; exact .inl hv), (fun h => by cases h)⟩, ⟨(fun j b h v W hv => by cases h; exact .inl hv), (fun h => by cases h)⟩, ⟨(fun j b h v W hv => by cases h; exact .inl hv), (fun h => by cases h)⟩, ⟨(fun j b h v W hv => by cases h; exact .inl hv), (fun h => by cases h)⟩, ⟨(fun j b h v W hv => by cases h; exact .inr ⟨rfl, hv⟩), (fun h => by cases h)⟩, ⟨(fun j b h v W hv => by cases h; exact .inr ⟨rfl, hv⟩), (fun h => by cases h)⟩, ⟨(fun j b h v W hv => by cases h; exact .inl hv), (fun h => by cases h)⟩, ⟨(fun j b h v W hv => by cases h; exact .inl hv), (fun h => by cases h)⟩, ⟨(fun j b h v W hv => by cases h; exact .inr ⟨rfl, hv⟩), (fun h => by cases h)⟩, ⟨(fun j b h v W hv => by cases h; exact .inr ⟨rfl, hv⟩), (fun h => by cases h)⟩, ⟨(fun j b h v W hv => by cases h; exact .inr ⟨rfl, hv⟩), (fun h => by cases h)⟩, ⟨(fun j b h v W hv => by cases h; exact .inr ⟨rfl, hv⟩), (fun h => by cases h)⟩, ⟨(fun j b h v W hv => by cases h; exact .inr ⟨rfl, hv⟩), (fun h => by cases h)⟩, ⟨(fun j b h v W hv => by cases h; exact .inl hv), (fun h => by cases h)⟩, ⟨(fun j b h v W hv => by cases h; exact .inl hv), (fun h => by cases h)⟩, ⟨(fun j b h => by cases h), fun _ => rfl⟩, ⟨(fun j b h => by cases h), fun _ => rfl⟩, trivial⟩ ⟨?s0, ?s1, ?s2, ?s3, ?s4, ?s5, ?s6, ?s7, ?s8, ?s9, ?s10, ?s11, ?s12, ?s13, ?s14, ?s15, ?s16, ?s17, ?s18, ?s19, ?s20, ?s21, ?s22, ?s23, ?s24, ?s25, ?s26, ?s27, ?s28, ?s29, trivial⟩ ?hskip ?hdone
  case hst =>
    intro L i j v W W' hLi hLj hne hcl hR h
    match j with
    | 0 => exact h
    | 1 => exact h
    | 2 => exact h
    | 3 => exact h
    | 4 => exact h
    | 5 => exact h
    | 6 => exact h
    | 7 => exact h
    | 8 => exact h
    | 9 => exact h
    | 10 => exact h
    | 11 => exact h
    | 12 => exact h
    | 13 => exact h
    | 14 => exact h
    | 15 => exact h
    | 16 => exact h
    | 17 => exact h
    | 18 => exact h
    | 19 => exact h
    | 20 => exact h
    | 21 => exact h
    | 22 => exact h
    | 23 => exact h
    | 24 => exact h
    | 25 => exact h
    | 26 => exact h
    | 27 => exact h
    | 28 => exact h
    | 29 => exact h
    | n + 30 => trivial

  case s0 =>
    intro _ L ρ W hLi hcl hold hJ hT
    have q2 := hT.2.1 2 _ t2 rfl
    refine Op1.of_run (v := .pointer (some ⟨X, 0, none⟩)) (W' := W) (by clear hT hJ hcl hold; go_simp) ⟨Below.refl _ _, hJ, rfl⟩

  case s1 =>
    intro _ L ρ W hLi hcl hold hJ hT
    have q35 : ρ (.tmp 35) = .pointer (some ⟨X, 0, none⟩) := hT.1 35 0 rfl rfl
    have cc := (hJ.cell (World.block_lt_of_cell? _ _ kb0)).trans kb0
    refine Op1.of_run (v := .string t) (W' := W) (by clear hT hJ hcl hold; go_simp) ⟨Below.refl _ _, hJ, rfl⟩

  case s2 =>
    intro _ L ρ W hLi hcl hold hJ hT
    have q3 := hT.2.1 3 _ t3 rfl
    refine Op1.of_run (v := .pointer (some ⟨Y, 0, none⟩)) (W' := W) (by clear hT hJ hcl hold; go_simp) ⟨Below.refl _ _, hJ, rfl⟩

  case s3 =>
    intro _ L ρ W hLi hcl hold hJ hT
    have q37 : ρ (.tmp 37) = .pointer (some ⟨Y, 0, none⟩) := hT.1 37 2 rfl rfl
    have cc := (hJ.cell (World.block_lt_of_cell? _ _ kx0)).trans kx0
    refine Op1.of_run (v := .int .i64 off) (W' := W) (by clear hT hJ hcl hold; go_simp) ⟨Below.refl _ _, hJ, rfl⟩

  case s4 =>
    intro _ L ρ W hLi hcl hold hJ hT
    have q5 := hT.2.1 5 _ t5 rfl
    refine Op1.of_run (v := .int .i64 (off + (s.size : Int))) (W' := W) (by clear hT hJ hcl hold; go_simp) ⟨Below.refl _ _, hJ, rfl⟩

  case s5 =>
    intro _ L ρ W hLi hcl hold hJ hT
    have q36 : ρ (.tmp 36) = .string t := hT.1 36 1 rfl rfl
    have q38 : ρ (.tmp 38) = .int .i64 off := hT.1 38 3 rfl rfl
    have q39 : ρ (.tmp 39) = .int .i64 (off + (s.size : Int)) := hT.1 39 4 rfl rfl
    have a1 : off ≤ off + (s.size : Int) := by omega
    have a2 : off + (s.size : Int) ≤ (t.size : Int) := hb.2
    have a0 : 0 ≤ off := hb.1
    refine Op1.of_run (v := .string (t.extract off.toNat (off + (s.size : Int)).toNat)) (W' := W) (by clear hT hJ hcl hold; go_simp) ⟨Below.refl _ _, hJ, rfl⟩

  case s6 =>
    intro _ L ρ W hLi hcl hold hJ hT
    have q3 := hT.2.1 3 _ t3 rfl
    refine Op1.of_run (v := .pointer (some ⟨Y, 1, none⟩)) (W' := W) (by clear hT hJ hcl hold; go_simp) ⟨Below.refl _ _, hJ, rfl⟩

  case s7 =>
    intro _ L ρ W hLi hcl hold hJ hT
    have q41 : ρ (.tmp 41) = .pointer (some ⟨Y, 1, none⟩) := hT.1 41 6 rfl rfl
    have cc := (hJ.cell (World.block_lt_of_cell? _ _ kx1)).trans kx1
    refine Op1.of_run (v := .string s) (W' := W) (by clear hT hJ hcl hold; go_simp) ⟨Below.refl _ _, hJ, rfl⟩

  case s8 =>
    intro _ L ρ W hLi hcl hold hJ hT
    have q40 : ρ (.tmp 40) = .string (t.extract off.toNat (off + (s.size : Int)).toNat) := hT.1 40 5 rfl rfl
    have q42 : ρ (.tmp 42) = .string s := hT.1 42 7 rfl rfl
    refine Op1.of_run (v := .bool true) (W' := W) (by clear hT hJ hcl hold; go_simp) ⟨Below.refl _ _, hJ, rfl⟩

  case s9 =>
    intro _ L ρ W hLi hcl hold hJ hT
    have q43 : ρ (.tmp 43) = .bool true := hT.1 43 8 rfl rfl
    refine Op1.of_run (v := .bool true) (W' := W) (by clear hT hJ hcl hold; go_simp) ⟨Below.refl _ _, hJ, rfl⟩

  case s10 =>
    intro _ L ρ W hLi hcl hold hJ hT
    have q3 := hT.2.1 3 _ t3 rfl
    refine Op1.of_run (v := .pointer (some ⟨Y, 2, none⟩)) (W' := W) (by clear hT hJ hcl hold; go_simp) ⟨Below.refl _ _, hJ, rfl⟩

  case s11 =>
    intro _ L ρ W hLi hcl hold hJ hT
    have q45 : ρ (.tmp 45) = .pointer (some ⟨Y, 2, none⟩) := hT.1 45 10 rfl rfl
    have cc := (hJ.cell (World.block_lt_of_cell? _ _ kx2)).trans kx2
    refine Op1.of_run (v := .bool false) (W' := W) (by clear hT hJ hcl hold; go_simp) ⟨Below.refl _ _, hJ, rfl⟩

  case s12 =>
    intro _ L ρ W hLi hcl hold hJ hT
    have q46 : ρ (.tmp 46) = .bool false := hT.1 46 11 rfl rfl
    refine Op1.of_run (v := .bool true) (W' := W) (by clear hT hJ hcl hold; go_simp) ⟨Below.refl _ _, hJ, rfl⟩

  case s13 =>
    intro _ L ρ W hLi hcl hold hJ hT
    have q47 : ρ (.tmp 47) = .bool true := hT.1 47 12 rfl rfl
    refine Op1.of_run (v := .bool true) (W' := W) (by clear hT hJ hcl hold; go_simp) ⟨Below.refl _ _, hJ, rfl⟩

  case s14 => intro h; cases h

  case s15 => intro h; cases h

  case s16 => intro h; cases h

  case s17 => intro h; cases h

  case s18 => intro h; cases h

  case s19 => intro h; cases h

  case s20 => intro h; cases h

  case s21 => intro h; cases h

  case s22 => intro h; cases h

  case s23 => intro h; cases h

  case s24 => intro h; cases h

  case s25 => intro h; cases h

  case s26 => intro h; cases h

  case s27 =>
    intro _ L ρ W hLi hcl hold hJ hT
    have q48 : ρ (.tmp 48) = .bool true := hT.1 48 13 rfl rfl
    have q61 : ρ (.tmp 61) = undef := hT.1 61 26 rfl rfl
    have qc := hT.2.2.1 (Go.Value.bool true)
    refine Op1.of_run (v := .bool true) (W' := W) (by clear hT hJ hcl hold; go_simp) ⟨Below.refl _ _, hJ, rfl⟩

  case s28 =>
    intro _ L ρ W hLi hcl hold hJ hT
    have q44 : ρ (.tmp 44) = .bool true := hT.1 44 9 rfl rfl
    have q62 : ρ (.tmp 62) = .bool true := hT.1 62 27 rfl rfl
    have qc := hT.2.2.1 (Go.Value.bool false)
    refine Op1.of_run (v := .bool true) (W' := W) (by clear hT hJ hcl hold; go_simp) ⟨Below.refl _ _, hJ, rfl⟩

  case s29 =>
    intro _ L ρ W hLi hcl hold hJ hT
    have q63 : ρ (.tmp 63) = .bool true := hT.1 63 28 rfl rfl
    refine Op1.of_run (v := .bool true) (W' := W) (by clear hT hJ hcl hold; go_simp) ⟨Below.refl _ _, hJ, rfl⟩

  case hskip =>
    intro i hi L W hLi hJ
    have hi2 : i = 14 ∨ i = 15 ∨ i = 16 ∨ i = 17 ∨ i = 18 ∨ i = 19 ∨ i = 20 ∨ i = 21 ∨ i = 22 ∨ i = 23 ∨ i = 24 ∨ i = 25 ∨ i = 26 := by simpa using hi
    rcases hi2 with rfl | rfl | rfl | rfl | rfl | rfl | rfl | rfl | rfl | rfl | rfl | rfl | rfl <;> exact ⟨hJ, rfl⟩

  case hdone =>
    intro σ L W hL hJ hV
    exact hQ σ W ⟨hJ, hV 29 (by decide)⟩
def RWas_r4c_val (X Y : Nat) (t : ByteArray) (off : Int) (s : ByteArray) (y : Bool) : Nat → Value → World → Prop := fun j v W => match j with
  | 0 => v = .pointer (some ⟨X, 0, none⟩)
  | 1 => v = .string t
  | 2 => v = .pointer (some ⟨Y, 0, none⟩)
  | 3 => v = .int .i64 off
  | 4 => v = .int .i64 (off + (s.size : Int))
  | 5 => v = .string (t.extract off.toNat (off + (s.size : Int)).toNat)
  | 6 => v = .pointer (some ⟨Y, 1, none⟩)
  | 7 => v = .string s
  | 8 => v = .bool true
  | 9 => v = .bool true
  | 10 => v = .pointer (some ⟨Y, 2, none⟩)
  | 11 => v = .bool true
  | 12 => v = .bool false
  | 13 => v = .bool false
  | 14 => v = .pointer (some ⟨X, 2, none⟩)
  | 15 => v = .bool false
  | 16 => v = .bool false
  | 17 => True
  | 18 => True
  | 19 => v = .bool false
  | 20 => v = .bool false
  | 21 => True
  | 22 => True
  | 23 => True
  | 24 => True
  | 25 => True
  | 26 => v = .bool false
  | 27 => v = .bool false
  | 28 => v = .bool false
  | 29 => v = .bool false
  | _ => True

set_option maxRecDepth 100000 in
set_option maxHeartbeats 4000000 in
theorem RWas_r4c (X Y : Nat) (t : ByteArray) (off : Int) (s : ByteArray) (y : Bool) (t0 : List Value) (d0 : List Deferred) (w : World) (Q : Exit → Act → World → Prop) (hl : t0.length = rw4_tab.length)
    (t2 : t0[2]? = some (.pointer (some ⟨X, 0, none⟩))) (t3 : t0[3]? = some (.pointer (some ⟨Y, 0, none⟩))) (t5 : t0[5]? = some (.int .i64 (off + (s.size : Int)))) (kb0 : w.cell? ⟨X, 0, none⟩ = some (.string t)) (kb2 : w.cell? ⟨X, 2, none⟩ = some (.bool false)) (kx0 : w.cell? ⟨Y, 0, none⟩ = some (.int .i64 off)) (kx1 : w.cell? ⟨Y, 1, none⟩ = some (.string s)) (kx2 : w.cell? ⟨Y, 2, none⟩ = some (.bool true)) (hb : 0 ≤ off ∧ off + (s.size : Int) ≤ (t.size : Int)) (hx : ((t.extract off.toNat (off + (s.size : Int)).toNat).toList == s.toList) = true) 
    (hQ : ∀ σ W, Below w.heap.size w W ∧ σ 29 = .bool false → Q .normal (lazyA (fun _ => true) σ t0 rw4_tab d0) W) :
    (Code.region 4 rw4_ops.toArray true).wp Try.prog Q { tmps := t0.toArray, defers := d0 } w := by
  refine wp_region_valsO (by kernel_rfl) rw4_tab (by kernel_rfl) hl (fun i => [17, 18, 21, 22, 23, 24, 25].contains i) (fun i W W' => Below W.heap.size W W') (fun L W => Below w.heap.size w W) (RWas_r4c_val X Y t off s y) (below_drew (Below.refl _ _)) ?hst ⟨⟨(fun j b h => by cases h), fun _ => rfl⟩, ⟨(fun j b h => by cases h), fun _ => rfl⟩, ⟨(fun j b h => by cases h), fun _ => rfl⟩, ⟨(fun j b h => by cases h), fun _ => rfl⟩, ⟨(fun j b h => by cases h), fun _ => rfl⟩, ⟨(fun j b h => by cases h), fun _ => rfl⟩, ⟨(fun j b h => by cases h), fun _ => rfl⟩, ⟨(fun j b h => by cases h), fun _ => rfl⟩, ⟨(fun j b h => by cases h), fun _ => rfl⟩, ⟨(fun j b h => by cases h), fun _ => rfl⟩, ⟨(fun j b h v W hv => by cases h; exact hv), (fun h => by cases h)⟩, ⟨(fun j b h v W hv => by cases h; exact hv), (fun h => by cases h)⟩, ⟨(fun j b h v W hv => by cases h; exact hv), (fun h => by cases h)⟩, ⟨(fun j b h v W hv => by cases h; exact hv), (fun h => by cases h)⟩, ⟨(fun j b h v W hv => by cases h; exact hv), (fun h => by cases h)⟩, ⟨(fun j b h v W hv => by cases h; exact hv), (fun h => by cases h)⟩, ⟨(fun j b h v W hv => by cases h; exact hv), (fun h => by cases h)⟩, ⟨(fun j b h v W hv => by cases h; exact hv), (fun h => by cases h)⟩, ⟨(fun j b h v W hv => by cases h; exact hv), (fun h => by cases h)⟩, ⟨(fun j b h v W hv => by cases h; exact hv), (fun h => by cases h)⟩, ⟨(fun j b h v W hv => by cases h; exact hv), (fun h => by cases h)⟩, ⟨(fun j b h v W hv => by cases h; exact hv), (fun h => by cases h)⟩, ⟨(fun j b h v W hv => by cases h; exact hv), (fun h => by cases h)⟩, ⟨(fun j b h v W hv => by cases h; exact hv), (fun h => by cases h)⟩, ⟨(fun j b h v W hv => by cases h; exact hv), (fun h => by cases h)⟩, ⟨(fun j b h v W hv => by cases h; exact hv), (fun h => by cases h)⟩, ⟨(fun j b h v W hv => by cases h; exact hv), (fun h => by cases h)⟩, ⟨(fun j b h v W hv => by cases h; exact hv), (fun h => by cases h)⟩, ⟨(fun j b h => by cases h), fun _ => rfl⟩, ⟨(fun j b h => by cases h), fun _ => rfl⟩, trivial⟩ ⟨?s0, ?s1, ?s2, ?s3, ?s4, ?s5, ?s6, ?s7, ?s8, ?s9, ?s10, ?s11, ?s12, ?s13, ?s14, ?s15, ?s16, ?s17, ?s18, ?s19, ?s20, ?s21, ?s22, ?s23, ?s24, ?s25, ?s26, ?s27, ?s28, ?s29, trivial⟩ ?hskip ?hdone
  case hst =>
    intro L i j v W W' hLi hLj hne hcl hR h
    match j with
    | 0 => exact h
    | 1 => exact h
    | 2 => exact h
    | 3 => exact h
    | 4 => exact h
    | 5 => exact h
    | 6 => exact h
    | 7 => exact h
    | 8 => exact h
    | 9 => exact h
    | 10 => exact h
    | 11 => exact h
    | 12 => exact h
    | 13 => exact h
    | 14 => exact h
    | 15 => exact h
    | 16 => exact h
    | 17 => exact h
    | 18 => exact h
    | 19 => exact h
    | 20 => exact h
    | 21 => exact h
    | 22 => exact h
    | 23 => exact h
    | 24 => exact h
    | 25 => exact h
    | 26 => exact h
    | 27 => exact h
    | 28 => exact h
    | 29 => exact h
    | n + 30 => trivial

  case s0 =>
    intro _ L ρ W hLi hcl hold hJ hT
    have q2 := hT.2.1 2 _ t2 rfl
    refine Op1.of_run (v := .pointer (some ⟨X, 0, none⟩)) (W' := W) (by clear hT hJ hcl hold; go_simp) ⟨Below.refl _ _, hJ, rfl⟩

  case s1 =>
    intro _ L ρ W hLi hcl hold hJ hT
    have q35 : ρ (.tmp 35) = .pointer (some ⟨X, 0, none⟩) := hT.1 35 0 rfl rfl
    have cc := (hJ.cell (World.block_lt_of_cell? _ _ kb0)).trans kb0
    refine Op1.of_run (v := .string t) (W' := W) (by clear hT hJ hcl hold; go_simp) ⟨Below.refl _ _, hJ, rfl⟩

  case s2 =>
    intro _ L ρ W hLi hcl hold hJ hT
    have q3 := hT.2.1 3 _ t3 rfl
    refine Op1.of_run (v := .pointer (some ⟨Y, 0, none⟩)) (W' := W) (by clear hT hJ hcl hold; go_simp) ⟨Below.refl _ _, hJ, rfl⟩

  case s3 =>
    intro _ L ρ W hLi hcl hold hJ hT
    have q37 : ρ (.tmp 37) = .pointer (some ⟨Y, 0, none⟩) := hT.1 37 2 rfl rfl
    have cc := (hJ.cell (World.block_lt_of_cell? _ _ kx0)).trans kx0
    refine Op1.of_run (v := .int .i64 off) (W' := W) (by clear hT hJ hcl hold; go_simp) ⟨Below.refl _ _, hJ, rfl⟩

  case s4 =>
    intro _ L ρ W hLi hcl hold hJ hT
    have q5 := hT.2.1 5 _ t5 rfl
    refine Op1.of_run (v := .int .i64 (off + (s.size : Int))) (W' := W) (by clear hT hJ hcl hold; go_simp) ⟨Below.refl _ _, hJ, rfl⟩

  case s5 =>
    intro _ L ρ W hLi hcl hold hJ hT
    have q36 : ρ (.tmp 36) = .string t := hT.1 36 1 rfl rfl
    have q38 : ρ (.tmp 38) = .int .i64 off := hT.1 38 3 rfl rfl
    have q39 : ρ (.tmp 39) = .int .i64 (off + (s.size : Int)) := hT.1 39 4 rfl rfl
    have a1 : off ≤ off + (s.size : Int) := by omega
    have a2 : off + (s.size : Int) ≤ (t.size : Int) := hb.2
    have a0 : 0 ≤ off := hb.1
    refine Op1.of_run (v := .string (t.extract off.toNat (off + (s.size : Int)).toNat)) (W' := W) (by clear hT hJ hcl hold; go_simp) ⟨Below.refl _ _, hJ, rfl⟩

  case s6 =>
    intro _ L ρ W hLi hcl hold hJ hT
    have q3 := hT.2.1 3 _ t3 rfl
    refine Op1.of_run (v := .pointer (some ⟨Y, 1, none⟩)) (W' := W) (by clear hT hJ hcl hold; go_simp) ⟨Below.refl _ _, hJ, rfl⟩

  case s7 =>
    intro _ L ρ W hLi hcl hold hJ hT
    have q41 : ρ (.tmp 41) = .pointer (some ⟨Y, 1, none⟩) := hT.1 41 6 rfl rfl
    have cc := (hJ.cell (World.block_lt_of_cell? _ _ kx1)).trans kx1
    refine Op1.of_run (v := .string s) (W' := W) (by clear hT hJ hcl hold; go_simp) ⟨Below.refl _ _, hJ, rfl⟩

  case s8 =>
    intro _ L ρ W hLi hcl hold hJ hT
    have q40 : ρ (.tmp 40) = .string (t.extract off.toNat (off + (s.size : Int)).toNat) := hT.1 40 5 rfl rfl
    have q42 : ρ (.tmp 42) = .string s := hT.1 42 7 rfl rfl
    refine Op1.of_run (v := .bool true) (W' := W) (by clear hT hJ hcl hold; go_simp) ⟨Below.refl _ _, hJ, rfl⟩

  case s9 =>
    intro _ L ρ W hLi hcl hold hJ hT
    have q43 : ρ (.tmp 43) = .bool true := hT.1 43 8 rfl rfl
    refine Op1.of_run (v := .bool true) (W' := W) (by clear hT hJ hcl hold; go_simp) ⟨Below.refl _ _, hJ, rfl⟩

  case s10 =>
    intro _ L ρ W hLi hcl hold hJ hT
    have q3 := hT.2.1 3 _ t3 rfl
    refine Op1.of_run (v := .pointer (some ⟨Y, 2, none⟩)) (W' := W) (by clear hT hJ hcl hold; go_simp) ⟨Below.refl _ _, hJ, rfl⟩

  case s11 =>
    intro _ L ρ W hLi hcl hold hJ hT
    have q45 : ρ (.tmp 45) = .pointer (some ⟨Y, 2, none⟩) := hT.1 45 10 rfl rfl
    have cc := (hJ.cell (World.block_lt_of_cell? _ _ kx2)).trans kx2
    refine Op1.of_run (v := .bool true) (W' := W) (by clear hT hJ hcl hold; go_simp) ⟨Below.refl _ _, hJ, rfl⟩

  case s12 =>
    intro _ L ρ W hLi hcl hold hJ hT
    have q46 : ρ (.tmp 46) = .bool true := hT.1 46 11 rfl rfl
    refine Op1.of_run (v := .bool false) (W' := W) (by clear hT hJ hcl hold; go_simp) ⟨Below.refl _ _, hJ, rfl⟩

  case s13 =>
    intro _ L ρ W hLi hcl hold hJ hT
    have q47 : ρ (.tmp 47) = .bool false := hT.1 47 12 rfl rfl
    refine Op1.of_run (v := .bool false) (W' := W) (by clear hT hJ hcl hold; go_simp) ⟨Below.refl _ _, hJ, rfl⟩

  case s14 =>
    intro _ L ρ W hLi hcl hold hJ hT
    have q2 := hT.2.1 2 _ t2 rfl
    refine Op1.of_run (v := .pointer (some ⟨X, 2, none⟩)) (W' := W) (by clear hT hJ hcl hold; go_simp) ⟨Below.refl _ _, hJ, rfl⟩

  case s15 =>
    intro _ L ρ W hLi hcl hold hJ hT
    have q49 : ρ (.tmp 49) = .pointer (some ⟨X, 2, none⟩) := hT.1 49 14 rfl rfl
    have cc := (hJ.cell (World.block_lt_of_cell? _ _ kb2)).trans kb2
    refine Op1.of_run (v := .bool false) (W' := W) (by clear hT hJ hcl hold; go_simp) ⟨Below.refl _ _, hJ, rfl⟩

  case s16 =>
    intro _ L ρ W hLi hcl hold hJ hT
    have q50 : ρ (.tmp 50) = .bool false := hT.1 50 15 rfl rfl
    refine Op1.of_run (v := .bool false) (W' := W) (by clear hT hJ hcl hold; go_simp) ⟨Below.refl _ _, hJ, rfl⟩

  case s17 => intro h; cases h

  case s18 => intro h; cases h

  case s19 =>
    intro _ L ρ W hLi hcl hold hJ hT
    have q51 : ρ (.tmp 51) = .bool false := hT.1 51 16 rfl rfl
    have z53 := hT.1 53 18 rfl rfl
    have qc := hT.2.2.1 (Go.Value.bool false)
    refine Op1.of_run (v := .bool false) (W' := W) (by clear hT hJ hcl hold; go_simp) ⟨Below.refl _ _, hJ, rfl⟩

  case s20 =>
    intro _ L ρ W hLi hcl hold hJ hT
    have q54 : ρ (.tmp 54) = .bool false := hT.1 54 19 rfl rfl
    refine Op1.of_run (v := .bool false) (W' := W) (by clear hT hJ hcl hold; go_simp) ⟨Below.refl _ _, hJ, rfl⟩

  case s21 => intro h; cases h

  case s22 => intro h; cases h

  case s23 => intro h; cases h

  case s24 => intro h; cases h

  case s25 => intro h; cases h

  case s26 =>
    intro _ L ρ W hLi hcl hold hJ hT
    have q55 : ρ (.tmp 55) = .bool false := hT.1 55 20 rfl rfl
    have z60 := hT.1 60 25 rfl rfl
    have qc := hT.2.2.1 (Go.Value.bool false)
    refine Op1.of_run (v := .bool false) (W' := W) (by clear hT hJ hcl hold; go_simp) ⟨Below.refl _ _, hJ, rfl⟩

  case s27 =>
    intro _ L ρ W hLi hcl hold hJ hT
    have q48 : ρ (.tmp 48) = .bool false := hT.1 48 13 rfl rfl
    have q61 : ρ (.tmp 61) = .bool false := hT.1 61 26 rfl rfl
    have qc := hT.2.2.1 (Go.Value.bool true)
    refine Op1.of_run (v := .bool false) (W' := W) (by clear hT hJ hcl hold; go_simp) ⟨Below.refl _ _, hJ, rfl⟩

  case s28 =>
    intro _ L ρ W hLi hcl hold hJ hT
    have q44 : ρ (.tmp 44) = .bool true := hT.1 44 9 rfl rfl
    have q62 : ρ (.tmp 62) = .bool false := hT.1 62 27 rfl rfl
    have qc := hT.2.2.1 (Go.Value.bool false)
    refine Op1.of_run (v := .bool false) (W' := W) (by clear hT hJ hcl hold; go_simp) ⟨Below.refl _ _, hJ, rfl⟩

  case s29 =>
    intro _ L ρ W hLi hcl hold hJ hT
    have q63 : ρ (.tmp 63) = .bool false := hT.1 63 28 rfl rfl
    refine Op1.of_run (v := .bool false) (W' := W) (by clear hT hJ hcl hold; go_simp) ⟨Below.refl _ _, hJ, rfl⟩

  case hskip =>
    intro i hi L W hLi hJ
    have hi2 : i = 17 ∨ i = 18 ∨ i = 21 ∨ i = 22 ∨ i = 23 ∨ i = 24 ∨ i = 25 := by simpa using hi
    rcases hi2 with rfl | rfl | rfl | rfl | rfl | rfl | rfl <;> exact ⟨hJ, trivial⟩

  case hdone =>
    intro σ L W hL hJ hV
    exact hQ σ W ⟨hJ, hV 29 (by decide)⟩
def RWas_r4d_val (X Y : Nat) (t : ByteArray) (off : Int) (s : ByteArray) : Nat → Value → World → Prop := fun j v W => match j with
  | 0 => v = .pointer (some ⟨X, 0, none⟩)
  | 1 => v = .string t
  | 2 => v = .pointer (some ⟨Y, 0, none⟩)
  | 3 => v = .int .i64 off
  | 4 => v = .int .i64 (off + (s.size : Int))
  | 5 => v = .string (t.extract off.toNat (off + (s.size : Int)).toNat)
  | 6 => v = .pointer (some ⟨Y, 1, none⟩)
  | 7 => v = .string s
  | 8 => v = .bool true
  | 9 => v = .bool true
  | 10 => v = .pointer (some ⟨Y, 2, none⟩)
  | 11 => v = .bool true
  | 12 => v = .bool false
  | 13 => v = .bool false
  | 14 => v = .pointer (some ⟨X, 2, none⟩)
  | 15 => v = .bool true
  | 16 => v = .bool true
  | 17 => v = .pointer (some ⟨X, 3, none⟩)
  | 18 => v = .bool false
  | 19 => v = .bool false
  | 20 => v = .bool false
  | 21 => True
  | 22 => True
  | 23 => True
  | 24 => True
  | 25 => True
  | 26 => v = .bool false
  | 27 => v = .bool false
  | 28 => v = .bool false
  | 29 => v = .bool false
  | _ => True

set_option maxRecDepth 100000 in
set_option maxHeartbeats 4000000 in
theorem RWas_r4d (X Y : Nat) (t : ByteArray) (off : Int) (s : ByteArray) (t0 : List Value) (d0 : List Deferred) (w : World) (Q : Exit → Act → World → Prop) (hl : t0.length = rw4_tab.length)
    (t2 : t0[2]? = some (.pointer (some ⟨X, 0, none⟩))) (t3 : t0[3]? = some (.pointer (some ⟨Y, 0, none⟩))) (t5 : t0[5]? = some (.int .i64 (off + (s.size : Int)))) (kb0 : w.cell? ⟨X, 0, none⟩ = some (.string t)) (kb2 : w.cell? ⟨X, 2, none⟩ = some (.bool true)) (kb3 : w.cell? ⟨X, 3, none⟩ = some (.bool false)) (kx0 : w.cell? ⟨Y, 0, none⟩ = some (.int .i64 off)) (kx1 : w.cell? ⟨Y, 1, none⟩ = some (.string s)) (kx2 : w.cell? ⟨Y, 2, none⟩ = some (.bool true)) (hb : 0 ≤ off ∧ off + (s.size : Int) ≤ (t.size : Int)) (hx : ((t.extract off.toNat (off + (s.size : Int)).toNat).toList == s.toList) = true) 
    (hQ : ∀ σ W, Below w.heap.size w W ∧ σ 29 = .bool false → Q .normal (lazyA (fun _ => true) σ t0 rw4_tab d0) W) :
    (Code.region 4 rw4_ops.toArray true).wp Try.prog Q { tmps := t0.toArray, defers := d0 } w := by
  refine wp_region_valsO (by kernel_rfl) rw4_tab (by kernel_rfl) hl (fun i => [21, 22, 23, 24, 25].contains i) (fun i W W' => Below W.heap.size W W') (fun L W => Below w.heap.size w W) (RWas_r4d_val X Y t off s) (below_drew (Below.refl _ _)) ?hst ⟨⟨(fun j b h => by cases h), fun _ => rfl⟩, ⟨(fun j b h => by cases h), fun _ => rfl⟩, ⟨(fun j b h => by cases h), fun _ => rfl⟩, ⟨(fun j b h => by cases h), fun _ => rfl⟩, ⟨(fun j b h => by cases h), fun _ => rfl⟩, ⟨(fun j b h => by cases h), fun _ => rfl⟩, ⟨(fun j b h => by cases h), fun _ => rfl⟩, ⟨(fun j b h => by cases h), fun _ => rfl⟩, ⟨(fun j b h => by cases h), fun _ => rfl⟩, ⟨(fun j b h => by cases h), fun _ => rfl⟩, ⟨(fun j b h v W hv => by cases h; exact hv), (fun h => by cases h)⟩, ⟨(fun j b h v W hv => by cases h; exact hv), (fun h => by cases h)⟩, ⟨(fun j b h v W hv => by cases h; exact hv), (fun h => by cases h)⟩, ⟨(fun j b h v W hv => by cases h; exact hv), (fun h => by cases h)⟩, ⟨(fun j b h v W hv => by cases h; exact hv), (fun h => by cases h)⟩, ⟨(fun j b h v W hv => by cases h; exact hv), (fun h => by cases h)⟩, ⟨(fun j b h v W hv => by cases h; exact hv), (fun h => by cases h)⟩, ⟨(fun j b h v W hv => by cases h; exact hv), (fun h => by cases h)⟩, ⟨(fun j b h v W hv => by cases h; exact hv), (fun h => by cases h)⟩, ⟨(fun j b h v W hv => by cases h; exact hv), (fun h => by cases h)⟩, ⟨(fun j b h v W hv => by cases h; exact hv), (fun h => by cases h)⟩, ⟨(fun j b h v W hv => by cases h; exact hv), (fun h => by cases h)⟩, ⟨(fun j b h v W hv => by cases h; exact hv), (fun h => by cases h)⟩, ⟨(fun j b h v W hv => by cases h; exact hv), (fun h => by cases h)⟩, ⟨(fun j b h v W hv => by cases h; exact hv), (fun h => by cases h)⟩, ⟨(fun j b h v W hv => by cases h; exact hv), (fun h => by cases h)⟩, ⟨(fun j b h v W hv => by cases h; exact hv), (fun h => by cases h)⟩, ⟨(fun j b h v W hv => by cases h; exact hv), (fun h => by cases h)⟩, ⟨(fun j b h => by cases h), fun _ => rfl⟩, ⟨(fun j b h => by cases h), fun _ => rfl⟩, trivial⟩ ⟨?s0, ?s1, ?s2, ?s3, ?s4, ?s5, ?s6, ?s7, ?s8, ?s9, ?s10, ?s11, ?s12, ?s13, ?s14, ?s15, ?s16, ?s17, ?s18, ?s19, ?s20, ?s21, ?s22, ?s23, ?s24, ?s25, ?s26, ?s27, ?s28, ?s29, trivial⟩ ?hskip ?hdone
  case hst =>
    intro L i j v W W' hLi hLj hne hcl hR h
    match j with
    | 0 => exact h
    | 1 => exact h
    | 2 => exact h
    | 3 => exact h
    | 4 => exact h
    | 5 => exact h
    | 6 => exact h
    | 7 => exact h
    | 8 => exact h
    | 9 => exact h
    | 10 => exact h
    | 11 => exact h
    | 12 => exact h
    | 13 => exact h
    | 14 => exact h
    | 15 => exact h
    | 16 => exact h
    | 17 => exact h
    | 18 => exact h
    | 19 => exact h
    | 20 => exact h
    | 21 => exact h
    | 22 => exact h
    | 23 => exact h
    | 24 => exact h
    | 25 => exact h
    | 26 => exact h
    | 27 => exact h
    | 28 => exact h
    | 29 => exact h
    | n + 30 => trivial

  case s0 =>
    intro _ L ρ W hLi hcl hold hJ hT
    have q2 := hT.2.1 2 _ t2 rfl
    refine Op1.of_run (v := .pointer (some ⟨X, 0, none⟩)) (W' := W) (by clear hT hJ hcl hold; go_simp) ⟨Below.refl _ _, hJ, rfl⟩

  case s1 =>
    intro _ L ρ W hLi hcl hold hJ hT
    have q35 : ρ (.tmp 35) = .pointer (some ⟨X, 0, none⟩) := hT.1 35 0 rfl rfl
    have cc := (hJ.cell (World.block_lt_of_cell? _ _ kb0)).trans kb0
    refine Op1.of_run (v := .string t) (W' := W) (by clear hT hJ hcl hold; go_simp) ⟨Below.refl _ _, hJ, rfl⟩

  case s2 =>
    intro _ L ρ W hLi hcl hold hJ hT
    have q3 := hT.2.1 3 _ t3 rfl
    refine Op1.of_run (v := .pointer (some ⟨Y, 0, none⟩)) (W' := W) (by clear hT hJ hcl hold; go_simp) ⟨Below.refl _ _, hJ, rfl⟩

  case s3 =>
    intro _ L ρ W hLi hcl hold hJ hT
    have q37 : ρ (.tmp 37) = .pointer (some ⟨Y, 0, none⟩) := hT.1 37 2 rfl rfl
    have cc := (hJ.cell (World.block_lt_of_cell? _ _ kx0)).trans kx0
    refine Op1.of_run (v := .int .i64 off) (W' := W) (by clear hT hJ hcl hold; go_simp) ⟨Below.refl _ _, hJ, rfl⟩

  case s4 =>
    intro _ L ρ W hLi hcl hold hJ hT
    have q5 := hT.2.1 5 _ t5 rfl
    refine Op1.of_run (v := .int .i64 (off + (s.size : Int))) (W' := W) (by clear hT hJ hcl hold; go_simp) ⟨Below.refl _ _, hJ, rfl⟩

  case s5 =>
    intro _ L ρ W hLi hcl hold hJ hT
    have q36 : ρ (.tmp 36) = .string t := hT.1 36 1 rfl rfl
    have q38 : ρ (.tmp 38) = .int .i64 off := hT.1 38 3 rfl rfl
    have q39 : ρ (.tmp 39) = .int .i64 (off + (s.size : Int)) := hT.1 39 4 rfl rfl
    have a1 : off ≤ off + (s.size : Int) := by omega
    have a2 : off + (s.size : Int) ≤ (t.size : Int) := hb.2
    have a0 : 0 ≤ off := hb.1
    refine Op1.of_run (v := .string (t.extract off.toNat (off + (s.size : Int)).toNat)) (W' := W) (by clear hT hJ hcl hold; go_simp) ⟨Below.refl _ _, hJ, rfl⟩

  case s6 =>
    intro _ L ρ W hLi hcl hold hJ hT
    have q3 := hT.2.1 3 _ t3 rfl
    refine Op1.of_run (v := .pointer (some ⟨Y, 1, none⟩)) (W' := W) (by clear hT hJ hcl hold; go_simp) ⟨Below.refl _ _, hJ, rfl⟩

  case s7 =>
    intro _ L ρ W hLi hcl hold hJ hT
    have q41 : ρ (.tmp 41) = .pointer (some ⟨Y, 1, none⟩) := hT.1 41 6 rfl rfl
    have cc := (hJ.cell (World.block_lt_of_cell? _ _ kx1)).trans kx1
    refine Op1.of_run (v := .string s) (W' := W) (by clear hT hJ hcl hold; go_simp) ⟨Below.refl _ _, hJ, rfl⟩

  case s8 =>
    intro _ L ρ W hLi hcl hold hJ hT
    have q40 : ρ (.tmp 40) = .string (t.extract off.toNat (off + (s.size : Int)).toNat) := hT.1 40 5 rfl rfl
    have q42 : ρ (.tmp 42) = .string s := hT.1 42 7 rfl rfl
    refine Op1.of_run (v := .bool true) (W' := W) (by clear hT hJ hcl hold; go_simp) ⟨Below.refl _ _, hJ, rfl⟩

  case s9 =>
    intro _ L ρ W hLi hcl hold hJ hT
    have q43 : ρ (.tmp 43) = .bool true := hT.1 43 8 rfl rfl
    refine Op1.of_run (v := .bool true) (W' := W) (by clear hT hJ hcl hold; go_simp) ⟨Below.refl _ _, hJ, rfl⟩

  case s10 =>
    intro _ L ρ W hLi hcl hold hJ hT
    have q3 := hT.2.1 3 _ t3 rfl
    refine Op1.of_run (v := .pointer (some ⟨Y, 2, none⟩)) (W' := W) (by clear hT hJ hcl hold; go_simp) ⟨Below.refl _ _, hJ, rfl⟩

  case s11 =>
    intro _ L ρ W hLi hcl hold hJ hT
    have q45 : ρ (.tmp 45) = .pointer (some ⟨Y, 2, none⟩) := hT.1 45 10 rfl rfl
    have cc := (hJ.cell (World.block_lt_of_cell? _ _ kx2)).trans kx2
    refine Op1.of_run (v := .bool true) (W' := W) (by clear hT hJ hcl hold; go_simp) ⟨Below.refl _ _, hJ, rfl⟩

  case s12 =>
    intro _ L ρ W hLi hcl hold hJ hT
    have q46 : ρ (.tmp 46) = .bool true := hT.1 46 11 rfl rfl
    refine Op1.of_run (v := .bool false) (W' := W) (by clear hT hJ hcl hold; go_simp) ⟨Below.refl _ _, hJ, rfl⟩

  case s13 =>
    intro _ L ρ W hLi hcl hold hJ hT
    have q47 : ρ (.tmp 47) = .bool false := hT.1 47 12 rfl rfl
    refine Op1.of_run (v := .bool false) (W' := W) (by clear hT hJ hcl hold; go_simp) ⟨Below.refl _ _, hJ, rfl⟩

  case s14 =>
    intro _ L ρ W hLi hcl hold hJ hT
    have q2 := hT.2.1 2 _ t2 rfl
    refine Op1.of_run (v := .pointer (some ⟨X, 2, none⟩)) (W' := W) (by clear hT hJ hcl hold; go_simp) ⟨Below.refl _ _, hJ, rfl⟩

  case s15 =>
    intro _ L ρ W hLi hcl hold hJ hT
    have q49 : ρ (.tmp 49) = .pointer (some ⟨X, 2, none⟩) := hT.1 49 14 rfl rfl
    have cc := (hJ.cell (World.block_lt_of_cell? _ _ kb2)).trans kb2
    refine Op1.of_run (v := .bool true) (W' := W) (by clear hT hJ hcl hold; go_simp) ⟨Below.refl _ _, hJ, rfl⟩

  case s16 =>
    intro _ L ρ W hLi hcl hold hJ hT
    have q50 : ρ (.tmp 50) = .bool true := hT.1 50 15 rfl rfl
    refine Op1.of_run (v := .bool true) (W' := W) (by clear hT hJ hcl hold; go_simp) ⟨Below.refl _ _, hJ, rfl⟩

  case s17 =>
    intro _ L ρ W hLi hcl hold hJ hT
    have q2 := hT.2.1 2 _ t2 rfl
    refine Op1.of_run (v := .pointer (some ⟨X, 3, none⟩)) (W' := W) (by clear hT hJ hcl hold; go_simp) ⟨Below.refl _ _, hJ, rfl⟩

  case s18 =>
    intro _ L ρ W hLi hcl hold hJ hT
    have q52 : ρ (.tmp 52) = .pointer (some ⟨X, 3, none⟩) := hT.1 52 17 rfl rfl
    have cc := (hJ.cell (World.block_lt_of_cell? _ _ kb3)).trans kb3
    refine Op1.of_run (v := .bool false) (W' := W) (by clear hT hJ hcl hold; go_simp) ⟨Below.refl _ _, hJ, rfl⟩

  case s19 =>
    intro _ L ρ W hLi hcl hold hJ hT
    have q51 : ρ (.tmp 51) = .bool true := hT.1 51 16 rfl rfl
    have q53 : ρ (.tmp 53) = .bool false := hT.1 53 18 rfl rfl
    have qc := hT.2.2.1 (Go.Value.bool false)
    refine Op1.of_run (v := .bool false) (W' := W) (by clear hT hJ hcl hold; go_simp) ⟨Below.refl _ _, hJ, rfl⟩

  case s20 =>
    intro _ L ρ W hLi hcl hold hJ hT
    have q54 : ρ (.tmp 54) = .bool false := hT.1 54 19 rfl rfl
    refine Op1.of_run (v := .bool false) (W' := W) (by clear hT hJ hcl hold; go_simp) ⟨Below.refl _ _, hJ, rfl⟩

  case s21 => intro h; cases h

  case s22 => intro h; cases h

  case s23 => intro h; cases h

  case s24 => intro h; cases h

  case s25 => intro h; cases h

  case s26 =>
    intro _ L ρ W hLi hcl hold hJ hT
    have q55 : ρ (.tmp 55) = .bool false := hT.1 55 20 rfl rfl
    have z60 := hT.1 60 25 rfl rfl
    have qc := hT.2.2.1 (Go.Value.bool false)
    refine Op1.of_run (v := .bool false) (W' := W) (by clear hT hJ hcl hold; go_simp) ⟨Below.refl _ _, hJ, rfl⟩

  case s27 =>
    intro _ L ρ W hLi hcl hold hJ hT
    have q48 : ρ (.tmp 48) = .bool false := hT.1 48 13 rfl rfl
    have q61 : ρ (.tmp 61) = .bool false := hT.1 61 26 rfl rfl
    have qc := hT.2.2.1 (Go.Value.bool true)
    refine Op1.of_run (v := .bool false) (W' := W) (by clear hT hJ hcl hold; go_simp) ⟨Below.refl _ _, hJ, rfl⟩

  case s28 =>
    intro _ L ρ W hLi hcl hold hJ hT
    have q44 : ρ (.tmp 44) = .bool true := hT.1 44 9 rfl rfl
    have q62 : ρ (.tmp 62) = .bool false := hT.1 62 27 rfl rfl
    have qc := hT.2.2.1 (Go.Value.bool false)
    refine Op1.of_run (v := .bool false) (W' := W) (by clear hT hJ hcl hold; go_simp) ⟨Below.refl _ _, hJ, rfl⟩

  case s29 =>
    intro _ L ρ W hLi hcl hold hJ hT
    have q63 : ρ (.tmp 63) = .bool false := hT.1 63 28 rfl rfl
    refine Op1.of_run (v := .bool false) (W' := W) (by clear hT hJ hcl hold; go_simp) ⟨Below.refl _ _, hJ, rfl⟩

  case hskip =>
    intro i hi L W hLi hJ
    have hi2 : i = 21 ∨ i = 22 ∨ i = 23 ∨ i = 24 ∨ i = 25 := by simpa using hi
    rcases hi2 with rfl | rfl | rfl | rfl | rfl <;> exact ⟨hJ, trivial⟩

  case hdone =>
    intro σ L W hL hJ hV
    exact hQ σ W ⟨hJ, hV 29 (by decide)⟩
def RWas_r4e_val (X Y : Nat) (t : ByteArray) (off : Int) (s : ByteArray) : Nat → Value → World → Prop := fun j v W => match j with
  | 0 => v = .pointer (some ⟨X, 0, none⟩)
  | 1 => v = .string t
  | 2 => v = .pointer (some ⟨Y, 0, none⟩)
  | 3 => v = .int .i64 off
  | 4 => v = .int .i64 (off + (s.size : Int))
  | 5 => v = .string (t.extract off.toNat (off + (s.size : Int)).toNat)
  | 6 => v = .pointer (some ⟨Y, 1, none⟩)
  | 7 => v = .string s
  | 8 => v = .bool true
  | 9 => v = .bool true
  | 10 => v = .pointer (some ⟨Y, 2, none⟩)
  | 11 => v = .bool true
  | 12 => v = .bool false
  | 13 => v = .bool false
  | 14 => v = .pointer (some ⟨X, 2, none⟩)
  | 15 => v = .bool true
  | 16 => v = .bool true
  | 17 => v = .pointer (some ⟨X, 3, none⟩)
  | 18 => v = .bool true
  | 19 => v = .bool true
  | 20 => v = .bool true
  | 21 => v = .int .i64 (off + (s.size : Int))
  | 22 => v = .pointer (some ⟨X, 0, none⟩)
  | 23 => v = .string t
  | 24 => v = .int .i64 (t.size : Int)
  | 25 => v = .bool (off + (s.size : Int) == (t.size : Int))
  | 26 => v = .bool (off + (s.size : Int) == (t.size : Int))
  | 27 => v = .bool (off + (s.size : Int) == (t.size : Int))
  | 28 => v = .bool (off + (s.size : Int) == (t.size : Int))
  | 29 => v = .bool (off + (s.size : Int) == (t.size : Int))
  | _ => True

set_option maxRecDepth 100000 in
set_option maxHeartbeats 4000000 in
theorem RWas_r4e (X Y : Nat) (t : ByteArray) (off : Int) (s : ByteArray) (t0 : List Value) (d0 : List Deferred) (w : World) (Q : Exit → Act → World → Prop) (hl : t0.length = rw4_tab.length)
    (t2 : t0[2]? = some (.pointer (some ⟨X, 0, none⟩))) (t3 : t0[3]? = some (.pointer (some ⟨Y, 0, none⟩))) (t5 : t0[5]? = some (.int .i64 (off + (s.size : Int)))) (kb0 : w.cell? ⟨X, 0, none⟩ = some (.string t)) (kb2 : w.cell? ⟨X, 2, none⟩ = some (.bool true)) (kb3 : w.cell? ⟨X, 3, none⟩ = some (.bool true)) (kx0 : w.cell? ⟨Y, 0, none⟩ = some (.int .i64 off)) (kx1 : w.cell? ⟨Y, 1, none⟩ = some (.string s)) (kx2 : w.cell? ⟨Y, 2, none⟩ = some (.bool true)) (hb : 0 ≤ off ∧ off + (s.size : Int) ≤ (t.size : Int)) (hx : ((t.extract off.toNat (off + (s.size : Int)).toNat).toList == s.toList) = true) 
    (hQ : ∀ σ W, Below w.heap.size w W ∧ σ 29 = .bool (off + (s.size : Int) == (t.size : Int)) → Q .normal (lazyA (fun _ => true) σ t0 rw4_tab d0) W) :
    (Code.region 4 rw4_ops.toArray true).wp Try.prog Q { tmps := t0.toArray, defers := d0 } w := by
  refine wp_region_valsO (by kernel_rfl) rw4_tab (by kernel_rfl) hl (fun i => [].contains i) (fun i W W' => Below W.heap.size W W') (fun L W => Below w.heap.size w W) (RWas_r4e_val X Y t off s) (below_drew (Below.refl _ _)) ?hst ⟨⟨(fun j b h => by cases h), fun _ => rfl⟩, ⟨(fun j b h => by cases h), fun _ => rfl⟩, ⟨(fun j b h => by cases h), fun _ => rfl⟩, ⟨(fun j b h => by cases h), fun _ => rfl⟩, ⟨(fun j b h => by cases h), fun _ => rfl⟩, ⟨(fun j b h => by cases h), fun _ => rfl⟩, ⟨(fun j b h => by cases h), fun _ => rfl⟩, ⟨(fun j b h => by cases h), fun _ => rfl⟩, ⟨(fun j b h => by cases h), fun _ => rfl⟩, ⟨(fun j b h => by cases h), fun _ => rfl⟩, ⟨(fun j b h v W hv => by cases h; exact hv), (fun h => by cases h)⟩, ⟨(fun j b h v W hv => by cases h; exact hv), (fun h => by cases h)⟩, ⟨(fun j b h v W hv => by cases h; exact hv), (fun h => by cases h)⟩, ⟨(fun j b h v W hv => by cases h; exact hv), (fun h => by cases h)⟩, ⟨(fun j b h v W hv => by cases h; exact hv), (fun h => by cases h)⟩, ⟨(fun j b h v W hv => by cases h; exact hv), (fun h => by cases h)⟩, ⟨(fun j b h v W hv => by cases h; exact hv), (fun h => by cases h)⟩, ⟨(fun j b h v W hv => by cases h; exact hv), (fun h => by cases h)⟩, ⟨(fun j b h v W hv => by cases h; exact hv), (fun h => by cases h)⟩, ⟨(fun j b h v W hv => by cases h; exact hv), (fun h => by cases h)⟩, ⟨(fun j b h v W hv => by cases h; exact hv), (fun h => by cases h)⟩, ⟨(fun j b h v W hv => by cases h; exact hv), (fun h => by cases h)⟩, ⟨(fun j b h v W hv => by cases h; exact hv), (fun h => by cases h)⟩, ⟨(fun j b h v W hv => by cases h; exact hv), (fun h => by cases h)⟩, ⟨(fun j b h v W hv => by cases h; exact hv), (fun h => by cases h)⟩, ⟨(fun j b h v W hv => by cases h; exact hv), (fun h => by cases h)⟩, ⟨(fun j b h v W hv => by cases h; exact hv), (fun h => by cases h)⟩, ⟨(fun j b h v W hv => by cases h; exact hv), (fun h => by cases h)⟩, ⟨(fun j b h => by cases h), fun _ => rfl⟩, ⟨(fun j b h => by cases h), fun _ => rfl⟩, trivial⟩ ⟨?s0, ?s1, ?s2, ?s3, ?s4, ?s5, ?s6, ?s7, ?s8, ?s9, ?s10, ?s11, ?s12, ?s13, ?s14, ?s15, ?s16, ?s17, ?s18, ?s19, ?s20, ?s21, ?s22, ?s23, ?s24, ?s25, ?s26, ?s27, ?s28, ?s29, trivial⟩ ?hskip ?hdone
  case hst =>
    intro L i j v W W' hLi hLj hne hcl hR h
    match j with
    | 0 => exact h
    | 1 => exact h
    | 2 => exact h
    | 3 => exact h
    | 4 => exact h
    | 5 => exact h
    | 6 => exact h
    | 7 => exact h
    | 8 => exact h
    | 9 => exact h
    | 10 => exact h
    | 11 => exact h
    | 12 => exact h
    | 13 => exact h
    | 14 => exact h
    | 15 => exact h
    | 16 => exact h
    | 17 => exact h
    | 18 => exact h
    | 19 => exact h
    | 20 => exact h
    | 21 => exact h
    | 22 => exact h
    | 23 => exact h
    | 24 => exact h
    | 25 => exact h
    | 26 => exact h
    | 27 => exact h
    | 28 => exact h
    | 29 => exact h
    | n + 30 => trivial

  case s0 =>
    intro _ L ρ W hLi hcl hold hJ hT
    have q2 := hT.2.1 2 _ t2 rfl
    refine Op1.of_run (v := .pointer (some ⟨X, 0, none⟩)) (W' := W) (by clear hT hJ hcl hold; go_simp) ⟨Below.refl _ _, hJ, rfl⟩

  case s1 =>
    intro _ L ρ W hLi hcl hold hJ hT
    have q35 : ρ (.tmp 35) = .pointer (some ⟨X, 0, none⟩) := hT.1 35 0 rfl rfl
    have cc := (hJ.cell (World.block_lt_of_cell? _ _ kb0)).trans kb0
    refine Op1.of_run (v := .string t) (W' := W) (by clear hT hJ hcl hold; go_simp) ⟨Below.refl _ _, hJ, rfl⟩

  case s2 =>
    intro _ L ρ W hLi hcl hold hJ hT
    have q3 := hT.2.1 3 _ t3 rfl
    refine Op1.of_run (v := .pointer (some ⟨Y, 0, none⟩)) (W' := W) (by clear hT hJ hcl hold; go_simp) ⟨Below.refl _ _, hJ, rfl⟩

  case s3 =>
    intro _ L ρ W hLi hcl hold hJ hT
    have q37 : ρ (.tmp 37) = .pointer (some ⟨Y, 0, none⟩) := hT.1 37 2 rfl rfl
    have cc := (hJ.cell (World.block_lt_of_cell? _ _ kx0)).trans kx0
    refine Op1.of_run (v := .int .i64 off) (W' := W) (by clear hT hJ hcl hold; go_simp) ⟨Below.refl _ _, hJ, rfl⟩

  case s4 =>
    intro _ L ρ W hLi hcl hold hJ hT
    have q5 := hT.2.1 5 _ t5 rfl
    refine Op1.of_run (v := .int .i64 (off + (s.size : Int))) (W' := W) (by clear hT hJ hcl hold; go_simp) ⟨Below.refl _ _, hJ, rfl⟩

  case s5 =>
    intro _ L ρ W hLi hcl hold hJ hT
    have q36 : ρ (.tmp 36) = .string t := hT.1 36 1 rfl rfl
    have q38 : ρ (.tmp 38) = .int .i64 off := hT.1 38 3 rfl rfl
    have q39 : ρ (.tmp 39) = .int .i64 (off + (s.size : Int)) := hT.1 39 4 rfl rfl
    have a1 : off ≤ off + (s.size : Int) := by omega
    have a2 : off + (s.size : Int) ≤ (t.size : Int) := hb.2
    have a0 : 0 ≤ off := hb.1
    refine Op1.of_run (v := .string (t.extract off.toNat (off + (s.size : Int)).toNat)) (W' := W) (by clear hT hJ hcl hold; go_simp) ⟨Below.refl _ _, hJ, rfl⟩

  case s6 =>
    intro _ L ρ W hLi hcl hold hJ hT
    have q3 := hT.2.1 3 _ t3 rfl
    refine Op1.of_run (v := .pointer (some ⟨Y, 1, none⟩)) (W' := W) (by clear hT hJ hcl hold; go_simp) ⟨Below.refl _ _, hJ, rfl⟩

  case s7 =>
    intro _ L ρ W hLi hcl hold hJ hT
    have q41 : ρ (.tmp 41) = .pointer (some ⟨Y, 1, none⟩) := hT.1 41 6 rfl rfl
    have cc := (hJ.cell (World.block_lt_of_cell? _ _ kx1)).trans kx1
    refine Op1.of_run (v := .string s) (W' := W) (by clear hT hJ hcl hold; go_simp) ⟨Below.refl _ _, hJ, rfl⟩

  case s8 =>
    intro _ L ρ W hLi hcl hold hJ hT
    have q40 : ρ (.tmp 40) = .string (t.extract off.toNat (off + (s.size : Int)).toNat) := hT.1 40 5 rfl rfl
    have q42 : ρ (.tmp 42) = .string s := hT.1 42 7 rfl rfl
    refine Op1.of_run (v := .bool true) (W' := W) (by clear hT hJ hcl hold; go_simp) ⟨Below.refl _ _, hJ, rfl⟩

  case s9 =>
    intro _ L ρ W hLi hcl hold hJ hT
    have q43 : ρ (.tmp 43) = .bool true := hT.1 43 8 rfl rfl
    refine Op1.of_run (v := .bool true) (W' := W) (by clear hT hJ hcl hold; go_simp) ⟨Below.refl _ _, hJ, rfl⟩

  case s10 =>
    intro _ L ρ W hLi hcl hold hJ hT
    have q3 := hT.2.1 3 _ t3 rfl
    refine Op1.of_run (v := .pointer (some ⟨Y, 2, none⟩)) (W' := W) (by clear hT hJ hcl hold; go_simp) ⟨Below.refl _ _, hJ, rfl⟩

  case s11 =>
    intro _ L ρ W hLi hcl hold hJ hT
    have q45 : ρ (.tmp 45) = .pointer (some ⟨Y, 2, none⟩) := hT.1 45 10 rfl rfl
    have cc := (hJ.cell (World.block_lt_of_cell? _ _ kx2)).trans kx2
    refine Op1.of_run (v := .bool true) (W' := W) (by clear hT hJ hcl hold; go_simp) ⟨Below.refl _ _, hJ, rfl⟩

  case s12 =>
    intro _ L ρ W hLi hcl hold hJ hT
    have q46 : ρ (.tmp 46) = .bool true := hT.1 46 11 rfl rfl
    refine Op1.of_run (v := .bool false) (W' := W) (by clear hT hJ hcl hold; go_simp) ⟨Below.refl _ _, hJ, rfl⟩

  case s13 =>
    intro _ L ρ W hLi hcl hold hJ hT
    have q47 : ρ (.tmp 47) = .bool false := hT.1 47 12 rfl rfl
    refine Op1.of_run (v := .bool false) (W' := W) (by clear hT hJ hcl hold; go_simp) ⟨Below.refl _ _, hJ, rfl⟩

  case s14 =>
    intro _ L ρ W hLi hcl hold hJ hT
    have q2 := hT.2.1 2 _ t2 rfl
    refine Op1.of_run (v := .pointer (some ⟨X, 2, none⟩)) (W' := W) (by clear hT hJ hcl hold; go_simp) ⟨Below.refl _ _, hJ, rfl⟩

  case s15 =>
    intro _ L ρ W hLi hcl hold hJ hT
    have q49 : ρ (.tmp 49) = .pointer (some ⟨X, 2, none⟩) := hT.1 49 14 rfl rfl
    have cc := (hJ.cell (World.block_lt_of_cell? _ _ kb2)).trans kb2
    refine Op1.of_run (v := .bool true) (W' := W) (by clear hT hJ hcl hold; go_simp) ⟨Below.refl _ _, hJ, rfl⟩

  case s16 =>
    intro _ L ρ W hLi hcl hold hJ hT
    have q50 : ρ (.tmp 50) = .bool true := hT.1 50 15 rfl rfl
    refine Op1.of_run (v := .bool true) (W' := W) (by clear hT hJ hcl hold; go_simp) ⟨Below.refl _ _, hJ, rfl⟩

  case s17 =>
    intro _ L ρ W hLi hcl hold hJ hT
    have q2 := hT.2.1 2 _ t2 rfl
    refine Op1.of_run (v := .pointer (some ⟨X, 3, none⟩)) (W' := W) (by clear hT hJ hcl hold; go_simp) ⟨Below.refl _ _, hJ, rfl⟩

  case s18 =>
    intro _ L ρ W hLi hcl hold hJ hT
    have q52 : ρ (.tmp 52) = .pointer (some ⟨X, 3, none⟩) := hT.1 52 17 rfl rfl
    have cc := (hJ.cell (World.block_lt_of_cell? _ _ kb3)).trans kb3
    refine Op1.of_run (v := .bool true) (W' := W) (by clear hT hJ hcl hold; go_simp) ⟨Below.refl _ _, hJ, rfl⟩

  case s19 =>
    intro _ L ρ W hLi hcl hold hJ hT
    have q51 : ρ (.tmp 51) = .bool true := hT.1 51 16 rfl rfl
    have q53 : ρ (.tmp 53) = .bool true := hT.1 53 18 rfl rfl
    have qc := hT.2.2.1 (Go.Value.bool false)
    refine Op1.of_run (v := .bool true) (W' := W) (by clear hT hJ hcl hold; go_simp) ⟨Below.refl _ _, hJ, rfl⟩

  case s20 =>
    intro _ L ρ W hLi hcl hold hJ hT
    have q54 : ρ (.tmp 54) = .bool true := hT.1 54 19 rfl rfl
    refine Op1.of_run (v := .bool true) (W' := W) (by clear hT hJ hcl hold; go_simp) ⟨Below.refl _ _, hJ, rfl⟩

  case s21 =>
    intro _ L ρ W hLi hcl hold hJ hT
    have q5 := hT.2.1 5 _ t5 rfl
    refine Op1.of_run (v := .int .i64 (off + (s.size : Int))) (W' := W) (by clear hT hJ hcl hold; go_simp) ⟨Below.refl _ _, hJ, rfl⟩

  case s22 =>
    intro _ L ρ W hLi hcl hold hJ hT
    have q2 := hT.2.1 2 _ t2 rfl
    refine Op1.of_run (v := .pointer (some ⟨X, 0, none⟩)) (W' := W) (by clear hT hJ hcl hold; go_simp) ⟨Below.refl _ _, hJ, rfl⟩

  case s23 =>
    intro _ L ρ W hLi hcl hold hJ hT
    have q57 : ρ (.tmp 57) = .pointer (some ⟨X, 0, none⟩) := hT.1 57 22 rfl rfl
    have cc := (hJ.cell (World.block_lt_of_cell? _ _ kb0)).trans kb0
    refine Op1.of_run (v := .string t) (W' := W) (by clear hT hJ hcl hold; go_simp) ⟨Below.refl _ _, hJ, rfl⟩

  case s24 =>
    intro _ L ρ W hLi hcl hold hJ hT
    have q58 : ρ (.tmp 58) = .string t := hT.1 58 23 rfl rfl
    refine Op1.of_run (v := .int .i64 (t.size : Int)) (W' := W) (by clear hT hJ hcl hold; go_simp) ⟨Below.refl _ _, hJ, rfl⟩

  case s25 =>
    intro _ L ρ W hLi hcl hold hJ hT
    have q56 : ρ (.tmp 56) = .int .i64 (off + (s.size : Int)) := hT.1 56 21 rfl rfl
    have q59 : ρ (.tmp 59) = .int .i64 (t.size : Int) := hT.1 59 24 rfl rfl
    refine Op1.of_run (v := .bool (off + (s.size : Int) == (t.size : Int))) (W' := W) (by clear hT hJ hcl hold; go_simp) ⟨Below.refl _ _, hJ, rfl⟩

  case s26 =>
    intro _ L ρ W hLi hcl hold hJ hT
    have q55 : ρ (.tmp 55) = .bool true := hT.1 55 20 rfl rfl
    have q60 : ρ (.tmp 60) = .bool (off + (s.size : Int) == (t.size : Int)) := hT.1 60 25 rfl rfl
    have qc := hT.2.2.1 (Go.Value.bool false)
    refine Op1.of_run (v := .bool (off + (s.size : Int) == (t.size : Int))) (W' := W) (by clear hT hJ hcl hold; go_simp) ⟨Below.refl _ _, hJ, rfl⟩

  case s27 =>
    intro _ L ρ W hLi hcl hold hJ hT
    have q48 : ρ (.tmp 48) = .bool false := hT.1 48 13 rfl rfl
    have q61 : ρ (.tmp 61) = .bool (off + (s.size : Int) == (t.size : Int)) := hT.1 61 26 rfl rfl
    have qc := hT.2.2.1 (Go.Value.bool true)
    refine Op1.of_run (v := .bool (off + (s.size : Int) == (t.size : Int))) (W' := W) (by clear hT hJ hcl hold; go_simp) ⟨Below.refl _ _, hJ, rfl⟩

  case s28 =>
    intro _ L ρ W hLi hcl hold hJ hT
    have q44 : ρ (.tmp 44) = .bool true := hT.1 44 9 rfl rfl
    have q62 : ρ (.tmp 62) = .bool (off + (s.size : Int) == (t.size : Int)) := hT.1 62 27 rfl rfl
    have qc := hT.2.2.1 (Go.Value.bool false)
    refine Op1.of_run (v := .bool (off + (s.size : Int) == (t.size : Int))) (W' := W) (by clear hT hJ hcl hold; go_simp) ⟨Below.refl _ _, hJ, rfl⟩

  case s29 =>
    intro _ L ρ W hLi hcl hold hJ hT
    have q63 : ρ (.tmp 63) = .bool (off + (s.size : Int) == (t.size : Int)) := hT.1 63 28 rfl rfl
    refine Op1.of_run (v := .bool (off + (s.size : Int) == (t.size : Int))) (W' := W) (by clear hT hJ hcl hold; go_simp) ⟨Below.refl _ _, hJ, rfl⟩

  case hskip => intro i hi; simp at hi

  case hdone =>
    intro σ L W hL hJ hV
    exact hQ σ W ⟨hJ, hV 29 (by decide)⟩
end Go.Proofs.Ytiladcdogbeomaa.QRangesPlays

namespace Go.Proofs.Ytiladcdogbeomaa.QRangesPlays
open Go.RowKit Go.Shelf Go.Proofs.YtiladcdogbeomaaW.PrintWords Go.Proofs.YtiladcdogbeomaaW.PrintLast Go.Proofs.YtiladcdogbeomaaW.PrintMore Go.Proofs.Ytiladcdogbeomaa.RowLaws Go.Proofs.Ytiladcdogbeomaa.Lazy
attribute [local go_sem] Oper.semAt_some max2_int min2_int max_two min_two
/-- A row of bytes of the call's own. -/
def BR (W : World) (B : Nat) (u : Value) (ys : List Int) : Prop := Kd.R (Kd.int .u8) 5 W B (fun _ => True) u ys
theorem BR.below {W W' : World} {B : Nat} {u : Value} {ys : List Int} (h : BR W B u ys) (hb : Below W.heap.size W W') : BR W' B u ys := Kd.R_below h hb
abbrev rbO (t : ByteArray) (u : Value) (x y : Bool) (z : Int) : Obj := .cells #[.string t, u, .bool x, .bool y, .int .u8 z] 40
abbrev rbV (t : ByteArray) (u : Value) (x y : Bool) (z : Int) : Value := .agg #[.string t, u, .bool x, .bool y, .int .u8 z]
abbrev rcO (off : Int) (s : ByteArray) (fin : Bool) : Obj := .cells #[.int .i64 off, .string s, .bool fin] 46
abbrev rcV (off : Int) (s : ByteArray) (fin : Bool) : Value := .agg #[.int .i64 off, .string s, .bool fin]
abbrev rb0 : Obj := rbO ⟨#[]⟩ (.slice none 0 0) false false 0
theorem rb_cell {W : World} {X : Nat} {t : ByteArray} {u : Value} {x y : Bool} {z : Int} (h : W.heap[X]? = some (rbO t u x y z)) : W.cell? ⟨X, 0, none⟩ = some (.string t) ∧ W.cell? ⟨X, 1, none⟩ = some u ∧ W.cell? ⟨X, 2, none⟩ = some (.bool x) ∧ W.cell? ⟨X, 3, none⟩ = some (.bool y) ∧ W.cell? ⟨X, 4, none⟩ = some (.int .u8 z) := by
  refine ⟨?_, ?_, ?_, ?_, ?_⟩ <;> (unfold World.cell?; rw [h]; rfl)
theorem rc_cell {W : World} {X : Nat} {off : Int} {s : ByteArray} {fin : Bool} (h : W.heap[X]? = some (rcO off s fin)) : W.cell? ⟨X, 0, none⟩ = some (.int .i64 off) ∧ W.cell? ⟨X, 1, none⟩ = some (.string s) ∧ W.cell? ⟨X, 2, none⟩ = some (.bool fin) := by
  refine ⟨?_, ?_, ?_⟩ <;> (unfold World.cell?; rw [h]; rfl)
def RWasP (off : Int) (s : ByteArray) (n : Nat) (w : World) (e : Ending) (w' : World) : Prop := ∃ r : Bool, e = .returned (.bool r) ∧ (r = true → 0 ≤ off ∧ off + (s.size : Int) ≤ n) ∧ Below w.heap.size w w'
set_option maxRecDepth 100000 in
set_option maxHeartbeats 4000000 in
theorem RWas_calls (t : ByteArray) (A : Option Addr) (n c : Nat) (x y : Bool) (z off : Int) (s : ByteArray) (fin : Bool) (w : World) (hn : n ≤ t.size) (ht : t.size ≤ 262144) :
    Calls Try.prog 69 #[rbV t (.slice A n c) x y z, rcV off s fin] w (RWasP off s n w) := by
  have hb2 := below_alloc (below_alloc (Below.refl w.heap.size w) (rbO t (.slice A n c) x y z)) (rcO off s fin)
  have HB2 := Aside0.mk hb2
  clear hb2
  by_cases h1 : off < 0
  · go_enter Try.func69, Try.ntmps69
    go_wp2
    go_ret
    exact (show RWasP off s n w _ _ from ⟨false, rfl, (fun e => by cases e), HB2.out⟩)
  · by_cases h2 : (n : Int) < off
    · go_enter Try.func69, Try.ntmps69
      go_wp2
      go_ret
      exact (show RWasP off s n w _ _ from ⟨false, rfl, (fun e => by cases e), HB2.out⟩)
    · have e1 : IntKind.i64.wrap ((n : Int) - off) = (n : Int) - off := IntWalk.i64_in _ (by omega)
      by_cases h3 : (n : Int) - off < (s.size : Int)
      · go_enter Try.func69, Try.ntmps69
        go_wp2
        go_ret
        exact (show RWasP off s n w _ _ from ⟨false, rfl, (fun e => by cases e), HB2.out⟩)
      · have e2 : IntKind.i64.wrap (off + (s.size : Int)) = off + (s.size : Int) := IntWalk.i64_in _ (by omega)
        have HQ := Aside0.mk (show 0 ≤ off ∧ off + (s.size : Int) ≤ n ∧ off + (s.size : Int) ≤ t.size from ⟨by omega, by omega, by omega⟩)
        obtain ⟨bx, hbx⟩ : ∃ bx, ((t.extract off.toNat (off + (s.size : Int)).toNat).toList == s.toList) = bx := ⟨_, rfl⟩
        have HBX := Aside0.mk hbx
        clear hbx
        go_enter Try.func69, Try.ntmps69
        go_wp2
        have hA := heap_alloc_new w (rbO t (.slice A n c) x y z)
        have hC := heap_alloc_new (w.alloc (rbO t (.slice A n c) x y z)) (rcO off s fin)
        have hA2 := (below_alloc (Below.refl _ (w.alloc (rbO t (.slice A n c) x y z))) (rcO off s fin)).block w.heap.size (by simp)
        rw [hA] at hA2
        rw [World.size_alloc] at hC
        obtain ⟨kb0, kb1, kb2, kb3, kb4⟩ := rb_cell hA2
        obtain ⟨kx0, kx1, kx2⟩ := rc_cell hC
        cases bx with
        | false =>
          refine RWas_r4a w.heap.size (w.heap.size + 1) t off s fin x y _ _ _ _ (by rfl) (by rfl) (by rfl) (by rfl) kb0 kx0 kx1 kx2 ⟨HQ.out.1, HQ.out.2.2⟩ HBX.out ?_
          intro σ W ⟨hB, h29⟩
          have HB3 := Aside0.mk (below_step HB2.out hB)
          simp only [lazyA, lazyT, rw4_tab, List.zipWith_cons_cons, List.zipWith_nil_left, cond_true]
          rw [h29]
          clear h29 hB
          go_wp2
          go_ret
          exact (show RWasP off s n w _ _ from ⟨false, rfl, (fun _ => ⟨HQ.out.1, HQ.out.2.1⟩), HB3.out⟩)
        | true =>
          cases fin with
          | false =>
            refine RWas_r4b w.heap.size (w.heap.size + 1) t off s x y _ _ _ _ (by rfl) (by rfl) (by rfl) (by rfl) kb0 kx0 kx1 kx2 ⟨HQ.out.1, HQ.out.2.2⟩ HBX.out ?_
            intro σ W ⟨hB, h29⟩
            have HB3 := Aside0.mk (below_step HB2.out hB)
            simp only [lazyA, lazyT, rw4_tab, List.zipWith_cons_cons, List.zipWith_nil_left, cond_true]
            rw [h29]
            clear h29 hB
            go_wp2
            go_ret
            exact (show RWasP off s n w _ _ from ⟨true, rfl, (fun _ => ⟨HQ.out.1, HQ.out.2.1⟩), HB3.out⟩)
          | true =>
            cases x with
            | false =>
              refine RWas_r4c w.heap.size (w.heap.size + 1) t off s y _ _ _ _ (by rfl) (by rfl) (by rfl) (by rfl) kb0 kb2 kx0 kx1 kx2 ⟨HQ.out.1, HQ.out.2.2⟩ HBX.out ?_
              intro σ W ⟨hB, h29⟩
              have HB3 := Aside0.mk (below_step HB2.out hB)
              simp only [lazyA, lazyT, rw4_tab, List.zipWith_cons_cons, List.zipWith_nil_left, cond_true]
              rw [h29]
              clear h29 hB
              go_wp2
              go_ret
              exact (show RWasP off s n w _ _ from ⟨false, rfl, (fun _ => ⟨HQ.out.1, HQ.out.2.1⟩), HB3.out⟩)
            | true =>
              cases y with
              | false =>
                refine RWas_r4d w.heap.size (w.heap.size + 1) t off s _ _ _ _ (by rfl) (by rfl) (by rfl) (by rfl) kb0 kb2 kb3 kx0 kx1 kx2 ⟨HQ.out.1, HQ.out.2.2⟩ HBX.out ?_
                intro σ W ⟨hB, h29⟩
                have HB3 := Aside0.mk (below_step HB2.out hB)
                simp only [lazyA, lazyT, rw4_tab, List.zipWith_cons_cons, List.zipWith_nil_left, cond_true]
                rw [h29]
                clear h29 hB
                go_wp2
                go_ret
                exact (show RWasP off s n w _ _ from ⟨false, rfl, (fun _ => ⟨HQ.out.1, HQ.out.2.1⟩), HB3.out⟩)
              | true =>
                refine RWas_r4e w.heap.size (w.heap.size + 1) t off s _ _ _ _ (by rfl) (by rfl) (by rfl) (by rfl) kb0 kb2 kb3 kx0 kx1 kx2 ⟨HQ.out.1, HQ.out.2.2⟩ HBX.out ?_
                intro σ W ⟨hB, h29⟩
                have HB3 := Aside0.mk (below_step HB2.out hB)
                simp only [lazyA, lazyT, rw4_tab, List.zipWith_cons_cons, List.zipWith_nil_left, cond_true]
                rw [h29]
                clear h29 hB
                go_wp2
                go_ret
                exact (show RWasP off s n w _ _ from ⟨_, rfl, (fun _ => ⟨HQ.out.1, HQ.out.2.1⟩), HB3.out⟩)
end Go.Proofs.Ytiladcdogbeomaa.QRangesPlays

namespace Go.Proofs.Ytiladcdogbeomaa.QRangesPlays
open Go.RowKit Go.Shelf Go.Proofs.YtiladcdogbeomaaW.PrintWords Go.Proofs.YtiladcdogbeomaaW.PrintLast Go.Proofs.YtiladcdogbeomaaW.PrintMore Go.Proofs.Ytiladcdogbeomaa.RowLaws Go.Proofs.Ytiladcdogbeomaa.Lazy
attribute [local go_sem] Oper.semAt_some max2_int min2_int max_two min_two
/-- A byte of a row. -/
theorem BR.at {W : World} {B : Nat} {u : Value} {ys : List Int} (h : BR W B u ys) {n : Nat} (hn : ys.length = n) : ∃ A c, u = .slice A n c ∧ ∀ j : Nat, j < n → ∃ q, A = some ⟨q, 0, none⟩ ∧ (∃ v, W.cell? ⟨q, j, none⟩ = some (.int .u8 v)) ∧ W.frozen? ⟨q, j, none⟩ = false := by
  by_cases h0 : 0 < ys.length
  · obtain ⟨q, c, e, _⟩ := Kd.R_form h h0
    rw [hn] at e
    subst e
    refine ⟨_, c, rfl, fun j hj => ⟨q, rfl, ?_⟩⟩
    have := Kd.R_celln 0 h (j : Int) (by omega) (by omega)
    rw [show ((j : Int)).toNat = j by omega] at this
    exact ⟨⟨_, this.1⟩, this.2⟩
  · obtain ⟨A, c, e⟩ := Kd.R_slice h
    rw [hn] at e
    exact ⟨A, c, e, fun j hj => by omega⟩
def RFirstP (n : Nat) (w : World) (e : Ending) (w' : World) : Prop := ∃ r : Nat, r ≤ n ∧ e = .returned (.int .i64 (r : Int)) ∧ Below w.heap.size w w'
set_option maxRecDepth 100000 in
set_option maxHeartbeats 4000000 in
theorem RFirst_calls (B : Nat) (t : ByteArray) (u : Value) (ys : List Int) (n : Nat) (x y : Bool) (z : Int) (w : World) (h : BR w B u ys) (hn : ys.length = n) (ht : n ≤ 262144) :
    Calls Try.prog 65 #[rbV t u x y z] w (RFirstP n w) := by
  have hb2 := below_alloc (Below.refl w.heap.size w) (rbO t u x y z)
  have HB2 := Aside0.mk hb2
  obtain ⟨A, c, rfl, hat⟩ := (h.below hb2).at hn
  have HAT := Aside0.mk hat
  clear hb2 hat h hn
  go_enter Try.func65, Try.ntmps65
  go_wp2
  go_loop [3] (fun i => ∃ j : Nat, j ≤ n ∧ i = .int .i64 j) (fun i => n - (intOf i).toNat)
  case atStart => exact ⟨0, Nat.zero_le _, rfl⟩
  case round =>
    obtain ⟨j, hj, rfl⟩ := hrel
    by_cases hlt : j < n
    · have hlt2 : (j : Int) < (n : Int) := by omega
      obtain ⟨q, rfl, ⟨v, hv⟩, -⟩ := HAT.out j hlt
      have e4 : IntKind.i64.wrap ((j : Int) + 1) = (j : Int) + 1 := IntWalk.i64_in _ (by omega)
      by_cases h2 : v = 2
      · have e5 : (v == 2) = true := by simp [h2]
        subst h2
        go_wp2
        go_ret
        exact (show RFirstP n w _ _ from ⟨j, hj, rfl, HB2.out⟩)
      · have e5 : (v == 2) = false := by simp [h2]
        go_wp2
        go_round
        case rel => exact ⟨j + 1, by omega, by simp⟩
        case measure => simp [intOf]; omega
    · have hjn : j = n := by omega
      subst hjn
      go_wp2
      go_ret
      exact (show RFirstP j w _ _ from ⟨j, Nat.le_refl _, rfl, HB2.out⟩)
end Go.Proofs.Ytiladcdogbeomaa.QRangesPlays

namespace Go.Proofs.Ytiladcdogbeomaa.QRangesPlays
open Go.RowKit Go.Shelf Go.Proofs.YtiladcdogbeomaaW.PrintWords Go.Proofs.YtiladcdogbeomaaW.PrintLast Go.Proofs.YtiladcdogbeomaaW.PrintMore Go.Proofs.Ytiladcdogbeomaa.RowLaws Go.Proofs.Ytiladcdogbeomaa.Lazy
attribute [local go_sem] Oper.semAt_some max2_int min2_int max_two min_two
/-- What a call of the reference's box leaves: a box whose marks are no more than its text. -/
def RbP (B : Nat) (v : Value) (W : World) : Prop := ∃ t u ys x y z, v = rbV t u x y z ∧ BR W B u ys ∧ ys.length ≤ t.size ∧ t.size ≤ 262144 ∧ B ≤ W.heap.size
def RbC (B : Nat) (w : World) (e : Ending) (w' : World) : Prop := ∃ v c, e = .returned (.tuple #[v, .int .i64 c]) ∧ RbP B v w' ∧ Below w.heap.size w w'
theorem put5 {W : World} {X : Nat} {t : TypeId} {a b c d e : Value} (h : W.heap[X]? = some (.cells #[a, b, c, d, e] t (0, 0))) (u0 u1 u2 u3 u4 : Value) : (((((W.setCell ⟨X, 0, none⟩ u0).setCell ⟨X, 1, none⟩ u1).setCell ⟨X, 2, none⟩ u2).setCell ⟨X, 3, none⟩ u3).setCell ⟨X, 4, none⟩ u4).heap[X]? = some (.cells #[u0, u1, u2, u3, u4] t (0, 0)) :=
  cells_set (i := 4) u4 (cells_set (i := 3) u3 (cells_set (i := 2) u2 (cells_set (i := 1) u1 (cells_set (i := 0) u0 h))))
theorem below_put5 {B X : Nat} {w W : World} (h : Below B w W) (hX : B ≤ X) (u0 u1 u2 u3 u4 : Value) : Below B w (((((W.setCell ⟨X, 0, none⟩ u0).setCell ⟨X, 1, none⟩ u1).setCell ⟨X, 2, none⟩ u2).setCell ⟨X, 3, none⟩ u3).setCell ⟨X, 4, none⟩ u4) :=
  ((((h.setCell (p := ⟨X, 0, none⟩) hX u0).setCell (p := ⟨X, 1, none⟩) hX u1).setCell (p := ⟨X, 2, none⟩) hX u2).setCell (p := ⟨X, 3, none⟩) hX u3).setCell (p := ⟨X, 4, none⟩) hX u4
set_option maxRecDepth 100000 in
set_option maxHeartbeats 4000000 in
theorem RFinish_calls (B : Nat) (t : ByteArray) (u : Value) (ys : List Int) (x y : Bool) (z : Int) (w : World) (h : BR w B u ys) (hn : ys.length ≤ t.size) (ht : t.size ≤ 262144) (hB : B ≤ w.heap.size) :
    Calls Try.prog 70 #[rbV t u x y z] w (RbC B w) := by
  have HN := Aside0.mk hn
  obtain ⟨A, c, rfl⟩ := Kd.R_slice h
  have HH := Aside0.mk h
  clear h hn
  cases x with
  | true =>
    go_enter Try.func70, Try.ntmps70
    go_wp2
    (try simp only [Exit.inBlock, Exit.then])
    refine bodyPost_ret (results_ct rfl _ _ (w.heap.size + 1) 40 #[.string t, .slice A ys.length c, .bool true, .bool y, .int .u8 z] (0, 0) _ rfl (new_two w _ _) Try.underlying40 rfl (by kernel_rfl)) rfl ?_
    have hb := below_alloc (below_alloc (Below.refl w.heap.size w) (rbO t (.slice A ys.length c) true y z)) (rbO t (.slice A ys.length c) true y z)
    exact (show RbC B w _ _ from ⟨_, _, rfl, ⟨_, _, ys, _, _, _, rfl, HH.out.below hb, HN.out, ht, Nat.le_trans hB hb.size⟩, hb⟩)
  | false =>
    go_enter Try.func70, Try.ntmps70
    go_wp2
    (try simp only [Exit.inBlock, Exit.then])
    refine bodyPost_ret (results_ct rfl _ _ (w.heap.size + 1) 40 #[.string t, .slice A ys.length c, .bool true, .bool y, .int .u8 z] (0, 0) _ rfl (new_two w _ _) Try.underlying40 rfl (by kernel_rfl)) rfl ?_
    have hb := below_alloc (below_alloc (Below.refl w.heap.size w) (rbO t (.slice A ys.length c) true y z)) (rbO t (.slice A ys.length c) true y z)
    exact (show RbC B w _ _ from ⟨_, _, rfl, ⟨_, _, ys, _, _, _, rfl, HH.out.below hb, HN.out, ht, Nat.le_trans hB hb.size⟩, hb⟩)
set_option maxRecDepth 100000 in
set_option maxHeartbeats 4000000 in
theorem RWrite_calls (B : Nat) (t s : ByteArray) (u : Value) (ys : List Int) (x y : Bool) (z : Int) (w : World) (h : BR w B u ys) (hn : ys.length ≤ t.size) (ht : t.size ≤ 262144) (hB : B ≤ w.heap.size) :
    Calls Try.prog 22 #[rbV t u x y z, .string s] w (RbC B w) := by
  have HN := Aside0.mk hn
  obtain ⟨A, c, rfl⟩ := Kd.R_slice h
  have HH := Aside0.mk h
  clear h hn
  have e1 : IntKind.i64.wrap (262144 - (t.size : Int)) = 262144 - (t.size : Int) := IntWalk.i64_in _ (by omega)
  cases x with
  | true =>
    go_enter Try.func22, Try.ntmps22
    go_wp2
    (try simp only [Exit.inBlock, Exit.then])
    refine bodyPost_ret (results_ct rfl _ _ (w.heap.size + 1) 40 #[.string t, .slice A ys.length c, .bool true, .bool y, .int .u8 z] (0, 0) _ rfl (new_two w _ _) Try.underlying40 rfl (by kernel_rfl)) rfl ?_
    have hb := below_alloc (below_alloc (Below.refl w.heap.size w) (rbO t (.slice A ys.length c) true y z)) (rbO t (.slice A ys.length c) true y z)
    exact (show RbC B w _ _ from ⟨_, _, rfl, ⟨_, _, ys, _, _, _, rfl, HH.out.below hb, HN.out, ht, Nat.le_trans hB hb.size⟩, hb⟩)
  | false =>
    by_cases hf : 262144 - (t.size : Int) < (s.size : Int)
    · go_enter Try.func22, Try.ntmps22
      go_wp2
      (try simp only [Exit.inBlock, Exit.then])
      refine bodyPost_ret (results_ct rfl _ _ (w.heap.size + 1) 40 #[.string t, .slice A ys.length c, .bool false, .bool y, .int .u8 z] (0, 0) _ rfl (new_two w _ _) Try.underlying40 rfl (by kernel_rfl)) rfl ?_
      have hb := below_alloc (below_alloc (Below.refl w.heap.size w) (rbO t (.slice A ys.length c) false y z)) (rbO t (.slice A ys.length c) false y z)
      exact (show RbC B w _ _ from ⟨_, _, rfl, ⟨_, _, ys, _, _, _, rfl, HH.out.below hb, HN.out, ht, Nat.le_trans hB hb.size⟩, hb⟩)
    · have e2 : ¬ (9223372036854775807 < t.size + s.size) := by omega
      go_enter Try.func22, Try.ntmps22
      go_wp2
      (try simp only [Exit.inBlock, Exit.then])
      refine bodyPost_ret (results_ct rfl _ _ (w.heap.size + 1) 40 #[.string (t ++ s), .slice A ys.length c, .bool false, .bool y, .int .u8 z] (0, 0) _ rfl (new_two w _ _) Try.underlying40 rfl (by kernel_rfl)) rfl ?_
      have hb := below_alloc (below_alloc (Below.refl w.heap.size w) (rbO (t ++ s) (.slice A ys.length c) false y z)) (rbO (t ++ s) (.slice A ys.length c) false y z)
      exact (show RbC B w _ _ from ⟨_, _, rfl, ⟨_, _, ys, _, _, _, rfl, HH.out.below hb, (by rw [ByteArray.size_append]; have := HN.out; omega), (by rw [ByteArray.size_append]; omega), Nat.le_trans hB hb.size⟩, hb⟩)
end Go.Proofs.Ytiladcdogbeomaa.QRangesPlays

namespace Go.Proofs.Ytiladcdogbeomaa.QRangesPlays
open Go.RowKit Go.Shelf Go.Proofs.YtiladcdogbeomaaW.PrintWords Go.Proofs.YtiladcdogbeomaaW.PrintLast Go.Proofs.YtiladcdogbeomaaW.PrintMore Go.Proofs.Ytiladcdogbeomaa.RowLaws Go.Proofs.Ytiladcdogbeomaa.Lazy
attribute [local go_sem] Oper.semAt_some max2_int min2_int max_two min_two
/-- The worlds of a call that writes a row of its own. -/
structure RkW (X : Nat) (t : ByteArray) (u : Value) (ys : List Int) (n : Nat) (x y : Bool) (z off : Int) (s : ByteArray) (fin : Bool) (w : World) (W : World) : Prop where
  b2 : W.heap[X]? = some (rbO t u x y z)
  b3 : W.heap[X + 1]? = some (rcO off s fin)
  b4 : W.heap[X + 2]? = some rb0
  row : BR W (X + 3) u ys
  len : ys.length = n
  low : Below w.heap.size w W
  hX : X = w.heap.size
section
variable {X n : Nat} {t : ByteArray} {u : Value} {ys : List Int} {x y : Bool} {z off : Int} {s : ByteArray} {fin : Bool} {w W W' : World}
/-- The row's slice, and its cells. -/
theorem RkW.at (h : RkW X t u ys n x y z off s fin w W) : ∃ A c, u = .slice A n c ∧ ∀ j : Nat, j < n → ∃ q, A = some ⟨q, 0, none⟩ ∧ (∃ v, W.cell? ⟨q, j, none⟩ = some (.int .u8 v)) ∧ W.frozen? ⟨q, j, none⟩ = false := h.row.at h.len
theorem RkW.put (h : RkW X t u ys n x y z off s fin w W) {q c : Nat} (hu : u = .slice (some ⟨q, 0, none⟩) n c) (j : Nat) (v : Int) : ∃ ys', RkW X t u ys' n x y z off s fin w (W.setCell ⟨q, j, none⟩ (.int .u8 v)) := by
  subst hu
  have hq := Kd.R_base h.row q (by simp [Value.ownBlock])
  have hk : ∀ k, k ≠ q → (W.setCell ⟨q, j, none⟩ (.int .u8 v)).heap[k]? = W.heap[k]? := fun k hk => Below.heap_setCell _ _ _ _ hk
  have hr := Kd.R_putn h.row (j : Int) v
  rw [show ((j : Int)).toNat = j by omega] at hr
  have hX := h.hX
  exact ⟨ys.set j v, (hk _ (by omega)).trans h.b2, (hk _ (by omega)).trans h.b3, (hk _ (by omega)).trans h.b4, hr, by rw [List.length_set]; exact h.len, h.low.setCell (p := ⟨q, j, none⟩) (by show w.heap.size ≤ q; omega) _, hX⟩
/-- The box's last cell is written. -/
theorem RkW.mark (h : RkW X t u ys n x y z off s fin w W) (v : Int) : RkW X t u ys n x y v off s fin w (W.setCell ⟨X, 4, none⟩ (.int .u8 v)) := by
  have hk : ∀ k, k ≠ X → (W.setCell ⟨X, 4, none⟩ (.int .u8 v)).heap[k]? = W.heap[k]? := fun k hk => Below.heap_setCell _ _ _ _ hk
  exact ⟨cells_set (i := 4) (.int .u8 v) h.b2, (hk _ (by omega)).trans h.b3, (hk _ (by omega)).trans h.b4, Kd.R_mono (Kd.R_far (p := ⟨X, 4, none⟩) (Kd.R_mono (ok' := fun k => k ≠ X) (Kd.R_bound h.row) (fun k hk => by have := hk.2.1; omega)) (fun _ hk => hk) (.int .u8 v)) (fun _ _ => trivial), h.len, h.low.setCell (p := ⟨X, 4, none⟩) (by show w.heap.size ≤ X; have := h.hX; omega) _, h.hX⟩
/-- What is handed back. -/
theorem RkW.fin_ (h : RkW X t u ys n x y z off s fin w W) {B : Nat} (hB : B ≤ w.heap.size) (hn : n ≤ t.size) (ht : t.size ≤ 262144) (c : Int) :
    let W' := (((((W.setCell ⟨X + 2, 0, none⟩ (.string t)).setCell ⟨X + 2, 1, none⟩ u).setCell ⟨X + 2, 2, none⟩ (.bool x)).setCell ⟨X + 2, 3, none⟩ (.bool y)).setCell ⟨X + 2, 4, none⟩ (.int .u8 z))
    W'.heap[X + 2]? = some (rbO t u x y z) ∧ RbC B w (.returned (.tuple #[rbV t u x y z, .int .i64 c])) W' := by
  have hX := h.hX
  have hb := below_put5 h.low (show w.heap.size ≤ X + 2 by omega) (.string t) u (.bool x) (.bool y) (.int .u8 z)
  have hr : BR (((((W.setCell ⟨X + 2, 0, none⟩ (.string t)).setCell ⟨X + 2, 1, none⟩ u).setCell ⟨X + 2, 2, none⟩ (.bool x)).setCell ⟨X + 2, 3, none⟩ (.bool y)).setCell ⟨X + 2, 4, none⟩ (.int .u8 z)) (X + 3) u ys :=
    Kd.R_mono (Kd.R_far (p := ⟨X + 2, 4, none⟩) (Kd.R_far (p := ⟨X + 2, 3, none⟩) (Kd.R_far (p := ⟨X + 2, 2, none⟩) (Kd.R_far (p := ⟨X + 2, 1, none⟩) (Kd.R_far (p := ⟨X + 2, 0, none⟩) (Kd.R_mono (ok' := fun k => k ≠ X + 2) (Kd.R_bound h.row) (fun k hk => by have := hk.2.1; omega)) (fun _ hk => hk) _) (fun _ hk => hk) _) (fun _ hk => hk) _) (fun _ hk => hk) _) (fun _ hk => hk) _) (fun _ _ => trivial)
  exact ⟨put5 h.b4 _ _ _ _ _, _, _, rfl, ⟨t, u, ys, x, y, z, rfl, Kd.R_lower hr (by omega), by rw [h.len]; exact hn, ht, Nat.le_trans hB hb.size⟩, hb⟩
end
section
variable {t : ByteArray} {A A3 : Option Addr} {n c q3 : Nat} {ys zs : List Int} {x y : Bool} {z off : Int} {s : ByteArray} {fin : Bool} {B : Nat} {w w2 w3 : World}
theorem rk_start {u : Value} (h : BR w B u ys) (_hn : ys.length = n) (hb : Below (((w.alloc (rbO t u x y z)).alloc (rcO off s fin)).alloc rb0).heap.size (((w.alloc (rbO t u x y z)).alloc (rcO off s fin)).alloc rb0) w2) :
    w2.heap[w.heap.size]? = some (rbO t u x y z) ∧ w2.heap[w.heap.size + 1]? = some (rcO off s fin) ∧ w2.heap[w.heap.size + 1 + 1]? = some rb0 ∧ BR w2 B u ys := by
  have b1 : Below w.heap.size w (((w.alloc (rbO t u x y z)).alloc (rcO off s fin)).alloc rb0) := below_alloc (below_alloc (below_alloc (Below.refl _ _) _) _) _
  have h2 : (((w.alloc (rbO t u x y z)).alloc (rcO off s fin)).alloc rb0).heap[w.heap.size]? = some (rbO t u x y z) := blk_alloc (blk_alloc (heap_alloc_new w _) _) _
  have h3 : (((w.alloc (rbO t u x y z)).alloc (rcO off s fin)).alloc rb0).heap[w.heap.size + 1]? = some (rcO off s fin) := blk_alloc (new_two w _ _) _
  have h4 : (((w.alloc (rbO t u x y z)).alloc (rcO off s fin)).alloc rb0).heap[w.heap.size + 1 + 1]? = some rb0 := by
    have := heap_alloc_new ((w.alloc (rbO t u x y z)).alloc (rcO off s fin)) rb0
    rwa [World.size_alloc, World.size_alloc] at this
  exact ⟨(hb.block _ (lt_of_block h2)).trans h2, (hb.block _ (lt_of_block h3)).trans h3, (hb.block _ (lt_of_block h4)).trans h4, (h.below b1).below hb⟩
theorem rk_no {u : Value} (h : w2.heap[w.heap.size]? = some (rbO t u x y z) ∧ w2.heap[w.heap.size + 1]? = some (rcO off s fin) ∧ w2.heap[w.heap.size + 1 + 1]? = some rb0 ∧ BR w2 B u ys)
    (hb : Below (((w.alloc (rbO t u x y z)).alloc (rcO off s fin)).alloc rb0).heap.size (((w.alloc (rbO t u x y z)).alloc (rcO off s fin)).alloc rb0) w2) (hB : B ≤ w.heap.size) (hn : ys.length ≤ t.size) (ht : t.size ≤ 262144) (k : Int) :
    let W' := (((((w2.setCell ⟨w.heap.size + 1 + 1, 0, none⟩ (.string t)).setCell ⟨w.heap.size + 1 + 1, 1, none⟩ u).setCell ⟨w.heap.size + 1 + 1, 2, none⟩ (.bool x)).setCell ⟨w.heap.size + 1 + 1, 3, none⟩ (.bool y)).setCell ⟨w.heap.size + 1 + 1, 4, none⟩ (.int .u8 z))
    W'.heap[w.heap.size + 1 + 1]? = some (rbO t u x y z) ∧ RbC B w (.returned (.tuple #[rbV t u x y z, .int .i64 k])) W' := by
  have b1 : Below w.heap.size w (((w.alloc (rbO t u x y z)).alloc (rcO off s fin)).alloc rb0) := below_alloc (below_alloc (below_alloc (Below.refl _ _) _) _) _
  have b2 := below_step b1 hb
  have hf := below_put5 b2 (show w.heap.size ≤ w.heap.size + 1 + 1 by omega) (.string t) u (.bool x) (.bool y) (.int .u8 z)
  have hr : BR (((((w2.setCell ⟨w.heap.size + 1 + 1, 0, none⟩ (.string t)).setCell ⟨w.heap.size + 1 + 1, 1, none⟩ u).setCell ⟨w.heap.size + 1 + 1, 2, none⟩ (.bool x)).setCell ⟨w.heap.size + 1 + 1, 3, none⟩ (.bool y)).setCell ⟨w.heap.size + 1 + 1, 4, none⟩ (.int .u8 z)) B u ys :=
    Kd.R_mono (Kd.R_far (p := ⟨w.heap.size + 1 + 1, 4, none⟩) (Kd.R_far (p := ⟨w.heap.size + 1 + 1, 3, none⟩) (Kd.R_far (p := ⟨w.heap.size + 1 + 1, 2, none⟩) (Kd.R_far (p := ⟨w.heap.size + 1 + 1, 1, none⟩) (Kd.R_far (p := ⟨w.heap.size + 1 + 1, 0, none⟩) (Kd.R_types h.2.2.2 h.2.2.1 (by decide)) (fun _ hk => hk.2) _) (fun _ hk => hk.2) _) (fun _ hk => hk.2) _) (fun _ hk => hk.2) _) (fun _ hk => hk.2) _) (fun _ _ => trivial)
  exact ⟨put5 h.2.2.1 _ _ _ _ _, _, _, rfl, ⟨t, u, ys, x, y, z, rfl, hr, hn, ht, Nat.le_trans hB hf.size⟩, hf⟩
theorem rk_start2 {u v : Value} (h : w2.heap[w.heap.size]? = some (rbO t u x y z) ∧ w2.heap[w.heap.size + 1]? = some (rcO off s fin) ∧ w2.heap[w.heap.size + 1 + 1]? = some rb0 ∧ BR w2 B u ys)
    (hb : Below (((w.alloc (rbO t u x y z)).alloc (rcO off s fin)).alloc rb0).heap.size (((w.alloc (rbO t u x y z)).alloc (rcO off s fin)).alloc rb0) w2) (hb3 : Below w2.heap.size w2 w3) (hn : zs.length = n) (hr : Kd.R (Kd.int .u8) 5 w3 w2.heap.size (fun _ => True) v zs) :
    RkW w.heap.size t v zs n x y z off s fin w (w3.setCell ⟨w.heap.size, 1, none⟩ v) := by
  have b1 : Below w.heap.size w (((w.alloc (rbO t u x y z)).alloc (rcO off s fin)).alloc rb0) := below_alloc (below_alloc (below_alloc (Below.refl _ _) _) _) _
  have b2 := below_step b1 hb
  have b3 := below_step b2 hb3
  have h2 := (hb3.block _ (lt_of_block h.1)).trans h.1
  have h3 := (hb3.block _ (lt_of_block h.2.1)).trans h.2.1
  have h4 := (hb3.block _ (lt_of_block h.2.2.1)).trans h.2.2.1
  have hl := lt_of_block h.2.2.1
  have hk : ∀ k, k ≠ w.heap.size → (w3.setCell ⟨w.heap.size, 1, none⟩ v).heap[k]? = w3.heap[k]? := fun k hk => Below.heap_setCell _ _ _ _ hk
  exact ⟨cells_set (i := 1) v h2, (hk _ (by omega)).trans h3, (hk _ (by omega)).trans h4, Kd.R_mono (Kd.R_far (p := ⟨w.heap.size, 1, none⟩) (Kd.R_mono (ok' := fun k => k ≠ w.heap.size) (Kd.R_bound (Kd.R_lower hr (by omega : w.heap.size + 3 ≤ w2.heap.size))) (fun k hk => by have := hk.2.1; omega)) (fun _ hk => hk) v) (fun _ _ => trivial), hn, b3.setCell (p := ⟨w.heap.size, 1, none⟩) (Nat.le_refl _) _, rfl⟩
end
set_option maxRecDepth 100000 in
set_option maxHeartbeats 2000000 in
theorem RAck_calls (B : Nat) (t : ByteArray) (u : Value) (ys : List Int) (x y : Bool) (z off : Int) (s : ByteArray) (fin : Bool) (w : World) (h : BR w B u ys) (hl : ys.length ≤ t.size) (ht : t.size ≤ 262144) (hB : B ≤ w.heap.size) :
    Calls Try.prog 28 #[rbV t u x y z, rcV off s fin] w (RbC B w) := by
  obtain ⟨n, hn⟩ : ∃ n, ys.length = n := ⟨_, rfl⟩
  rw [hn] at hl
  have HN := Aside0.mk (And.intro hl ht)
  obtain ⟨A, c, rfl, _⟩ := h.at hn
  have HH := Aside0.mk h
  have HNN := Aside0.mk hn
  have HB0 := Aside0.mk (below_alloc (below_alloc (below_alloc (Below.refl w.heap.size w) (rbO t (.slice A n c) x y z)) (rcO off s fin)) rb0)
  clear h hn hl
  go_enter Try.func28, Try.ntmps28
  go_wp2_with (go_at_call 69; refine (RWas_calls t A n c x y z off s fin _ HN.out.1 HN.out.2).mono ?_; rintro e w2 ⟨r, rfl, hr, hb⟩; have HR := Aside0.mk hr; have HB2 := Aside0.mk hb; clear hr hb; refine park ?_)
  have hk2 := rk_start (y := y) (z := z) (x := x) (off := off) (s := s) (fin := fin) HH.out HNN.out HB2.out
  have HK2 := Aside0.mk hk2
  obtain ⟨c0, c1, c2, c3, c4⟩ := rb_cell hk2.1
  obtain ⟨d0, d1, d2⟩ := rc_cell hk2.2.1
  obtain ⟨g0, g1, g2, g3, g4⟩ := rb_cell hk2.2.2.1
  have y0 := free_blk hk2.2.2.1 0
  have y1 := free_blk hk2.2.2.1 1
  have y2 := free_blk hk2.2.2.1 2
  have y3 := free_blk hk2.2.2.1 3
  have y4 := free_blk hk2.2.2.1 4
  have z1 := free_blk hk2.1 1
  clear hk2
  refine ⟨?_⟩
  cases r with
  | false =>
    go_wp2
    (try simp only [Exit.inBlock, Exit.then])
    have hfin := rk_no (B := B) HK2.out HB2.out hB (by rw [HNN.out]; exact HN.out.1) HN.out.2 13
    refine bodyPost_ret (results_ct rfl _ _ (w.heap.size + 1 + 1) 40 _ (0, 0) _ rfl hfin.1 Try.underlying40 rfl (by kernel_rfl)) rfl ?_
    exact hfin.2
  | true =>
    obtain ⟨hr0, hr1⟩ := HR.out rfl
    have HRR := Aside0.mk (And.intro hr0 hr1)
    have hn262 := HN.out.2
    have hn263 := HN.out.1
    go_wp2_with ((with_reducible refine gate_builtin (b := .append) (xs := #[.tmp 13, .tmp 15]) rfl ?_); at_builtin; refine Kd.R_append_rows (Kd.int .u8) (w0 := w2) w2.heap.size rfl (.tmp 13) (.tmp 15) 23 5 (.int .u8 0) 1 rfl Try.underlying23 info5g rfl (by decide) (by omega) (.slice none 0 0) ([] : List Int) ys A n c (fun _ => True) (fun _ => False) rfl rfl (Kd.R_nil _ _ _ _ _) ?aR (fun _ _ h => h) (fun _ h => h.elim) (fun _ _ => trivial) (Below.refl _ _) (Nat.le_refl _) (by simp; omega) ?_; (case aR => have := (Kd.R_reads' HK2.out.2.2.2).2.2; rwa [HNN.out] at this); intro v w3 hov hbv _ _; have HOV := Aside0.mk hov; have HBV := Aside0.mk hbv; clear hov hbv; refine park ?_)
    obtain ⟨A3, q3, rfl⟩ := Kd.R_slice HOV.out
    have hk3 := HK2.out.1
    have k2 := (HBV.out.block _ (lt_of_block HK2.out.1)).trans HK2.out.1
    obtain ⟨c0, c1, c2, c3, c4⟩ := rb_cell k2
    have z1 := free_blk k2 1
    have hs3 := rk_start2 (y := y) (z := z) (x := x) (off := off) (s := s) (fin := fin) HK2.out HB2.out HBV.out (n := n) (by rw [List.nil_append]; exact HNN.out) HOV.out
    rw [List.nil_append, HNN.out] at hs3
    have HS3 := Aside0.mk hs3
    rw [List.nil_append, HNN.out]
    clear hs3 hk3 k2 d0 d1 d2 g0 g1 g2 g3 g4 y0 y1 y2 y3 y4
    refine ⟨?_⟩
    go_wp2
    go_loopw [7] (fun i wr => ∃ j : Nat, j ≤ s.size ∧ i = .int .i64 j ∧ Aside0 (∃ u zs, RkW w.heap.size t u zs n x y z off s fin w wr)) (fun i _ => s.size - (intOf i).toNat)
    case atStart => exact ⟨0, Nat.zero_le _, rfl, ⟨_, _, HS3.out⟩⟩
    case round =>
      obtain ⟨j, hj, rfl, HL⟩ := hrel
      obtain ⟨u, zs, hk⟩ := HL.out
      obtain ⟨A4, q4, rfl, hat⟩ := hk.at
      obtain ⟨c0, c1, c2, c3, c4⟩ := rb_cell hk.b2
      obtain ⟨d0, d1, d2⟩ := rc_cell hk.b3
      obtain ⟨g0, g1, g2, g3, g4⟩ := rb_cell hk.b4
      have y0 := free_blk hk.b4 0
      have y1 := free_blk hk.b4 1
      have y2 := free_blk hk.b4 2
      have y3 := free_blk hk.b4 3
      have y4 := free_blk hk.b4 4
      have z4 := free_blk hk.b2 4
      have HK := Aside0.mk hk
      have e4 : IntKind.i64.wrap ((j : Int) + 1) = (j : Int) + 1 := IntWalk.i64_in _ (by have := HRR.out; omega)
      by_cases hlt : j < s.size
      · have hlt2 : (j : Int) < (s.size : Int) := by omega
        obtain ⟨ji, hji⟩ : ∃ ji : Nat, off + (j : Int) = (ji : Int) := ⟨(off + (j : Int)).toNat, by have := HRR.out; omega⟩
        have hjn : ji < n := by have := HRR.out; omega
        have hjn2 : (ji : Int) < (n : Int) := by omega
        have e5 : IntKind.i64.wrap (off + (j : Int)) = (ji : Int) := by rw [IntWalk.i64_in _ (by have := HRR.out; omega), hji]
        obtain ⟨q, rfl, ⟨v, hv⟩, hz⟩ := hat ji hjn
        clear hk HL hat hji
        go_wp2
        obtain ⟨zs', hput⟩ := HK.out.put rfl ji 1
        go_roundw
        case rel => exact ⟨j + 1, by omega, by simp, ⟨_, zs', hput⟩⟩
        case measure => simp [intOf]; omega
      · have hjs : j = s.size := by omega
        subst hjs
        clear hk HL hat
        cases fin with
        | false =>
          go_wp2
          (try simp only [Exit.inBlock, Exit.then])
          have hfin := HK.out.fin_ hB HN.out.1 HN.out.2 0
          refine bodyPost_ret (results_ct rfl _ _ (w.heap.size + 2) 40 _ (0, 0) _ rfl hfin.1 Try.underlying40 rfl (by kernel_rfl)) rfl ?_
          exact hfin.2
        | true =>
          go_wp2
          (try simp only [Exit.inBlock, Exit.then])
          have hfin := (HK.out.mark 1).fin_ hB HN.out.1 HN.out.2 0
          refine bodyPost_ret (results_ct rfl _ _ (w.heap.size + 2) 40 _ (0, 0) _ rfl hfin.1 Try.underlying40 rfl (by kernel_rfl)) rfl ?_
          exact hfin.2
set_option maxRecDepth 100000 in
set_option maxHeartbeats 2000000 in
theorem RLost_calls (B : Nat) (t : ByteArray) (u : Value) (ys : List Int) (x y : Bool) (z off : Int) (s : ByteArray) (fin : Bool) (w : World) (h : BR w B u ys) (hl : ys.length ≤ t.size) (ht : t.size ≤ 262144) (hB : B ≤ w.heap.size) :
    Calls Try.prog 71 #[rbV t u x y z, rcV off s fin] w (RbC B w) := by
  obtain ⟨n, hn⟩ : ∃ n, ys.length = n := ⟨_, rfl⟩
  rw [hn] at hl
  have HN := Aside0.mk (And.intro hl ht)
  obtain ⟨A, c, rfl, _⟩ := h.at hn
  have HH := Aside0.mk h
  have HNN := Aside0.mk hn
  have HB0 := Aside0.mk (below_alloc (below_alloc (below_alloc (Below.refl w.heap.size w) (rbO t (.slice A n c) x y z)) (rcO off s fin)) rb0)
  clear h hn hl
  go_enter Try.func71, Try.ntmps71
  go_wp2_with (go_at_call 69; refine (RWas_calls t A n c x y z off s fin _ HN.out.1 HN.out.2).mono ?_; rintro e w2 ⟨r, rfl, hr, hb⟩; have HR := Aside0.mk hr; have HB2 := Aside0.mk hb; clear hr hb; refine park ?_)
  have hk2 := rk_start (y := y) (z := z) (x := x) (off := off) (s := s) (fin := fin) HH.out HNN.out HB2.out
  have HK2 := Aside0.mk hk2
  obtain ⟨c0, c1, c2, c3, c4⟩ := rb_cell hk2.1
  obtain ⟨d0, d1, d2⟩ := rc_cell hk2.2.1
  obtain ⟨g0, g1, g2, g3, g4⟩ := rb_cell hk2.2.2.1
  have y0 := free_blk hk2.2.2.1 0
  have y1 := free_blk hk2.2.2.1 1
  have y2 := free_blk hk2.2.2.1 2
  have y3 := free_blk hk2.2.2.1 3
  have y4 := free_blk hk2.2.2.1 4
  have z1 := free_blk hk2.1 1
  clear hk2
  refine ⟨?_⟩
  cases r with
  | false =>
    go_wp2
    (try simp only [Exit.inBlock, Exit.then])
    have hfin := rk_no (B := B) HK2.out HB2.out hB (by rw [HNN.out]; exact HN.out.1) HN.out.2 13
    refine bodyPost_ret (results_ct rfl _ _ (w.heap.size + 1 + 1) 40 _ (0, 0) _ rfl hfin.1 Try.underlying40 rfl (by kernel_rfl)) rfl ?_
    exact hfin.2
  | true =>
    obtain ⟨hr0, hr1⟩ := HR.out rfl
    have HRR := Aside0.mk (And.intro hr0 hr1)
    have hn262 := HN.out.2
    have hn263 := HN.out.1
    go_wp2_with ((with_reducible refine gate_builtin (b := .append) (xs := #[.tmp 13, .tmp 15]) rfl ?_); at_builtin; refine Kd.R_append_rows (Kd.int .u8) (w0 := w2) w2.heap.size rfl (.tmp 13) (.tmp 15) 23 5 (.int .u8 0) 1 rfl Try.underlying23 info5g rfl (by decide) (by omega) (.slice none 0 0) ([] : List Int) ys A n c (fun _ => True) (fun _ => False) rfl rfl (Kd.R_nil _ _ _ _ _) ?aR (fun _ _ h => h) (fun _ h => h.elim) (fun _ _ => trivial) (Below.refl _ _) (Nat.le_refl _) (by simp; omega) ?_; (case aR => have := (Kd.R_reads' HK2.out.2.2.2).2.2; rwa [HNN.out] at this); intro v w3 hov hbv _ _; have HOV := Aside0.mk hov; have HBV := Aside0.mk hbv; clear hov hbv; refine park ?_)
    obtain ⟨A3, q3, rfl⟩ := Kd.R_slice HOV.out
    have hk3 := HK2.out.1
    have k2 := (HBV.out.block _ (lt_of_block HK2.out.1)).trans HK2.out.1
    obtain ⟨c0, c1, c2, c3, c4⟩ := rb_cell k2
    have z1 := free_blk k2 1
    have hs3 := rk_start2 (y := y) (z := z) (x := x) (off := off) (s := s) (fin := fin) HK2.out HB2.out HBV.out (n := n) (by rw [List.nil_append]; exact HNN.out) HOV.out
    rw [List.nil_append, HNN.out] at hs3
    have HS3 := Aside0.mk hs3
    rw [List.nil_append, HNN.out]
    clear hs3 hk3 k2 d0 d1 d2 g0 g1 g2 g3 g4 y0 y1 y2 y3 y4
    refine ⟨?_⟩
    go_wp2
    go_loopw [7] (fun i wr => ∃ j : Nat, j ≤ s.size ∧ i = .int .i64 j ∧ Aside0 (∃ u zs, RkW w.heap.size t u zs n x y z off s fin w wr)) (fun i _ => s.size - (intOf i).toNat)
    case atStart => exact ⟨0, Nat.zero_le _, rfl, ⟨_, _, HS3.out⟩⟩
    case round =>
      obtain ⟨j, hj, rfl, HL⟩ := hrel
      obtain ⟨u, zs, hk⟩ := HL.out
      obtain ⟨A4, q4, rfl, hat⟩ := hk.at
      obtain ⟨c0, c1, c2, c3, c4⟩ := rb_cell hk.b2
      obtain ⟨d0, d1, d2⟩ := rc_cell hk.b3
      obtain ⟨g0, g1, g2, g3, g4⟩ := rb_cell hk.b4
      have y0 := free_blk hk.b4 0
      have y1 := free_blk hk.b4 1
      have y2 := free_blk hk.b4 2
      have y3 := free_blk hk.b4 3
      have y4 := free_blk hk.b4 4
      have z4 := free_blk hk.b2 4
      have HK := Aside0.mk hk
      have e4 : IntKind.i64.wrap ((j : Int) + 1) = (j : Int) + 1 := IntWalk.i64_in _ (by have := HRR.out; omega)
      by_cases hlt : j < s.size
      · have hlt2 : (j : Int) < (s.size : Int) := by omega
        obtain ⟨ji, hji⟩ : ∃ ji : Nat, off + (j : Int) = (ji : Int) := ⟨(off + (j : Int)).toNat, by have := HRR.out; omega⟩
        have hjn : ji < n := by have := HRR.out; omega
        have hjn2 : (ji : Int) < (n : Int) := by omega
        have e5 : IntKind.i64.wrap (off + (j : Int)) = (ji : Int) := by rw [IntWalk.i64_in _ (by have := HRR.out; omega), hji]
        obtain ⟨q, rfl, ⟨v, hv⟩, hz⟩ := hat ji hjn
        clear hk HL hat hji
        by_cases h1 : v = 1
        · have e6 : (v != 1) = false := by simp [h1]
          go_wp2
          go_roundw
          case rel => first | exact ⟨j + 1, by omega, by simp, ⟨_, zs, HK.out⟩⟩ | ((repeat apply Exists.intro); exact ⟨⟨j + 1, by omega, by simp, ⟨_, zs, HK.out⟩⟩, rfl⟩)
          case measure => simp [intOf]; omega
        · have e6 : (v != 1) = true := by simp [h1]
          go_wp2
          obtain ⟨zs', hput⟩ := HK.out.put rfl ji 2
          go_roundw
          case rel => first | exact ⟨j + 1, by omega, by simp, ⟨_, zs', hput⟩⟩ | ((repeat apply Exists.intro); exact ⟨⟨j + 1, by omega, by simp, ⟨_, zs', hput⟩⟩, rfl⟩)
          case measure => simp [intOf]; omega
      · have hjs : j = s.size := by omega
        subst hjs
        clear hk HL hat
        cases fin with
        | false =>
          go_wp2
          (try simp only [Exit.inBlock, Exit.then])
          have hfin := HK.out.fin_ hB HN.out.1 HN.out.2 0
          refine bodyPost_ret (results_ct rfl _ _ (w.heap.size + 2) 40 _ (0, 0) _ rfl hfin.1 Try.underlying40 rfl (by kernel_rfl)) rfl ?_
          exact hfin.2
        | true =>
          by_cases hz1 : z = 1
          · subst hz1
            go_wp2
            (try simp only [Exit.inBlock, Exit.then])
            have hfin := HK.out.fin_ hB HN.out.1 HN.out.2 0
            refine bodyPost_ret (results_ct rfl _ _ (w.heap.size + 2) 40 _ (0, 0) _ rfl hfin.1 Try.underlying40 rfl (by kernel_rfl)) rfl ?_
            exact hfin.2
          · have e7 : (z != 1) = true := by simp [hz1]
            go_wp2
            (try simp only [Exit.inBlock, Exit.then])
            have hfin := (HK.out.mark 2).fin_ hB HN.out.1 HN.out.2 0
            refine bodyPost_ret (results_ct rfl _ _ (w.heap.size + 2) 40 _ (0, 0) _ rfl hfin.1 Try.underlying40 rfl (by kernel_rfl)) rfl ?_
            exact hfin.2
end Go.Proofs.Ytiladcdogbeomaa.QRangesPlays
