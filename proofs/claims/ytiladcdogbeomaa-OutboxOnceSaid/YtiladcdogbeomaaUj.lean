/- Law 24 (outbox): contracts of functions that its statements reach, and plain laws behind them (part 10). No condition. -/
import Derived.Test.YtiladcdogbeomaaUi
namespace Go.Proofs.Ytiladcdogbeomaa.QRangesPlays
open Go.RowKit Go.Shelf Go.Proofs.YtiladcdogbeomaaW.PrintWords Go.Proofs.YtiladcdogbeomaaW.PrintLast Go.Proofs.YtiladcdogbeomaaW.PrintMore Go.Proofs.Ytiladcdogbeomaa.RowLaws Go.Proofs.Ytiladcdogbeomaa.Lazy
attribute [local go_sem] Oper.semAt_some
attribute [local go_sem] max2_int min2_int max_two min_two
/-- The worlds of the last statement of Next: which of the two results is stored. -/
structure RnJ (X B : Nat) (t : ByteArray) (u : Value) (zs : List Int) (x y : Bool) (z off : Int) (s : ByteArray) (fin : Bool) (w : World) (a b : Bool) (W : World) : Prop where
  b3 : W.heap[X]? = some (rbO t u x y z)
  b6 : W.heap[X + 1]? = some (bif a then rbO t u x y z else rb0)
  b7 : W.heap[X + 2]? = some (bif b then rcO off s fin else rcO 0 ⟨#[]⟩ false)
  row : Kd.R (Kd.int .u8) 5 W B (fun k => ¬ (X ≤ k ∧ k ≤ X + 2)) u zs
  low : Below w.heap.size w W
  hX : X = w.heap.size
section
variable {X B : Nat} {t : ByteArray} {u : Value} {zs : List Int} {x y : Bool} {z off : Int} {s : ByteArray} {fin : Bool} {w W W' : World} {a b : Bool}
theorem RnJ.below (h : RnJ X B t u zs x y z off s fin w a b W) (hb : Below W.heap.size W W') : RnJ X B t u zs x y z off s fin w a b W' :=
  ⟨(hb.block _ (lt_of_block h.b3)).trans h.b3, (hb.block _ (lt_of_block h.b6)).trans h.b6, (hb.block _ (lt_of_block h.b7)).trans h.b7, Kd.R_below h.row hb, below_step h.low hb, h.hX⟩
theorem RnJ.far (h : Kd.R (Kd.int .u8) 5 W B (fun k => ¬ (X ≤ k ∧ k ≤ X + 2)) u zs) {k j : Nat} {v : Value} (hk : X ≤ k ∧ k ≤ X + 2) : Kd.R (Kd.int .u8) 5 (W.setCell ⟨k, j, none⟩ v) B (fun k => ¬ (X ≤ k ∧ k ≤ X + 2)) u zs :=
  Kd.R_far (p := ⟨k, j, none⟩) h (fun i hi => by show i ≠ k; rintro rfl; exact hi hk) v
theorem RnJ.st6 (h : RnJ X B t u zs x y z off s fin w false b W) : RnJ X B t u zs x y z off s fin w true b (((((W.setCell ⟨X + 1, 0, none⟩ (.string t)).setCell ⟨X + 1, 1, none⟩ u).setCell ⟨X + 1, 2, none⟩ (.bool x)).setCell ⟨X + 1, 3, none⟩ (.bool y)).setCell ⟨X + 1, 4, none⟩ (.int .u8 z)) := by
  have hk : ∀ k, k ≠ X + 1 → (((((W.setCell ⟨X + 1, 0, none⟩ (.string t)).setCell ⟨X + 1, 1, none⟩ u).setCell ⟨X + 1, 2, none⟩ (.bool x)).setCell ⟨X + 1, 3, none⟩ (.bool y)).setCell ⟨X + 1, 4, none⟩ (.int .u8 z)).heap[k]? = W.heap[k]? := fun k hk => by
    rw [Below.heap_setCell _ _ _ _ hk, Below.heap_setCell _ _ _ _ hk, Below.heap_setCell _ _ _ _ hk, Below.heap_setCell _ _ _ _ hk, Below.heap_setCell _ _ _ _ hk]
  exact ⟨(hk _ (by omega)).trans h.b3, put5 h.b6 _ _ _ _ _, (hk _ (by omega)).trans h.b7, RnJ.far (RnJ.far (RnJ.far (RnJ.far (RnJ.far h.row (by omega)) (by omega)) (by omega)) (by omega)) (by omega), below_put5 h.low (by have := h.hX; omega) _ _ _ _ _, h.hX⟩
theorem RnJ.st7 (h : RnJ X B t u zs x y z off s fin w a false W) : RnJ X B t u zs x y z off s fin w a true (((W.setCell ⟨X + 2, 0, none⟩ (.int .i64 off)).setCell ⟨X + 2, 1, none⟩ (.string s)).setCell ⟨X + 2, 2, none⟩ (.bool fin)) := by
  have hk : ∀ k, k ≠ X + 2 → (((W.setCell ⟨X + 2, 0, none⟩ (.int .i64 off)).setCell ⟨X + 2, 1, none⟩ (.string s)).setCell ⟨X + 2, 2, none⟩ (.bool fin)).heap[k]? = W.heap[k]? := fun k hk => by
    rw [Below.heap_setCell _ _ _ _ hk, Below.heap_setCell _ _ _ _ hk, Below.heap_setCell _ _ _ _ hk]
  exact ⟨(hk _ (by omega)).trans h.b3, (hk _ (by omega)).trans h.b6, cells_set (i := 2) _ (cells_set (i := 1) _ (cells_set (i := 0) _ h.b7)), RnJ.far (RnJ.far (RnJ.far h.row (by omega)) (by omega)) (by omega), below_put3 h.low (by have := h.hX; omega) _ _ _, h.hX⟩
/-- The end's marks are written. -/
theorem RnJ.mark (h : RnJ X B t u zs x y z off s fin w false false W) (v : Int) : RnJ X B t u zs x true v off s fin w false false ((W.setCell ⟨X, 3, none⟩ (.bool true)).setCell ⟨X, 4, none⟩ (.int .u8 v)) := by
  have hk : ∀ k, k ≠ X → ((W.setCell ⟨X, 3, none⟩ (.bool true)).setCell ⟨X, 4, none⟩ (.int .u8 v)).heap[k]? = W.heap[k]? := fun k hk => by
    rw [Below.heap_setCell _ _ _ _ hk, Below.heap_setCell _ _ _ _ hk]
  have hX := h.hX
  exact ⟨cells_set (i := 4) (.int .u8 v) (cells_set (i := 3) (.bool true) h.b3), (hk _ (by omega)).trans h.b6, (hk _ (by omega)).trans h.b7, RnJ.far (RnJ.far h.row (by omega)) (by omega), (h.low.setCell (p := ⟨X, 3, none⟩) (by show w.heap.size ≤ X; omega) _).setCell (p := ⟨X, 4, none⟩) (by show w.heap.size ≤ X; omega) _, hX⟩
end
abbrev rn17_ops : List Oper := [{ dst := some 89, op := .load 40 (.tmp 3), type := 40, pos := "ref.go:89", after := #[], guard := none },
  { dst := some 90, op := .move (.tmp 10), type := 3, pos := "ref.go:89", after := #[⟨9, .gcOnly .lateStores⟩], guard := none },
  { dst := some 91, op := .fieldAddr 40 (.tmp 3) 0, type := 0, pos := "ref.go:89", after := #[], guard := none },
  { dst := some 92, op := .load 9 (.tmp 91), type := 9, pos := "ref.go:89", after := #[⟨2, .data⟩], guard := none },
  { dst := some 93, op := .move (.tmp 10), type := 3, pos := "ref.go:89", after := #[], guard := none },
  { dst := some 94, op := .move (.tmp 11), type := 3, pos := "ref.go:89", after := #[], guard := none },
  { dst := some 95, op := .slice 9 (.tmp 92) (some (.tmp 93)) (some (.tmp 94)) none, type := 9, pos := "ref.go:89", after := #[⟨3, .data⟩, ⟨4, .data⟩, ⟨5, .data⟩], guard := none },
  { dst := some 96, op := .move (.tmp 12), type := 4, pos := "ref.go:89", after := #[⟨9, .gcOnly .lateStores⟩], guard := none },
  { dst := some 97, op := .build 46 #[(0, .tmp 90), (1, .tmp 95), (2, .tmp 96)], type := 46, pos := "ref.go:89", after := #[⟨1, .data⟩, ⟨6, .data⟩, ⟨7, .data⟩, ⟨9, .gcOnly .lateStores⟩], guard := none },
  { dst := none, op := .store 40 (.tmp 6) (.tmp 89), type := 0, pos := "ref.go:89", after := #[⟨0, .data⟩, ⟨0, .phase⟩, ⟨1, .textOnly .lateStores⟩, ⟨2, .textOnly .lateStores⟩, ⟨3, .textOnly .lateStores⟩, ⟨4, .textOnly .lateStores⟩, ⟨5, .textOnly .lateStores⟩, ⟨6, .textOnly .lateStoresUnsure⟩, ⟨7, .textOnly .lateStores⟩, ⟨8, .textOnly .lateStores⟩], guard := none },
  { dst := none, op := .store 46 (.tmp 7) (.tmp 97), type := 0, pos := "ref.go:89", after := #[⟨8, .data⟩, ⟨9, .chain⟩, ⟨0, .phase⟩, ⟨1, .phase⟩, ⟨2, .phase⟩, ⟨3, .phase⟩, ⟨4, .phase⟩, ⟨5, .phase⟩, ⟨6, .phase⟩, ⟨7, .phase⟩, ⟨8, .phase⟩, ⟨9, .phase⟩], guard := none },
  { dst := some 8, op := .assign (.const (.bool true)), type := 4, pos := "ref.go:89", after := #[⟨10, .chain⟩, ⟨0, .phase⟩, ⟨1, .phase⟩, ⟨2, .phase⟩, ⟨3, .phase⟩, ⟨4, .phase⟩, ⟨5, .phase⟩, ⟨6, .phase⟩, ⟨7, .phase⟩, ⟨8, .phase⟩, ⟨9, .phase⟩, ⟨10, .phase⟩], guard := none }]
abbrev rn17_tab : List (Option Nat) := [none, none, none, none, none, none, none, none, some 11, none, none, none, none, none, none, none, none, none, none, none, none, none, none, none, none, none, none, none, none, none, none, none, none, none, none, none, none, none, none, none, none, none, none, none, none, none, none, none, none, none, none, none, none, none, none, none, none, none, none, none, none, none, none, none, none, none, none, none, none, none, none, none, none, none, none, none, none, none, none, none, none, none, none, none, none, none, none, none, none, some 0, some 1, some 2, some 3, some 4, some 5, some 6, some 7, some 8, none, none, none, none, none, none, none, none, none, none, none, none, none, none, none, none, none, none, none, none, none, none, none, none, none, none, none, none, none, none, none, none, none, none, none, none, none]

def rn17_val (X B m c : Nat) (A : Option Addr) (t : ByteArray) (zs : List Int) (x y : Bool) (z off : Int) (s : ByteArray) (fin : Bool) (e : Int) (w0 : World) : Nat → Value → World → Prop := fun j v W => match j with
  | 0 => v = .agg #[.string t, .slice A m c, .bool x, .bool y, .int .u8 z]
  | 1 => v = .int .i64 off
  | 2 => v = .pointer (some ⟨X, 0, none⟩)
  | 3 => v = .string t
  | 4 => v = .int .i64 off
  | 5 => v = .int .i64 e
  | 6 => v = .string s
  | 7 => v = .bool fin
  | 8 => v = .agg #[.int .i64 off, .string s, .bool fin]
  | 9 => True
  | 10 => True
  | 11 => v = .bool true
  | _ => True

set_option maxRecDepth 100000 in
set_option maxHeartbeats 4000000 in
theorem RNext_r17 (X B m c : Nat) (A : Option Addr) (t : ByteArray) (zs : List Int) (x y : Bool) (z off : Int) (s : ByteArray) (fin : Bool) (e : Int) (w0 : World) (t0 : List Value) (d0 : List Deferred) (w : World) (Q : Exit → Act → World → Prop) (hl : t0.length = rn17_tab.length)
    (t3 : t0[3]? = some (.pointer (some ⟨X, 0, none⟩))) (t6 : t0[6]? = some (.pointer (some ⟨X + 1, 0, none⟩))) (t7 : t0[7]? = some (.pointer (some ⟨X + 2, 0, none⟩))) (t10 : t0[10]? = some (.int .i64 off)) (t11 : t0[11]? = some (.int .i64 e)) (t12 : t0[12]? = some (.bool fin)) (hb : 0 ≤ off ∧ off ≤ e ∧ e ≤ (t.size : Int)) (hs : t.extract off.toNat e.toNat = s) (hJ0 : RnJ X B t (.slice A m c) zs x y z off s fin w0 false false w)
    (hQ : ∀ σ W, RnJ X B t (.slice A m c) zs x y z off s fin w0 true true W ∧ σ 11 = .bool true → Q .normal (lazyA (fun _ => true) σ t0 rn17_tab d0) W) :
    (Code.region 17 rn17_ops.toArray true).wp Try.prog Q { tmps := t0.toArray, defers := d0 } w := by
  refine wp_region_valsO (by kernel_rfl) rn17_tab (by kernel_rfl) hl (fun i => [].contains i) (fun i W W' => True) (fun L W => RnJ X B t (.slice A m c) zs x y z off s fin w0 (L 9) (L 10) W) (rn17_val X B m c A t zs x y z off s fin e w0) (hJ0.below (below_drew (Below.refl _ _))) ?hst ⟨⟨(fun j b h => by cases h), fun _ => rfl⟩, ⟨(fun j b h => by cases h), fun _ => rfl⟩, ⟨(fun j b h => by cases h), fun _ => rfl⟩, ⟨(fun j b h => by cases h), fun _ => rfl⟩, ⟨(fun j b h => by cases h), fun _ => rfl⟩, ⟨(fun j b h => by cases h), fun _ => rfl⟩, ⟨(fun j b h => by cases h), fun _ => rfl⟩, ⟨(fun j b h => by cases h), fun _ => rfl⟩, ⟨(fun j b h => by cases h), fun _ => rfl⟩, ⟨(fun j b h => by cases h), fun _ => rfl⟩, ⟨(fun j b h => by cases h), fun _ => rfl⟩, ⟨(fun j b h => by cases h), fun _ => rfl⟩, trivial⟩ ⟨?s0, ?s1, ?s2, ?s3, ?s4, ?s5, ?s6, ?s7, ?s8, ?s9, ?s10, ?s11, trivial⟩ ?hskip ?hdone
  case hst =>
    intro L i j v W W' hLi hLj hne hcl hR h
    match j with
    | 0 => exact h
    | 1 => exact h
    | 2 => exact h
    | 3 => exact h
    | 4 => exact h
    | 5 => exact h
    | 6 => exact h
    | 7 => exact h
    | 8 => exact h
    | 9 => exact h
    | 10 => exact h
    | 11 => exact h
    | n + 12 => trivial

  case s0 =>
    intro _ L ρ W hLi hcl hold hJ hT
    have q3 := hT.2.1 3 _ t3 rfl
    have cc0 := (rb_cell hJ.b3).1
    have cc1 := (rb_cell hJ.b3).2.1
    have cc2 := (rb_cell hJ.b3).2.2.1
    have cc3 := (rb_cell hJ.b3).2.2.2.1
    have cc4 := (rb_cell hJ.b3).2.2.2.2
    refine Op1.of_run (v := .agg #[.string t, .slice A m c, .bool x, .bool y, .int .u8 z]) (W' := W) (by clear hT hJ hcl hold; go_simp) ⟨trivial, (by rw [upd_ne (by decide), upd_ne (by decide)]; exact hJ), rfl⟩

  case s1 =>
    intro _ L ρ W hLi hcl hold hJ hT
    have q10 := hT.2.1 10 _ t10 rfl
    refine Op1.of_run (v := .int .i64 off) (W' := W) (by clear hT hJ hcl hold; go_simp) ⟨trivial, (by rw [upd_ne (by decide), upd_ne (by decide)]; exact hJ), rfl⟩

  case s2 =>
    intro _ L ρ W hLi hcl hold hJ hT
    have q3 := hT.2.1 3 _ t3 rfl
    refine Op1.of_run (v := .pointer (some ⟨X, 0, none⟩)) (W' := W) (by clear hT hJ hcl hold; go_simp) ⟨trivial, (by rw [upd_ne (by decide), upd_ne (by decide)]; exact hJ), rfl⟩

  case s3 =>
    intro _ L ρ W hLi hcl hold hJ hT
    have q91 : ρ (.tmp 91) = .pointer (some ⟨X, 0, none⟩) := hT.1 91 2 rfl rfl
    have cc := (rb_cell hJ.b3).1
    refine Op1.of_run (v := .string t) (W' := W) (by clear hT hJ hcl hold; go_simp) ⟨trivial, (by rw [upd_ne (by decide), upd_ne (by decide)]; exact hJ), rfl⟩

  case s4 =>
    intro _ L ρ W hLi hcl hold hJ hT
    have q10 := hT.2.1 10 _ t10 rfl
    refine Op1.of_run (v := .int .i64 off) (W' := W) (by clear hT hJ hcl hold; go_simp) ⟨trivial, (by rw [upd_ne (by decide), upd_ne (by decide)]; exact hJ), rfl⟩

  case s5 =>
    intro _ L ρ W hLi hcl hold hJ hT
    have q11 := hT.2.1 11 _ t11 rfl
    refine Op1.of_run (v := .int .i64 e) (W' := W) (by clear hT hJ hcl hold; go_simp) ⟨trivial, (by rw [upd_ne (by decide), upd_ne (by decide)]; exact hJ), rfl⟩

  case s6 =>
    intro _ L ρ W hLi hcl hold hJ hT
    have q92 : ρ (.tmp 92) = .string t := hT.1 92 3 rfl rfl
    have q93 : ρ (.tmp 93) = .int .i64 off := hT.1 93 4 rfl rfl
    have q94 : ρ (.tmp 94) = .int .i64 e := hT.1 94 5 rfl rfl
    have a0 : 0 ≤ off ∧ off ≤ e ∧ e ≤ (t.size : Int) := hb
    have ex := hs
    refine Op1.of_run (v := .string s) (W' := W) (by clear hT hJ hcl hold; go_simp) ⟨trivial, (by rw [upd_ne (by decide), upd_ne (by decide)]; exact hJ), rfl⟩

  case s7 =>
    intro _ L ρ W hLi hcl hold hJ hT
    have q12 := hT.2.1 12 _ t12 rfl
    refine Op1.of_run (v := .bool fin) (W' := W) (by clear hT hJ hcl hold; go_simp) ⟨trivial, (by rw [upd_ne (by decide), upd_ne (by decide)]; exact hJ), rfl⟩

  case s8 =>
    intro _ L ρ W hLi hcl hold hJ hT
    have q90 : ρ (.tmp 90) = .int .i64 off := hT.1 90 1 rfl rfl
    have q95 : ρ (.tmp 95) = .string s := hT.1 95 6 rfl rfl
    have q96 : ρ (.tmp 96) = .bool fin := hT.1 96 7 rfl rfl
    refine Op1.of_run (v := .agg #[.int .i64 off, .string s, .bool fin]) (W' := W) (by clear hT hJ hcl hold; go_simp) ⟨trivial, (by rw [upd_ne (by decide), upd_ne (by decide)]; exact hJ), rfl⟩

  case s9 =>
    intro _ L ρ W hLi hcl hold hJ hT
    have q6 := hT.2.1 6 _ t6 rfl
    have q89 : ρ (.tmp 89) = .agg #[.string t, .slice A m c, .bool x, .bool y, .int .u8 z] := hT.1 89 0 rfl rfl
    have h6 : RnJ X B t (.slice A m c) zs x y z off s fin w0 false (L 10) W := by have := hJ; rwa [hLi] at this
    obtain ⟨g0, g1, g2, g3, g4⟩ := rb_cell h6.b6
    have y0 := free_blk h6.b6 0
    have y1 := free_blk h6.b6 1
    have y2 := free_blk h6.b6 2
    have y3 := free_blk h6.b6 3
    have y4 := free_blk h6.b6 4
    refine Op1.of_skip (W' := (((((W.setCell ⟨X + 1, 0, none⟩ (.string t)).setCell ⟨X + 1, 1, none⟩ (.slice A m c)).setCell ⟨X + 1, 2, none⟩ (.bool x)).setCell ⟨X + 1, 3, none⟩ (.bool y)).setCell ⟨X + 1, 4, none⟩ (.int .u8 z))) (by clear hT hJ hcl hold h6; go_simp) ⟨trivial, (by rw [upd_self, upd_ne (by decide)]; exact h6.st6), trivial⟩

  case s10 =>
    intro _ L ρ W hLi hcl hold hJ hT
    have q7 := hT.2.1 7 _ t7 rfl
    have q97 : ρ (.tmp 97) = .agg #[.int .i64 off, .string s, .bool fin] := hT.1 97 8 rfl rfl
    have h7 : RnJ X B t (.slice A m c) zs x y z off s fin w0 (L 9) false W := by have := hJ; rwa [hLi] at this
    obtain ⟨g0, g1, g2⟩ := rc_cell h7.b7
    have y0 := free_blk h7.b7 0
    have y1 := free_blk h7.b7 1
    have y2 := free_blk h7.b7 2
    refine Op1.of_skip (W' := (((W.setCell ⟨X + 2, 0, none⟩ (.int .i64 off)).setCell ⟨X + 2, 1, none⟩ (.string s)).setCell ⟨X + 2, 2, none⟩ (.bool fin))) (by clear hT hJ hcl hold h7; go_simp) ⟨trivial, (by rw [upd_self, upd_ne (by decide)]; exact h7.st7), trivial⟩

  case s11 =>
    intro _ L ρ W hLi hcl hold hJ hT
    have qc := hT.2.2.1 (Go.Value.bool true)
    refine Op1.of_run (v := .bool true) (W' := W) (by clear hT hJ hcl hold; go_simp) ⟨trivial, (by rw [upd_ne (by decide), upd_ne (by decide)]; exact hJ), rfl⟩

  case hskip => intro i hi; simp at hi

  case hdone =>
    intro σ L W hL hJ hV
    rw [hL 9 (by decide), hL 10 (by decide)] at hJ
    exact hQ σ W ⟨hJ, hV 11 (by decide)⟩
abbrev rn20_ops : List Oper := [{ dst := some 128, op := .load 40 (.tmp 3), type := 40, pos := "ref.go:93", after := #[], guard := none },
  { dst := some 129, op := .fieldAddr 40 (.tmp 3) 0, type := 0, pos := "ref.go:93", after := #[], guard := none },
  { dst := some 130, op := .load 9 (.tmp 129), type := 9, pos := "ref.go:93", after := #[⟨1, .data⟩], guard := none },
  { dst := some 131, op := .call { callee := .builtin .len, args := #[.tmp 130], argTypes := #[9] }, type := 3, pos := "ref.go:93", after := #[⟨2, .data⟩], guard := none },
  { dst := some 132, op := .build 46 #[(0, .tmp 131), (1, .const (.string { data := #[] })), (2, .const (.bool true))], type := 46, pos := "ref.go:93", after := #[⟨3, .data⟩, ⟨5, .gcOnly .lateStores⟩], guard := none },
  { dst := none, op := .store 40 (.tmp 6) (.tmp 128), type := 0, pos := "ref.go:93", after := #[⟨0, .data⟩, ⟨0, .phase⟩, ⟨1, .textOnly .lateStores⟩, ⟨2, .textOnly .lateStores⟩, ⟨3, .textOnly .lateStoresUnsure⟩, ⟨4, .textOnly .lateStores⟩], guard := none },
  { dst := none, op := .store 46 (.tmp 7) (.tmp 132), type := 0, pos := "ref.go:93", after := #[⟨4, .data⟩, ⟨5, .chain⟩, ⟨0, .phase⟩, ⟨1, .phase⟩, ⟨2, .phase⟩, ⟨3, .phase⟩, ⟨4, .phase⟩, ⟨5, .phase⟩], guard := none },
  { dst := some 8, op := .assign (.const (.bool true)), type := 4, pos := "ref.go:93", after := #[⟨6, .chain⟩, ⟨0, .phase⟩, ⟨1, .phase⟩, ⟨2, .phase⟩, ⟨3, .phase⟩, ⟨4, .phase⟩, ⟨5, .phase⟩, ⟨6, .phase⟩], guard := none }]
abbrev rn20_tab : List (Option Nat) := [none, none, none, none, none, none, none, none, some 7, none, none, none, none, none, none, none, none, none, none, none, none, none, none, none, none, none, none, none, none, none, none, none, none, none, none, none, none, none, none, none, none, none, none, none, none, none, none, none, none, none, none, none, none, none, none, none, none, none, none, none, none, none, none, none, none, none, none, none, none, none, none, none, none, none, none, none, none, none, none, none, none, none, none, none, none, none, none, none, none, none, none, none, none, none, none, none, none, none, none, none, none, none, none, none, none, none, none, none, none, none, none, none, none, none, none, none, none, none, none, none, none, none, none, none, none, none, none, none, some 0, some 1, some 2, some 3, some 4, none, none]

def rn20_val (X B m c : Nat) (A : Option Addr) (t : ByteArray) (zs : List Int) (x y : Bool) (z off : Int) (s : ByteArray) (fin : Bool) (w0 : World) : Nat → Value → World → Prop := fun j v W => match j with
  | 0 => v = .agg #[.string t, .slice A m c, .bool x, .bool y, .int .u8 z]
  | 1 => v = .pointer (some ⟨X, 0, none⟩)
  | 2 => v = .string t
  | 3 => v = .int .i64 off
  | 4 => v = .agg #[.int .i64 off, .string s, .bool fin]
  | 5 => True
  | 6 => True
  | 7 => v = .bool true
  | _ => True

set_option maxRecDepth 100000 in
set_option maxHeartbeats 4000000 in
theorem RNext_r20 (X B m c : Nat) (A : Option Addr) (t : ByteArray) (zs : List Int) (x y : Bool) (z off : Int) (s : ByteArray) (fin : Bool) (w0 : World) (t0 : List Value) (d0 : List Deferred) (w : World) (Q : Exit → Act → World → Prop) (hl : t0.length = rn20_tab.length)
    (t3 : t0[3]? = some (.pointer (some ⟨X, 0, none⟩))) (t6 : t0[6]? = some (.pointer (some ⟨X + 1, 0, none⟩))) (t7 : t0[7]? = some (.pointer (some ⟨X + 2, 0, none⟩))) (hoff : (t.size : Int) = off) (hs1 : s = ⟨#[]⟩) (hf1 : fin = true) (hJ0 : RnJ X B t (.slice A m c) zs x y z off s fin w0 false false w)
    (hQ : ∀ σ W, RnJ X B t (.slice A m c) zs x y z off s fin w0 true true W ∧ σ 7 = .bool true → Q .normal (lazyA (fun _ => true) σ t0 rn20_tab d0) W) :
    (Code.region 20 rn20_ops.toArray true).wp Try.prog Q { tmps := t0.toArray, defers := d0 } w := by
  refine wp_region_valsO (by kernel_rfl) rn20_tab (by kernel_rfl) hl (fun i => [].contains i) (fun i W W' => True) (fun L W => RnJ X B t (.slice A m c) zs x y z off s fin w0 (L 5) (L 6) W) (rn20_val X B m c A t zs x y z off s fin w0) (hJ0.below (below_drew (Below.refl _ _))) ?hst ⟨⟨(fun j b h => by cases h), fun _ => rfl⟩, ⟨(fun j b h => by cases h), fun _ => rfl⟩, ⟨(fun j b h => by cases h), fun _ => rfl⟩, ⟨(fun j b h => by cases h), fun _ => rfl⟩, ⟨(fun j b h => by cases h), fun _ => rfl⟩, ⟨(fun j b h => by cases h), fun _ => rfl⟩, ⟨(fun j b h => by cases h), fun _ => rfl⟩, ⟨(fun j b h => by cases h), fun _ => rfl⟩, trivial⟩ ⟨?s0, ?s1, ?s2, ?s3, ?s4, ?s5, ?s6, ?s7, trivial⟩ ?hskip ?hdone
  case hst =>
    intro L i j v W W' hLi hLj hne hcl hR h
    match j with
    | 0 => exact h
    | 1 => exact h
    | 2 => exact h
    | 3 => exact h
    | 4 => exact h
    | 5 => exact h
    | 6 => exact h
    | 7 => exact h
    | n + 8 => trivial

  case s0 =>
    intro _ L ρ W hLi hcl hold hJ hT
    have q3 := hT.2.1 3 _ t3 rfl
    have cc0 := (rb_cell hJ.b3).1
    have cc1 := (rb_cell hJ.b3).2.1
    have cc2 := (rb_cell hJ.b3).2.2.1
    have cc3 := (rb_cell hJ.b3).2.2.2.1
    have cc4 := (rb_cell hJ.b3).2.2.2.2
    refine Op1.of_run (v := .agg #[.string t, .slice A m c, .bool x, .bool y, .int .u8 z]) (W' := W) (by clear hT hJ hcl hold; go_simp) ⟨trivial, (by rw [upd_ne (by decide), upd_ne (by decide)]; exact hJ), rfl⟩

  case s1 =>
    intro _ L ρ W hLi hcl hold hJ hT
    have q3 := hT.2.1 3 _ t3 rfl
    refine Op1.of_run (v := .pointer (some ⟨X, 0, none⟩)) (W' := W) (by clear hT hJ hcl hold; go_simp) ⟨trivial, (by rw [upd_ne (by decide), upd_ne (by decide)]; exact hJ), rfl⟩

  case s2 =>
    intro _ L ρ W hLi hcl hold hJ hT
    have q129 : ρ (.tmp 129) = .pointer (some ⟨X, 0, none⟩) := hT.1 129 1 rfl rfl
    have cc := (rb_cell hJ.b3).1
    refine Op1.of_run (v := .string t) (W' := W) (by clear hT hJ hcl hold; go_simp) ⟨trivial, (by rw [upd_ne (by decide), upd_ne (by decide)]; exact hJ), rfl⟩

  case s3 =>
    intro _ L ρ W hLi hcl hold hJ hT
    have q130 : ρ (.tmp 130) = .string t := hT.1 130 2 rfl rfl
    have eo := hoff
    refine Op1.of_run (v := .int .i64 off) (W' := W) (by clear hT hJ hcl hold; go_simp) ⟨trivial, (by rw [upd_ne (by decide), upd_ne (by decide)]; exact hJ), rfl⟩

  case s4 =>
    intro _ L ρ W hLi hcl hold hJ hT
    have q131 : ρ (.tmp 131) = .int .i64 off := hT.1 131 3 rfl rfl
    have qc := hT.2.2.1 (Go.Value.string { data := #[] })
    have qc := hT.2.2.1 (Go.Value.bool true)
    have e1 := hs1
    have e2 := hf1
    refine Op1.of_run (v := .agg #[.int .i64 off, .string s, .bool fin]) (W' := W) (by clear hT hJ hcl hold; go_simp) ⟨trivial, (by rw [upd_ne (by decide), upd_ne (by decide)]; exact hJ), rfl⟩

  case s5 =>
    intro _ L ρ W hLi hcl hold hJ hT
    have q6 := hT.2.1 6 _ t6 rfl
    have q128 : ρ (.tmp 128) = .agg #[.string t, .slice A m c, .bool x, .bool y, .int .u8 z] := hT.1 128 0 rfl rfl
    have h6 : RnJ X B t (.slice A m c) zs x y z off s fin w0 false (L 6) W := by have := hJ; rwa [hLi] at this
    obtain ⟨g0, g1, g2, g3, g4⟩ := rb_cell h6.b6
    have y0 := free_blk h6.b6 0
    have y1 := free_blk h6.b6 1
    have y2 := free_blk h6.b6 2
    have y3 := free_blk h6.b6 3
    have y4 := free_blk h6.b6 4
    refine Op1.of_skip (W' := (((((W.setCell ⟨X + 1, 0, none⟩ (.string t)).setCell ⟨X + 1, 1, none⟩ (.slice A m c)).setCell ⟨X + 1, 2, none⟩ (.bool x)).setCell ⟨X + 1, 3, none⟩ (.bool y)).setCell ⟨X + 1, 4, none⟩ (.int .u8 z))) (by clear hT hJ hcl hold h6; go_simp) ⟨trivial, (by rw [upd_self, upd_ne (by decide)]; exact h6.st6), trivial⟩

  case s6 =>
    intro _ L ρ W hLi hcl hold hJ hT
    have q7 := hT.2.1 7 _ t7 rfl
    have q132 : ρ (.tmp 132) = .agg #[.int .i64 off, .string s, .bool fin] := hT.1 132 4 rfl rfl
    have h7 : RnJ X B t (.slice A m c) zs x y z off s fin w0 (L 5) false W := by have := hJ; rwa [hLi] at this
    obtain ⟨g0, g1, g2⟩ := rc_cell h7.b7
    have y0 := free_blk h7.b7 0
    have y1 := free_blk h7.b7 1
    have y2 := free_blk h7.b7 2
    refine Op1.of_skip (W' := (((W.setCell ⟨X + 2, 0, none⟩ (.int .i64 off)).setCell ⟨X + 2, 1, none⟩ (.string s)).setCell ⟨X + 2, 2, none⟩ (.bool fin))) (by clear hT hJ hcl hold h7; go_simp) ⟨trivial, (by rw [upd_self, upd_ne (by decide)]; exact h7.st7), trivial⟩

  case s7 =>
    intro _ L ρ W hLi hcl hold hJ hT
    have qc := hT.2.2.1 (Go.Value.bool true)
    refine Op1.of_run (v := .bool true) (W' := W) (by clear hT hJ hcl hold; go_simp) ⟨trivial, (by rw [upd_ne (by decide), upd_ne (by decide)]; exact hJ), rfl⟩

  case hskip => intro i hi; simp at hi

  case hdone =>
    intro σ L W hL hJ hV
    rw [hL 5 (by decide), hL 6 (by decide)] at hJ
    exact hQ σ W ⟨hJ, hV 7 (by decide)⟩
end Go.Proofs.Ytiladcdogbeomaa.QRangesPlays

namespace Go.Proofs.Ytiladcdogbeomaa.QRangesPlays
open Go.RowKit Go.Shelf Go.Proofs.YtiladcdogbeomaaW.PrintWords Go.Proofs.YtiladcdogbeomaaW.PrintLast Go.Proofs.YtiladcdogbeomaaW.PrintMore Go.Proofs.Ytiladcdogbeomaa.RowLaws Go.Proofs.Ytiladcdogbeomaa.Lazy
attribute [local go_sem] Oper.semAt_some max2_int min2_int max_two min_two
theorem results_cct {P : Program} {fn : Func} {p p' u : Tmp} {ty ty' : TypeId} (h : fn.results = #[.cell p ty, .cell p' ty', .tmp u]) (tmps : Array Value) (w : World) (g g' : Nat) (t t' : TypeId) (cs cs' : Array Value) (fr fr' : Nat × Nat) (d d' : TypeDesc)
    (hp : tmps.getD p undef = .pointer (some ⟨g, 0, none⟩)) (hg : w.heap[g]? = some (.cells cs t fr))
    (hu : P.underlying ty = some d) (hd : (match d with | .struct _ | .array _ _ => true | _ => false) = true) (hi : (P.info? ty).map (·.size) = some cs.size)
    (hp' : tmps.getD p' undef = .pointer (some ⟨g', 0, none⟩)) (hg' : w.heap[g']? = some (.cells cs' t' fr'))
    (hu' : P.underlying ty' = some d') (hd' : (match d' with | .struct _ | .array _ _ => true | _ => false) = true) (hi' : (P.info? ty').map (·.size) = some cs'.size) :
    (results fn tmps).run P w = .ok (.tuple #[.agg cs, .agg cs', tmps.getD u undef]) w := by
  have h1 : tmps[p]?.getD undef = .pointer (some ⟨g, 0, none⟩) := by simpa using hp
  have h2 : tmps[p']?.getD undef = .pointer (some ⟨g', 0, none⟩) := by simpa using hp'
  simp [results, h, h1, h2, asAddr, run_loadVar_row w g t ty cs fr d hg hu hd hi, run_loadVar_row w g' t' ty' cs' fr' d' hg' hu' hd' hi']
def RNextP (B : Nat) (w : World) (e : Ending) (w' : World) : Prop := ∃ v off s fin ok, e = .returned (.tuple #[v, rcV off s fin, .bool ok]) ∧ RbP B v w' ∧ Below w.heap.size w w'
/-- The worlds of Next, its loops and what is behind them: m is the new row. -/
structure RnW (X : Nat) (t : ByteArray) (A : Option Addr) (n c : Nat) (ys : List Int) (x y : Bool) (z : Int) (B : Nat) (w : World) (v : Value) (zs : List Int) (W : World) : Prop where
  b3 : W.heap[X]? = some (rbO t (.slice A n c) x y z)
  b6 : W.heap[X + 1]? = some rb0
  b7 : W.heap[X + 2]? = some (rcO 0 ⟨#[]⟩ false)
  old : Kd.R (Kd.int .u8) 5 W B (fun k => k < X) (.slice A n c) ys
  row : BR W (X + 3) v zs
  low : Below w.heap.size w W
  hX : X = w.heap.size
section
variable {X n c : Nat} {t : ByteArray} {A : Option Addr} {ys zs : List Int} {x y : Bool} {z : Int} {B : Nat} {w : World} {v : Value} {W W' : World}
theorem RnW.below (h : RnW X t A n c ys x y z B w v zs W) (hb : Below W.heap.size W W') : RnW X t A n c ys x y z B w v zs W' :=
  ⟨(hb.block _ (lt_of_block h.b3)).trans h.b3, (hb.block _ (lt_of_block h.b6)).trans h.b6, (hb.block _ (lt_of_block h.b7)).trans h.b7, Kd.R_below h.old hb, h.row.below hb, below_step h.low hb, h.hX⟩
theorem rn_start (h : BR w B (.slice A n c) ys) (hb : Below (((w.alloc (rbO t (.slice A n c) x y z)).alloc rb0).alloc (rcO 0 ⟨#[]⟩ false)).heap.size (((w.alloc (rbO t (.slice A n c) x y z)).alloc rb0).alloc (rcO 0 ⟨#[]⟩ false)) W) (hr : Kd.R (Kd.int .u8) 5 W (((w.alloc (rbO t (.slice A n c) x y z)).alloc rb0).alloc (rcO 0 ⟨#[]⟩ false)).heap.size (fun _ => True) v zs) :
    RnW w.heap.size t A n c ys x y z B w v zs W := by
  have b1 : Below w.heap.size w (((w.alloc (rbO t (.slice A n c) x y z)).alloc rb0).alloc (rcO 0 ⟨#[]⟩ false)) := below_alloc (below_alloc (below_alloc (Below.refl _ _) _) _) _
  have h2 : (((w.alloc (rbO t (.slice A n c) x y z)).alloc rb0).alloc (rcO 0 ⟨#[]⟩ false)).heap[w.heap.size]? = some (rbO t (.slice A n c) x y z) := blk_alloc (blk_alloc (heap_alloc_new w _) _) _
  have h3 : (((w.alloc (rbO t (.slice A n c) x y z)).alloc rb0).alloc (rcO 0 ⟨#[]⟩ false)).heap[w.heap.size + 1]? = some rb0 := blk_alloc (new_two w _ _) _
  have h4 : (((w.alloc (rbO t (.slice A n c) x y z)).alloc rb0).alloc (rcO 0 ⟨#[]⟩ false)).heap[w.heap.size + 1 + 1]? = some (rcO 0 ⟨#[]⟩ false) := by
    have := heap_alloc_new ((w.alloc (rbO t (.slice A n c) x y z)).alloc rb0) (rcO 0 ⟨#[]⟩ false)
    rwa [World.size_alloc, World.size_alloc] at this
  rw [World.size_alloc, World.size_alloc, World.size_alloc] at hr
  exact ⟨(hb.block _ (lt_of_block h2)).trans h2, (hb.block _ (lt_of_block h3)).trans h3, (hb.block _ (lt_of_block h4)).trans h4, Kd.R_below (Kd.R_below (Kd.R_mono (Kd.R_bound h) (fun k hk => hk.2.2.1)) b1) hb, hr, below_step b1 hb, rfl⟩
/-- A byte of the new row is written. -/
theorem RnW.put (h : RnW X t A n c ys x y z B w v zs W) {q k c2 : Nat} (hu : v = .slice (some ⟨q, 0, none⟩) k c2) (j : Nat) (u : Int) : ∃ zs', zs'.length = zs.length ∧ RnW X t A n c ys x y z B w v zs' (W.setCell ⟨q, j, none⟩ (.int .u8 u)) := by
  subst hu
  have hq := Kd.R_base h.row q (by simp [Value.ownBlock])
  have hX := h.hX
  have hk : ∀ k, k ≠ q → (W.setCell ⟨q, j, none⟩ (.int .u8 u)).heap[k]? = W.heap[k]? := fun k hk => Below.heap_setCell _ _ _ _ hk
  have hr := Kd.R_putn h.row (j : Int) u
  rw [show ((j : Int)).toNat = j by omega] at hr
  exact ⟨zs.set j u, List.length_set, (hk _ (by omega)).trans h.b3, (hk _ (by omega)).trans h.b6, (hk _ (by omega)).trans h.b7, Kd.R_far (p := ⟨q, j, none⟩) h.old (fun i hi => by show i ≠ q; omega) _, hr, h.low.setCell (p := ⟨q, j, none⟩) (by show w.heap.size ≤ q; omega) _, hX⟩
/-- A byte more. -/
theorem RnW.more (h : RnW X t A n c ys x y z B w v zs W) {v' : Value} {zs' : List Int} (hr : Kd.R (Kd.int .u8) 5 W' (X + 3) (fun _ => True) v' zs') (hb : Below (X + 3) W W') : RnW X t A n c ys x y z B w v' zs' W' := by
  have hX := h.hX
  have hm : ∀ k, k < X + 3 → k < W.heap.size → W'.heap[k]? = W.heap[k]? := fun k hk _ => hb.block k hk
  exact ⟨(hb.block _ (by omega)).trans h.b3, (hb.block _ (by omega)).trans h.b6, (hb.block _ (by omega)).trans h.b7, Kd.R_step h.old (fun k hk hlt => hb.block k (by omega)), hr, h.low.trans (hb.mono (by omega)), hX⟩
/-- The box takes the new row. -/
theorem RnW.take (h : RnW X t A n c ys x y z B w v zs W) (hB : B ≤ w.heap.size) (off : Int) (s : ByteArray) (fin : Bool) : RnJ X B t v zs x y z off s fin w false false (W.setCell ⟨X, 1, none⟩ v) := by
  have hX := h.hX
  have hk : ∀ k, k ≠ X → (W.setCell ⟨X, 1, none⟩ v).heap[k]? = W.heap[k]? := fun k hk => Below.heap_setCell _ _ _ _ hk
  exact ⟨cells_set (i := 1) v h.b3, (hk _ (by omega)).trans h.b6, (hk _ (by omega)).trans h.b7, RnJ.far (Kd.R_lower (Kd.R_mono (ok' := fun k => ¬ (X ≤ k ∧ k ≤ X + 2)) (Kd.R_bound h.row) (fun k hk => by have := hk.2.1; omega)) (by omega)) (by omega), h.low.setCell (p := ⟨X, 1, none⟩) (by show w.heap.size ≤ X; omega) _, hX⟩
/-- The box stays as it was. -/
theorem RnW.keep (h : RnW X t A n c ys x y z B w v zs W) (off : Int) (s : ByteArray) (fin : Bool) : RnJ X B t (.slice A n c) ys x y z off s fin w false false W :=
  ⟨h.b3, h.b6, h.b7, Kd.R_mono h.old (fun k hk => by omega), h.low, h.hX⟩
/-- The end. -/
theorem RnJ.fin_ {u : Value} {off : Int} {s : ByteArray} {fin : Bool} (h : RnJ X B t u zs x y z off s fin w true true W) (hl : zs.length ≤ t.size) (ht : t.size ≤ 262144) (hB : B ≤ w.heap.size) (ok : Bool) :
    W.heap[X + 1]? = some (rbO t u x y z) ∧ W.heap[X + 2]? = some (rcO off s fin) ∧ RNextP B w (.returned (.tuple #[rbV t u x y z, rcV off s fin, .bool ok])) W :=
  ⟨h.b6, h.b7, _, off, s, fin, ok, rfl, ⟨t, u, zs, x, y, z, rfl, Kd.R_mono h.row (fun _ _ => trivial), hl, ht, Nat.le_trans hB h.low.size⟩, h.low⟩
end
def cleanF (z : Int) : Int := if z = 2 then 0 else z
set_option maxRecDepth 100000 in
set_option maxHeartbeats 2000000 in
theorem RClean_calls (z : Int) (w : World) : Calls Try.prog 66 #[.int .u8 z] w fun e w' => e = .returned (.int .u8 (cleanF z)) ∧ Below w.heap.size w w' := by
  unfold cleanF
  by_cases h : z = 2
  · subst h
    go_enter Try.func66, Try.ntmps66
    go_wp2
    go_ret
    exact ⟨rfl, Below.refl _ _⟩
  · have e : (z == 2) = false := by simp [h]
    rw [if_neg h]
    go_enter Try.func66, Try.ntmps66
    go_wp2
    go_ret
    exact ⟨rfl, Below.refl _ _⟩
set_option maxRecDepth 100000 in
set_option maxHeartbeats 2000000 in
theorem RNext_calls (B : Nat) (t : ByteArray) (u : Value) (ys : List Int) (x y : Bool) (z room limit : Int) (w : World) (h : BR w B u ys) (hl : ys.length ≤ t.size) (ht : t.size ≤ 262144) (hB : B ≤ w.heap.size) :
    Calls Try.prog 25 #[rbV t u x y z, .int .i64 room, .int .i64 limit] w (RNextP B w) := by
  obtain ⟨n, hn⟩ : ∃ n, ys.length = n := ⟨_, rfl⟩
  rw [hn] at hl
  have HN := Aside0.mk (And.intro hl ht)
  obtain ⟨A, c, rfl, _⟩ := h.at hn
  have HH := Aside0.mk h
  have HLN := Aside0.mk hn
  clear h hn
  go_enter Try.func25, Try.ntmps25
  go_wp2_with ((with_reducible refine gate_builtin (b := .append) (xs := #[.tmp 13, .tmp 15]) rfl ?_); at_builtin; refine Kd.R_append_rows (Kd.int .u8) (w0 := ((w.alloc (rbO t (.slice A n c) x y z)).alloc rb0).alloc (rcO 0 ⟨#[]⟩ false)) (((w.alloc (rbO t (.slice A n c) x y z)).alloc rb0).alloc (rcO 0 ⟨#[]⟩ false)).heap.size rfl (.tmp 13) (.tmp 15) 23 5 (.int .u8 0) 1 rfl Try.underlying23 info5g rfl (by decide) (by omega) (.slice none 0 0) ([] : List Int) ys A n c (fun _ => True) (fun _ => False) rfl rfl (Kd.R_nil _ _ _ _ _) ?aR (fun _ _ h => h) (fun _ h => h.elim) (fun _ _ => trivial) (Below.refl _ _) (Nat.le_refl _) (by simp; omega) ?_; (case aR => have := (Kd.R_reads' (HH.out.below (below_alloc (below_alloc (below_alloc (Below.refl w.heap.size w) (rbO t (.slice A n c) x y z)) rb0) (rcO 0 ⟨#[]⟩ false)))).2.2; rwa [HLN.out] at this); intro v w3 hov hbv _ _; have HOV := Aside0.mk hov; have HBV := Aside0.mk hbv; clear hov hbv; refine park ?_)
  obtain ⟨A4, c4, rfl⟩ := Kd.R_slice HOV.out
  have hs3 := rn_start (y := y) (z := z) (x := x) HH.out HBV.out HOV.out
  have hzl : ([] ++ ys).length = n := by rw [List.nil_append]; exact HLN.out
  rw [hzl] at hs3 ⊢
  generalize ([] ++ ys) = zs0 at *
  have HK0' := Aside0.mk hs3
  have HZ0 := Aside0.mk hzl
  obtain ⟨c0, c1, c2, c3, c4'⟩ := rb_cell hs3.b3
  clear hs3 hzl HOV
  refine ⟨?_⟩
  go_wp2_with (go_at_call 65; refine (RFirst_calls B t (.slice A n c) ys n x y z w3 (Kd.R_mono HK0'.out.old (fun _ _ => trivial)) HLN.out (by have := HN.out; omega)).mono ?_; rintro e w4 ⟨a, ha, rfl, hb⟩; have HK0 := Aside0.mk (HK0'.out.below hb); have HA := Aside0.mk ha; clear ha hb; refine park ?_)
  have ha := HA.out
  clear c0 c1 c2 c3 c4' HK0' HBV
  by_cases han : a < n
  · have han2 : (a : Int) < (n : Int) := by omega
    refine ⟨?_⟩
    go_wp2
    go_loopw [11] (fun tv wr => ∃ b : Nat, a ≤ b ∧ b ≤ n ∧ tv = .int .i64 (b : Int) ∧ Aside0 (∃ zs, zs.length = n ∧ RnW w.heap.size t A n c ys x y z B w (.slice A4 n c4) zs wr)) (fun tv _ => n - (intOf tv).toNat)
    case atStart => exact ⟨a, Nat.le_refl _, ha, rfl, ⟨zs0, HZ0.out, HK0.out⟩⟩
    case round =>
      obtain ⟨b, hab, hbn, rfl, HL⟩ := hrel
      obtain ⟨zs, hzl, hk⟩ := HL.out
      obtain ⟨c0, c1, c2, c3, c4'⟩ := rb_cell hk.b3
      obtain ⟨g0, g1, g2, g3, g4⟩ := rb_cell hk.b6
      obtain ⟨k0, k1, k2⟩ := rc_cell hk.b7
      have y0 := free_blk hk.b6 0
      have y1 := free_blk hk.b6 1
      have y2 := free_blk hk.b6 2
      have y3 := free_blk hk.b6 3
      have y4 := free_blk hk.b6 4
      have z0 := free_blk hk.b7 0
      have z1 := free_blk hk.b7 1
      have z2 := free_blk hk.b7 2
      have x1 := free_blk hk.b3 1
      have x3 := free_blk hk.b3 3
      have x4 := free_blk hk.b3 4
      have HK := Aside0.mk hk
      have HZL := Aside0.mk hzl
      obtain ⟨A5, c5, hA5, hat⟩ := hk.row.at hzl
      have hmt : n ≤ t.size := HN.out.1
      have hm2 : t.size ≤ 262144 := HN.out.2
      have HMT := Aside0.mk (show zs.length ≤ t.size by omega)
      have e4 : IntKind.i64.wrap ((b : Int) + 1) = (b : Int) + 1 := IntWalk.i64_in _ (by omega)
      have e5 : IntKind.i64.wrap ((b : Int) - (a : Int)) = (b : Int) - (a : Int) := IntWalk.i64_in _ (by omega)
      injection hA5 with hA5 _ hc5
      subst hA5
      clear hzl hk HL hc5
      by_cases hc : b < n ∧ ((∃ q, A4 = some ⟨q, 0, none⟩ ∧ wr.cell? ⟨q, b, none⟩ = some (.int .u8 2)) ∧ (b : Int) - (a : Int) < room)
      · obtain ⟨hlt, ⟨q, rfl, hv⟩, hrm⟩ := hc
        have hlt2 : (b : Int) < (n : Int) := by omega
        obtain ⟨q', hq, -, hz⟩ := hat b hlt
        obtain rfl : q = q' := by injection hq with hq; injection hq
        clear hat hq
        go_wp2
        obtain ⟨zs', hzl', hput⟩ := HK.out.put rfl b 0
        go_roundw
        case rel => first | exact ⟨b + 1, by omega, by omega, by simp, ⟨zs', by rw [hzl']; exact HZL.out, hput⟩⟩ | ((repeat apply Exists.intro); exact ⟨⟨b + 1, by omega, by omega, by simp, ⟨zs', by rw [hzl']; exact HZL.out, hput⟩⟩, rfl⟩)
        case measure => simp [intOf]; omega
      · have hex : (¬ (b : Int) < (n : Int)) ∨ ((b : Int) < (n : Int) ∧ ∃ q v, A4 = some ⟨q, 0, none⟩ ∧ wr.cell? ⟨q, b, none⟩ = some (.int .u8 v) ∧ (v == 2) = false) ∨ ((b : Int) < (n : Int) ∧ ∃ q, A4 = some ⟨q, 0, none⟩ ∧ wr.cell? ⟨q, b, none⟩ = some (.int .u8 2) ∧ ¬ (b : Int) - (a : Int) < room) := by
          by_cases hlt : b < n
          · obtain ⟨q, hq, ⟨v, hv⟩, -⟩ := hat b hlt
            by_cases h2 : v = 2
            · subst h2
              exact .inr (.inr ⟨by omega, q, hq, hv, fun h => hc ⟨hlt, ⟨q, hq, hv⟩, h⟩⟩)
            · exact .inr (.inl ⟨by omega, q, v, hq, hv, by simp [h2]⟩)
          · exact .inl (by omega)
        clear hc hat
        obtain ⟨d, hd⟩ : ∃ d, t.extract ((a : Int)).toNat ((b : Int)).toNat = d := ⟨_, rfl⟩
        have HD := Aside0.mk hd
        have hbd := Aside0.mk (show 0 ≤ (a : Int) ∧ (a : Int) ≤ (b : Int) ∧ (b : Int) ≤ (t.size : Int) from ⟨by omega, by omega, by omega⟩)
        clear hd
        by_cases hgt : a < b
        · have hgt2 : (a : Int) < (b : Int) := by omega
          cases x with
          | false =>
            rcases hex with e6 | ⟨e6, q, v, rfl, e7, e8⟩ | ⟨e6, q, rfl, e7, e8⟩
            all_goals try (exfalso; omega)
            all_goals
              go_wp2
              refine RNext_r17 w.heap.size B n _ _ t zs false y z (a : Int) d false (b : Int) w _ _ _ _ (by rfl) (by rfl) (by rfl) (by rfl) (by rfl) (by rfl) (by rfl) hbd.out HD.out (HK.out.take hB (a : Int) d false) ?_
              rintro σ W7 ⟨hj7, h11⟩
              have HJ7 := Aside0.mk hj7
              simp only [lazyA, lazyT, rn17_tab, List.zipWith_cons_cons, List.zipWith_nil_left, cond_true]
              rw [h11]
              clear h11 hj7
              go_wp2
              (try simp only [Exit.inBlock, Exit.then])
              have hfin := HJ7.out.fin_ HMT.out HN.out.2 hB true
              refine bodyPost_ret (results_cct rfl _ _ (w.heap.size + 1) (w.heap.size + 2) _ _ _ _ (0, 0) (0, 0) _ _ rfl hfin.1 Try.underlying40 rfl (by kernel_rfl) rfl hfin.2.1 Try.underlying46 rfl (by kernel_rfl)) rfl ?_
              exact hfin.2.2
          | true =>
            by_cases hbz : b = t.size
            · have hb1 : ((b : Int) == (t.size : Int)) = true := by rw [hbz]; exact beq_self_eq_true _
              have HBZ := Aside0.mk hbz
              clear hbz
              rcases hex with e6 | ⟨e6, q, v, rfl, e7, e8⟩ | ⟨e6, q, rfl, e7, e8⟩
              all_goals try (exfalso; omega)
              all_goals
                go_wp2_with (go_at_call 66; refine (RClean_calls z _).mono ?_; rintro e w6 ⟨rfl, hb⟩; have HJ6 := Aside0.mk ((HK.out.take hB (a : Int) d true).below hb); obtain ⟨r0, r1, r2, r3, r4⟩ := rb_cell HJ6.out.b3; have s3 := free_blk HJ6.out.b3 3; have s4 := free_blk HJ6.out.b3 4; clear hb)
                refine RNext_r17 w.heap.size B n _ _ t zs true true (cleanF z) (a : Int) d true (b : Int) w _ _ _ _ (by rfl) (by rfl) (by rfl) (by rfl) (by rfl) (by rfl) (by rfl) hbd.out HD.out (HJ6.out.mark (cleanF z)) ?_
                rintro σ W7 ⟨hj7, h11⟩
                have HJ7 := Aside0.mk hj7
                simp only [lazyA, lazyT, rn17_tab, List.zipWith_cons_cons, List.zipWith_nil_left, cond_true]
                rw [h11]
                clear h11 hj7
                go_wp2
                (try simp only [Exit.inBlock, Exit.then])
                have hfin := HJ7.out.fin_ HMT.out HN.out.2 hB true
                refine bodyPost_ret (results_cct rfl _ _ (w.heap.size + 1) (w.heap.size + 2) _ _ _ _ (0, 0) (0, 0) _ _ rfl hfin.1 Try.underlying40 rfl (by kernel_rfl) rfl hfin.2.1 Try.underlying46 rfl (by kernel_rfl)) rfl ?_
                exact hfin.2.2
            · have hb1 : ((b : Int) == (t.size : Int)) = false := beq_eq_false_iff_ne.2 (by omega)
              clear hbz
              rcases hex with e6 | ⟨e6, q, v, rfl, e7, e8⟩ | ⟨e6, q, rfl, e7, e8⟩
              all_goals try (exfalso; omega)
              all_goals
                go_wp2
                refine RNext_r17 w.heap.size B n _ _ t zs true y z (a : Int) d false (b : Int) w _ _ _ _ (by rfl) (by rfl) (by rfl) (by rfl) (by rfl) (by rfl) (by rfl) hbd.out HD.out (HK.out.take hB (a : Int) d false) ?_
                rintro σ W7 ⟨hj7, h11⟩
                have HJ7 := Aside0.mk hj7
                simp only [lazyA, lazyT, rn17_tab, List.zipWith_cons_cons, List.zipWith_nil_left, cond_true]
                rw [h11]
                clear h11 hj7
                go_wp2
                (try simp only [Exit.inBlock, Exit.then])
                have hfin := HJ7.out.fin_ HMT.out HN.out.2 hB true
                refine bodyPost_ret (results_cct rfl _ _ (w.heap.size + 1) (w.heap.size + 2) _ _ _ _ (0, 0) (0, 0) _ _ rfl hfin.1 Try.underlying40 rfl (by kernel_rfl) rfl hfin.2.1 Try.underlying46 rfl (by kernel_rfl)) rfl ?_
                exact hfin.2.2
        · have hgt2 : ¬ (a : Int) < (b : Int) := by omega
          cases x with
          | false =>
            rcases hex with e6 | ⟨e6, q, v, rfl, e7, e8⟩ | ⟨e6, q, rfl, e7, e8⟩
            all_goals try (exfalso; omega)
            all_goals
              go_wp2
              (try simp only [Exit.inBlock, Exit.then])
              have hfin := (HK.out.keep 0 ⟨#[]⟩ false).st6.st7.fin_ (by have := HLN.out; have := HN.out.1; omega) HN.out.2 hB false
              refine bodyPost_ret (results_cct rfl _ _ (w.heap.size + 1) (w.heap.size + 2) _ _ _ _ (0, 0) (0, 0) _ _ rfl hfin.1 Try.underlying40 rfl (by kernel_rfl) rfl hfin.2.1 Try.underlying46 rfl (by kernel_rfl)) rfl ?_
              exact hfin.2.2
          | true =>
            by_cases hn1 : n = t.size
            · have hn2 : ((n : Int) == (t.size : Int)) = true := by rw [hn1]; exact beq_self_eq_true _
              have HN1 := Aside0.mk hn1
              clear hn1
              by_cases ha1 : a = n
              · have ha2 : ((a : Int) == (n : Int)) = true := by rw [ha1]; exact beq_self_eq_true _
                have HA1 := Aside0.mk ha1
                clear ha1
                cases y with
                | false =>
                  rcases hex with e6 | ⟨e6, q, v, rfl, e7, e8⟩ | ⟨e6, q, rfl, e7, e8⟩
                  all_goals try (exfalso; omega)
                  all_goals
                    go_wp2
                    refine RNext_r20 w.heap.size B n c A t ys true true 0 (t.size : Int) ⟨#[]⟩ true w _ _ _ _ (by rfl) (by rfl) (by rfl) (by rfl) rfl rfl rfl ((HK.out.keep (t.size : Int) ⟨#[]⟩ true).mark 0) ?_
                    rintro σ W7 ⟨hj7, h11⟩
                    have HJ7 := Aside0.mk hj7
                    simp only [lazyA, lazyT, rn20_tab, List.zipWith_cons_cons, List.zipWith_nil_left, cond_true]
                    rw [h11]
                    clear h11 hj7
                    go_wp2
                    (try simp only [Exit.inBlock, Exit.then])
                    have hfin := HJ7.out.fin_ (by have := HLN.out; have := HN.out.1; omega) HN.out.2 hB true
                    refine bodyPost_ret (results_cct rfl _ _ (w.heap.size + 1) (w.heap.size + 2) _ _ _ _ (0, 0) (0, 0) _ _ rfl hfin.1 Try.underlying40 rfl (by kernel_rfl) rfl hfin.2.1 Try.underlying46 rfl (by kernel_rfl)) rfl ?_
                    exact hfin.2.2
                | true =>
                  by_cases hz2 : z = 2
                  · have hz3 : (z == 2) = true := by simp [hz2]
                    clear hz2
                    rcases hex with e6 | ⟨e6, q, v, rfl, e7, e8⟩ | ⟨e6, q, rfl, e7, e8⟩
                    all_goals try (exfalso; omega)
                    all_goals
                      go_wp2
                      refine RNext_r20 w.heap.size B n c A t ys true true 0 (t.size : Int) ⟨#[]⟩ true w _ _ _ _ (by rfl) (by rfl) (by rfl) (by rfl) rfl rfl rfl ((HK.out.keep (t.size : Int) ⟨#[]⟩ true).mark 0) ?_
                      rintro σ W7 ⟨hj7, h11⟩
                      have HJ7 := Aside0.mk hj7
                      simp only [lazyA, lazyT, rn20_tab, List.zipWith_cons_cons, List.zipWith_nil_left, cond_true]
                      rw [h11]
                      clear h11 hj7
                      go_wp2
                      (try simp only [Exit.inBlock, Exit.then])
                      have hfin := HJ7.out.fin_ (by have := HLN.out; have := HN.out.1; omega) HN.out.2 hB true
                      refine bodyPost_ret (results_cct rfl _ _ (w.heap.size + 1) (w.heap.size + 2) _ _ _ _ (0, 0) (0, 0) _ _ rfl hfin.1 Try.underlying40 rfl (by kernel_rfl) rfl hfin.2.1 Try.underlying46 rfl (by kernel_rfl)) rfl ?_
                      exact hfin.2.2
                  · have hz3 : (z == 2) = false := by simp [hz2]
                    clear hz2
                    rcases hex with e6 | ⟨e6, q, v, rfl, e7, e8⟩ | ⟨e6, q, rfl, e7, e8⟩
                    all_goals try (exfalso; omega)
                    all_goals
                      go_wp2
                      (try simp only [Exit.inBlock, Exit.then])
                      have hfin := (HK.out.keep 0 ⟨#[]⟩ false).st6.st7.fin_ (by have := HLN.out; have := HN.out.1; omega) HN.out.2 hB false
                      refine bodyPost_ret (results_cct rfl _ _ (w.heap.size + 1) (w.heap.size + 2) _ _ _ _ (0, 0) (0, 0) _ _ rfl hfin.1 Try.underlying40 rfl (by kernel_rfl) rfl hfin.2.1 Try.underlying46 rfl (by kernel_rfl)) rfl ?_
                      exact hfin.2.2
              · have ha2 : ((a : Int) == (n : Int)) = false := beq_eq_false_iff_ne.2 (by omega)
                clear ha1
                rcases hex with e6 | ⟨e6, q, v, rfl, e7, e8⟩ | ⟨e6, q, rfl, e7, e8⟩
                all_goals try (exfalso; omega)
                all_goals
                  go_wp2
                  (try simp only [Exit.inBlock, Exit.then])
                  have hfin := (HK.out.keep 0 ⟨#[]⟩ false).st6.st7.fin_ (by have := HLN.out; have := HN.out.1; omega) HN.out.2 hB false
                  refine bodyPost_ret (results_cct rfl _ _ (w.heap.size + 1) (w.heap.size + 2) _ _ _ _ (0, 0) (0, 0) _ _ rfl hfin.1 Try.underlying40 rfl (by kernel_rfl) rfl hfin.2.1 Try.underlying46 rfl (by kernel_rfl)) rfl ?_
                  exact hfin.2.2
            · have hn2 : ((n : Int) == (t.size : Int)) = false := beq_eq_false_iff_ne.2 (by omega)
              clear hn1
              rcases hex with e6 | ⟨e6, q, v, rfl, e7, e8⟩ | ⟨e6, q, rfl, e7, e8⟩
              all_goals try (exfalso; omega)
              all_goals
                go_wp2
                (try simp only [Exit.inBlock, Exit.then])
                have hfin := (HK.out.keep 0 ⟨#[]⟩ false).st6.st7.fin_ (by have := HLN.out; have := HN.out.1; omega) HN.out.2 hB false
                refine bodyPost_ret (results_cct rfl _ _ (w.heap.size + 1) (w.heap.size + 2) _ _ _ _ (0, 0) (0, 0) _ _ rfl hfin.1 Try.underlying40 rfl (by kernel_rfl) rfl hfin.2.1 Try.underlying46 rfl (by kernel_rfl)) rfl ?_
                exact hfin.2.2
  · have han2 : ¬ (a : Int) < (n : Int) := by omega
    refine ⟨?_⟩
    go_wp2
    have HAN := Aside0.mk (show a = n by omega)
    go_loopw [9, 11] (fun mv tv wr => ∃ (b : Nat) (A5 : Option Addr) (c5 : Nat), n ≤ b ∧ b ≤ t.size ∧ mv = .slice A5 b c5 ∧ tv = .int .i64 (b : Int) ∧ Aside0 (∃ zs, zs.length = b ∧ RnW w.heap.size t A n c ys x y z B w (.slice A5 b c5) zs wr)) (fun _ tv _ => t.size - (intOf tv).toNat)
    case atStart => exact ⟨n, A4, c4, Nat.le_refl _, HN.out.1, rfl, by rw [HAN.out], ⟨zs0, HZ0.out, HK0.out⟩⟩
    case round =>
      obtain ⟨b, A5, c5, hnb, hbt, rfl, rfl, HL⟩ := hrel
      obtain ⟨zs, hzl, hk⟩ := HL.out
      obtain ⟨c0, c1, c2, c3, c4'⟩ := rb_cell hk.b3
      obtain ⟨g0, g1, g2, g3, g4⟩ := rb_cell hk.b6
      obtain ⟨k0, k1, k2⟩ := rc_cell hk.b7
      have y0 := free_blk hk.b6 0
      have y1 := free_blk hk.b6 1
      have y2 := free_blk hk.b6 2
      have y3 := free_blk hk.b6 3
      have y4 := free_blk hk.b6 4
      have z0 := free_blk hk.b7 0
      have z1 := free_blk hk.b7 1
      have z2 := free_blk hk.b7 2
      have x1 := free_blk hk.b3 1
      have x3 := free_blk hk.b3 3
      have x4 := free_blk hk.b3 4
      have HK := Aside0.mk hk
      have HZL := Aside0.mk hzl
      have hmt : n ≤ t.size := HN.out.1
      have hm2 : t.size ≤ 262144 := HN.out.2
      have HMT := Aside0.mk (show zs.length ≤ t.size by omega)
      have hab : a ≤ b := by have := HAN.out; omega
      have e4 : IntKind.i64.wrap ((b : Int) + 1) = (b : Int) + 1 := IntWalk.i64_in _ (by omega)
      have e5 : IntKind.i64.wrap ((b : Int) - (a : Int)) = (b : Int) - (a : Int) := IntWalk.i64_in _ (by omega)
      clear hzl hk HL
      by_cases hc : b < t.size ∧ (b : Int) < limit ∧ (b : Int) - (a : Int) < room
      · obtain ⟨hlt, hlm, hrm⟩ := hc
        have hlt2 : (b : Int) < (t.size : Int) := by omega
        go_wp2_with ((with_reducible refine gate_builtin (b := .append) (xs := #[.tmp 64, .tmp 65]) rfl ?_); at_builtin; refine Kd.R_append (Kd.int .u8) (w0 := wr) (w.heap.size + 3) rfl (.tmp 64) (.tmp 65) 23 5 (.int .u8 0) 1 rfl Try.underlying23 info5g rfl (by decide) (by omega) (.slice A5 b c5) zs 0 [.int .u8 0] (fun _ => True) (fun _ => False) rfl rfl ?aP (fun _ hk => hk.elim) (fun _ _ => trivial) HK.out.row (Below.refl _ _) ?aS ?aL ?_; (case aP => exact rfl); (case aS => have := lt_of_block HK.out.b7; omega); (case aL => have := HZL.out; omega); intro v w5 ho hb _ _; have HO5 := Aside0.mk ho; have HK5 := Aside0.mk (HK.out.more ho hb); clear ho hb; refine park ?_)
        obtain ⟨A6, c6, rfl⟩ := Kd.R_slice HO5.out
        have hzl6 : (zs ++ [0]).length = b + 1 := by rw [List.length_append, HZL.out]; rfl
        rw [hzl6] at HK5 ⊢
        have HZ6 := Aside0.mk hzl6
        clear hzl6 HO5
        refine ⟨?_⟩
        go_wp2
        go_roundw
        case rel => first | exact ⟨b + 1, A6, c6, by omega, by omega, rfl, by simp, ⟨_, HZ6.out, HK5.out⟩⟩ | ((repeat apply Exists.intro); exact ⟨⟨b + 1, A6, c6, by omega, by omega, rfl, rfl, ⟨_, HZ6.out, HK5.out⟩⟩, rfl⟩)
        case measure => simp [intOf]; omega
      · have hex : (¬ (b : Int) < (t.size : Int)) ∨ ((b : Int) < (t.size : Int) ∧ ¬ (b : Int) < limit) ∨ ((b : Int) < (t.size : Int) ∧ (b : Int) < limit ∧ ¬ (b : Int) - (a : Int) < room) := by
          by_cases h1 : b < t.size
          · by_cases h2 : (b : Int) < limit
            · exact .inr (.inr ⟨by omega, h2, fun h => hc ⟨h1, h2, h⟩⟩)
            · exact .inr (.inl ⟨by omega, h2⟩)
          · exact .inl (by omega)
        clear hc
        obtain ⟨d, hd⟩ : ∃ d, t.extract ((a : Int)).toNat ((b : Int)).toNat = d := ⟨_, rfl⟩
        have HD := Aside0.mk hd
        have hbd := Aside0.mk (show 0 ≤ (a : Int) ∧ (a : Int) ≤ (b : Int) ∧ (b : Int) ≤ (t.size : Int) from ⟨by omega, by omega, by omega⟩)
        clear hd
        by_cases hgt : a < b
        · have hgt2 : (a : Int) < (b : Int) := by omega
          cases x with
          | false =>
            rcases hex with e6 | ⟨e6, e7⟩ | ⟨e6, e7, e8⟩
            all_goals try (exfalso; omega)
            all_goals
              go_wp2
              refine RNext_r17 w.heap.size B b _ _ t zs false y z (a : Int) d false (b : Int) w _ _ _ _ (by rfl) (by rfl) (by rfl) (by rfl) (by rfl) (by rfl) (by rfl) hbd.out HD.out (HK.out.take hB (a : Int) d false) ?_
              rintro σ W7 ⟨hj7, h11⟩
              have HJ7 := Aside0.mk hj7
              simp only [lazyA, lazyT, rn17_tab, List.zipWith_cons_cons, List.zipWith_nil_left, cond_true]
              rw [h11]
              clear h11 hj7
              go_wp2
              (try simp only [Exit.inBlock, Exit.then])
              have hfin := HJ7.out.fin_ HMT.out HN.out.2 hB true
              refine bodyPost_ret (results_cct rfl _ _ (w.heap.size + 1) (w.heap.size + 2) _ _ _ _ (0, 0) (0, 0) _ _ rfl hfin.1 Try.underlying40 rfl (by kernel_rfl) rfl hfin.2.1 Try.underlying46 rfl (by kernel_rfl)) rfl ?_
              exact hfin.2.2
          | true =>
            by_cases hbz : b = t.size
            · have hb1 : ((b : Int) == (t.size : Int)) = true := by rw [hbz]; exact beq_self_eq_true _
              have HBZ := Aside0.mk hbz
              clear hbz
              rcases hex with e6 | ⟨e6, e7⟩ | ⟨e6, e7, e8⟩
              all_goals try (exfalso; omega)
              all_goals
                go_wp2_with (go_at_call 66; refine (RClean_calls z _).mono ?_; rintro e w6 ⟨rfl, hb⟩; have HJ6 := Aside0.mk ((HK.out.take hB (a : Int) d true).below hb); obtain ⟨r0, r1, r2, r3, r4⟩ := rb_cell HJ6.out.b3; have s3 := free_blk HJ6.out.b3 3; have s4 := free_blk HJ6.out.b3 4; clear hb)
                refine RNext_r17 w.heap.size B b _ _ t zs true true (cleanF z) (a : Int) d true (b : Int) w _ _ _ _ (by rfl) (by rfl) (by rfl) (by rfl) (by rfl) (by rfl) (by rfl) hbd.out HD.out (HJ6.out.mark (cleanF z)) ?_
                rintro σ W7 ⟨hj7, h11⟩
                have HJ7 := Aside0.mk hj7
                simp only [lazyA, lazyT, rn17_tab, List.zipWith_cons_cons, List.zipWith_nil_left, cond_true]
                rw [h11]
                clear h11 hj7
                go_wp2
                (try simp only [Exit.inBlock, Exit.then])
                have hfin := HJ7.out.fin_ HMT.out HN.out.2 hB true
                refine bodyPost_ret (results_cct rfl _ _ (w.heap.size + 1) (w.heap.size + 2) _ _ _ _ (0, 0) (0, 0) _ _ rfl hfin.1 Try.underlying40 rfl (by kernel_rfl) rfl hfin.2.1 Try.underlying46 rfl (by kernel_rfl)) rfl ?_
                exact hfin.2.2
            · have hb1 : ((b : Int) == (t.size : Int)) = false := beq_eq_false_iff_ne.2 (by omega)
              clear hbz
              rcases hex with e6 | ⟨e6, e7⟩ | ⟨e6, e7, e8⟩
              all_goals try (exfalso; omega)
              all_goals
                go_wp2
                refine RNext_r17 w.heap.size B b _ _ t zs true y z (a : Int) d false (b : Int) w _ _ _ _ (by rfl) (by rfl) (by rfl) (by rfl) (by rfl) (by rfl) (by rfl) hbd.out HD.out (HK.out.take hB (a : Int) d false) ?_
                rintro σ W7 ⟨hj7, h11⟩
                have HJ7 := Aside0.mk hj7
                simp only [lazyA, lazyT, rn17_tab, List.zipWith_cons_cons, List.zipWith_nil_left, cond_true]
                rw [h11]
                clear h11 hj7
                go_wp2
                (try simp only [Exit.inBlock, Exit.then])
                have hfin := HJ7.out.fin_ HMT.out HN.out.2 hB true
                refine bodyPost_ret (results_cct rfl _ _ (w.heap.size + 1) (w.heap.size + 2) _ _ _ _ (0, 0) (0, 0) _ _ rfl hfin.1 Try.underlying40 rfl (by kernel_rfl) rfl hfin.2.1 Try.underlying46 rfl (by kernel_rfl)) rfl ?_
                exact hfin.2.2
        · have hgt2 : ¬ (a : Int) < (b : Int) := by omega
          cases x with
          | false =>
            rcases hex with e6 | ⟨e6, e7⟩ | ⟨e6, e7, e8⟩
            all_goals try (exfalso; omega)
            all_goals
              go_wp2
              (try simp only [Exit.inBlock, Exit.then])
              have hfin := (HK.out.keep 0 ⟨#[]⟩ false).st6.st7.fin_ (by have := HLN.out; have := HN.out.1; omega) HN.out.2 hB false
              refine bodyPost_ret (results_cct rfl _ _ (w.heap.size + 1) (w.heap.size + 2) _ _ _ _ (0, 0) (0, 0) _ _ rfl hfin.1 Try.underlying40 rfl (by kernel_rfl) rfl hfin.2.1 Try.underlying46 rfl (by kernel_rfl)) rfl ?_
              exact hfin.2.2
          | true =>
            by_cases hn1 : n = t.size
            · have hn2 : ((n : Int) == (t.size : Int)) = true := by rw [hn1]; exact beq_self_eq_true _
              have HN1 := Aside0.mk hn1
              clear hn1
              by_cases ha1 : a = n
              · have ha2 : ((a : Int) == (n : Int)) = true := by rw [ha1]; exact beq_self_eq_true _
                have HA1 := Aside0.mk ha1
                clear ha1
                cases y with
                | false =>
                  rcases hex with e6 | ⟨e6, e7⟩ | ⟨e6, e7, e8⟩
                  all_goals try (exfalso; omega)
                  all_goals
                    go_wp2
                    refine RNext_r20 w.heap.size B n c A t ys true true 0 (t.size : Int) ⟨#[]⟩ true w _ _ _ _ (by rfl) (by rfl) (by rfl) (by rfl) rfl rfl rfl ((HK.out.keep (t.size : Int) ⟨#[]⟩ true).mark 0) ?_
                    rintro σ W7 ⟨hj7, h11⟩
                    have HJ7 := Aside0.mk hj7
                    simp only [lazyA, lazyT, rn20_tab, List.zipWith_cons_cons, List.zipWith_nil_left, cond_true]
                    rw [h11]
                    clear h11 hj7
                    go_wp2
                    (try simp only [Exit.inBlock, Exit.then])
                    have hfin := HJ7.out.fin_ (by have := HLN.out; have := HN.out.1; omega) HN.out.2 hB true
                    refine bodyPost_ret (results_cct rfl _ _ (w.heap.size + 1) (w.heap.size + 2) _ _ _ _ (0, 0) (0, 0) _ _ rfl hfin.1 Try.underlying40 rfl (by kernel_rfl) rfl hfin.2.1 Try.underlying46 rfl (by kernel_rfl)) rfl ?_
                    exact hfin.2.2
                | true =>
                  by_cases hz2 : z = 2
                  · have hz3 : (z == 2) = true := by simp [hz2]
                    clear hz2
                    rcases hex with e6 | ⟨e6, e7⟩ | ⟨e6, e7, e8⟩
                    all_goals try (exfalso; omega)
                    all_goals
                      go_wp2
                      refine RNext_r20 w.heap.size B n c A t ys true true 0 (t.size : Int) ⟨#[]⟩ true w _ _ _ _ (by rfl) (by rfl) (by rfl) (by rfl) rfl rfl rfl ((HK.out.keep (t.size : Int) ⟨#[]⟩ true).mark 0) ?_
                      rintro σ W7 ⟨hj7, h11⟩
                      have HJ7 := Aside0.mk hj7
                      simp only [lazyA, lazyT, rn20_tab, List.zipWith_cons_cons, List.zipWith_nil_left, cond_true]
                      rw [h11]
                      clear h11 hj7
                      go_wp2
                      (try simp only [Exit.inBlock, Exit.then])
                      have hfin := HJ7.out.fin_ (by have := HLN.out; have := HN.out.1; omega) HN.out.2 hB true
                      refine bodyPost_ret (results_cct rfl _ _ (w.heap.size + 1) (w.heap.size + 2) _ _ _ _ (0, 0) (0, 0) _ _ rfl hfin.1 Try.underlying40 rfl (by kernel_rfl) rfl hfin.2.1 Try.underlying46 rfl (by kernel_rfl)) rfl ?_
                      exact hfin.2.2
                  · have hz3 : (z == 2) = false := by simp [hz2]
                    clear hz2
                    rcases hex with e6 | ⟨e6, e7⟩ | ⟨e6, e7, e8⟩
                    all_goals try (exfalso; omega)
                    all_goals
                      go_wp2
                      (try simp only [Exit.inBlock, Exit.then])
                      have hfin := (HK.out.keep 0 ⟨#[]⟩ false).st6.st7.fin_ (by have := HLN.out; have := HN.out.1; omega) HN.out.2 hB false
                      refine bodyPost_ret (results_cct rfl _ _ (w.heap.size + 1) (w.heap.size + 2) _ _ _ _ (0, 0) (0, 0) _ _ rfl hfin.1 Try.underlying40 rfl (by kernel_rfl) rfl hfin.2.1 Try.underlying46 rfl (by kernel_rfl)) rfl ?_
                      exact hfin.2.2
              · have ha2 : ((a : Int) == (n : Int)) = false := beq_eq_false_iff_ne.2 (by omega)
                clear ha1
                rcases hex with e6 | ⟨e6, e7⟩ | ⟨e6, e7, e8⟩
                all_goals try (exfalso; omega)
                all_goals
                  go_wp2
                  (try simp only [Exit.inBlock, Exit.then])
                  have hfin := (HK.out.keep 0 ⟨#[]⟩ false).st6.st7.fin_ (by have := HLN.out; have := HN.out.1; omega) HN.out.2 hB false
                  refine bodyPost_ret (results_cct rfl _ _ (w.heap.size + 1) (w.heap.size + 2) _ _ _ _ (0, 0) (0, 0) _ _ rfl hfin.1 Try.underlying40 rfl (by kernel_rfl) rfl hfin.2.1 Try.underlying46 rfl (by kernel_rfl)) rfl ?_
                  exact hfin.2.2
            · have hn2 : ((n : Int) == (t.size : Int)) = false := beq_eq_false_iff_ne.2 (by omega)
              clear hn1
              rcases hex with e6 | ⟨e6, e7⟩ | ⟨e6, e7, e8⟩
              all_goals try (exfalso; omega)
              all_goals
                go_wp2
                (try simp only [Exit.inBlock, Exit.then])
                have hfin := (HK.out.keep 0 ⟨#[]⟩ false).st6.st7.fin_ (by have := HLN.out; have := HN.out.1; omega) HN.out.2 hB false
                refine bodyPost_ret (results_cct rfl _ _ (w.heap.size + 1) (w.heap.size + 2) _ _ _ _ (0, 0) (0, 0) _ _ rfl hfin.1 Try.underlying40 rfl (by kernel_rfl) rfl hfin.2.1 Try.underlying46 rfl (by kernel_rfl)) rfl ?_
                exact hfin.2.2
end Go.Proofs.Ytiladcdogbeomaa.QRangesPlays
