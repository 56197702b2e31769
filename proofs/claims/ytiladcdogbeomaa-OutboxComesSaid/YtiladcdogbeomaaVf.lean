/- Law 24 (outbox): contracts of functions that its statements reach, and plain laws behind them (part 6). No condition. -/
import Derived.Test.YtiladcdogbeomaaVe
import Derived.Test.YtiladcdogbeomaaVd
namespace Go.Proofs.Ytiladcdogbeomaa.QRangesPlays
open Go.RowKit Go.Shelf Go.Proofs.YtiladcdogbeomaaW.PrintWords Go.Proofs.YtiladcdogbeomaaW.PrintLast Go.Proofs.YtiladcdogbeomaaW.PrintMore Go.Proofs.Ytiladcdogbeomaa.RowLaws Go.Proofs.Ytiladcdogbeomaa.Lazy
open Go.Maps
attribute [local go_sem] Oper.semAt_some
theorem zero5 (w : World) : (zeroValue 5).run Try.prog w = .ok (.int .u8 0) w := by kernel_rfl
theorem wfT {T : Int} (h : 0 ≤ T ∧ T ≤ 1099511627776) : (Lit.int .i64 T).wf = true := by
  simp [Lit.wf, IntKind.min, IntKind.max, IntKind.signed, IntKind.bits]; omega
theorem kept_grown {W W' : World} {m : Nat} (h : W.grownBy W' (some m)) : Kept W W' (fun k => k = m) := ⟨h.size, fun k hk hn => h.block k hk (by intro e; injection e with e; exact hn e)⟩
theorem bld_below {B b : Nat} {bs : List Value} {W W' : World} (h : Lib.IsBuilder 106 5 B b bs W) (hb : Below W.heap.size W W') : Lib.IsBuilder 106 5 B b bs W' := by
  have key : ∀ p, Lib.BuilderAt 106 5 B b p bs W → Lib.BuilderAt 106 5 B b p bs W' := by
    rintro p ⟨h1, v, h2, h3, h4⟩
    exact ⟨h1, v, (hb.block b (lt_of_block h2)).trans h2, own_move h3 (fun k hk => hb.block k (World.ownsRow.lt h3 k hk).2), h4⟩
  rcases h with h | h
  · exact .inl (key _ h)
  · exact .inr (key _ h)
theorem below_low {B : Nat} {w W W2 : World} (hB : Below w.heap.size w W) (h2 : Below B W W2) (hBw : B ≤ w.heap.size) : Below B w W2 := (hB.mono hBw).trans h2
abbrev gr5_ops : List Oper := [{ dst := some 14, op := .move (.tmp 0), type := 25, pos := "gather.go:101", after := #[], guard := none },
  { dst := some 15, op := .nilCheck (.tmp 14), type := 0, pos := "gather.go:101", after := #[⟨0, .data⟩], guard := none },
  { dst := some 16, op := .fieldAddr 102 (.tmp 15) 0, type := 0, pos := "gather.go:101", after := #[⟨1, .data⟩], guard := none },
  { dst := some 17, op := .load 100 (.tmp 16), type := 100, pos := "gather.go:101", after := #[⟨2, .data⟩], guard := none },
  { dst := some 18, op := .move (.tmp 0), type := 25, pos := "gather.go:101", after := #[], guard := none },
  { dst := some 19, op := .nilCheck (.tmp 18), type := 0, pos := "gather.go:101", after := #[⟨4, .data⟩], guard := none },
  { dst := some 20, op := .fieldAddr 102 (.tmp 19) 2, type := 0, pos := "gather.go:101", after := #[⟨5, .data⟩], guard := none },
  { dst := some 21, op := .load 3 (.tmp 20), type := 3, pos := "gather.go:101", after := #[⟨6, .data⟩], guard := none },
  { dst := some 22, op := .lookup 100 (.tmp 17) (.tmp 21) false, type := 5, pos := "gather.go:101", after := #[⟨3, .data⟩, ⟨7, .data⟩], guard := none },
  { dst := some 23, op := .call { callee := .value (.func 59), args := #[.tmp 6, .tmp 22], argTypes := #[106, 5] }, type := 108, pos := "gather.go:101", after := #[⟨8, .data⟩], guard := none }]
abbrev gr5_tab : List (Option Nat) := [none, none, none, none, none, none, none, none, none, none, none, none, none, none, some 0, some 1, some 2, some 3, some 4, some 5, some 6, some 7, some 8, some 9, none, none, none, none, none, none, none, none, none, none, none, none, none, none, none, none, none, none, none, none, none, none, none, none, none, none, none, none, none, none, none, none]

def gr5_val (g gm gs n B X : Nat) (l : List S95) (T H F c : Int) (D : DM) (p0 v0 : Value) (bs : List Value) : Nat → Value → World → Prop := fun j v W => match j with
  | 0 => v = .pointer (some ⟨g, 0, none⟩)
  | 1 => v = .pointer (some ⟨g, 0, none⟩)
  | 2 => v = .pointer (some ⟨g, 0, none⟩)
  | 3 => v = .map (some gm)
  | 4 => v = .pointer (some ⟨g, 0, none⟩)
  | 5 => v = .pointer (some ⟨g, 0, none⟩)
  | 6 => v = .pointer (some ⟨g, 2, none⟩)
  | 7 => v = .int .i64 T
  | 8 => v = .int .u8 c
  | 9 => v = .nilIface
  | _ => True

set_option maxRecDepth 100000 in
set_option maxHeartbeats 4000000 in
theorem Read_r5 (g gm gs n B X : Nat) (l : List S95) (T H F c : Int) (D : DM) (p0 v0 : Value) (bs : List Value) (t0 : List Value) (d0 : List Deferred) (w : World) (Q : Exit → Act → World → Prop) (hl : t0.length = gr5_tab.length)
    (t0_ : t0[0]? = some (.pointer (some ⟨g, 0, none⟩))) (t6 : t0[6]? = some (.pointer (some ⟨X, 0, none⟩))) (h : BufAt w g gm gs n l T H F D) (hTb : 0 ≤ T ∧ T ≤ 1099511627776)
    (hc : D.atKey (kn T) (.lit (.int .u8 0)) = .lit (.int .u8 c)) (hb : Lib.IsBuilder 106 5 B X bs w) (hv0 : w.heap[X]? = some (.cells #[p0, v0] 106 (0, 0))) (hlen : bs.length + 1 ≤ 140737488355328) (hBw : B ≤ w.heap.size)
    (hQ : ∀ σ W, (Lib.BuilderAt 106 5 B X (.pointer (some ⟨X, 0, none⟩)) (bs ++ [.int .u8 c]) W ∧ Kept w W (fun k => k = X ∨ some k = v0.ownBlock) ∧ Below B w W) → Q .normal (lazyA (fun _ => true) σ t0 gr5_tab d0) W) :
    (Code.region 5 gr5_ops.toArray true).wp Try.prog Q { tmps := t0.toArray, defers := d0 } w := by
  refine wp_region_valsO (by kernel_rfl) gr5_tab (by kernel_rfl) hl (fun i => [].contains i) (fun i W W' => True) (fun L W => (L 9 = false → Below w.heap.size w W) ∧ (L 9 = true → (Lib.BuilderAt 106 5 B X (.pointer (some ⟨X, 0, none⟩)) (bs ++ [.int .u8 c]) W ∧ Kept w W (fun k => k = X ∨ some k = v0.ownBlock) ∧ Below B w W))) (gr5_val g gm gs n B X l T H F c D p0 v0 bs) (⟨fun _ => below_drew (Below.refl _ _), fun e => by cases e⟩) ?hst ⟨⟨(fun j b h => by cases h), fun _ => rfl⟩, ⟨(fun j b h => by cases h), fun _ => rfl⟩, ⟨(fun j b h => by cases h), fun _ => rfl⟩, ⟨(fun j b h => by cases h), fun _ => rfl⟩, ⟨(fun j b h => by cases h), fun _ => rfl⟩, ⟨(fun j b h => by cases h), fun _ => rfl⟩, ⟨(fun j b h => by cases h), fun _ => rfl⟩, ⟨(fun j b h => by cases h), fun _ => rfl⟩, ⟨(fun j b h => by cases h), fun _ => rfl⟩, ⟨(fun j b h => by cases h), fun _ => rfl⟩, trivial⟩ ⟨?s0, ?s1, ?s2, ?s3, ?s4, ?s5, ?s6, ?s7, ?s8, ?s9, trivial⟩ ?hskip ?hdone
  case hst =>
    intro L i j v W W' hLi hLj hne hcl hR h
    match j with
    | 0 => exact h
    | 1 => exact h
    | 2 => exact h
    | 3 => exact h
    | 4 => exact h
    | 5 => exact h
    | 6 => exact h
    | 7 => exact h
    | 8 => exact h
    | 9 => exact h
    | n + 10 => trivial

  case s0 =>
    intro _ L ρ W hLi hcl hold hJ hT
    have q0 := hT.2.1 0 _ t0_ rfl
    have nk : L 9 = false := Bool.eq_false_iff.2 fun e => by have a8 := hcl 9 8 (by rfl) e; have a3 := hcl 8 3 (by rfl) a8; have a2 := hcl 3 2 (by rfl) a3; have a1 := hcl 2 1 (by rfl) a2; have a0 := hcl 1 0 (by rfl) a1; rw [a0] at hLi; cases hLi
    have hB := hJ.1 nk
    refine Op1.of_run (v := .pointer (some ⟨g, 0, none⟩)) (W' := W) (by clear hT hJ hcl hold; go_simp) ⟨trivial, ⟨fun _ => hB, fun e => by rw [upd_ne (by decide), nk] at e; cases e⟩, rfl⟩

  case s1 =>
    intro _ L ρ W hLi hcl hold hJ hT
    have q14 : ρ (.tmp 14) = .pointer (some ⟨g, 0, none⟩) := hT.1 14 0 rfl rfl
    have nk : L 9 = false := Bool.eq_false_iff.2 fun e => by have a8 := hcl 9 8 (by rfl) e; have a3 := hcl 8 3 (by rfl) a8; have a2 := hcl 3 2 (by rfl) a3; have a1 := hcl 2 1 (by rfl) a2; rw [a1] at hLi; cases hLi
    have hB := hJ.1 nk
    refine Op1.of_run (v := .pointer (some ⟨g, 0, none⟩)) (W' := W) (by clear hT hJ hcl hold; go_simp) ⟨trivial, ⟨fun _ => hB, fun e => by rw [upd_ne (by decide), nk] at e; cases e⟩, rfl⟩

  case s2 =>
    intro _ L ρ W hLi hcl hold hJ hT
    have q15 : ρ (.tmp 15) = .pointer (some ⟨g, 0, none⟩) := hT.1 15 1 rfl rfl
    have nk : L 9 = false := Bool.eq_false_iff.2 fun e => by have a8 := hcl 9 8 (by rfl) e; have a3 := hcl 8 3 (by rfl) a8; have a2 := hcl 3 2 (by rfl) a3; rw [a2] at hLi; cases hLi
    have hB := hJ.1 nk
    refine Op1.of_run (v := .pointer (some ⟨g, 0, none⟩)) (W' := W) (by clear hT hJ hcl hold; go_simp) ⟨trivial, ⟨fun _ => hB, fun e => by rw [upd_ne (by decide), nk] at e; cases e⟩, rfl⟩

  case s3 =>
    intro _ L ρ W hLi hcl hold hJ hT
    have q16 : ρ (.tmp 16) = .pointer (some ⟨g, 0, none⟩) := hT.1 16 2 rfl rfl
    have nk : L 9 = false := Bool.eq_false_iff.2 fun e => by have a8 := hcl 9 8 (by rfl) e; have a3 := hcl 8 3 (by rfl) a8; rw [a3] at hLi; cases hLi
    have hB := hJ.1 nk
    have cc := (hB.cell (World.block_lt_of_cell? _ _ (h.cells.1))).trans (h.cells.1)
    refine Op1.of_run (v := .map (some gm)) (W' := W) (by clear hT hJ hcl hold; go_simp) ⟨trivial, ⟨fun _ => hB, fun e => by rw [upd_ne (by decide), nk] at e; cases e⟩, rfl⟩

  case s4 =>
    intro _ L ρ W hLi hcl hold hJ hT
    have q0 := hT.2.1 0 _ t0_ rfl
    have nk : L 9 = false := Bool.eq_false_iff.2 fun e => by have a8 := hcl 9 8 (by rfl) e; have a7 := hcl 8 7 (by rfl) a8; have a6 := hcl 7 6 (by rfl) a7; have a5 := hcl 6 5 (by rfl) a6; have a4 := hcl 5 4 (by rfl) a5; rw [a4] at hLi; cases hLi
    have hB := hJ.1 nk
    refine Op1.of_run (v := .pointer (some ⟨g, 0, none⟩)) (W' := W) (by clear hT hJ hcl hold; go_simp) ⟨trivial, ⟨fun _ => hB, fun e => by rw [upd_ne (by decide), nk] at e; cases e⟩, rfl⟩

  case s5 =>
    intro _ L ρ W hLi hcl hold hJ hT
    have q18 : ρ (.tmp 18) = .pointer (some ⟨g, 0, none⟩) := hT.1 18 4 rfl rfl
    have nk : L 9 = false := Bool.eq_false_iff.2 fun e => by have a8 := hcl 9 8 (by rfl) e; have a7 := hcl 8 7 (by rfl) a8; have a6 := hcl 7 6 (by rfl) a7; have a5 := hcl 6 5 (by rfl) a6; rw [a5] at hLi; cases hLi
    have hB := hJ.1 nk
    refine Op1.of_run (v := .pointer (some ⟨g, 0, none⟩)) (W' := W) (by clear hT hJ hcl hold; go_simp) ⟨trivial, ⟨fun _ => hB, fun e => by rw [upd_ne (by decide), nk] at e; cases e⟩, rfl⟩

  case s6 =>
    intro _ L ρ W hLi hcl hold hJ hT
    have q19 : ρ (.tmp 19) = .pointer (some ⟨g, 0, none⟩) := hT.1 19 5 rfl rfl
    have nk : L 9 = false := Bool.eq_false_iff.2 fun e => by have a8 := hcl 9 8 (by rfl) e; have a7 := hcl 8 7 (by rfl) a8; have a6 := hcl 7 6 (by rfl) a7; rw [a6] at hLi; cases hLi
    have hB := hJ.1 nk
    refine Op1.of_run (v := .pointer (some ⟨g, 2, none⟩)) (W' := W) (by clear hT hJ hcl hold; go_simp) ⟨trivial, ⟨fun _ => hB, fun e => by rw [upd_ne (by decide), nk] at e; cases e⟩, rfl⟩

  case s7 =>
    intro _ L ρ W hLi hcl hold hJ hT
    have q20 : ρ (.tmp 20) = .pointer (some ⟨g, 2, none⟩) := hT.1 20 6 rfl rfl
    have nk : L 9 = false := Bool.eq_false_iff.2 fun e => by have a8 := hcl 9 8 (by rfl) e; have a7 := hcl 8 7 (by rfl) a8; rw [a7] at hLi; cases hLi
    have hB := hJ.1 nk
    have cc := (hB.cell (World.block_lt_of_cell? _ _ (h.cells.2.2.1))).trans (h.cells.2.2.1)
    refine Op1.of_run (v := .int .i64 T) (W' := W) (by clear hT hJ hcl hold; go_simp) ⟨trivial, ⟨fun _ => hB, fun e => by rw [upd_ne (by decide), nk] at e; cases e⟩, rfl⟩

  case s8 =>
    intro _ L ρ W hLi hcl hold hJ hT
    have q17 : ρ (.tmp 17) = .map (some gm) := hT.1 17 3 rfl rfl
    have q21 : ρ (.tmp 21) = .int .i64 T := hT.1 21 7 rfl rfl
    have nk : L 9 = false := Bool.eq_false_iff.2 fun e => by have a8 := hcl 9 8 (by rfl) e; rw [a8] at hLi; cases hLi
    have hB := hJ.1 nk
    obtain ⟨c2, hrun, hat, _⟩ := World.ownsMap.lookup_int (h.below hB).mp km Try.underlying100 Try.underlying5 (zero5 W) (keyOf_int_mk Try.underlying3 (wfT hTb))
    have e2 : c2 = c := by have e := hc.symm.trans hat; injection e with e; injection e with _ e; exact e.symm
    subst e2
    refine Op1.of_run (v := .int .u8 c2) (W' := W) (by clear hT hJ hcl hold; go_simp) ⟨trivial, ⟨fun _ => hB, fun e => by rw [upd_ne (by decide), nk] at e; cases e⟩, rfl⟩

  case s9 =>
    intro _ L ρ W hLi hcl hold hJ hT
    have q6 := hT.2.1 6 _ t6 rfl
    have q22 : ρ (.tmp 22) = .int .u8 c := hT.1 22 8 rfl rfl
    have hB := hJ.1 hLi
    have qf := hT.2.2.2 59
    refine Op1.of_call (f := 59) (args := #[.pointer (some ⟨X, 0, none⟩), .int .u8 c]) (W' := W) (by clear hT hJ hcl hold; go_simp) ?_
    have hX := lt_of_block hv0
    have hv1 := (hB.block X hX).trans hv0
    refine (Bld_Write B X bs c p0 v0 W (bld_below hb hB) hv1 hlen (Nat.le_trans hBw hB.size)).mono ?_
    rintro e W2 ⟨rfl, ⟨h1, h2⟩, h3⟩
    exact ⟨_, rfl, trivial, ⟨(fun e => by rw [upd_self] at e; cases e), fun _ => ⟨h1, (Kept.of_below hB _).then_ h3 (fun _ hk => .inl hk), below_low hB h2 hBw⟩⟩, rfl⟩

  case hskip => intro i hi; simp at hi

  case hdone =>
    intro σ L W hL hJ hV
    exact hQ σ W (hJ.2 (hL 9 (by decide)))
abbrev gr6_ops : List Oper := [{ dst := some 24, op := .move (.tmp 0), type := 25, pos := "gather.go:102", after := #[], guard := none },
  { dst := some 25, op := .nilCheck (.tmp 24), type := 0, pos := "gather.go:102", after := #[⟨0, .data⟩], guard := none },
  { dst := some 26, op := .fieldAddr 102 (.tmp 25) 0, type := 0, pos := "gather.go:102", after := #[⟨1, .data⟩], guard := none },
  { dst := some 27, op := .load 100 (.tmp 26), type := 100, pos := "gather.go:102", after := #[⟨2, .data⟩], guard := none },
  { dst := some 28, op := .move (.tmp 0), type := 25, pos := "gather.go:102", after := #[], guard := none },
  { dst := some 29, op := .nilCheck (.tmp 28), type := 0, pos := "gather.go:102", after := #[⟨4, .data⟩], guard := none },
  { dst := some 30, op := .fieldAddr 102 (.tmp 29) 2, type := 0, pos := "gather.go:102", after := #[⟨5, .data⟩], guard := none },
  { dst := some 31, op := .load 3 (.tmp 30), type := 3, pos := "gather.go:102", after := #[⟨6, .data⟩], guard := none },
  { dst := none, op := .call { callee := .builtin .delete, args := #[.tmp 27, .tmp 31], argTypes := #[100, 3] }, type := 0, pos := "gather.go:102", after := #[⟨3, .data⟩, ⟨7, .data⟩], guard := none }]
abbrev gr6_tab : List (Option Nat) := [none, none, none, none, none, none, none, none, none, none, none, none, none, none, none, none, none, none, none, none, none, none, none, none, some 0, some 1, some 2, some 3, some 4, some 5, some 6, some 7, none, none, none, none, none, none, none, none, none, none, none, none, none, none, none, none, none, none, none, none, none, none, none, none]

def gr6_val (g gm gs n : Nat) (l : List S95) (T H F : Int) (D : DM) : Nat → Value → World → Prop := fun j v W => match j with
  | 0 => v = .pointer (some ⟨g, 0, none⟩)
  | 1 => v = .pointer (some ⟨g, 0, none⟩)
  | 2 => v = .pointer (some ⟨g, 0, none⟩)
  | 3 => v = .map (some gm)
  | 4 => v = .pointer (some ⟨g, 0, none⟩)
  | 5 => v = .pointer (some ⟨g, 0, none⟩)
  | 6 => v = .pointer (some ⟨g, 2, none⟩)
  | 7 => v = .int .i64 T
  | 8 => True
  | _ => True

set_option maxRecDepth 100000 in
set_option maxHeartbeats 4000000 in
theorem Read_r6 (g gm gs n : Nat) (l : List S95) (T H F : Int) (D : DM) (t0 : List Value) (d0 : List Deferred) (w : World) (Q : Exit → Act → World → Prop) (hl : t0.length = gr6_tab.length)
    (t0_ : t0[0]? = some (.pointer (some ⟨g, 0, none⟩))) (h : BufAt w g gm gs n l T H F D) (hTb : 0 ≤ T ∧ T ≤ 1099511627776)
    (hQ : ∀ σ W, (WMap W gm n (D.del (kn T)) ∧ Kept w W (fun k => k = gm) ∧ (∀ B, B ≤ gm → B ≤ w.heap.size → Below B w W)) → Q .normal (lazyA (fun _ => true) σ t0 gr6_tab d0) W) :
    (Code.region 6 gr6_ops.toArray true).wp Try.prog Q { tmps := t0.toArray, defers := d0 } w := by
  refine wp_region_valsO (by kernel_rfl) gr6_tab (by kernel_rfl) hl (fun i => [].contains i) (fun i W W' => True) (fun L W => (L 8 = false → Below w.heap.size w W) ∧ (L 8 = true → (WMap W gm n (D.del (kn T)) ∧ Kept w W (fun k => k = gm) ∧ (∀ B, B ≤ gm → B ≤ w.heap.size → Below B w W)))) (gr6_val g gm gs n l T H F D) (⟨fun _ => below_drew (Below.refl _ _), fun e => by cases e⟩) ?hst ⟨⟨(fun j b h => by cases h), fun _ => rfl⟩, ⟨(fun j b h => by cases h), fun _ => rfl⟩, ⟨(fun j b h => by cases h), fun _ => rfl⟩, ⟨(fun j b h => by cases h), fun _ => rfl⟩, ⟨(fun j b h => by cases h), fun _ => rfl⟩, ⟨(fun j b h => by cases h), fun _ => rfl⟩, ⟨(fun j b h => by cases h), fun _ => rfl⟩, ⟨(fun j b h => by cases h), fun _ => rfl⟩, ⟨(fun j b h => by cases h), fun _ => rfl⟩, trivial⟩ ⟨?s0, ?s1, ?s2, ?s3, ?s4, ?s5, ?s6, ?s7, ?s8, trivial⟩ ?hskip ?hdone
  case hst =>
    intro L i j v W W' hLi hLj hne hcl hR h
    match j with
    | 0 => exact h
    | 1 => exact h
    | 2 => exact h
    | 3 => exact h
    | 4 => exact h
    | 5 => exact h
    | 6 => exact h
    | 7 => exact h
    | 8 => exact h
    | n + 9 => trivial

  case s0 =>
    intro _ L ρ W hLi hcl hold hJ hT
    have q0 := hT.2.1 0 _ t0_ rfl
    have nk : L 8 = false := Bool.eq_false_iff.2 fun e => by have a3 := hcl 8 3 (by rfl) e; have a2 := hcl 3 2 (by rfl) a3; have a1 := hcl 2 1 (by rfl) a2; have a0 := hcl 1 0 (by rfl) a1; rw [a0] at hLi; cases hLi
    have hB := hJ.1 nk
    refine Op1.of_run (v := .pointer (some ⟨g, 0, none⟩)) (W' := W) (by clear hT hJ hcl hold; go_simp) ⟨trivial, ⟨fun _ => hB, fun e => by rw [upd_ne (by decide), nk] at e; cases e⟩, rfl⟩

  case s1 =>
    intro _ L ρ W hLi hcl hold hJ hT
    have q24 : ρ (.tmp 24) = .pointer (some ⟨g, 0, none⟩) := hT.1 24 0 rfl rfl
    have nk : L 8 = false := Bool.eq_false_iff.2 fun e => by have a3 := hcl 8 3 (by rfl) e; have a2 := hcl 3 2 (by rfl) a3; have a1 := hcl 2 1 (by rfl) a2; rw [a1] at hLi; cases hLi
    have hB := hJ.1 nk
    refine Op1.of_run (v := .pointer (some ⟨g, 0, none⟩)) (W' := W) (by clear hT hJ hcl hold; go_simp) ⟨trivial, ⟨fun _ => hB, fun e => by rw [upd_ne (by decide), nk] at e; cases e⟩, rfl⟩

  case s2 =>
    intro _ L ρ W hLi hcl hold hJ hT
    have q25 : ρ (.tmp 25) = .pointer (some ⟨g, 0, none⟩) := hT.1 25 1 rfl rfl
    have nk : L 8 = false := Bool.eq_false_iff.2 fun e => by have a3 := hcl 8 3 (by rfl) e; have a2 := hcl 3 2 (by rfl) a3; rw [a2] at hLi; cases hLi
    have hB := hJ.1 nk
    refine Op1.of_run (v := .pointer (some ⟨g, 0, none⟩)) (W' := W) (by clear hT hJ hcl hold; go_simp) ⟨trivial, ⟨fun _ => hB, fun e => by rw [upd_ne (by decide), nk] at e; cases e⟩, rfl⟩

  case s3 =>
    intro _ L ρ W hLi hcl hold hJ hT
    have q26 : ρ (.tmp 26) = .pointer (some ⟨g, 0, none⟩) := hT.1 26 2 rfl rfl
    have nk : L 8 = false := Bool.eq_false_iff.2 fun e => by have a3 := hcl 8 3 (by rfl) e; rw [a3] at hLi; cases hLi
    have hB := hJ.1 nk
    have cc := (hB.cell (World.block_lt_of_cell? _ _ (h.cells.1))).trans (h.cells.1)
    refine Op1.of_run (v := .map (some gm)) (W' := W) (by clear hT hJ hcl hold; go_simp) ⟨trivial, ⟨fun _ => hB, fun e => by rw [upd_ne (by decide), nk] at e; cases e⟩, rfl⟩

  case s4 =>
    intro _ L ρ W hLi hcl hold hJ hT
    have q0 := hT.2.1 0 _ t0_ rfl
    have nk : L 8 = false := Bool.eq_false_iff.2 fun e => by have a7 := hcl 8 7 (by rfl) e; have a6 := hcl 7 6 (by rfl) a7; have a5 := hcl 6 5 (by rfl) a6; have a4 := hcl 5 4 (by rfl) a5; rw [a4] at hLi; cases hLi
    have hB := hJ.1 nk
    refine Op1.of_run (v := .pointer (some ⟨g, 0, none⟩)) (W' := W) (by clear hT hJ hcl hold; go_simp) ⟨trivial, ⟨fun _ => hB, fun e => by rw [upd_ne (by decide), nk] at e; cases e⟩, rfl⟩

  case s5 =>
    intro _ L ρ W hLi hcl hold hJ hT
    have q28 : ρ (.tmp 28) = .pointer (some ⟨g, 0, none⟩) := hT.1 28 4 rfl rfl
    have nk : L 8 = false := Bool.eq_false_iff.2 fun e => by have a7 := hcl 8 7 (by rfl) e; have a6 := hcl 7 6 (by rfl) a7; have a5 := hcl 6 5 (by rfl) a6; rw [a5] at hLi; cases hLi
    have hB := hJ.1 nk
    refine Op1.of_run (v := .pointer (some ⟨g, 0, none⟩)) (W' := W) (by clear hT hJ hcl hold; go_simp) ⟨trivial, ⟨fun _ => hB, fun e => by rw [upd_ne (by decide), nk] at e; cases e⟩, rfl⟩

  case s6 =>
    intro _ L ρ W hLi hcl hold hJ hT
    have q29 : ρ (.tmp 29) = .pointer (some ⟨g, 0, none⟩) := hT.1 29 5 rfl rfl
    have nk : L 8 = false := Bool.eq_false_iff.2 fun e => by have a7 := hcl 8 7 (by rfl) e; have a6 := hcl 7 6 (by rfl) a7; rw [a6] at hLi; cases hLi
    have hB := hJ.1 nk
    refine Op1.of_run (v := .pointer (some ⟨g, 2, none⟩)) (W' := W) (by clear hT hJ hcl hold; go_simp) ⟨trivial, ⟨fun _ => hB, fun e => by rw [upd_ne (by decide), nk] at e; cases e⟩, rfl⟩

  case s7 =>
    intro _ L ρ W hLi hcl hold hJ hT
    have q30 : ρ (.tmp 30) = .pointer (some ⟨g, 2, none⟩) := hT.1 30 6 rfl rfl
    have nk : L 8 = false := Bool.eq_false_iff.2 fun e => by have a7 := hcl 8 7 (by rfl) e; rw [a7] at hLi; cases hLi
    have hB := hJ.1 nk
    have cc := (hB.cell (World.block_lt_of_cell? _ _ (h.cells.2.2.1))).trans (h.cells.2.2.1)
    refine Op1.of_run (v := .int .i64 T) (W' := W) (by clear hT hJ hcl hold; go_simp) ⟨trivial, ⟨fun _ => hB, fun e => by rw [upd_ne (by decide), nk] at e; cases e⟩, rfl⟩

  case s8 =>
    intro _ L ρ W hLi hcl hold hJ hT
    have q27 : ρ (.tmp 27) = .map (some gm) := hT.1 27 3 rfl rfl
    have q31 : ρ (.tmp 31) = .int .i64 T := hT.1 31 7 rfl rfl
    have hB := hJ.1 hLi
    obtain ⟨W2, hrun, hm2, htn⟩ := World.ownsMap.drop (h.below hB).mp km Try.underlying100 (keyOf_int_mk Try.underlying3 (wfT hTb)) 0
    have hgr := htn.grown
    exact Op1.of_run (v := .tuple #[]) (W' := W2) (by simp [execOp, resolve, invoke, builtin, q27, q31, hrun, Result.andThen]) ⟨trivial, ⟨(fun e => by rw [upd_self] at e; cases e), fun _ => ⟨hm2, (Kept.of_below hB _).then_ (kept_grown hgr) (fun _ hk => .inl hk), fun B h1 h2 => (hB.mono h2).grown hgr (Nat.le_trans h2 hB.size) (fun k hk => by injection hk with hk; omega)⟩⟩, trivial⟩

  case hskip => intro i hi; simp at hi

  case hdone =>
    intro σ L W hL hJ hV
    exact hQ σ W (hJ.2 (hL 8 (by decide)))
abbrev gr7_ops : List Oper := [{ dst := some 32, op := .move (.tmp 0), type := 25, pos := "gather.go:103", after := #[], guard := none },
  { dst := some 33, op := .nilCheck (.tmp 32), type := 0, pos := "gather.go:103", after := #[⟨0, .data⟩], guard := none },
  { dst := some 34, op := .fieldAddr 102 (.tmp 33) 1, type := 0, pos := "gather.go:103", after := #[⟨1, .data⟩], guard := none },
  { dst := some 35, op := .load 70 (.tmp 34), type := 70, pos := "gather.go:103", after := #[⟨2, .data⟩], guard := none },
  { dst := some 36, op := .move (.tmp 0), type := 25, pos := "gather.go:103", after := #[], guard := none },
  { dst := some 37, op := .nilCheck (.tmp 36), type := 0, pos := "gather.go:103", after := #[⟨4, .data⟩], guard := none },
  { dst := some 38, op := .fieldAddr 102 (.tmp 37) 2, type := 0, pos := "gather.go:103", after := #[⟨5, .data⟩], guard := none },
  { dst := some 39, op := .load 3 (.tmp 38), type := 3, pos := "gather.go:103", after := #[⟨6, .data⟩], guard := none },
  { dst := some 40, op := .move (.tmp 0), type := 25, pos := "gather.go:103", after := #[], guard := none },
  { dst := some 41, op := .nilCheck (.tmp 40), type := 0, pos := "gather.go:103", after := #[⟨8, .data⟩], guard := none },
  { dst := some 42, op := .fieldAddr 102 (.tmp 41) 2, type := 0, pos := "gather.go:103", after := #[⟨9, .data⟩], guard := none },
  { dst := some 43, op := .load 3 (.tmp 42), type := 3, pos := "gather.go:103", after := #[⟨10, .data⟩], guard := none },
  { dst := some 44, op := .call { callee := .value (.func 48), args := #[.tmp 35, .tmp 39, .tmp 43], argTypes := #[70, 3, 3] }, type := 3, pos := "gather.go:103", after := #[⟨3, .data⟩, ⟨7, .data⟩, ⟨11, .data⟩], guard := none }]
abbrev gr7_tab : List (Option Nat) := [none, none, none, none, none, none, none, none, none, none, none, none, none, none, none, none, none, none, none, none, none, none, none, none, none, none, none, none, none, none, none, none, some 0, some 1, some 2, some 3, some 4, some 5, some 6, some 7, some 8, some 9, some 10, some 11, some 12, none, none, none, none, none, none, none, none, none, none, none]

def gr7_val (g gm gs n : Nat) (l : List S95) (T H F : Int) (D : DM) : Nat → Value → World → Prop := fun j v W => match j with
  | 0 => v = .pointer (some ⟨g, 0, none⟩)
  | 1 => v = .pointer (some ⟨g, 0, none⟩)
  | 2 => v = .pointer (some ⟨g, 1, none⟩)
  | 3 => v = .pointer (some ⟨gs, 0, none⟩)
  | 4 => v = .pointer (some ⟨g, 0, none⟩)
  | 5 => v = .pointer (some ⟨g, 0, none⟩)
  | 6 => v = .pointer (some ⟨g, 2, none⟩)
  | 7 => v = .int .i64 T
  | 8 => v = .pointer (some ⟨g, 0, none⟩)
  | 9 => v = .pointer (some ⟨g, 0, none⟩)
  | 10 => v = .pointer (some ⟨g, 2, none⟩)
  | 11 => v = .int .i64 T
  | 12 => True
  | _ => True

set_option maxRecDepth 100000 in
set_option maxHeartbeats 4000000 in
theorem Read_r7 (g gm gs n : Nat) (l : List S95) (T H F : Int) (D : DM) (t0 : List Value) (d0 : List Deferred) (w : World) (Q : Exit → Act → World → Prop) (hl : t0.length = gr7_tab.length)
    (t0_ : t0[0]? = some (.pointer (some ⟨g, 0, none⟩))) (h : BufAt w g gm gs n l T H F D) (hw : wf 0 l)
    (hQ : ∀ σ W, (SetAt W gs (remL T T l) ∧ Only gs w W) → Q .normal (lazyA (fun _ => true) σ t0 gr7_tab d0) W) :
    (Code.region 7 gr7_ops.toArray true).wp Try.prog Q { tmps := t0.toArray, defers := d0 } w := by
  refine wp_region_valsO (by kernel_rfl) gr7_tab (by kernel_rfl) hl (fun i => [].contains i) (fun i W W' => True) (fun L W => (L 12 = false → Below w.heap.size w W) ∧ (L 12 = true → (SetAt W gs (remL T T l) ∧ Only gs w W))) (gr7_val g gm gs n l T H F D) (⟨fun _ => below_drew (Below.refl _ _), fun e => by cases e⟩) ?hst ⟨⟨(fun j b h => by cases h), fun _ => rfl⟩, ⟨(fun j b h => by cases h), fun _ => rfl⟩, ⟨(fun j b h => by cases h), fun _ => rfl⟩, ⟨(fun j b h => by cases h), fun _ => rfl⟩, ⟨(fun j b h => by cases h), fun _ => rfl⟩, ⟨(fun j b h => by cases h), fun _ => rfl⟩, ⟨(fun j b h => by cases h), fun _ => rfl⟩, ⟨(fun j b h => by cases h), fun _ => rfl⟩, ⟨(fun j b h => by cases h), fun _ => rfl⟩, ⟨(fun j b h => by cases h), fun _ => rfl⟩, ⟨(fun j b h => by cases h), fun _ => rfl⟩, ⟨(fun j b h => by cases h), fun _ => rfl⟩, ⟨(fun j b h => by cases h), fun _ => rfl⟩, trivial⟩ ⟨?s0, ?s1, ?s2, ?s3, ?s4, ?s5, ?s6, ?s7, ?s8, ?s9, ?s10, ?s11, ?s12, trivial⟩ ?hskip ?hdone
  case hst =>
    intro L i j v W W' hLi hLj hne hcl hR h
    match j with
    | 0 => exact h
    | 1 => exact h
    | 2 => exact h
    | 3 => exact h
    | 4 => exact h
    | 5 => exact h
    | 6 => exact h
    | 7 => exact h
    | 8 => exact h
    | 9 => exact h
    | 10 => exact h
    | 11 => exact h
    | 12 => exact h
    | n + 13 => trivial

  case s0 =>
    intro _ L ρ W hLi hcl hold hJ hT
    have q0 := hT.2.1 0 _ t0_ rfl
    have nk : L 12 = false := Bool.eq_false_iff.2 fun e => by have a3 := hcl 12 3 (by rfl) e; have a2 := hcl 3 2 (by rfl) a3; have a1 := hcl 2 1 (by rfl) a2; have a0 := hcl 1 0 (by rfl) a1; rw [a0] at hLi; cases hLi
    have hB := hJ.1 nk
    refine Op1.of_run (v := .pointer (some ⟨g, 0, none⟩)) (W' := W) (by clear hT hJ hcl hold; go_simp) ⟨trivial, ⟨fun _ => hB, fun e => by rw [upd_ne (by decide), nk] at e; cases e⟩, rfl⟩

  case s1 =>
    intro _ L ρ W hLi hcl hold hJ hT
    have q32 : ρ (.tmp 32) = .pointer (some ⟨g, 0, none⟩) := hT.1 32 0 rfl rfl
    have nk : L 12 = false := Bool.eq_false_iff.2 fun e => by have a3 := hcl 12 3 (by rfl) e; have a2 := hcl 3 2 (by rfl) a3; have a1 := hcl 2 1 (by rfl) a2; rw [a1] at hLi; cases hLi
    have hB := hJ.1 nk
    refine Op1.of_run (v := .pointer (some ⟨g, 0, none⟩)) (W' := W) (by clear hT hJ hcl hold; go_simp) ⟨trivial, ⟨fun _ => hB, fun e => by rw [upd_ne (by decide), nk] at e; cases e⟩, rfl⟩

  case s2 =>
    intro _ L ρ W hLi hcl hold hJ hT
    have q33 : ρ (.tmp 33) = .pointer (some ⟨g, 0, none⟩) := hT.1 33 1 rfl rfl
    have nk : L 12 = false := Bool.eq_false_iff.2 fun e => by have a3 := hcl 12 3 (by rfl) e; have a2 := hcl 3 2 (by rfl) a3; rw [a2] at hLi; cases hLi
    have hB := hJ.1 nk
    refine Op1.of_run (v := .pointer (some ⟨g, 1, none⟩)) (W' := W) (by clear hT hJ hcl hold; go_simp) ⟨trivial, ⟨fun _ => hB, fun e => by rw [upd_ne (by decide), nk] at e; cases e⟩, rfl⟩

  case s3 =>
    intro _ L ρ W hLi hcl hold hJ hT
    have q34 : ρ (.tmp 34) = .pointer (some ⟨g, 1, none⟩) := hT.1 34 2 rfl rfl
    have nk : L 12 = false := Bool.eq_false_iff.2 fun e => by have a3 := hcl 12 3 (by rfl) e; rw [a3] at hLi; cases hLi
    have hB := hJ.1 nk
    have cc := (hB.cell (World.block_lt_of_cell? _ _ (h.cells.2.1))).trans (h.cells.2.1)
    refine Op1.of_run (v := .pointer (some ⟨gs, 0, none⟩)) (W' := W) (by clear hT hJ hcl hold; go_simp) ⟨trivial, ⟨fun _ => hB, fun e => by rw [upd_ne (by decide), nk] at e; cases e⟩, rfl⟩

  case s4 =>
    intro _ L ρ W hLi hcl hold hJ hT
    have q0 := hT.2.1 0 _ t0_ rfl
    have nk : L 12 = false := Bool.eq_false_iff.2 fun e => by have a7 := hcl 12 7 (by rfl) e; have a6 := hcl 7 6 (by rfl) a7; have a5 := hcl 6 5 (by rfl) a6; have a4 := hcl 5 4 (by rfl) a5; rw [a4] at hLi; cases hLi
    have hB := hJ.1 nk
    refine Op1.of_run (v := .pointer (some ⟨g, 0, none⟩)) (W' := W) (by clear hT hJ hcl hold; go_simp) ⟨trivial, ⟨fun _ => hB, fun e => by rw [upd_ne (by decide), nk] at e; cases e⟩, rfl⟩

  case s5 =>
    intro _ L ρ W hLi hcl hold hJ hT
    have q36 : ρ (.tmp 36) = .pointer (some ⟨g, 0, none⟩) := hT.1 36 4 rfl rfl
    have nk : L 12 = false := Bool.eq_false_iff.2 fun e => by have a7 := hcl 12 7 (by rfl) e; have a6 := hcl 7 6 (by rfl) a7; have a5 := hcl 6 5 (by rfl) a6; rw [a5] at hLi; cases hLi
    have hB := hJ.1 nk
    refine Op1.of_run (v := .pointer (some ⟨g, 0, none⟩)) (W' := W) (by clear hT hJ hcl hold; go_simp) ⟨trivial, ⟨fun _ => hB, fun e => by rw [upd_ne (by decide), nk] at e; cases e⟩, rfl⟩

  case s6 =>
    intro _ L ρ W hLi hcl hold hJ hT
    have q37 : ρ (.tmp 37) = .pointer (some ⟨g, 0, none⟩) := hT.1 37 5 rfl rfl
    have nk : L 12 = false := Bool.eq_false_iff.2 fun e => by have a7 := hcl 12 7 (by rfl) e; have a6 := hcl 7 6 (by rfl) a7; rw [a6] at hLi; cases hLi
    have hB := hJ.1 nk
    refine Op1.of_run (v := .pointer (some ⟨g, 2, none⟩)) (W' := W) (by clear hT hJ hcl hold; go_simp) ⟨trivial, ⟨fun _ => hB, fun e => by rw [upd_ne (by decide), nk] at e; cases e⟩, rfl⟩

  case s7 =>
    intro _ L ρ W hLi hcl hold hJ hT
    have q38 : ρ (.tmp 38) = .pointer (some ⟨g, 2, none⟩) := hT.1 38 6 rfl rfl
    have nk : L 12 = false := Bool.eq_false_iff.2 fun e => by have a7 := hcl 12 7 (by rfl) e; rw [a7] at hLi; cases hLi
    have hB := hJ.1 nk
    have cc := (hB.cell (World.block_lt_of_cell? _ _ (h.cells.2.2.1))).trans (h.cells.2.2.1)
    refine Op1.of_run (v := .int .i64 T) (W' := W) (by clear hT hJ hcl hold; go_simp) ⟨trivial, ⟨fun _ => hB, fun e => by rw [upd_ne (by decide), nk] at e; cases e⟩, rfl⟩

  case s8 =>
    intro _ L ρ W hLi hcl hold hJ hT
    have q0 := hT.2.1 0 _ t0_ rfl
    have nk : L 12 = false := Bool.eq_false_iff.2 fun e => by have a11 := hcl 12 11 (by rfl) e; have a10 := hcl 11 10 (by rfl) a11; have a9 := hcl 10 9 (by rfl) a10; have a8 := hcl 9 8 (by rfl) a9; rw [a8] at hLi; cases hLi
    have hB := hJ.1 nk
    refine Op1.of_run (v := .pointer (some ⟨g, 0, none⟩)) (W' := W) (by clear hT hJ hcl hold; go_simp) ⟨trivial, ⟨fun _ => hB, fun e => by rw [upd_ne (by decide), nk] at e; cases e⟩, rfl⟩

  case s9 =>
    intro _ L ρ W hLi hcl hold hJ hT
    have q40 : ρ (.tmp 40) = .pointer (some ⟨g, 0, none⟩) := hT.1 40 8 rfl rfl
    have nk : L 12 = false := Bool.eq_false_iff.2 fun e => by have a11 := hcl 12 11 (by rfl) e; have a10 := hcl 11 10 (by rfl) a11; have a9 := hcl 10 9 (by rfl) a10; rw [a9] at hLi; cases hLi
    have hB := hJ.1 nk
    refine Op1.of_run (v := .pointer (some ⟨g, 0, none⟩)) (W' := W) (by clear hT hJ hcl hold; go_simp) ⟨trivial, ⟨fun _ => hB, fun e => by rw [upd_ne (by decide), nk] at e; cases e⟩, rfl⟩

  case s10 =>
    intro _ L ρ W hLi hcl hold hJ hT
    have q41 : ρ (.tmp 41) = .pointer (some ⟨g, 0, none⟩) := hT.1 41 9 rfl rfl
    have nk : L 12 = false := Bool.eq_false_iff.2 fun e => by have a11 := hcl 12 11 (by rfl) e; have a10 := hcl 11 10 (by rfl) a11; rw [a10] at hLi; cases hLi
    have hB := hJ.1 nk
    refine Op1.of_run (v := .pointer (some ⟨g, 2, none⟩)) (W' := W) (by clear hT hJ hcl hold; go_simp) ⟨trivial, ⟨fun _ => hB, fun e => by rw [upd_ne (by decide), nk] at e; cases e⟩, rfl⟩

  case s11 =>
    intro _ L ρ W hLi hcl hold hJ hT
    have q42 : ρ (.tmp 42) = .pointer (some ⟨g, 2, none⟩) := hT.1 42 10 rfl rfl
    have nk : L 12 = false := Bool.eq_false_iff.2 fun e => by have a11 := hcl 12 11 (by rfl) e; rw [a11] at hLi; cases hLi
    have hB := hJ.1 nk
    have cc := (hB.cell (World.block_lt_of_cell? _ _ (h.cells.2.2.1))).trans (h.cells.2.2.1)
    refine Op1.of_run (v := .int .i64 T) (W' := W) (by clear hT hJ hcl hold; go_simp) ⟨trivial, ⟨fun _ => hB, fun e => by rw [upd_ne (by decide), nk] at e; cases e⟩, rfl⟩

  case s12 =>
    intro _ L ρ W hLi hcl hold hJ hT
    have q35 : ρ (.tmp 35) = .pointer (some ⟨gs, 0, none⟩) := hT.1 35 3 rfl rfl
    have q39 : ρ (.tmp 39) = .int .i64 T := hT.1 39 7 rfl rfl
    have q43 : ρ (.tmp 43) = .int .i64 T := hT.1 43 11 rfl rfl
    have hB := hJ.1 hLi
    have qf := hT.2.2.2 48
    refine Op1.of_call (f := 48) (args := #[.pointer (some ⟨gs, 0, none⟩), .int .i64 T, .int .i64 T]) (W' := W) (by clear hT hJ hcl hold; go_simp) ?_
    refine (Rem_calls gs T T l W (h.below hB).set hw).mono ?_
    rintro e W2 ⟨rfl, h1, h2, _⟩
    exact ⟨_, rfl, trivial, ⟨(fun e => by rw [upd_self] at e; cases e), fun _ => ⟨h1, (Only.of_below hB).trans h2⟩⟩, trivial⟩

  case hskip => intro i hi; simp at hi

  case hdone =>
    intro σ L W hL hJ hV
    exact hQ σ W (hJ.2 (hL 12 (by decide)))
/-! ### plain laws -/
theorem cnt_append : ∀ (a b : List S95), cnt (a ++ b) = cnt a + cnt b
  | [], b => by simp [cnt]
  | x :: r, b => by rw [List.cons_append, cnt_cons, cnt_cons, cnt_append r b]; omega
theorem cnt_rem {f t : Int} (hft : f ≤ t) : ∀ {l : List S95}, (∀ x ∈ l, x.f0 ≤ x.f1) → cnt (rem f t l) = cnt l - ov f t l
  | [], _ => by simp [rem, cnt, ov]
  | x :: r, hx => by
    have h1 := hx x (by simp)
    have ih := cnt_rem hft (l := r) (fun y hy => hx y (by simp [hy]))
    rw [rem_cons, cnt_append, cnt_append, ih, cnt_cons, ov_cons]
    have c1 : ∀ a b : Int, cnt [(⟨a, b⟩ : S95)] = b - a + 1 := fun a b => by rw [cnt_cons]; simp [cnt]
    have c0 : cnt [] = 0 := rfl
    split <;> split <;> simp only [c1, c0] <;> omega
theorem ov_one {lo n : Int} : ∀ {l : List S95}, wf lo l → has l n → ov n n l = 1
  | [], _, h => by simp [has] at h
  | x :: r, ⟨h1, h2, h3, h4⟩, h => by
    rw [ov_cons]
    rcases has_cons.1 h with h | h
    · rw [ov_above (lo := x.f1 + 2) (by omega) h4]; omega
    · have := wf_lo h4 h
      rw [ov_one h4 h]; omega
theorem kn_ne {a b : Int} (h : a ≠ b) : kn a ≠ kn b := by intro e; injection e with _ e; exact h e
/-- The first place is taken out. -/
theorem gat_take {l : List S95} {T H F : Int} {D : DM} {d : Int → Int} (h : Gat l T H F D d) (hT : has l T) : remL T T l = rem T T l ∧ Gat (rem T T l) (T + 1) H F (D.del (kn T)) d ∧ ∀ n, (has (rem T T l) n ↔ has l n ∧ T + 1 ≤ n) := by
  have hb := h.hin T hT
  have h0 := h.b0
  have h2 := h.b2
  have hm : may T T = true := by unfold may; simp; omega
  have hr : ∀ n, (has (rem T T l) n ↔ has l n ∧ T + 1 ≤ n) := fun n => by
    rw [has_rem (Int.le_refl _) n h.w]
    constructor
    · rintro ⟨a, b⟩; have := h.hin n a; exact ⟨a, by omega⟩
    · rintro ⟨a, b⟩; exact ⟨a, by omega⟩
  refine ⟨by unfold remL; rw [if_pos hm], ⟨wf_rem (Int.le_refl _) h.w, fun n hn => ?_, by omega, by omega, h2, h.fin, h.ty.del _, fun n => ?_, ?_, fun n hn => ?_⟩, hr⟩
  · have := (hr n).1 hn
    have := h.hin n this.1
    omega
  · rw [hr n]
    by_cases e : n = T
    · subst e
      rw [has_del_same]
      constructor
      · rintro ⟨_, b⟩; omega
      · intro b; cases b
    · rw [has_del_other (kn_ne e), ← h.key n]
      constructor
      · exact fun b => b.1
      · intro b; have := h.hin n b; exact ⟨b, by omega⟩
  · have e1 := size_del (k := kn T) h.ty
    rw [if_pos ((h.key T).1 hT)] at e1
    have e2 := h.sz
    rw [cnt_rem (Int.le_refl _) (fun x hx => (wf_mem h.w x hx).2.1), ov_one h.w hT]
    omega
  · have hn1 := (hr n).1 hn
    rw [atKey_del_other (kn_ne (by omega))]
    exact h.val n hn1.1
theorem ready_has {l : List S95} {T : Int} {j : Int} (h0 : 0 ≤ j) (h : j < readyL l T) : has l (T + j) := by
  cases l with
  | nil => simp [readyL] at h; omega
  | cons x r =>
    by_cases e : x.f0 = T
    · simp only [readyL, if_pos e] at h; exact ⟨x, by simp, by omega, by omega⟩
    · simp only [readyL, if_neg e] at h; omega
theorem ready_le {l : List S95} {T H F : Int} {D : DM} {d : Int → Int} (h : Gat l T H F D d) : readyL l T ≤ 1099511627777 := by
  cases l with
  | nil => simp [readyL]
  | cons x r =>
    obtain ⟨w1, w2, w3, w4⟩ := h.w
    by_cases e : x.f0 = T
    · simp only [readyL, if_pos e]; omega
    · simp only [readyL, if_neg e]; omega
def bytesFrom (d : Int → Int) (T : Int) (k : Nat) : List UInt8 := (List.range k).map fun (i : Nat) => UInt8.ofNat (d (T + (i : Int))).toNat
theorem bytesFrom_len (d : Int → Int) (T : Int) (k : Nat) : (bytesFrom d T k).length = k := by simp [bytesFrom]
def DOk (d : Int → Int) : Prop := ∀ n, 0 ≤ d n ∧ d n < 256
theorem bytesFrom_snoc {d : Int → Int} (hd : DOk d) (T : Int) (k : Nat) : Lib.byteCells (bytesFrom d T (k + 1)) = Lib.byteCells (bytesFrom d T k) ++ [.int .u8 (d (T + (k : Int)))] := by
  unfold bytesFrom
  rw [List.range_succ, List.map_append, Lib.byteCells_append]
  congr 1
  have h := hd (T + (k : Int))
  simp only [Lib.byteCells, List.map_cons, List.map_nil, UInt8.toNat_ofNat']
  congr 2
  omega
/-! ### frames -/
theorem Row.far {W W' : World} {sv : Value} {l : List S95} {S : Nat → Prop} (h : Row W sv l) (hk : Kept W W' S) (hS : ∀ q, S q → ∀ i, W.cell? ⟨q, 0, none⟩ ≠ some (.int .i64 i)) : Row W' sv l := by
  rcases h with h | ⟨b0, c0, rfl, r2, r3, r4⟩
  · exact .inl h
  · refine .inr ⟨b0, c0, rfl, ?_, r3, Nat.lt_of_lt_of_le r4 hk.1⟩
    refine ⟨r2.1, r2.2.1, fun hn => ?_⟩
    obtain ⟨bk, o, hA, z0, _⟩ := row_at r2 0 (by have := r2.1; omega)
    cases hA
    have hne : ¬ S b0 := fun e => hS b0 e _ (by simpa using z0)
    refine ⟨_, rfl, ?_⟩
    intro j p hj
    obtain ⟨ad, hA, hcc⟩ := r2.2.2 hn
    injection hA with hA
    subst hA
    obtain ⟨cs, c1, c2, c3⟩ := hcc j p hj
    refine ⟨cs, c1, c2, fun q u' hu => ?_⟩
    have hcell := c3 q u' hu
    rw [add_off] at hcell ⊢
    exact (World.cell?_of_block (hk.2 b0 (World.block_lt_of_cell? _ _ hcell) hne)).trans hcell
theorem SetAt.far {W W' : World} {gs : Nat} {l : List S95} {S : Nat → Prop} (h : SetAt W gs l) (hk : Kept W W' S) (hS : ∀ q, S q → ∀ i, W.cell? ⟨q, 0, none⟩ ≠ some (.int .i64 i)) (hg : ¬ S gs) : SetAt W' gs l := by
  have hlt := h.lt
  obtain ⟨sv, s1, s2⟩ := h
  exact ⟨sv, (hk.2 gs hlt hg).trans s1, s2.far hk hS⟩
theorem BufAt.far {W W' : World} {g gm gs n : Nat} {l : List S95} {T H F : Int} {D : DM} {S : Nat → Prop} (h : BufAt W g gm gs n l T H F D) (hk : Kept W W' S) (hS : ∀ q, S q → ∀ i, W.cell? ⟨q, 0, none⟩ ≠ some (.int .i64 i)) (h1 : ¬ S g) (h2 : ¬ S gm) (h3 : ¬ S gs) : BufAt W' g gm gs n l T H F D :=
  ⟨(hk.2 g (lt_of_block h.blk) h1).trans h.blk, h.mp.move (hk.2 gm h.mp.lt h2), h.set.far hk hS h3⟩
theorem bld_kept {B b : Nat} {bs : List Value} {W W' : World} {S : Nat → Prop} (h : Lib.IsBuilder 106 5 B b bs W) (hk : Kept W W' S) (hS : ∀ q, S q → q < B) : Lib.IsBuilder 106 5 B b bs W' := by
  have key : ∀ p, Lib.BuilderAt 106 5 B b p bs W → Lib.BuilderAt 106 5 B b p bs W' := by
    rintro p ⟨h1, v, h2, h3, h4⟩
    refine ⟨h1, v, (hk.2 b (lt_of_block h2) (fun e => by have := hS b e; omega)).trans h2, own_move h3 (fun k hk2 => hk.2 k (World.ownsRow.lt h3 k hk2).2 (fun e => ?_)), h4⟩
    have := hS k e
    have := (World.ownsRow.lt h3 k hk2).1
    omega
  rcases h with h | h
  · exact .inl (key _ h)
  · exact .inr (key _ h)
/-- A builder's blocks hold no number of 64 bits at their heads. -/
theorem bld_head {B b : Nat} {bs : List Value} {p0 v0 : Value} {W : World} (h : Lib.IsBuilder 106 5 B b bs W) (hv : W.heap[b]? = some (.cells #[p0, v0] 106 (0, 0))) (h8 : ∀ u ∈ bs, ∀ i, u ≠ .int .i64 i) (h0 : bs = [] → v0.ownBlock = none) :
    ∀ q, (q = b ∨ some q = v0.ownBlock) → (∀ i, W.cell? ⟨q, 0, none⟩ ≠ some (.int .i64 i)) ∧ B ≤ q := by
  have key : ∀ p, (∀ i, p ≠ .int .i64 i) → Lib.BuilderAt 106 5 B b p bs W → ∀ q, (q = b ∨ some q = v0.ownBlock) → (∀ i, W.cell? ⟨q, 0, none⟩ ≠ some (.int .i64 i)) ∧ B ≤ q := by
    rintro p hp ⟨h1, v, h2, h3, h4⟩ q hq
    have e : (#[p, v] : Array Value) = #[p0, v0] := by rw [h2] at hv; injection hv with hv; injection hv
    have ev : v = v0 := by have := congrArg (fun a : Array Value => a.toList) e; simpa using (List.cons.inj (List.cons.inj this).2).1
    subst ev
    rcases hq with rfl | hq
    · refine ⟨fun i => ?_, h1⟩
      rw [Lib.cell_of_heap h2]
      intro hc
      exact hp i (by simpa using hc)
    · refine ⟨fun i hc => ?_, (World.ownsRow.lt h3 q hq.symm).1⟩
      rcases h3.2 with ⟨rfl, _⟩ | ⟨g0, cap, cur, rfl, hB, hh, hle, hm, hs, ht⟩
      · simp [Value.ownBlock] at hq
      · have hqg : q = g0 := by simpa [Value.ownBlock] using hq
        subst hqg
        cases bs with
        | nil => have := h0 rfl; simp [Value.ownBlock] at this
        | cons u r =>
          have hc0 : cur.toList[0]? = some u := by
            have := congrArg (fun l : List Value => l[0]?) ht
            simp at this
            simpa using this
          rw [Lib.cell_of_heap hh] at hc
          have : some u = some (Value.int .i64 i) := by rw [← hc0]; simpa using hc
          exact h8 u (by simp) i (Option.some.inj this)
  rcases h with h | h
  · exact key _ (by intro i e; cases e) h
  · exact key _ (by intro i e; cases e) h
end Go.Proofs.Ytiladcdogbeomaa.QRangesPlays

namespace Go.Proofs.Ytiladcdogbeomaa.QRangesPlays
open Go.RowKit Go.Shelf Go.Proofs.YtiladcdogbeomaaW.PrintWords Go.Proofs.YtiladcdogbeomaaW.PrintLast Go.Proofs.YtiladcdogbeomaaW.PrintMore Go.Proofs.Ytiladcdogbeomaa.RowLaws Go.Proofs.Ytiladcdogbeomaa.Lazy
open Go.Maps
attribute [local go_sem] Oper.semAt_some max2_int min2_int max_two min_two
abbrev Tri (g gm gs : Nat) (w W : World) : Prop := Kept w W (fun q => q = g ∨ q = gm ∨ q = gs)
/-- The worlds of Read's loop behind j rounds. -/
structure RdW (g gm gs n X : Nat) (l : List S95) (T H F : Int) (d : Int → Int) (w : World) (j : Nat) (lj : List S95) (Dj : DM) (W : World) : Prop where
  buf : BufAt W g gm gs n lj (T + j) H F Dj
  gat : Gat lj (T + j) H F Dj d
  hs : ∀ x, has lj x ↔ has l x ∧ T + j ≤ x
  bld : Lib.IsBuilder 106 5 w.heap.size X (Lib.byteCells (bytesFrom d T j)) W
  nil : j = 0 → (∃ p, W.heap[X]? = some (.cells #[p, .slice none 0 0] 106 (0, 0))) ∧ Below w.heap.size w W
  tri : Tri g gm gs w W
  low : ∀ B, B ≤ g → B ≤ gm → B ≤ gs → B ≤ w.heap.size → Below B w W
  lg : g < w.heap.size
  lm : gm < w.heap.size
  ls : gs < w.heap.size
theorem cell_map {W : World} {m n : Nat} {D : DM} (h : WMap W m n D) (i : Nat) : W.cell? ⟨m, i, none⟩ = none := by
  obtain ⟨es, clock, h1, _⟩ := h
  unfold World.cell?; rw [h1]
theorem low_only {B g : Nat} {a W W' : World} (h : Below B a W) (ho : Only g W W') (hg : B ≤ g) (hB : B ≤ W.heap.size) : Below B a W' := Only.belowN h ho hg hB
theorem kept_only {g : Nat} {W W' : World} (h : Only g W W') : Kept W W' (fun q => q = g) := ⟨h.size, fun k hk hn => h.block k hk (by intro e; injection e with e; exact hn e)⟩
theorem bld_cells {B b : Nat} {bs : List Value} {W : World} (h : Lib.IsBuilder 106 5 B b bs W) : B ≤ b ∧ ∃ p v, W.heap[b]? = some (.cells #[p, v] 106 (0, 0)) := by
  rcases h with ⟨h1, v, h2, _⟩ | ⟨h1, v, h2, _⟩
  · exact ⟨h1, _, v, h2⟩
  · exact ⟨h1, _, v, h2⟩
section
variable {g gm gs n X : Nat} {l : List S95} {T H F : Int} {d : Int → Int} {w : World} {j : Nat} {lj : List S95} {Dj : DM} {W W' : World}
/-- Behind the byte that is written. -/
theorem RdW.wrote (h : RdW g gm gs n X l T H F d w j lj Dj W) {p0 v0 : Value} (hv : W.heap[X]? = some (.cells #[p0, v0] 106 (0, 0))) (h0 : j = 0 → v0.ownBlock = none) (hk : Kept W W' (fun k => k = X ∨ some k = v0.ownBlock)) (hB : Below w.heap.size W W') :
    BufAt W' g gm gs n lj (T + j) H F Dj ∧ Tri g gm gs w W' ∧ ∀ B, B ≤ g → B ≤ gm → B ≤ gs → B ≤ w.heap.size → Below B w W' := by
  have hh := bld_head h.bld hv (fun u hu i e => by subst e; simp [Lib.byteCells] at hu) (fun e => h0 (by have := congrArg List.length e; simpa [Lib.byteCells, bytesFrom] using this))
  have hl := h.lg
  have hm := h.lm
  have hs := h.ls
  refine ⟨h.buf.far hk (fun q hq => (hh q hq).1) (fun e => by have := (hh g e).2; omega) (fun e => by have := (hh gm e).2; omega) (fun e => by have := (hh gs e).2; omega), ?_, fun B b1 b2 b3 b4 => (h.low B b1 b2 b3 b4).trans (hB.mono b4)⟩
  exact h.tri.then_ hk (fun k hk2 => .inr (hh k hk2).2)
end
theorem read_str {g gm gs n X : Nat} {l : List S95} {T H F : Int} {D : DM} {d : Int → Int} {w : World} {j : Nat} {lj : List S95} {Dj : DM} {W : World} (hl : RdW g gm gs n X l T H F d w j lj Dj W) (hG : Gat l T H F D d) (hB : BufAt w g gm gs n l T H F D) :
    Calls Try.prog 60 #[.pointer (some ⟨X, 0, none⟩)] W fun e w' => e = .returned (.string ⟨(bytesFrom d T j).toArray⟩) ∧ ∃ l' D', BufAt w' g gm gs n l' (T + j) H F D' ∧ Gat l' (T + j) H F D' d ∧ (∀ x, has l' x ↔ has l x ∧ T + j ≤ x) ∧ Tri g gm gs w w' ∧ ∀ B, B ≤ g → B ≤ gm → B ≤ gs → B ≤ w.heap.size → Below B w w' := by
  by_cases h0 : j = 0
  · subst h0
    obtain ⟨_, hb⟩ := hl.nil rfl
    refine (Try.Builder_String_any w.heap.size X (bytesFrom d T 0) W hl.bld hb.size).mono ?_
    rintro e w2 ⟨rfl, hb2⟩
    have hb3 := hb.trans hb2
    exact ⟨rfl, l, D, by simpa using hB.below hb3, by simpa using hG, fun x => by simp only [Int.natCast_zero, Int.add_zero]; exact ⟨fun hx => ⟨hx, (hG.hin x hx).1⟩, fun hx => hx.1⟩, Kept.of_below hb3 _, fun B _ _ _ b4 => hb3.mono b4⟩
  · obtain ⟨hBX, p0, v0, hv0⟩ := bld_cells hl.bld
    have hne : bytesFrom d T j ≠ [] := fun e => h0 (by have := congrArg List.length e; simpa [bytesFrom] using this)
    refine (Bld_String w.heap.size X (bytesFrom d T j) p0 v0 W hl.bld hv0 hne).mono ?_
    rintro e w2 ⟨rfl, hb2, hk2⟩
    obtain ⟨a1, a2, a3⟩ := hl.wrote hv0 (fun e => absurd e h0) ⟨hk2.1, fun k hk hn => hk2.2 k hk (fun e => hn (.inr e))⟩ hb2
    exact ⟨rfl, lj, Dj, a1, hl.gat, hl.hs, a2, a3⟩
set_option maxRecDepth 100000 in
set_option maxHeartbeats 4000000 in
theorem GRead_calls (g gm gs n : Nat) (l : List S95) (T H F : Int) (D : DM) (d : Int → Int) (k : Int) (w : World) (h : BufAt w g gm gs n l T H F D) (hg : Gat l T H F D d) (hd : DOk d) (h1 : gm ≠ g) (h2 : gs ≠ g) (h3 : gs ≠ gm) :
    Calls Try.prog 15 #[.pointer (some ⟨g, 0, none⟩), .int .i64 k] w fun e w' => ∃ (m : Nat) (l' : List S95) (D' : DM), (m : Int) = max 0 (min k (readyL l T)) ∧ e = .returned (.tuple #[.string ⟨(bytesFrom d T m).toArray⟩, .bool (finB F && ((T + (m : Int)) == finV F))]) ∧
      BufAt w' g gm gs n l' (T + m) H F D' ∧ Gat l' (T + m) H F D' d ∧ (∀ x, has l' x ↔ has l x ∧ T + m ≤ x) ∧ Tri g gm gs w w' ∧ ∀ B, B ≤ g → B ≤ gm → B ≤ gs → B ≤ w.heap.size → Below B w w' := by
  have HRD := Aside0.mk (GReady_calls g gm gs n l T H F D w h hg.w)
  have hrl := ready_le hg
  have HBF := Aside0.mk h
  have HGT := Aside0.mk hg
  have HDD := Aside0.mk hd
  have HNE := Aside0.mk (And.intro h1 (And.intro h2 h3))
  obtain ⟨r, hr⟩ : ∃ r, readyL l T = r := ⟨_, rfl⟩
  have HRR := Aside0.mk hr
  rw [hr] at HRD hrl ⊢
  clear h hg hd h1 h2 h3 hr
  obtain ⟨mi, hmi⟩ : ∃ mi, (if r < k then r else k) = mi := ⟨_, rfl⟩
  obtain ⟨m, hm⟩ : ∃ m : Nat, (m : Int) = max 0 mi := ⟨(max 0 mi).toNat, by omega⟩
  have HMI := Aside0.mk (show (m : Int) = max 0 (min k r) by rw [hm, ← hmi]; split <;> omega)
  have hmr : mi ≤ r := by rw [← hmi]; split <;> omega
  go_enter Try.func15, Try.ntmps15
  go_wp2_with (go_at_call 58; refine HRD.out.mono ?_; rintro e w2 ⟨rfl, hb⟩; have HB2 := Aside0.mk hb; clear hb)
  obtain ⟨X, hX⟩ : ∃ X, w2.heap.size = X := ⟨_, rfl⟩
  have hb3 := below_step HB2.out (below_alloc (Below.refl _ w2) (.cells #[.pointer none, .slice none 0 0] 106))
  have hnew := heap_alloc_new w2 (.cells #[.pointer none, .slice none 0 0] 106)
  rw [hX] at hnew
  have hbX : w.heap.size ≤ X := by rw [← hX]; exact HB2.out.size
  have HR0 := Aside0.mk (show RdW g gm gs n X l T H F d w 0 l D (w2.alloc (.cells #[.pointer none, .slice none 0 0] 106)) from
    ⟨by simpa using HBF.out.below hb3, by simpa using HGT.out, fun x => by simp only [Int.natCast_zero, Int.add_zero]; exact ⟨fun hx => ⟨hx, (HGT.out.hin x hx).1⟩, fun hx => hx.1⟩, .inl ⟨hbX, _, hnew, World.ownsRow_nil _ _ _ _, by simp [Value.ownBlock]⟩, fun _ => ⟨⟨_, hnew⟩, hb3⟩, Kept.of_below hb3 _, fun B b1 b2 b3 b4 => hb3.mono b4, lt_of_block HBF.out.blk, HBF.out.mp.lt, HBF.out.set.lt⟩)
  rw [hX]
  have HXW := Aside0.mk hbX
  clear hb3 hnew hbX hX HB2 HRD
  go_loopw [12] (fun i wr => ∃ j : Nat, j ≤ m ∧ i = .int .i64 j ∧ Aside0 (∃ lj Dj, RdW g gm gs n X l T H F d w j lj Dj wr)) (fun i _ => m - (intOf i).toNat)
  case atStart => exact ⟨0, Nat.zero_le _, rfl, ⟨l, D, HR0.out⟩⟩
  case round =>
    obtain ⟨j, hj, rfl, HL⟩ := hrel
    obtain ⟨lj, Dj, hl⟩ := HL.out
    clear HL HR0
    by_cases hlt : j < m
    · have hlt2 : (j : Int) < mi := by omega
      have hhas : has lj (T + j) := (hl.hs _).2 ⟨ready_has (by omega) (by rw [HRR.out]; omega), Int.le_refl _⟩
      have hval := hl.gat.val _ hhas
      have hTb : 0 ≤ T + (j : Int) ∧ T + (j : Int) ≤ 1099511627776 := by have a := hl.gat.b0; have b := hl.gat.b1; have c := hl.gat.b2; omega
      have hTb2 : T + (j : Int) < 1099511627776 := by have a := hl.gat.hin _ hhas; have c := hl.gat.b2; omega
      obtain ⟨hBX, p0, v0, hv0⟩ := bld_cells hl.bld
      have h0 : j = 0 → v0.ownBlock = none := by
        intro e
        obtain ⟨⟨p, hp⟩, _⟩ := hl.nil e
        rw [hp] at hv0
        injection hv0 with hv0
        injection hv0 with hv0
        have := congrArg (fun a : Array Value => a.toList) hv0
        have ev := (List.cons.inj (List.cons.inj this).2).1
        rw [← ev]; rfl
      obtain ⟨hr1, hg2, hh2⟩ := gat_take hl.gat hhas
      have HL := Aside0.mk hl
      have HV0 := Aside0.mk (And.intro hv0 h0)
      have HG2 := Aside0.mk (And.intro hr1 (And.intro hg2 hh2))
      have HTB := Aside0.mk (And.intro hTb hTb2)
      have eW : IntKind.i64.wrap (T + (j : Int) + 1) = T + (j : Int) + 1 := IntWalk.i64_in _ (by omega)
      clear hhas hr1 hg2 hh2 hTb hTb2 hBX
      go_wp2
      refine Read_r5 g gm gs n w.heap.size X lj (T + j) H F (d (T + j)) Dj p0 v0 (Lib.byteCells (bytesFrom d T j)) _ _ _ _ (by rfl) (by rfl) (by rfl) hl.buf HTB.out.1 hval hl.bld hv0 (by rw [Lib.byteCells_length, bytesFrom_len]; omega) hl.tri.1 ?_
      intro σ W6 ⟨hb6, hk6, hB6⟩
      have HW6 := Aside0.mk (And.intro hb6 (HL.out.wrote HV0.out.1 HV0.out.2 hk6 hB6))
      simp only [lazyA, lazyT, gr5_tab, List.zipWith_cons_cons, List.zipWith_nil_left, cond_true]
      clear hl hval hv0 h0 hb6 hk6 hB6
      rename_i K0 hK0
      refine hK0 _ _ ?_
      go_wp2
      refine Read_r6 g gm gs n lj (T + j) H F Dj _ _ _ _ (by rfl) (by rfl) HW6.out.2.1 HTB.out.1 ?_
      intro σ2 W7 ⟨hm7, hk7, hl7⟩
      have HB7 := Aside0.mk (show BufAt W7 g gm gs n lj (T + j) H F (Dj.del (kn (T + j))) from ⟨(hk7.2 g (lt_of_block HW6.out.2.1.blk) (fun e => HNE.out.1 e.symm)).trans HW6.out.2.1.blk, hm7, HW6.out.2.1.set.far hk7 (fun q hq i => by subst hq; rw [cell_map HW6.out.2.1.mp]; simp) HNE.out.2.2⟩)
      have HK7 := Aside0.mk (And.intro hk7 hl7)
      simp only [lazyA, lazyT, gr6_tab, List.zipWith_cons_cons, List.zipWith_nil_left, cond_true]
      clear hm7 hk7 hl7
      rename_i K1 hK1
      refine hK1 _ _ ?_
      go_wp2
      refine Read_r7 g gm gs n lj (T + j) H F (Dj.del (kn (T + j))) _ _ _ _ (by rfl) (by rfl) HB7.out HL.out.gat.w ?_
      intro σ3 W8 ⟨hs8, ho8⟩
      rw [HG2.out.1] at hs8
      have HB8 := Aside0.mk (show BufAt W8 g gm gs n (rem (T + j) (T + j) lj) (T + j) H F (Dj.del (kn (T + j))) from ⟨(ho8.block g (lt_of_block HB7.out.blk) (by intro e; injection e with e; exact HNE.out.2.1 e.symm)).trans HB7.out.blk, HB7.out.mp.move (ho8.block gm HB7.out.mp.lt (by intro e; injection e with e; exact HNE.out.2.2 e.symm)), hs8⟩)
      have HK8 := Aside0.mk ho8
      have c2 := HB8.out.cells.2.2.1
      have z2 := HB8.out.free 2
      simp only [lazyA, lazyT, gr7_tab, List.zipWith_cons_cons, List.zipWith_nil_left, cond_true]
      clear hs8 ho8
      rename_i K2 hK2
      refine hK2 _ _ ?_
      go_wp2
      go_roundw
      case rel =>
        have hl := HL.out
        have eT : T + ((j + 1 : Nat) : Int) = T + (j : Int) + 1 := by omega
        have hk9 : Kept W8 (W8.setCell ⟨g, 2, none⟩ (.int .i64 (T + (j : Int) + 1))) (fun q => q = g) := ⟨by simp [World.setCell], fun k hk hn => Below.heap_setCell _ _ _ _ hn⟩
        have hb9 : BufAt (W8.setCell ⟨g, 2, none⟩ (.int .i64 (T + (j : Int) + 1))) g gm gs n (rem (T + j) (T + j) lj) (T + (j : Int) + 1) H F (Dj.del (kn (T + j))) := HB8.out.setF HNE.out.1 HNE.out.2.1 2 _ rfl
        refine ⟨j + 1, by omega, by simp, ⟨_, _, ⟨by rw [eT]; exact hb9, by rw [eT]; exact HG2.out.2.1, fun x => ?_, ?_, (fun e => by omega), ?_, fun B b1 b2 b3 b4 => ?_, hl.lg, hl.lm, hl.ls⟩⟩⟩
        · rw [HG2.out.2.2 x, hl.hs x, eT]
          constructor
          · rintro ⟨⟨a, _⟩, b⟩; exact ⟨a, b⟩
          · rintro ⟨a, b⟩; exact ⟨⟨a, by omega⟩, b⟩
        · rw [bytesFrom_snoc HDD.out]
          exact bld_kept (bld_kept (bld_kept (.inr HW6.out.1) HK7.out.1 (fun q hq => by have := hl.lm; omega)) (kept_only HK8.out) (fun q hq => by have := hl.ls; omega)) hk9 (fun q hq => by have := hl.lg; omega)
        · exact ((HW6.out.2.2.1.then_ HK7.out.1 (fun k hk => .inl (.inr (.inl hk)))).then_ (kept_only HK8.out) (fun k hk => .inl (.inr (.inr hk)))).then_ hk9 (fun k hk => .inl (.inl hk))
        · have x6 := HW6.out.2.2.2 B b1 b2 b3 b4
          have x7 := x6.trans (HK7.out.2 B b2 (Nat.le_trans b4 x6.size))
          have x8 := low_only x7 HK8.out b3 (Nat.le_trans b4 x7.size)
          exact x8.setCell (p := ⟨g, 2, none⟩) b1 _
      case measure => simp [intOf]; omega
    · have hjm : j = m := by omega
      subst hjm
      have hlt2 : ¬ (j : Int) < mi := by omega
      have HS := Aside0.mk (read_str hl HGT.out HBF.out)
      clear hl HBF HGT HDD HNE HXW
      go_wp2_with (first
        | (go_at_call 60; refine HS.out.mono ?_; rintro e w4 ⟨rfl, l', D', hb⟩; have HB := Aside0.mk hb; clear hb)
        | (go_at_call 56; refine (GDone_calls g gm gs n l' (T + (j : Int)) H F D' _ HB.out.1).mono ?_; rintro e w5 ⟨rfl, hb⟩; have HC := Aside0.mk hb; clear hb))
      go_ret2
      obtain ⟨b1, b2, b3, b4, b5⟩ := HB.out
      have hc := HC.out
      have s4 := fun B h1 h2 h3 h4 => (b5 B h1 h2 h3 h4).size
      exact ⟨j, l', D', HMI.out, by simp only [hm]; rfl, b1.below hc, b2, b3, b4.then_ (Kept.of_below hc (fun _ => False)) (fun k hk => hk.elim), fun B h1 h2 h3 h4 => (b5 B h1 h2 h3 h4).trans (hc.mono (by have := (b5 B h1 h2 h3 h4).size; have := b4.1; omega))⟩
end Go.Proofs.Ytiladcdogbeomaa.QRangesPlays
