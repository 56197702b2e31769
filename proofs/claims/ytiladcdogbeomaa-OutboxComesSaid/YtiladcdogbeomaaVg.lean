/- Law 24 (outbox): contracts of functions that its statements reach, and plain laws behind them (part 7). No condition. -/
import Derived.Test.YtiladcdogbeomaaVf
namespace Go.Proofs.Ytiladcdogbeomaa.QRangesPlays
open Go.RowKit Go.Shelf Go.Proofs.YtiladcdogbeomaaW.PrintWords Go.Proofs.YtiladcdogbeomaaW.PrintLast Go.Proofs.YtiladcdogbeomaaW.PrintMore Go.Proofs.Ytiladcdogbeomaa.RowLaws Go.Proofs.Ytiladcdogbeomaa.Lazy
open Go.Maps
attribute [local go_sem] Oper.semAt_some
attribute [local go_sem] max2_int max_two
theorem byte_at {s : ByteArray} {i : Nat} {c : Int} (h : s[i]?.map (fun b => (b.toNat : Int)) = some c) : 0 ≤ c ∧ c < 256 := by
  cases hb : s[i]? with
  | none => rw [hb] at h; cases h
  | some b =>
    rw [hb] at h
    have h2 : (b.toNat : Int) = c := Option.some.inj h
    have := b.toNat_lt
    omega
theorem str_at {s : ByteArray} {off x c : Int} {M : Int} (hx : 0 ≤ off ∧ off ≤ x ∧ x ≤ M ∧ x - off < s.size) (h : s[(x - off).toNat]?.map (fun b => (b.toNat : Int)) = some c) : ((s[(x - off).toNat]'(by omega)).toNat : Int) = c := by
  have hi : (x - off).toNat < s.size := by omega
  rw [ByteArray.getElem?_lt' s _ hi] at h
  exact Option.some.inj h
theorem wf8 {c : Int} (h : 0 ≤ c ∧ c < 256) : (Lit.int .u8 c).wf = true := by
  simp [Lit.wf, IntKind.min, IntKind.max, IntKind.signed, IntKind.bits]; omega
theorem stable_gq8 {W W' : World} {B : Nat} {v : Value} {l : List S95} (h : OwnS W B v l) (hb : Below W.heap.size W W') : OwnS W' B v l := h.below hb
abbrev gq8_ops : List Oper := [{ dst := some 43, op := .move (.tmp 0), type := 25, pos := "gather.go:49", after := #[], guard := none },
  { dst := some 44, op := .nilCheck (.tmp 43), type := 0, pos := "gather.go:49", after := #[⟨0, .data⟩], guard := none },
  { dst := some 45, op := .fieldAddr 102 (.tmp 44) 1, type := 0, pos := "gather.go:49", after := #[⟨1, .data⟩], guard := none },
  { dst := some 46, op := .load 70 (.tmp 45), type := 70, pos := "gather.go:49", after := #[⟨2, .data⟩], guard := none },
  { dst := some 47, op := .move (.tmp 1), type := 3, pos := "gather.go:49", after := #[], guard := none },
  { dst := some 48, op := .move (.tmp 0), type := 25, pos := "gather.go:49", after := #[], guard := none },
  { dst := some 49, op := .nilCheck (.tmp 48), type := 0, pos := "gather.go:49", after := #[⟨5, .data⟩], guard := none },
  { dst := some 50, op := .fieldAddr 102 (.tmp 49) 2, type := 0, pos := "gather.go:49", after := #[⟨6, .data⟩], guard := none },
  { dst := some 51, op := .load 3 (.tmp 50), type := 3, pos := "gather.go:49", after := #[⟨7, .data⟩], guard := none },
  { dst := some 52, op := .call { callee := .builtin .max, args := #[.tmp 47, .tmp 51], argTypes := #[3, 3] }, type := 3, pos := "gather.go:49", after := #[⟨4, .data⟩, ⟨8, .data⟩], guard := none },
  { dst := some 53, op := .move (.tmp 9), type := 3, pos := "gather.go:49", after := #[], guard := none },
  { dst := some 54, op := .binOp .sub 3 (.tmp 53) (.const (.int .i64 1)) 3, type := 3, pos := "gather.go:49", after := #[⟨10, .data⟩], guard := none },
  { dst := some 55, op := .call { callee := .value (.func 46), args := #[.tmp 46, .tmp 52, .tmp 54], argTypes := #[70, 3, 3] }, type := 74, pos := "gather.go:49", after := #[⟨3, .data⟩, ⟨9, .data⟩, ⟨11, .data⟩], guard := none },
  { dst := some 10, op := .assign (.tmp 55), type := 74, pos := "gather.go:49", after := #[⟨12, .data⟩, ⟨12, .chain⟩, ⟨0, .phase⟩, ⟨1, .phase⟩, ⟨2, .phase⟩, ⟨3, .phase⟩, ⟨4, .phase⟩, ⟨5, .phase⟩, ⟨6, .phase⟩, ⟨7, .phase⟩, ⟨8, .phase⟩, ⟨9, .phase⟩, ⟨10, .phase⟩, ⟨11, .phase⟩, ⟨12, .phase⟩], guard := none }]
abbrev gq8_tab : List (Option Nat) := [none, none, none, none, none, none, none, none, none, none, some 13, none, none, none, none, none, none, none, none, none, none, none, none, none, none, none, none, none, none, none, none, none, none, none, none, none, none, none, none, none, none, none, none, some 0, some 1, some 2, some 3, some 4, some 5, some 6, some 7, some 8, some 9, some 10, some 11, some 12, none, none, none, none, none, none, none, none, none, none, none, none, none, none, none, none, none, none, none, none, none, none, none, none, none, none, none, none, none, none, none, none, none, none, none, none, none, none, none, none, none, none, none, none, none, none, none, none, none, none, none, none, none, none, none, none, none, none, none, none, none, none, none, none, none, none, none, none, none, none]

def gq8_val (g gm gs n B : Nat) (l : List S95) (T H F off e : Int) (D : DM) : Nat → Value → World → Prop := fun j v W => match j with
  | 0 => v = .pointer (some ⟨g, 0, none⟩)
  | 1 => v = .pointer (some ⟨g, 0, none⟩)
  | 2 => v = .pointer (some ⟨g, 1, none⟩)
  | 3 => v = .pointer (some ⟨gs, 0, none⟩)
  | 4 => v = .int .i64 off
  | 5 => v = .pointer (some ⟨g, 0, none⟩)
  | 6 => v = .pointer (some ⟨g, 0, none⟩)
  | 7 => v = .pointer (some ⟨g, 2, none⟩)
  | 8 => v = .int .i64 T
  | 9 => v = .int .i64 (if off < T then T else off)
  | 10 => v = .int .i64 e
  | 11 => v = .int .i64 (e - 1)
  | 12 => OwnS W B v (gapsL (if off < T then T else off) (e - 1) l)
  | 13 => OwnS W B v (gapsL (if off < T then T else off) (e - 1) l)
  | _ => True

set_option maxRecDepth 100000 in
set_option maxHeartbeats 4000000 in
theorem GPut_r8 (g gm gs n B : Nat) (l : List S95) (T H F off e : Int) (D : DM) (t0 : List Value) (d0 : List Deferred) (w : World) (Q : Exit → Act → World → Prop) (hl : t0.length = gq8_tab.length)
    (t0_ : t0[0]? = some (.pointer (some ⟨g, 0, none⟩))) (t1 : t0[1]? = some (.int .i64 off)) (t9 : t0[9]? = some (.int .i64 e)) (h : BufAt w g gm gs n l T H F D) (hw : wf 0 l) (he : 0 ≤ e ∧ e ≤ 1099511627776) (hBw : B ≤ w.heap.size)
    (hQ : ∀ σ W, Below w.heap.size w W → OwnS W B (σ 13) (gapsL (if off < T then T else off) (e - 1) l) → Q .normal (lazyA (fun _ => true) σ t0 gq8_tab d0) W) :
    (Code.region 8 gq8_ops.toArray true).wp Try.prog Q { tmps := t0.toArray, defers := d0 } w := by
  refine wp_region_vals (by kernel_rfl) gq8_tab (by kernel_rfl) hl (fun W W' => Below W.heap.size W W') (fun _ => True) (gq8_val g gm gs n B l T H F off e D) (below_drew (Below.refl _ _)) trivial (fun _ _ _ h k => below_step h k) ?hst ⟨(fun j b h => by cases h), (fun j b h => by cases h), (fun j b h => by cases h), (fun j b h => by cases h), (fun j b h => by cases h), (fun j b h => by cases h), (fun j b h => by cases h), (fun j b h => by cases h), (fun j b h => by cases h), (fun j b h => by cases h), (fun j b h => by cases h), (fun j b h => by cases h), (fun j b h => by cases h), (fun j b h => by cases h), trivial⟩ ⟨?s0, ?s1, ?s2, ?s3, ?s4, ?s5, ?s6, ?s7, ?s8, ?s9, ?s10, ?s11, ?s12, ?s13, trivial⟩ ?hdone
  case hst =>
    intro j v W W' hJ hR h
    match j with
    | 0 => exact h
    | 1 => exact h
    | 2 => exact h
    | 3 => exact h
    | 4 => exact h
    | 5 => exact h
    | 6 => exact h
    | 7 => exact h
    | 8 => exact h
    | 9 => exact h
    | 10 => exact h
    | 11 => exact h
    | 12 => exact stable_gq8 h hR
    | 13 => exact stable_gq8 h hR
    | n + 14 => trivial

  case s0 =>
    intro ρ W hR hJ hT
    have q0 := hT.2.1 0 _ t0_ rfl
    refine Op1.of_run (v := .pointer (some ⟨g, 0, none⟩)) (W' := W) (by clear hT hJ; go_simp) ⟨Below.refl _ _, trivial, rfl⟩

  case s1 =>
    intro ρ W hR hJ hT
    have q43 : ρ (.tmp 43) = .pointer (some ⟨g, 0, none⟩) := hT.1 43 0 rfl rfl
    refine Op1.of_run (v := .pointer (some ⟨g, 0, none⟩)) (W' := W) (by clear hT hJ; go_simp) ⟨Below.refl _ _, trivial, rfl⟩

  case s2 =>
    intro ρ W hR hJ hT
    have q44 : ρ (.tmp 44) = .pointer (some ⟨g, 0, none⟩) := hT.1 44 1 rfl rfl
    refine Op1.of_run (v := .pointer (some ⟨g, 1, none⟩)) (W' := W) (by clear hT hJ; go_simp) ⟨Below.refl _ _, trivial, rfl⟩

  case s3 =>
    intro ρ W hR hJ hT
    have q45 : ρ (.tmp 45) = .pointer (some ⟨g, 1, none⟩) := hT.1 45 2 rfl rfl
    have cc := (hR.cell (World.block_lt_of_cell? _ _ (h.cells.2.1))).trans (h.cells.2.1)
    refine Op1.of_run (v := .pointer (some ⟨gs, 0, none⟩)) (W' := W) (by clear hT hJ; go_simp) ⟨Below.refl _ _, trivial, rfl⟩

  case s4 =>
    intro ρ W hR hJ hT
    have q1 := hT.2.1 1 _ t1 rfl
    refine Op1.of_run (v := .int .i64 off) (W' := W) (by clear hT hJ; go_simp) ⟨Below.refl _ _, trivial, rfl⟩

  case s5 =>
    intro ρ W hR hJ hT
    have q0 := hT.2.1 0 _ t0_ rfl
    refine Op1.of_run (v := .pointer (some ⟨g, 0, none⟩)) (W' := W) (by clear hT hJ; go_simp) ⟨Below.refl _ _, trivial, rfl⟩

  case s6 =>
    intro ρ W hR hJ hT
    have q48 : ρ (.tmp 48) = .pointer (some ⟨g, 0, none⟩) := hT.1 48 5 rfl rfl
    refine Op1.of_run (v := .pointer (some ⟨g, 0, none⟩)) (W' := W) (by clear hT hJ; go_simp) ⟨Below.refl _ _, trivial, rfl⟩

  case s7 =>
    intro ρ W hR hJ hT
    have q49 : ρ (.tmp 49) = .pointer (some ⟨g, 0, none⟩) := hT.1 49 6 rfl rfl
    refine Op1.of_run (v := .pointer (some ⟨g, 2, none⟩)) (W' := W) (by clear hT hJ; go_simp) ⟨Below.refl _ _, trivial, rfl⟩

  case s8 =>
    intro ρ W hR hJ hT
    have q50 : ρ (.tmp 50) = .pointer (some ⟨g, 2, none⟩) := hT.1 50 7 rfl rfl
    have cc := (hR.cell (World.block_lt_of_cell? _ _ (h.cells.2.2.1))).trans (h.cells.2.2.1)
    refine Op1.of_run (v := .int .i64 T) (W' := W) (by clear hT hJ; go_simp) ⟨Below.refl _ _, trivial, rfl⟩

  case s9 =>
    intro ρ W hR hJ hT
    have q47 : ρ (.tmp 47) = .int .i64 off := hT.1 47 4 rfl rfl
    have q51 : ρ (.tmp 51) = .int .i64 T := hT.1 51 8 rfl rfl
    refine Op1.of_run (v := .int .i64 (if off < T then T else off)) (W' := W) (by clear hT hJ; go_simp) ⟨Below.refl _ _, trivial, rfl⟩

  case s10 =>
    intro ρ W hR hJ hT
    have q9 := hT.2.1 9 _ t9 rfl
    refine Op1.of_run (v := .int .i64 e) (W' := W) (by clear hT hJ; go_simp) ⟨Below.refl _ _, trivial, rfl⟩

  case s11 =>
    intro ρ W hR hJ hT
    have q53 : ρ (.tmp 53) = .int .i64 e := hT.1 53 10 rfl rfl
    have qc := hT.2.2.1 (Go.Value.int Go.IntKind.i64 1)
    have e1 : IntKind.i64.wrap (e - 1) = e - 1 := IntWalk.i64_in _ (by omega)
    refine Op1.of_run (v := .int .i64 (e - 1)) (W' := W) (by clear hT hJ; go_simp) ⟨Below.refl _ _, trivial, rfl⟩

  case s12 =>
    intro ρ W hR hJ hT
    have q46 : ρ (.tmp 46) = .pointer (some ⟨gs, 0, none⟩) := hT.1 46 3 rfl rfl
    have q52 : ρ (.tmp 52) = .int .i64 (if off < T then T else off) := hT.1 52 9 rfl rfl
    have q54 : ρ (.tmp 54) = .int .i64 (e - 1) := hT.1 54 11 rfl rfl
    have qf := hT.2.2.2 46
    refine Op1.of_call (f := 46) (args := #[.pointer (some ⟨gs, 0, none⟩), .int .i64 (if off < T then T else off), .int .i64 (e - 1)]) (W' := W) (by clear hT hJ; go_simp) ?_
    refine (Gaps_calls gs (if off < T then T else off) (e - 1) l W (h.below hR).set hw).mono ?_
    rintro e2 W2 ⟨v, rfl, ho, hb⟩
    exact ⟨v, rfl, hb, trivial, ho.lower (Nat.le_trans hBw hR.size)⟩

  case s13 =>
    intro ρ W hR hJ hT
    have z55 := hT.1 55 12 rfl rfl
    generalize hq : ρ (.tmp 55) = v at z55
    refine Op1.of_run (v := v) (W' := W) (by clear hT hJ; go_simp) ⟨Below.refl _ _, trivial, z55⟩

  case hdone =>
    intro σ W hR hJ hV
    exact hQ σ W hR (hV 13 (by decide))
abbrev gq23_ops : List Oper := [{ dst := some 92, op := .move (.tmp 0), type := 25, pos := "gather.go:59", after := #[], guard := none },
  { dst := some 93, op := .nilCheck (.tmp 92), type := 0, pos := "gather.go:59", after := #[⟨0, .data⟩], guard := none },
  { dst := some 94, op := .fieldAddr 102 (.tmp 93) 0, type := 0, pos := "gather.go:59", after := #[⟨1, .data⟩], guard := none },
  { dst := some 95, op := .load 100 (.tmp 94), type := 100, pos := "gather.go:59", after := #[⟨2, .data⟩], guard := none },
  { dst := some 96, op := .move (.tmp 16), type := 3, pos := "gather.go:59", after := #[], guard := none },
  { dst := some 97, op := .move (.tmp 2), type := 9, pos := "gather.go:59", after := #[], guard := none },
  { dst := some 98, op := .move (.tmp 16), type := 3, pos := "gather.go:59", after := #[], guard := none },
  { dst := some 99, op := .move (.tmp 1), type := 3, pos := "gather.go:59", after := #[], guard := none },
  { dst := some 100, op := .binOp .sub 3 (.tmp 98) (.tmp 99) 3, type := 3, pos := "gather.go:59", after := #[⟨6, .data⟩, ⟨7, .data⟩], guard := none },
  { dst := some 101, op := .index 9 (.tmp 97) (.tmp 100), type := 5, pos := "gather.go:59", after := #[⟨5, .data⟩, ⟨8, .data⟩], guard := none },
  { dst := none, op := .mapUpdate 100 (.tmp 95) (.tmp 96) (.tmp 101), type := 0, pos := "gather.go:59", after := #[⟨3, .data⟩, ⟨4, .data⟩, ⟨9, .data⟩, ⟨0, .phase⟩, ⟨1, .phase⟩, ⟨2, .phase⟩, ⟨3, .phase⟩, ⟨4, .phase⟩, ⟨5, .phase⟩, ⟨6, .phase⟩, ⟨7, .phase⟩, ⟨8, .phase⟩, ⟨9, .phase⟩], guard := none }]
abbrev gq23_tab : List (Option Nat) := [none, none, none, none, none, none, none, none, none, none, none, none, none, none, none, none, none, none, none, none, none, none, none, none, none, none, none, none, none, none, none, none, none, none, none, none, none, none, none, none, none, none, none, none, none, none, none, none, none, none, none, none, none, none, none, none, none, none, none, none, none, none, none, none, none, none, none, none, none, none, none, none, none, none, none, none, none, none, none, none, none, none, none, none, none, none, none, none, none, none, none, none, some 0, some 1, some 2, some 3, some 4, some 5, some 6, some 7, some 8, some 9, none, none, none, none, none, none, none, none, none, none, none, none, none, none, none, none, none, none, none, none, none, none, none, none]

def gq23_val (g gm gs n : Nat) (l : List S95) (T H F off x c : Int) (s : ByteArray) (D : DM) : Nat → Value → World → Prop := fun j v W => match j with
  | 0 => v = .pointer (some ⟨g, 0, none⟩)
  | 1 => v = .pointer (some ⟨g, 0, none⟩)
  | 2 => v = .pointer (some ⟨g, 0, none⟩)
  | 3 => v = .map (some gm)
  | 4 => v = .int .i64 x
  | 5 => v = .string s
  | 6 => v = .int .i64 x
  | 7 => v = .int .i64 off
  | 8 => v = .int .i64 (x - off)
  | 9 => v = .int .u8 c
  | 10 => True
  | _ => True

set_option maxRecDepth 100000 in
set_option maxHeartbeats 4000000 in
theorem GPut_r23 (g gm gs n : Nat) (l : List S95) (T H F off x c : Int) (s : ByteArray) (D : DM) (t0 : List Value) (d0 : List Deferred) (w : World) (Q : Exit → Act → World → Prop) (hl : t0.length = gq23_tab.length)
    (t0_ : t0[0]? = some (.pointer (some ⟨g, 0, none⟩))) (t1 : t0[1]? = some (.int .i64 off)) (t2 : t0[2]? = some (.string s)) (t16 : t0[16]? = some (.int .i64 x)) (h : BufAt w g gm gs n l T H F D)
    (hx : 0 ≤ off ∧ off ≤ x ∧ x ≤ 1099511627776 ∧ x - off < s.size) (hc : s[(x - off).toNat]?.map (fun b => (b.toNat : Int)) = some c) (hn : n < maxLen)
    (hQ : ∀ σ W, (WMap W gm (n + 1) (D.put (kn x) (.lit (.int .u8 c))) ∧ Kept w W (fun k => k = gm) ∧ (∀ B, B ≤ gm → B ≤ w.heap.size → Below B w W)) → Q .normal (lazyA (fun _ => true) σ t0 gq23_tab d0) W) :
    (Code.region 23 gq23_ops.toArray true).wp Try.prog Q { tmps := t0.toArray, defers := d0 } w := by
  refine wp_region_valsO (by kernel_rfl) gq23_tab (by kernel_rfl) hl (fun i => [].contains i) (fun i W W' => True) (fun L W => (L 10 = false → Below w.heap.size w W) ∧ (L 10 = true → (WMap W gm (n + 1) (D.put (kn x) (.lit (.int .u8 c))) ∧ Kept w W (fun k => k = gm) ∧ (∀ B, B ≤ gm → B ≤ w.heap.size → Below B w W)))) (gq23_val g gm gs n l T H F off x c s D) (⟨fun _ => below_drew (Below.refl _ _), fun e => by cases e⟩) ?hst ⟨⟨(fun j b h => by cases h), fun _ => rfl⟩, ⟨(fun j b h => by cases h), fun _ => rfl⟩, ⟨(fun j b h => by cases h), fun _ => rfl⟩, ⟨(fun j b h => by cases h), fun _ => rfl⟩, ⟨(fun j b h => by cases h), fun _ => rfl⟩, ⟨(fun j b h => by cases h), fun _ => rfl⟩, ⟨(fun j b h => by cases h), fun _ => rfl⟩, ⟨(fun j b h => by cases h), fun _ => rfl⟩, ⟨(fun j b h => by cases h), fun _ => rfl⟩, ⟨(fun j b h => by cases h), fun _ => rfl⟩, ⟨(fun j b h => by cases h), fun _ => rfl⟩, trivial⟩ ⟨?s0, ?s1, ?s2, ?s3, ?s4, ?s5, ?s6, ?s7, ?s8, ?s9, ?s10, trivial⟩ ?hskip ?hdone
  case hst =>
    intro L i j v W W' hLi hLj hne hcl hR h
    match j with
    | 0 => exact h
    | 1 => exact h
    | 2 => exact h
    | 3 => exact h
    | 4 => exact h
    | 5 => exact h
    | 6 => exact h
    | 7 => exact h
    | 8 => exact h
    | 9 => exact h
    | 10 => exact h
    | n + 11 => trivial

  case s0 =>
    intro _ L ρ W hLi hcl hold hJ hT
    have q0 := hT.2.1 0 _ t0_ rfl
    have nk : L 10 = false := Bool.eq_false_iff.2 fun e => by have a3 := hcl 10 3 (by rfl) e; have a2 := hcl 3 2 (by rfl) a3; have a1 := hcl 2 1 (by rfl) a2; have a0 := hcl 1 0 (by rfl) a1; rw [a0] at hLi; cases hLi
    have hB := hJ.1 nk
    refine Op1.of_run (v := .pointer (some ⟨g, 0, none⟩)) (W' := W) (by clear hT hJ hcl hold; go_simp) ⟨trivial, ⟨fun _ => hB, fun e => by rw [upd_ne (by decide), nk] at e; cases e⟩, rfl⟩

  case s1 =>
    intro _ L ρ W hLi hcl hold hJ hT
    have q92 : ρ (.tmp 92) = .pointer (some ⟨g, 0, none⟩) := hT.1 92 0 rfl rfl
    have nk : L 10 = false := Bool.eq_false_iff.2 fun e => by have a3 := hcl 10 3 (by rfl) e; have a2 := hcl 3 2 (by rfl) a3; have a1 := hcl 2 1 (by rfl) a2; rw [a1] at hLi; cases hLi
    have hB := hJ.1 nk
    refine Op1.of_run (v := .pointer (some ⟨g, 0, none⟩)) (W' := W) (by clear hT hJ hcl hold; go_simp) ⟨trivial, ⟨fun _ => hB, fun e => by rw [upd_ne (by decide), nk] at e; cases e⟩, rfl⟩

  case s2 =>
    intro _ L ρ W hLi hcl hold hJ hT
    have q93 : ρ (.tmp 93) = .pointer (some ⟨g, 0, none⟩) := hT.1 93 1 rfl rfl
    have nk : L 10 = false := Bool.eq_false_iff.2 fun e => by have a3 := hcl 10 3 (by rfl) e; have a2 := hcl 3 2 (by rfl) a3; rw [a2] at hLi; cases hLi
    have hB := hJ.1 nk
    refine Op1.of_run (v := .pointer (some ⟨g, 0, none⟩)) (W' := W) (by clear hT hJ hcl hold; go_simp) ⟨trivial, ⟨fun _ => hB, fun e => by rw [upd_ne (by decide), nk] at e; cases e⟩, rfl⟩

  case s3 =>
    intro _ L ρ W hLi hcl hold hJ hT
    have q94 : ρ (.tmp 94) = .pointer (some ⟨g, 0, none⟩) := hT.1 94 2 rfl rfl
    have nk : L 10 = false := Bool.eq_false_iff.2 fun e => by have a3 := hcl 10 3 (by rfl) e; rw [a3] at hLi; cases hLi
    have hB := hJ.1 nk
    have cc := (hB.cell (World.block_lt_of_cell? _ _ (h.cells.1))).trans (h.cells.1)
    refine Op1.of_run (v := .map (some gm)) (W' := W) (by clear hT hJ hcl hold; go_simp) ⟨trivial, ⟨fun _ => hB, fun e => by rw [upd_ne (by decide), nk] at e; cases e⟩, rfl⟩

  case s4 =>
    intro _ L ρ W hLi hcl hold hJ hT
    have q16 := hT.2.1 16 _ t16 rfl
    have nk : L 10 = false := Bool.eq_false_iff.2 fun e => by have a4 := hcl 10 4 (by rfl) e; rw [a4] at hLi; cases hLi
    have hB := hJ.1 nk
    refine Op1.of_run (v := .int .i64 x) (W' := W) (by clear hT hJ hcl hold; go_simp) ⟨trivial, ⟨fun _ => hB, fun e => by rw [upd_ne (by decide), nk] at e; cases e⟩, rfl⟩

  case s5 =>
    intro _ L ρ W hLi hcl hold hJ hT
    have q2 := hT.2.1 2 _ t2 rfl
    have nk : L 10 = false := Bool.eq_false_iff.2 fun e => by have a9 := hcl 10 9 (by rfl) e; have a5 := hcl 9 5 (by rfl) a9; rw [a5] at hLi; cases hLi
    have hB := hJ.1 nk
    refine Op1.of_run (v := .string s) (W' := W) (by clear hT hJ hcl hold; go_simp) ⟨trivial, ⟨fun _ => hB, fun e => by rw [upd_ne (by decide), nk] at e; cases e⟩, rfl⟩

  case s6 =>
    intro _ L ρ W hLi hcl hold hJ hT
    have q16 := hT.2.1 16 _ t16 rfl
    have nk : L 10 = false := Bool.eq_false_iff.2 fun e => by have a9 := hcl 10 9 (by rfl) e; have a8 := hcl 9 8 (by rfl) a9; have a6 := hcl 8 6 (by rfl) a8; rw [a6] at hLi; cases hLi
    have hB := hJ.1 nk
    refine Op1.of_run (v := .int .i64 x) (W' := W) (by clear hT hJ hcl hold; go_simp) ⟨trivial, ⟨fun _ => hB, fun e => by rw [upd_ne (by decide), nk] at e; cases e⟩, rfl⟩

  case s7 =>
    intro _ L ρ W hLi hcl hold hJ hT
    have q1 := hT.2.1 1 _ t1 rfl
    have nk : L 10 = false := Bool.eq_false_iff.2 fun e => by have a9 := hcl 10 9 (by rfl) e; have a8 := hcl 9 8 (by rfl) a9; have a7 := hcl 8 7 (by rfl) a8; rw [a7] at hLi; cases hLi
    have hB := hJ.1 nk
    refine Op1.of_run (v := .int .i64 off) (W' := W) (by clear hT hJ hcl hold; go_simp) ⟨trivial, ⟨fun _ => hB, fun e => by rw [upd_ne (by decide), nk] at e; cases e⟩, rfl⟩

  case s8 =>
    intro _ L ρ W hLi hcl hold hJ hT
    have q98 : ρ (.tmp 98) = .int .i64 x := hT.1 98 6 rfl rfl
    have q99 : ρ (.tmp 99) = .int .i64 off := hT.1 99 7 rfl rfl
    have nk : L 10 = false := Bool.eq_false_iff.2 fun e => by have a9 := hcl 10 9 (by rfl) e; have a8 := hcl 9 8 (by rfl) a9; rw [a8] at hLi; cases hLi
    have hB := hJ.1 nk
    have e1 : IntKind.i64.wrap (x - off) = x - off := IntWalk.i64_in _ (by omega)
    refine Op1.of_run (v := .int .i64 (x - off)) (W' := W) (by clear hT hJ hcl hold; go_simp) ⟨trivial, ⟨fun _ => hB, fun e => by rw [upd_ne (by decide), nk] at e; cases e⟩, rfl⟩

  case s9 =>
    intro _ L ρ W hLi hcl hold hJ hT
    have q97 : ρ (.tmp 97) = .string s := hT.1 97 5 rfl rfl
    have q100 : ρ (.tmp 100) = .int .i64 (x - off) := hT.1 100 8 rfl rfl
    have nk : L 10 = false := Bool.eq_false_iff.2 fun e => by have a9 := hcl 10 9 (by rfl) e; rw [a9] at hLi; cases hLi
    have hB := hJ.1 nk
    have hcc := str_at hx hc
    have hhx : 0 ≤ x - off ∧ x - off < s.size := ⟨by omega, hx.2.2.2⟩
    have hrun := run_index_string (P := Try.prog) W 9 s .i64 (x - off) Try.underlying9
    rw [dif_pos hhx, hcc] at hrun
    refine Op1.of_run (v := .int .u8 c) (W' := W) (by clear hT hJ hcl hold; go_simp) ⟨trivial, ⟨fun _ => hB, fun e => by rw [upd_ne (by decide), nk] at e; cases e⟩, rfl⟩

  case s10 =>
    intro _ L ρ W hLi hcl hold hJ hT
    have q95 : ρ (.tmp 95) = .map (some gm) := hT.1 95 3 rfl rfl
    have q96 : ρ (.tmp 96) = .int .i64 x := hT.1 96 4 rfl rfl
    have q101 : ρ (.tmp 101) = .int .u8 c := hT.1 101 9 rfl rfl
    have hB := hJ.1 hLi
    obtain ⟨W2, hrun, hm2, htn⟩ := World.ownsMap.store (h.below hB).mp km Try.underlying100 hn (keyOf_int_mk Try.underlying3 (wfT ⟨by omega, hx.2.2.1⟩)) (plainElem_int (H := Unit) Try.underlying5 (wf8 (byte_at hc)))
    have hgr := htn.grown
    exact Op1.of_skip (W' := W2) (by clear hT hJ hcl hold; go_simp) ⟨trivial, ⟨(fun e => by rw [upd_self] at e; cases e), fun _ => ⟨hm2, (Kept.of_below hB _).then_ (kept_grown hgr) (fun _ hk => .inl hk), fun B h1 h2 => (hB.mono h2).grown hgr (Nat.le_trans h2 hB.size) (fun k hk => by injection hk with hk; omega)⟩⟩, trivial⟩

  case hskip => intro i hi; simp at hi

  case hdone =>
    intro σ L W hL hJ hV
    exact hQ σ W (hJ.2 (hL 10 (by decide)))
abbrev gq24_ops : List Oper := [{ dst := some 102, op := .move (.tmp 0), type := 25, pos := "gather.go:61", after := #[], guard := none },
  { dst := some 103, op := .nilCheck (.tmp 102), type := 0, pos := "gather.go:61", after := #[⟨0, .data⟩], guard := none },
  { dst := some 104, op := .fieldAddr 102 (.tmp 103) 1, type := 0, pos := "gather.go:61", after := #[⟨1, .data⟩], guard := none },
  { dst := some 105, op := .load 70 (.tmp 104), type := 70, pos := "gather.go:61", after := #[⟨2, .data⟩], guard := none },
  { dst := some 106, op := .fieldAddr 95 (.tmp 15) 0, type := 0, pos := "gather.go:61", after := #[], guard := none },
  { dst := some 107, op := .load 3 (.tmp 106), type := 3, pos := "gather.go:61", after := #[⟨4, .data⟩], guard := none },
  { dst := some 108, op := .fieldAddr 95 (.tmp 15) 1, type := 0, pos := "gather.go:61", after := #[], guard := none },
  { dst := some 109, op := .load 3 (.tmp 108), type := 3, pos := "gather.go:61", after := #[⟨6, .data⟩], guard := none },
  { dst := some 110, op := .call { callee := .value (.func 37), args := #[.tmp 105, .tmp 107, .tmp 109], argTypes := #[70, 3, 3] }, type := 4, pos := "gather.go:61", after := #[⟨3, .data⟩, ⟨5, .data⟩, ⟨7, .data⟩], guard := none }]
abbrev gq24_tab : List (Option Nat) := [none, none, none, none, none, none, none, none, none, none, none, none, none, none, none, none, none, none, none, none, none, none, none, none, none, none, none, none, none, none, none, none, none, none, none, none, none, none, none, none, none, none, none, none, none, none, none, none, none, none, none, none, none, none, none, none, none, none, none, none, none, none, none, none, none, none, none, none, none, none, none, none, none, none, none, none, none, none, none, none, none, none, none, none, none, none, none, none, none, none, none, none, none, none, none, none, none, none, none, none, none, none, some 0, some 1, some 2, some 3, some 4, some 5, some 6, some 7, some 8, none, none, none, none, none, none, none, none, none, none, none, none, none, none, none]

def gq24_val (g gm gs n X : Nat) (l : List S95) (T H F f t : Int) (D : DM) : Nat → Value → World → Prop := fun j v W => match j with
  | 0 => v = .pointer (some ⟨g, 0, none⟩)
  | 1 => v = .pointer (some ⟨g, 0, none⟩)
  | 2 => v = .pointer (some ⟨g, 1, none⟩)
  | 3 => v = .pointer (some ⟨gs, 0, none⟩)
  | 4 => v = .pointer (some ⟨X, 0, none⟩)
  | 5 => v = .int .i64 f
  | 6 => v = .pointer (some ⟨X, 1, none⟩)
  | 7 => v = .int .i64 t
  | 8 => True
  | _ => True

set_option maxRecDepth 100000 in
set_option maxHeartbeats 4000000 in
theorem GPut_r24 (g gm gs n X : Nat) (l : List S95) (T H F f t : Int) (D : DM) (t0 : List Value) (d0 : List Deferred) (w : World) (Q : Exit → Act → World → Prop) (hl : t0.length = gq24_tab.length)
    (t0_ : t0[0]? = some (.pointer (some ⟨g, 0, none⟩))) (t15 : t0[15]? = some (.pointer (some ⟨X, 0, none⟩))) (h : BufAt w g gm gs n l T H F D) (hb : w.heap[X]? = some (.cells #[.int .i64 f, .int .i64 t] 95 (0, 0))) (hw : wf 0 l) (hP : addL f t l = ins f t l)
    (hQ : ∀ σ W, (SetAt W gs (ins f t l) ∧ Only gs w W) → Q .normal (lazyA (fun _ => true) σ t0 gq24_tab d0) W) :
    (Code.region 24 gq24_ops.toArray true).wp Try.prog Q { tmps := t0.toArray, defers := d0 } w := by
  refine wp_region_valsO (by kernel_rfl) gq24_tab (by kernel_rfl) hl (fun i => [].contains i) (fun i W W' => True) (fun L W => (L 8 = false → Below w.heap.size w W) ∧ (L 8 = true → (SetAt W gs (ins f t l) ∧ Only gs w W))) (gq24_val g gm gs n X l T H F f t D) (⟨fun _ => below_drew (Below.refl _ _), fun e => by cases e⟩) ?hst ⟨⟨(fun j b h => by cases h), fun _ => rfl⟩, ⟨(fun j b h => by cases h), fun _ => rfl⟩, ⟨(fun j b h => by cases h), fun _ => rfl⟩, ⟨(fun j b h => by cases h), fun _ => rfl⟩, ⟨(fun j b h => by cases h), fun _ => rfl⟩, ⟨(fun j b h => by cases h), fun _ => rfl⟩, ⟨(fun j b h => by cases h), fun _ => rfl⟩, ⟨(fun j b h => by cases h), fun _ => rfl⟩, ⟨(fun j b h => by cases h), fun _ => rfl⟩, trivial⟩ ⟨?s0, ?s1, ?s2, ?s3, ?s4, ?s5, ?s6, ?s7, ?s8, trivial⟩ ?hskip ?hdone
  case hst =>
    intro L i j v W W' hLi hLj hne hcl hR h
    match j with
    | 0 => exact h
    | 1 => exact h
    | 2 => exact h
    | 3 => exact h
    | 4 => exact h
    | 5 => exact h
    | 6 => exact h
    | 7 => exact h
    | 8 => exact h
    | n + 9 => trivial

  case s0 =>
    intro _ L ρ W hLi hcl hold hJ hT
    have q0 := hT.2.1 0 _ t0_ rfl
    have nk : L 8 = false := Bool.eq_false_iff.2 fun e => by have a3 := hcl 8 3 (by rfl) e; have a2 := hcl 3 2 (by rfl) a3; have a1 := hcl 2 1 (by rfl) a2; have a0 := hcl 1 0 (by rfl) a1; rw [a0] at hLi; cases hLi
    have hB := hJ.1 nk
    refine Op1.of_run (v := .pointer (some ⟨g, 0, none⟩)) (W' := W) (by clear hT hJ hcl hold; go_simp) ⟨trivial, ⟨fun _ => hB, fun e => by rw [upd_ne (by decide), nk] at e; cases e⟩, rfl⟩

  case s1 =>
    intro _ L ρ W hLi hcl hold hJ hT
    have q102 : ρ (.tmp 102) = .pointer (some ⟨g, 0, none⟩) := hT.1 102 0 rfl rfl
    have nk : L 8 = false := Bool.eq_false_iff.2 fun e => by have a3 := hcl 8 3 (by rfl) e; have a2 := hcl 3 2 (by rfl) a3; have a1 := hcl 2 1 (by rfl) a2; rw [a1] at hLi; cases hLi
    have hB := hJ.1 nk
    refine Op1.of_run (v := .pointer (some ⟨g, 0, none⟩)) (W' := W) (by clear hT hJ hcl hold; go_simp) ⟨trivial, ⟨fun _ => hB, fun e => by rw [upd_ne (by decide), nk] at e; cases e⟩, rfl⟩

  case s2 =>
    intro _ L ρ W hLi hcl hold hJ hT
    have q103 : ρ (.tmp 103) = .pointer (some ⟨g, 0, none⟩) := hT.1 103 1 rfl rfl
    have nk : L 8 = false := Bool.eq_false_iff.2 fun e => by have a3 := hcl 8 3 (by rfl) e; have a2 := hcl 3 2 (by rfl) a3; rw [a2] at hLi; cases hLi
    have hB := hJ.1 nk
    refine Op1.of_run (v := .pointer (some ⟨g, 1, none⟩)) (W' := W) (by clear hT hJ hcl hold; go_simp) ⟨trivial, ⟨fun _ => hB, fun e => by rw [upd_ne (by decide), nk] at e; cases e⟩, rfl⟩

  case s3 =>
    intro _ L ρ W hLi hcl hold hJ hT
    have q104 : ρ (.tmp 104) = .pointer (some ⟨g, 1, none⟩) := hT.1 104 2 rfl rfl
    have nk : L 8 = false := Bool.eq_false_iff.2 fun e => by have a3 := hcl 8 3 (by rfl) e; rw [a3] at hLi; cases hLi
    have hB := hJ.1 nk
    have cc := (hB.cell (World.block_lt_of_cell? _ _ (h.cells.2.1))).trans (h.cells.2.1)
    refine Op1.of_run (v := .pointer (some ⟨gs, 0, none⟩)) (W' := W) (by clear hT hJ hcl hold; go_simp) ⟨trivial, ⟨fun _ => hB, fun e => by rw [upd_ne (by decide), nk] at e; cases e⟩, rfl⟩

  case s4 =>
    intro _ L ρ W hLi hcl hold hJ hT
    have q15 := hT.2.1 15 _ t15 rfl
    have nk : L 8 = false := Bool.eq_false_iff.2 fun e => by have a5 := hcl 8 5 (by rfl) e; have a4 := hcl 5 4 (by rfl) a5; rw [a4] at hLi; cases hLi
    have hB := hJ.1 nk
    refine Op1.of_run (v := .pointer (some ⟨X, 0, none⟩)) (W' := W) (by clear hT hJ hcl hold; go_simp) ⟨trivial, ⟨fun _ => hB, fun e => by rw [upd_ne (by decide), nk] at e; cases e⟩, rfl⟩

  case s5 =>
    intro _ L ρ W hLi hcl hold hJ hT
    have q106 : ρ (.tmp 106) = .pointer (some ⟨X, 0, none⟩) := hT.1 106 4 rfl rfl
    have nk : L 8 = false := Bool.eq_false_iff.2 fun e => by have a5 := hcl 8 5 (by rfl) e; rw [a5] at hLi; cases hLi
    have hB := hJ.1 nk
    have c5 := (two_cell hb).1
    have cc := (hB.cell (World.block_lt_of_cell? _ _ c5)).trans c5
    refine Op1.of_run (v := .int .i64 f) (W' := W) (by clear hT hJ hcl hold; go_simp) ⟨trivial, ⟨fun _ => hB, fun e => by rw [upd_ne (by decide), nk] at e; cases e⟩, rfl⟩

  case s6 =>
    intro _ L ρ W hLi hcl hold hJ hT
    have q15 := hT.2.1 15 _ t15 rfl
    have nk : L 8 = false := Bool.eq_false_iff.2 fun e => by have a7 := hcl 8 7 (by rfl) e; have a6 := hcl 7 6 (by rfl) a7; rw [a6] at hLi; cases hLi
    have hB := hJ.1 nk
    refine Op1.of_run (v := .pointer (some ⟨X, 1, none⟩)) (W' := W) (by clear hT hJ hcl hold; go_simp) ⟨trivial, ⟨fun _ => hB, fun e => by rw [upd_ne (by decide), nk] at e; cases e⟩, rfl⟩

  case s7 =>
    intro _ L ρ W hLi hcl hold hJ hT
    have q108 : ρ (.tmp 108) = .pointer (some ⟨X, 1, none⟩) := hT.1 108 6 rfl rfl
    have nk : L 8 = false := Bool.eq_false_iff.2 fun e => by have a7 := hcl 8 7 (by rfl) e; rw [a7] at hLi; cases hLi
    have hB := hJ.1 nk
    have c5 := (two_cell hb).2.1
    have cc := (hB.cell (World.block_lt_of_cell? _ _ c5)).trans c5
    refine Op1.of_run (v := .int .i64 t) (W' := W) (by clear hT hJ hcl hold; go_simp) ⟨trivial, ⟨fun _ => hB, fun e => by rw [upd_ne (by decide), nk] at e; cases e⟩, rfl⟩

  case s8 =>
    intro _ L ρ W hLi hcl hold hJ hT
    have q105 : ρ (.tmp 105) = .pointer (some ⟨gs, 0, none⟩) := hT.1 105 3 rfl rfl
    have q107 : ρ (.tmp 107) = .int .i64 f := hT.1 107 5 rfl rfl
    have q109 : ρ (.tmp 109) = .int .i64 t := hT.1 109 7 rfl rfl
    have hB := hJ.1 hLi
    have qf := hT.2.2.2 37
    refine Op1.of_call (f := 37) (args := #[.pointer (some ⟨gs, 0, none⟩), .int .i64 f, .int .i64 t]) (W' := W) (by clear hT hJ hcl hold; go_simp) ?_
    refine (Add_calls gs f t l W (h.below hB).set hw).mono ?_
    rintro e W2 ⟨rfl, h1, h2, _⟩
    rw [hP] at h1
    exact ⟨_, rfl, trivial, ⟨(fun e => by rw [upd_self] at e; cases e), fun _ => ⟨h1, (Only.of_below hB).trans h2⟩⟩, trivial⟩

  case hskip => intro i hi; simp at hi

  case hdone =>
    intro σ L W hL hJ hV
    exact hQ σ W (hJ.2 (hL 8 (by decide)))
end Go.Proofs.Ytiladcdogbeomaa.QRangesPlays

namespace Go.Proofs.Ytiladcdogbeomaa.QRangesPlays
open Go.RowKit Go.Shelf Go.Proofs.YtiladcdogbeomaaW.PrintWords Go.Proofs.YtiladcdogbeomaaW.PrintLast Go.Proofs.YtiladcdogbeomaaW.PrintMore Go.Proofs.Ytiladcdogbeomaa.RowLaws Go.Proofs.Ytiladcdogbeomaa.Lazy
open Go.Maps
attribute [local go_sem] Oper.semAt_some max2_int min2_int max_two min_two
/-- What a map of places holds: just the places of p, c of them, with d's bytes. -/
structure MI (p : Int → Prop) (c : Int) (d : Int → Int) (D : DM) : Prop where
  ty : Tidy D
  key : ∀ n, p n ↔ Maps.has D (kn n) = true
  sz : (Maps.size D : Int) = c
  val : ∀ n, p n → D.atKey (kn n) (.lit (.int .u8 0)) = .lit (.int .u8 (d n))
theorem kl (x : Int) : WideAt.IsKeyLit (kn x) := trivial
theorem MI.put {p : Int → Prop} {c : Int} {d : Int → Int} {D : DM} (h : MI p c d D) (x : Int) (hx : ¬ p x) : MI (fun n => p n ∨ n = x) (c + 1) d (D.put (kn x) (.lit (.int .u8 (d x)))) := by
  refine ⟨h.ty.put (kl x) _, fun n => ?_, ?_, fun n hn => ?_⟩
  · by_cases e : n = x
    · subst e; rw [has_put_same h.ty.isMap (kl _)]; simp
    · rw [has_put_other (kn_ne e), ← h.key n]; simp [e]
  · have e : Maps.has D (kn x) = false := by
      cases hh : Maps.has D (kn x) with
      | false => rfl
      | true => exact absurd ((h.key x).2 hh) hx
    have := h.sz
    rw [size_put h.ty, e]; simp; omega
  · by_cases e : n = x
    · subst e; exact atKey_put_same h.ty.isMap (kl _) _ _
    · rw [atKey_put_other (kn_ne e)]; exact h.val n (hn.resolve_right e)
theorem MI.congr {p q : Int → Prop} {c c' : Int} {d : Int → Int} {D : DM} (h : MI p c d D) (hp : ∀ n, q n ↔ p n) (hc : c' = c) : MI q c' d D :=
  ⟨h.ty, fun n => (hp n).trans (h.key n), by rw [hc]; exact h.sz, fun n hn => h.val n ((hp n).1 hn)⟩
theorem MI.other {p : Int → Prop} {c : Int} {d d' : Int → Int} {D : DM} (h : MI p c d D) (hd : ∀ n, p n → d' n = d n) : MI p c d' D :=
  ⟨h.ty, h.key, h.sz, fun n hn => by rw [hd n hn]; exact h.val n hn⟩
theorem Gat.mi {l : List S95} {T H F : Int} {D : DM} {d : Int → Int} (h : Gat l T H F D d) : MI (has l) (cnt l) d D := ⟨h.ty, h.key, h.sz, h.val⟩
theorem WMap.tight {W : World} {m n : Nat} {D : DM} (h : WMap W m n D) : WMap W m (Maps.size D) D := by
  obtain ⟨es, clock, hb, F, _, rfl⟩ := h
  exact ⟨es, clock, hb, F, by simp [Maps.size, length_sorted], rfl⟩
theorem BufAt.tight {W : World} {g gm gs n : Nat} {l : List S95} {T H F : Int} {D : DM} (h : BufAt W g gm gs n l T H F D) : BufAt W g gm gs (Maps.size D) l T H F D := ⟨h.blk, h.mp.tight, h.set⟩
/-- The worlds of Put's loop over the fresh spans. -/
structure PtW (g gm gs : Nat) (T H F : Int) (d : Int → Int) (w : World) (v : Value) (fr lx : List S95) (p : Int → Prop) (c : Int) (W : World) : Prop where
  buf : ∃ D, BufAt W g gm gs (Maps.size D) lx T H F D ∧ MI p c d D
  tri : Kept w W (fun q => q = gm ∨ q = gs)
  low : ∀ B, B ≤ gm → B ≤ gs → B ≤ w.heap.size → Below B w W
  row : OwnS W w.heap.size v fr
  lg : g < w.heap.size
  lm : gm < w.heap.size
  ls : gs < w.heap.size
  n1 : gm ≠ g
  n2 : gs ≠ g
  n3 : gs ≠ gm
section
variable {g gm gs : Nat} {T H F : Int} {d : Int → Int} {w : World} {v : Value} {fr lx : List S95} {p : Int → Prop} {c : Int} {W W' : World}
theorem PtW.below (h : PtW g gm gs T H F d w v fr lx p c W) (hb : Below W.heap.size W W') : PtW g gm gs T H F d w v fr lx p c W' := by
  obtain ⟨D, h1, h2⟩ := h.buf
  exact ⟨⟨D, h1.below hb, h2⟩, h.tri.then_ (Kept.of_below hb (fun _ => False)) (fun k hk => hk.elim), fun B b1 b2 b3 => (h.low B b1 b2 b3).trans (hb.mono (by have := (h.low B b1 b2 b3).size; have := h.tri.1; omega)), h.row.below hb, h.lg, h.lm, h.ls, h.n1, h.n2, h.n3⟩
theorem PtW.map (h : PtW g gm gs T H F d w v fr lx p c W) {p' : Int → Prop} {c' : Int} {n : Nat} {D : DM} (hm : WMap W' gm n D) (hk : Kept W W' (fun k => k = gm)) (hl : ∀ B, B ≤ gm → B ≤ W.heap.size → Below B W W') (hM : MI p' c' d D) : PtW g gm gs T H F d w v fr lx p' c' W' := by
  obtain ⟨D0, h1, h2⟩ := h.buf
  have hlm := h.lm
  refine ⟨⟨D, ⟨(hk.2 g (lt_of_block h1.blk) (fun e => h.n1 e.symm)).trans h1.blk, hm.tight, h1.set.far hk (fun q hq i => by subst hq; rw [cell_map h1.mp]; simp) h.n3⟩, hM⟩, h.tri.then_ hk (fun k hk => .inl (.inl hk)), fun B b1 b2 b3 => (h.low B b1 b2 b3).trans (hl B b1 (by have := h.tri.1; omega)), own_move h.row (fun k hk2 => hk.2 k (h.row.lt hk2).2 (fun e => by have := (h.row.lt hk2).1; omega)), h.lg, h.lm, h.ls, h.n1, h.n2, h.n3⟩
theorem PtW.put (h : PtW g gm gs T H F d w v fr lx p c W) {ly : List S95} (hs : SetAt W' gs ly) (ho : Only gs W W') : PtW g gm gs T H F d w v fr ly p c W' := by
  obtain ⟨D0, h1, h2⟩ := h.buf
  have hls := h.ls
  refine ⟨⟨D0, ⟨(ho.block g (lt_of_block h1.blk) (by intro e; injection e with e; exact h.n2 e.symm)).trans h1.blk, h1.mp.move (ho.block gm h1.mp.lt (by intro e; injection e with e; exact h.n3 e.symm)), hs⟩, h2⟩, h.tri.then_ (kept_only ho) (fun k hk => .inl (.inr hk)), fun B b1 b2 b3 => low_only (h.low B b1 b2 b3) ho b2 (by have := h.tri.1; omega), h.row.only ho hls, h.lg, h.lm, h.ls, h.n1, h.n2, h.n3⟩
theorem PtW.is (h : PtW g gm gs T H F d w v fr lx p c W) {q : Int → Prop} {c' : Int} (hp : ∀ n, q n ↔ p n) (hc : c' = c) : PtW g gm gs T H F d w v fr lx q c' W := by
  obtain ⟨D0, h1, h2⟩ := h.buf
  exact ⟨⟨D0, h1, h2.congr hp hc⟩, h.tri, h.low, h.row, h.lg, h.lm, h.ls, h.n1, h.n2, h.n3⟩
end
theorem cnt_le {l : List S95} (h : wf 0 l) : 0 ≤ cnt l ∧ cnt l ≤ 1099511627777 := by
  have hb := cnt_bnd h (Int.le_refl _)
  refine ⟨hb.1, ?_⟩
  by_cases e0 : l = []
  · subst e0; simp [cnt]
  · have := hb.2 e0; omega
theorem kept_cell (W : World) (g i : Nat) (u : Value) : Kept W (W.setCell ⟨g, i, none⟩ u) (fun q => q = g) := ⟨by simp [World.setCell], fun k hk hn => Below.heap_setCell _ _ _ _ hn⟩
theorem cnt_take_succ {l : List S95} {q : Nat} (h : q < l.length) : cnt (l.take (q + 1)) = cnt (l.take q) + (l[q].f1 - l[q].f0 + 1) := by
  rw [List.take_succ_eq_append_getElem h, cnt_append, cnt_cons]; simp [cnt]
theorem has_take_succ {l : List S95} {q : Nat} (h : q < l.length) (n : Int) : has (l.take (q + 1)) n ↔ has (l.take q) n ∨ (l[q].f0 ≤ n ∧ n ≤ l[q].f1) := by
  rw [List.take_succ_eq_append_getElem h]
  simp only [has, List.mem_append, List.mem_singleton]
  constructor
  · rintro ⟨x, h1 | rfl, h2⟩
    · exact .inl ⟨x, h1, h2⟩
    · exact .inr h2
  · rintro (⟨x, h1, h2⟩ | h2)
    · exact ⟨x, .inl h1, h2⟩
    · exact ⟨_, .inr rfl, h2⟩
theorem wf_take {lo : Int} : ∀ {l : List S95} (q : Nat), wf lo l → wf lo (l.take q)
  | [], q, _ => by simp [wf]
  | x :: r, 0, _ => trivial
  | x :: r, q + 1, ⟨h1, h2, h3, h4⟩ => ⟨h1, h2, h3, wf_take q h4⟩
set_option maxRecDepth 100000 in
set_option maxHeartbeats 4000000 in
theorem GPut_13 (g : Nat) (off : Int) (s : ByteArray) (fin : Bool) (w : World) (hbad : off < 0 ∨ 1099511627776 < off ∨ 1099511627776 - off < (s.size : Int)) :
    Calls Try.prog 14 #[.pointer (some ⟨g, 0, none⟩), .int .i64 off, .string s, .bool fin] w fun e w' => e = .returned (.int .i64 13) ∧ Below w.heap.size w w' := by
  by_cases h1 : off < 0
  · clear hbad
    go_enter Try.func14, Try.ntmps14
    go_wp2
    go_ret
    exact ⟨rfl, Below.refl _ _⟩
  · by_cases h2 : 1099511627776 < off
    · clear hbad
      go_enter Try.func14, Try.ntmps14
      go_wp2
      go_ret
      exact ⟨rfl, Below.refl _ _⟩
    · have h3 : 1099511627776 - off < (s.size : Int) := by omega
      have eW : IntKind.i64.wrap (1099511627776 - off) = 1099511627776 - off := IntWalk.i64_in _ (by omega)
      clear hbad
      go_enter Try.func14, Try.ntmps14
      go_wp2
      go_ret
      exact ⟨rfl, Below.refl _ _⟩
set_option maxRecDepth 100000 in
set_option maxHeartbeats 4000000 in
theorem GPut_18 (g gm gs n : Nat) (l : List S95) (T H F off e : Int) (s : ByteArray) (fin : Bool) (D : DM) (w : World) (h : BufAt w g gm gs n l T H F D) (h1 : 0 ≤ off) (h2 : off ≤ 1099511627776) (he : off + (s.size : Int) = e) (h3 : e ≤ 1099511627776) (hf : fitsL H F e fin = false) :
    Calls Try.prog 14 #[.pointer (some ⟨g, 0, none⟩), .int .i64 off, .string s, .bool fin] w fun e w' => e = .returned (.int .i64 18) ∧ Below w.heap.size w w' := by
  have HF := Aside0.mk (GFits_calls g gm gs n l T H F e fin D w h)
  rw [hf] at HF
  have h4 : ¬ off < 0 := by omega
  have h5 : ¬ 1099511627776 < off := by omega
  have h6 : ¬ 1099511627776 - off < (s.size : Int) := by omega
  have eW : IntKind.i64.wrap (1099511627776 - off) = 1099511627776 - off := IntWalk.i64_in _ (by omega)
  have eV : IntKind.i64.wrap (off + (s.size : Int)) = e := by rw [IntWalk.i64_in _ (by omega), he]
  clear h hf h1 h2 h3 he
  go_enter Try.func14, Try.ntmps14
  go_wp2_with (go_at_call 57; refine HF.out.mono ?_; rintro x w2 ⟨rfl, hb⟩; have HB := Aside0.mk hb; clear hb)
  go_ret
  exact ⟨rfl, HB.out⟩
def hiL (H e : Int) : Int := if H < e then e else H
def fiL (F e : Int) (fin : Bool) : Int := if fin then e else F
/-- What Put tells, where nothing is wrong with the place and the end. -/
def putF (off T e : Int) (l : List S95) : List S95 := gapsL (if off < T then T else off) (e - 1) l
theorem put_fresh {l : List S95} {T H F off e : Int} {D : DM} {d : Int → Int} (h : Gat l T H F D d) (h1 : 0 ≤ off) (h3 : e ≤ 1099511627776) {fr : List S95} (hfr : putF off T e l = fr) :
    wf 0 fr ∧ ∀ n, (has fr n ↔ (off ≤ n ∧ T ≤ n ∧ n < e) ∧ ¬ has l n) := by
  subst hfr
  have hb0 := h.b0
  unfold putF gapsL may
  by_cases hm : (if off < T then T else off) ≤ e - 1
  · have hge : 0 ≤ (if off < T then T else off) := by split <;> omega
    rw [if_pos (by simp only [Bool.and_eq_true, decide_eq_true_eq]; omega)]
    obtain ⟨a, b⟩ := gps_all hge hm (by omega) h.w
    refine ⟨wf_mono hge a, fun n => ?_⟩
    rw [b n]
    constructor
    · rintro ⟨⟨p, q⟩, r⟩; refine ⟨⟨?_, ?_, ?_⟩, r⟩ <;> (split at p <;> omega)
    · rintro ⟨⟨p, q, r⟩, u⟩; exact ⟨⟨by split <;> omega, by omega⟩, u⟩
  · rw [if_neg (by simp only [Bool.and_eq_true, decide_eq_true_eq]; omega)]
    refine ⟨trivial, fun n => ?_⟩
    constructor
    · intro hn; simp [has] at hn
    · rintro ⟨⟨p, q, r⟩, _⟩; exact absurd (show (if off < T then T else off) ≤ e - 1 by split <;> omega) hm
set_option maxRecDepth 100000 in
set_option maxHeartbeats 8000000 in
theorem GPut_go (g gm gs n : Nat) (l : List S95) (T H F off e : Int) (s : ByteArray) (fin : Bool) (D : DM) (d d2 : Int → Int) (w : World) (h : BufAt w g gm gs n l T H F D) (hG : Gat l T H F D d) (h1 : 0 ≤ off) (h2 : off ≤ 1099511627776) (he : off + (s.size : Int) = e) (h3 : e ≤ 1099511627776) (hf : fitsL H F e fin = true)
    (n1 : gm ≠ g) (n2 : gs ≠ g) (n3 : gs ≠ gm) (hd1 : ∀ x, has l x → d2 x = d x) (hd2 : ∀ x, off ≤ x → x < e → T ≤ x → ¬ has l x → s[(x - off).toNat]?.map (fun b => (b.toNat : Int)) = some (d2 x)) :
    Calls Try.prog 14 #[.pointer (some ⟨g, 0, none⟩), .int .i64 off, .string s, .bool fin] w fun x w' => (65536 < cnt l + cnt (putF off T e l) → x = .returned (.int .i64 10) ∧ Below w.heap.size w w') ∧
      (¬ 65536 < cnt l + cnt (putF off T e l) → x = .returned (.int .i64 0) ∧ ∃ l' D', BufAt w' g gm gs (Maps.size D') l' T (hiL H e) (fiL F e fin) D' ∧ MI (has l') (cnt l') d2 D' ∧ wf 0 l' ∧ (∀ n, has l' n ↔ has l n ∨ has (putF off T e l) n) ∧ Tri g gm gs w w' ∧ ∀ B, B ≤ g → B ≤ gm → B ≤ gs → B ≤ w.heap.size → Below B w w') := by
  have HBF := Aside0.mk (GFits_calls g gm gs n l T H F e fin D w h)
  rw [hf] at HBF
  have HB := Aside0.mk h
  have HG := Aside0.mk hG
  have HD := Aside0.mk (And.intro hd1 hd2)
  have HN := Aside0.mk (And.intro n1 (And.intro n2 n3))
  have h4 : ¬ off < 0 := by omega
  have h5 : ¬ 1099511627776 < off := by omega
  have h6 : ¬ 1099511627776 - off < (s.size : Int) := by omega
  have eW : IntKind.i64.wrap (1099511627776 - off) = 1099511627776 - off := IntWalk.i64_in _ (by omega)
  have eV : IntKind.i64.wrap (off + (s.size : Int)) = e := by rw [IntWalk.i64_in _ (by omega), he]
  have hT0 := hG.b0
  obtain ⟨fr, hfr⟩ : ∃ fr, putF off T e l = fr := ⟨_, rfl⟩
  have HFR := Aside0.mk (put_fresh hG h1 h3 hfr)
  have HE := Aside0.mk (And.intro h1 (And.intro h2 (And.intro he h3)))
  rw [hfr]
  obtain ⟨c0, hc0⟩ : ∃ c0, cnt l = c0 := ⟨_, rfl⟩
  rw [hc0]
  have HC0 := Aside0.mk hc0
  have HCB := Aside0.mk (show 0 ≤ c0 ∧ c0 ≤ 1099511627777 from by
    have hb := cnt_bnd hG.w (Int.le_refl _)
    rw [hc0] at hb
    refine ⟨hb.1, ?_⟩
    by_cases e0 : l = []
    · subst e0; simp [cnt] at hc0; omega
    · have := hb.2 e0; omega)
  clear h hG hf h1 h2 he h3 n1 n2 n3 hd1 hd2 hT0 hc0
  go_enter Try.func14, Try.ntmps14
  go_wp2_with (go_at_call 57; refine HBF.out.mono ?_; rintro x w2 ⟨rfl, hb⟩; have HB2 := Aside0.mk hb; clear hb)
  refine GPut_r8 g gm gs n w.heap.size l T H F off e D _ _ _ _ (by rfl) (by rfl) (by rfl) (by rfl) (HB.out.below HB2.out) HG.out.w (by have := HE.out; omega) HB2.out.size ?_
  intro σ W5 hb5 hown
  rw [show gapsL (if off < T then T else off) (e - 1) l = fr from hfr] at hown
  simp only [lazyA, lazyT, gq8_tab, List.zipWith_cons_cons, List.zipWith_nil_left, cond_true]
  obtain ⟨v, hv⟩ : ∃ v, σ 13 = v := ⟨_, rfl⟩
  rw [hv] at hown ⊢
  obtain ⟨A, cap, rfl, hcap, hC⟩ := hown.reads
  have HP5 := Aside0.mk (show Below w.heap.size w W5 from below_step HB2.out hb5)
  have HO5 := Aside0.mk hown
  have HC5 := Aside0.mk hC
  have HF5 := Aside0.mk (HB.out.below HP5.out)
  obtain ⟨m, hm⟩ : ∃ m, fr.length = m := ⟨_, rfl⟩
  have HM := Aside0.mk hm
  rw [hm] at HO5 HC5 hcap ⊢
  have hmb : (m : Int) ≤ 1000000000000 := by have := wf_len HFR.out.1 (by omega); omega
  have hlen := World.ownsMap.len HF5.out.mp Try.underlying100 3
  obtain ⟨k0, k1, k2, k3, k4⟩ := HF5.out.cells
  rw [HG.out.sz] at hlen
  clear hown hC hb5 hm hv hfr
  rename_i K0 hK0
  refine hK0 _ _ ?_
  rw [HC0.out] at hlen
  go_wp2
  go_loopw [11, 63] (fun nv i wr => ∃ q : Nat, q ≤ m ∧ i = .int .i64 q ∧ nv = .int .i64 (c0 + cnt (fr.take q)) ∧ Aside0 (Below W5.heap.size W5 wr)) (fun _ i _ => m - (intOf i).toNat)
  case atStart => exact ⟨0, Nat.zero_le _, rfl, by simp [cnt], ⟨Below.refl _ _⟩⟩
  case round =>
    obtain ⟨q, hq, rfl, rfl, HW⟩ := hrel
    have hcb := cnt_bnd (wf_take q HFR.out.1) (Int.le_refl _)
    have hcb2 : 0 ≤ cnt (fr.take q) ∧ cnt (fr.take q) ≤ 1099511627777 := by
      refine ⟨hcb.1, ?_⟩
      by_cases e0 : fr.take q = []
      · rw [e0]; simp [cnt]
      · have := hcb.2 e0; omega
    by_cases hlt : q < m
    · have hlt2 : (q : Int) < (m : Int) := by omega
      have hql : q < fr.length := by have := HM.out; omega
      have hC := Kd.C_below HC5.out HW.out
      obtain ⟨bb, oo, rfl, y0, y1⟩ := row_at hC q hql
      have HS := Aside0.mk (cnt_take_succ hql)
      have hx := wf_mem HFR.out.1 fr[q] (List.getElem_mem _)
      obtain ⟨a, ha⟩ : ∃ a, fr[q].f0 = a := ⟨_, rfl⟩
      obtain ⟨b, hb⟩ : ∃ b, fr[q].f1 = b := ⟨_, rfl⟩
      obtain ⟨N, hN⟩ : ∃ N, cnt (fr.take q) = N := ⟨_, rfl⟩
      rw [ha, hb] at hx
      rw [ha] at y0
      rw [hb] at y1
      rw [ha, hb, hN] at HS
      rw [hN] at hcb2 ⊢
      have e1 : IntKind.i64.wrap (b - a) = b - a := IntWalk.i64_in _ (by omega)
      have e2 : IntKind.i64.wrap (b - a + 1) = b - a + 1 := IntWalk.i64_in _ (by omega)
      have e3 : IntKind.i64.wrap (c0 + N + (b - a + 1)) = c0 + N + (b - a + 1) := IntWalk.i64_in _ (by have := HCB.out; omega)
      have e4 : IntKind.i64.wrap ((q : Int) + 1) = (q : Int) + 1 := IntWalk.i64_in _ (by omega)
      clear hC ha hb hN hcb
      go_wp2
      go_roundw
      case rel => exact ⟨q + 1, by omega, by simp, by rw [HS.out]; congr 1; omega, ⟨below_alloc HW.out _⟩⟩
      case measure => simp [intOf]; omega
    · have hqm : q = m := by omega
      subst hqm
      have htk : fr.take q = fr := List.take_of_length_le (Nat.le_of_eq HM.out)
      rw [htk] at hcb2 ⊢
      have HPT := Aside0.mk (show PtW g gm gs T H F d2 w (.slice A q cap) fr l (has l) c0 wr from
        ⟨⟨D, (HF5.out.below HW.out).tight, (HG.out.mi.other HD.out.1).congr (fun n => Iff.rfl) HC0.out.symm⟩, Kept.of_below (below_step HP5.out HW.out) _, fun B b1 b2 b3 => (below_step HP5.out HW.out).mono b3, HO5.out.below HW.out, lt_of_block HB.out.blk, HB.out.mp.lt, HB.out.set.lt, HN.out.1, HN.out.2.1, HN.out.2.2⟩)
      have HBW := Aside0.mk (below_step HP5.out HW.out)
      have hcbf := hcb2
      obtain ⟨cf, hcf⟩ : ∃ cf, cnt fr = cf := ⟨_, rfl⟩
      rw [hcf] at hcbf ⊢
      have HCF := Aside0.mk hcf
      obtain ⟨N, hN⟩ : ∃ N, c0 + cf = N := ⟨_, rfl⟩
      have HNB := Aside0.mk (show N ≤ 2199023255554 ∧ c0 + cf = N from by have := HCB.out; exact ⟨by omega, hN⟩)
      have HQ := Aside0.mk hcf
      by_cases hfull : 65536 < N
      · have hfull2 : 65536 < c0 + cf := by omega
        clear hcb htk hcb2 HW hcf
        rw [hN]
        go_wp2
        go_ret
        exact ⟨fun _ => ⟨rfl, HBW.out⟩, fun hh => by rw [HQ.out] at hh; omega⟩
      · have HFU := Aside0.mk (show ¬ 65536 < c0 + cf by omega)
        clear hcb htk hcb2 HW hcf
        rw [hN]
        clear hN
        go_wp2
        go_loopw [80] (fun i wr => ∃ j : Nat, j ≤ q ∧ i = .int .i64 j ∧ Aside0 (∃ lx, PtW g gm gs T H F d2 w (.slice A q cap) fr lx (has lx) (cnt lx) wr ∧ wf 0 lx ∧ cnt lx = c0 + cnt (fr.take j) ∧ ∀ n, has lx n ↔ has l n ∨ has (fr.take j) n)) (fun i _ => q - (intOf i).toNat)
        case atStart => exact ⟨0, Nat.zero_le _, rfl, ⟨l, HPT.out.is (fun n => Iff.rfl) HC0.out, HG.out.w, by simp [cnt, HC0.out], fun n => by simp [has]⟩⟩
        case round =>
          obtain ⟨j, hj, rfl, HL⟩ := hrel
          obtain ⟨lx, hpt, hwx, hcx, hhx⟩ := HL.out
          by_cases hlt : j < q
          · have hlt2 : (j : Int) < (q : Int) := by omega
            have hjl : j < fr.length := by have := HM.out; omega
            obtain ⟨_, hC⟩ := OwnS.reads' hpt.row
            obtain ⟨bb, oo, rfl, y0, y1⟩ := row_at hC j hjl
            have hx := wf_mem HFR.out.1 fr[j] (List.getElem_mem _)
            have HWX := Aside0.mk (And.intro hwx (And.intro hcx hhx))
            have HTH := Aside0.mk (fun n => has_take_succ hjl n)
            have HTC := Aside0.mk (cnt_take_succ hjl)
            have HNO := Aside0.mk (show ∀ n, fr[j].f0 ≤ n → n ≤ fr[j].f1 → ¬ has lx n from fun n h1 h2 h3 => by
              rcases (hhx n).1 h3 with h4 | h4
              · exact ((HFR.out.2 n).1 ⟨fr[j], List.getElem_mem _, h1, h2⟩).2 h4
              · have := take_lt HFR.out.1 j hjl n h4; omega)
            have HIN := Aside0.mk (show ∀ n, fr[j].f0 ≤ n → n ≤ fr[j].f1 → (off ≤ n ∧ T ≤ n ∧ n < e) ∧ ¬ has l n from fun n h1 h2 => (HFR.out.2 n).1 ⟨fr[j], List.getElem_mem _, h1, h2⟩)
            have HP2 := Aside0.mk hpt
            obtain ⟨f, hf⟩ : ∃ f, fr[j].f0 = f := ⟨_, rfl⟩
            obtain ⟨t, ht⟩ : ∃ t, fr[j].f1 = t := ⟨_, rfl⟩
            rw [hf, ht] at hx
            rw [hf] at y0
            rw [ht] at y1
            rw [hf, ht] at HTH HTC HNO HIN
            have HXX := Aside0.mk hx
            have e4 : IntKind.i64.wrap ((j : Int) + 1) = (j : Int) + 1 := IntWalk.i64_in _ (by omega)
            clear HL hC hf ht hpt hwx hcx hhx
            go_wp2
            obtain ⟨X, hX⟩ : ∃ X, wr.heap.size = X := ⟨_, rfl⟩
            have hbX := below_alloc (Below.refl wr.heap.size wr) (.cells #[.int .i64 f, .int .i64 t] 95)
            have hnew := heap_alloc_new wr (.cells #[.int .i64 f, .int .i64 t] 95)
            have HXW := Aside0.mk (show w.heap.size ≤ X from by rw [← hX]; exact HP2.out.tri.1)
            rw [hX] at hnew ⊢
            have HP3 := Aside0.mk (HP2.out.below hbX)
            have HNW := Aside0.mk hnew
            clear hbX hnew hX
            go_loopw [16] (fun xv wi => ∃ x : Int, f ≤ x ∧ x ≤ t + 1 ∧ xv = .int .i64 x ∧ Aside0 (PtW g gm gs T H F d2 w (.slice (some ⟨bb, oo, none⟩) q cap) fr lx (fun n => has lx n ∨ (f ≤ n ∧ n < x)) (cnt lx + (x - f)) wi ∧ wi.heap[X]? = some (.cells #[.int .i64 f, .int .i64 t] 95 (0, 0)))) (fun xv _ => (t + 1 - intOf xv).toNat)
            case atStart => exact ⟨f, Int.le_refl _, by omega, rfl, ⟨HP3.out.is (fun n => ⟨fun hn => hn.elim id (fun hn => by omega), fun hn => .inl hn⟩) (by omega), HNW.out⟩⟩
            case round =>
              obtain ⟨x, hx1, hx2, rfl, HX⟩ := hrel
              obtain ⟨hp, hbx⟩ := HX.out
              obtain ⟨-, c1, -, -⟩ := two_cell hbx
              obtain ⟨Dx, hbuf, hmi⟩ := hp.buf
              have HPX := Aside0.mk (And.intro hp (And.intro hbx (And.intro hbuf hmi)))
              by_cases hle : x ≤ t
              · have HIX := Aside0.mk (HIN.out x hx1 hle)
                have HNX := Aside0.mk (HNO.out x hx1 hle)
                have e5 : IntKind.i64.wrap (x + 1) = x + 1 := IntWalk.i64_in _ (by have := HXX.out; omega)
                clear HX hp hbx hmi
                go_wp2
                refine GPut_r23 g gm gs (Maps.size Dx) lx T H F off x (d2 x) s Dx _ _ _ _ (by rfl) (by rfl) (by rfl) (by rfl) (by rfl) hbuf (by have h1 := HIX.out; have h2 := HE.out; omega) (HD.out.2 x HIX.out.1.1 HIX.out.1.2.2 HIX.out.1.2.1 HIX.out.2) ?_ ?_
                · have h1 := HPX.out.2.2.2.sz
                  have h2 := cnt_le HWX.out.1
                  have h3 := HXX.out
                  have h4 : maxLen = 9223372036854775807 := rfl
                  omega
                intro σ2 W6 ⟨hm6, hk6, hl6⟩
                have HP6 := Aside0.mk ((HPX.out.1.map hm6 hk6 hl6 (HPX.out.2.2.2.put x (by rintro (h | h); exact HNX.out h; omega))).is (q := fun n => has lx n ∨ (f ≤ n ∧ n < x + 1)) (c' := cnt lx + (x + 1 - f)) (fun n => ⟨fun hn => by rcases hn with hn | hn; exact .inl (.inl hn); by_cases h : n = x; exact .inr h; exact .inl (.inr (by omega)), fun hn => by rcases hn with (hn | hn) | hn; exact .inl hn; exact .inr (by omega); exact .inr (by omega)⟩) (by omega))
                have HB6 := Aside0.mk ((hk6.2 X (lt_of_block HPX.out.2.1) (by have := HPX.out.1.lm; have := HXW.out; omega)).trans HPX.out.2.1)
                simp only [lazyA, lazyT, gq23_tab, List.zipWith_cons_cons, List.zipWith_nil_left, cond_true]
                clear hm6 hk6 hl6 hbuf
                rename_i K2 hK2
                refine hK2 _ _ ?_
                go_wp2
                go_roundw
                case rel => exact ⟨x + 1, by omega, by omega, rfl, ⟨HP6.out, HB6.out⟩⟩
                case measure => simp [intOf]; omega
              · have hxt : x = t + 1 := by omega
                subst hxt
                clear HX hp hbx hmi
                have hpg := put_gap (f := f) (t := t) (l := lx) (by have := HXX.out; omega) (by have := HXX.out; omega) (by have := HXX.out; omega) HWX.out.1 HNO.out
                go_wp2
                refine GPut_r24 g gm gs (Maps.size Dx) X lx T H F f t Dx _ _ _ _ (by rfl) (by rfl) (by rfl) hbuf HPX.out.2.1 HWX.out.1 hpg.2.1 ?_
                intro σ3 W7 ⟨hs7, ho7⟩
                have hfn := fun n => has_ins (l := lx) n HWX.out.1 HXX.out.2.1
                have hcn := cnt_ins HWX.out.1 HXX.out.2.1
                rw [ov_none HXX.out.2.1 HWX.out.1 HNO.out] at hcn
                have HP7 := Aside0.mk ((HPX.out.1.put hs7 ho7).is (q := has (ins f t lx)) (c' := cnt (ins f t lx)) (fun n => by rw [hfn n]; constructor <;> (rintro (h | h)) <;> first | exact .inl h | exact .inr h | exact .inr (by omega) | exact .inl (by omega)) (by omega))
                have HW7 := Aside0.mk (show wf 0 (ins f t lx) ∧ cnt (ins f t lx) = c0 + cnt (fr.take (j + 1)) ∧ ∀ n, has (ins f t lx) n ↔ has l n ∨ has (fr.take (j + 1)) n from ⟨hpg.2.2.1, by rw [hcn, HTC.out, HWX.out.2.1]; omega, fun n => by rw [hfn n, HWX.out.2.2 n, HTH.out n]; constructor <;> (intro h; rcases h with h | h | h) <;> simp [h]⟩)
                simp only [lazyA, lazyT, gq24_tab, List.zipWith_cons_cons, List.zipWith_nil_left, cond_true]
                clear hs7 ho7 hbuf hpg hfn hcn
                go_wp2
                go_roundw
                case rel => exact ⟨j + 1, by omega, by simp, ⟨_, HP7.out, HW7.out.1, HW7.out.2.1, HW7.out.2.2⟩⟩
                case measure => simp [intOf]; omega
          · have hjq : j = q := by omega
            subst hjq
            obtain ⟨Dx, hbuf, hmi⟩ := hpt.buf
            have HPX := Aside0.mk (And.intro hpt (And.intro hbuf hmi))
            have HWX := Aside0.mk (And.intro hwx (And.intro hcx hhx))
            have hcl := hbuf.cells
            obtain ⟨q0, q1, q2, q3, q4⟩ := hcl
            have z3 := hbuf.free 3
            obtain ⟨hi, hhi⟩ : ∃ hi, (if H < e then e else H) = hi := ⟨_, rfl⟩
            have HHI := Aside0.mk (show hiL H e = hi from hhi)
            have HA := Aside0.mk (hbuf.setF HN.out.1 HN.out.2.1 3 (.int .i64 hi) (T' := T) (H' := hi) (F' := F) rfl)
            have z4 := HA.out.free 4
            have c4 := HA.out.cells.2.2.2.2
            clear HL hpt hwx hcx hhx hbuf hmi
            have HK3 := Aside0.mk (kept_cell wr g 3 (.int .i64 hi))
            have HT3 := Aside0.mk (show Tri g gm gs w (wr.setCell ⟨g, 3, none⟩ (.int .i64 hi)) from (show Tri g gm gs w wr from ⟨HPX.out.1.tri.1, fun k hk hn => HPX.out.1.tri.2 k hk (fun e => hn (.inr e))⟩).then_ HK3.out (fun k hk => .inl (.inl hk)))
            have HL3 := Aside0.mk (show ∀ B, B ≤ g → B ≤ gm → B ≤ gs → B ≤ w.heap.size → Below B w (wr.setCell ⟨g, 3, none⟩ (.int .i64 hi)) from fun B b0 b1 b2 b3 => (HPX.out.1.low B b1 b2 b3).setCell (p := ⟨g, 3, none⟩) b0 _)
            have HWF := Aside0.mk (show wf 0 lx ∧ ∀ n, has lx n ↔ has l n ∨ has fr n from ⟨HWX.out.1, by have h := HWX.out.2.2; rw [List.take_of_length_le (Nat.le_of_eq HM.out)] at h; exact h⟩)
            have HM2 := Aside0.mk HPX.out.2.2
            have hfu := HFU.out
            have HQ2 := HQ
            clear HPX HWX HK3 HPT
            cases fin with
            | true =>
              go_wp2
              go_ret
              refine ⟨fun hh => by rw [HQ.out] at hh; omega, fun _ => ⟨rfl, lx, Dx, ?_, HM2.out, HWF.out.1, HWF.out.2, HT3.out.then_ (kept_cell _ g 4 _) (fun k hk => .inl (.inl hk)), fun B b0 b1 b2 b3 => (HL3.out B b0 b1 b2 b3).setCell (p := ⟨g, 4, none⟩) b0 _⟩⟩
              rw [HHI.out]
              exact HA.out.setF HN.out.1 HN.out.2.1 4 (.int .i64 e) (T' := T) (H' := hi) (F' := e) rfl
            | false =>
              go_wp2
              go_ret
              refine ⟨fun hh => by rw [HQ.out] at hh; omega, fun _ => ⟨rfl, lx, Dx, ?_, HM2.out, HWF.out.1, HWF.out.2, HT3.out, HL3.out⟩⟩
              rw [HHI.out]
              exact HA.out
def putC (l : List S95) (T H F off : Int) (sz : Nat) (fin : Bool) : Int :=
  if off < 0 ∨ 1099511627776 < off ∨ 1099511627776 - off < (sz : Int) then 13 else if fitsL H F (off + (sz : Int)) fin = false then 18 else if 65536 < cnt l + cnt (putF off T (off + (sz : Int)) l) then 10 else 0
theorem GPut_no (g gm gs n : Nat) (l : List S95) (T H F off : Int) (s : ByteArray) (fin : Bool) (D : DM) (d : Int → Int) (w : World) (h : BufAt w g gm gs n l T H F D) (hG : Gat l T H F D d) (n1 : gm ≠ g) (n2 : gs ≠ g) (n3 : gs ≠ gm) (hc : putC l T H F off s.size fin ≠ 0)
    (d2 : Int → Int) (hd1 : ∀ x, has l x → d2 x = d x) (hd2 : ∀ x, off ≤ x → x < off + (s.size : Int) → T ≤ x → ¬ has l x → s[(x - off).toNat]?.map (fun b => (b.toNat : Int)) = some (d2 x)) :
    Calls Try.prog 14 #[.pointer (some ⟨g, 0, none⟩), .int .i64 off, .string s, .bool fin] w fun x w' => x = .returned (.int .i64 (putC l T H F off s.size fin)) ∧ Below w.heap.size w w' := by
  unfold putC at hc ⊢
  by_cases h1 : off < 0 ∨ 1099511627776 < off ∨ 1099511627776 - off < (s.size : Int)
  · rw [if_pos h1]
    exact GPut_13 g off s fin w h1
  · rw [if_neg h1] at hc ⊢
    by_cases h2 : fitsL H F (off + (s.size : Int)) fin = false
    · rw [if_pos h2]
      exact GPut_18 g gm gs n l T H F off _ s fin D w h (by omega) (by omega) rfl (by omega) h2
    · rw [if_neg h2] at hc ⊢
      have h2' : fitsL H F (off + (s.size : Int)) fin = true := by simpa using h2
      by_cases h3 : 65536 < cnt l + cnt (putF off T (off + (s.size : Int)) l)
      · rw [if_pos h3]
        exact (GPut_go g gm gs n l T H F off _ s fin D d d2 w h hG (by omega) (by omega) rfl (by omega) h2' n1 n2 n3 hd1 hd2).mono fun x w' hh => hh.1 h3
      · rw [if_neg h3] at hc
        exact absurd rfl hc
theorem GPut_ok (g gm gs n : Nat) (l : List S95) (T H F off : Int) (s : ByteArray) (fin : Bool) (D : DM) (d d2 : Int → Int) (w : World) (h : BufAt w g gm gs n l T H F D) (hG : Gat l T H F D d) (n1 : gm ≠ g) (n2 : gs ≠ g) (n3 : gs ≠ gm) (hc : putC l T H F off s.size fin = 0)
    (hd1 : ∀ x, has l x → d2 x = d x) (hd2 : ∀ x, off ≤ x → x < off + (s.size : Int) → T ≤ x → ¬ has l x → s[(x - off).toNat]?.map (fun b => (b.toNat : Int)) = some (d2 x)) :
    Calls Try.prog 14 #[.pointer (some ⟨g, 0, none⟩), .int .i64 off, .string s, .bool fin] w fun x w' => x = .returned (.int .i64 0) ∧ ∃ l' D', BufAt w' g gm gs (Maps.size D') l' T (hiL H (off + (s.size : Int))) (fiL F (off + (s.size : Int)) fin) D' ∧
      Gat l' T (hiL H (off + (s.size : Int))) (fiL F (off + (s.size : Int)) fin) D' d2 ∧ (∀ n, has l' n ↔ has l n ∨ (off ≤ n ∧ T ≤ n ∧ n < off + (s.size : Int))) ∧ Tri g gm gs w w' ∧ ∀ B, B ≤ g → B ≤ gm → B ≤ gs → B ≤ w.heap.size → Below B w w' := by
  unfold putC at hc
  by_cases h1 : off < 0 ∨ 1099511627776 < off ∨ 1099511627776 - off < (s.size : Int)
  · rw [if_pos h1] at hc; cases hc
  · rw [if_neg h1] at hc
    by_cases h2 : fitsL H F (off + (s.size : Int)) fin = false
    · rw [if_pos h2] at hc; cases hc
    · rw [if_neg h2] at hc
      have h2' : fitsL H F (off + (s.size : Int)) fin = true := by simpa using h2
      by_cases h3 : 65536 < cnt l + cnt (putF off T (off + (s.size : Int)) l)
      · rw [if_pos h3] at hc; cases hc
      · refine (GPut_go g gm gs n l T H F off _ s fin D d d2 w h hG (by omega) (by omega) rfl (by omega) h2' n1 n2 n3 hd1 hd2).mono ?_
        rintro x w' ⟨_, hh⟩
        obtain ⟨rfl, l', D', k1, k2, k3, k4, k5, k6⟩ := hh h3
        have hf := (put_fresh (fr := putF off T (off + (s.size : Int)) l) hG (show 0 ≤ off by omega) (show off + (s.size : Int) ≤ 1099511627776 by omega) rfl).2
        have b0 := hG.b0
        have b1 := hG.b1
        have b2 := hG.b2
        have e0 : 0 ≤ off + (s.size : Int) := by omega
        have e1 : off + (s.size : Int) ≤ 1099511627776 := by omega
        generalize off + (s.size : Int) = e at *
        have hh : ∀ n, has l' n ↔ has l n ∨ (off ≤ n ∧ T ≤ n ∧ n < e) := fun n => by
          rw [k4 n, hf n]
          by_cases hn : has l n <;> simp [hn]
        have hhi : H ≤ hiL H e ∧ e ≤ hiL H e ∧ hiL H e ≤ 1099511627776 := by unfold hiL; split <;> omega
        refine ⟨rfl, l', D', k1, ⟨k3, fun n hn => ?_, b0, by omega, hhi.2.2, ?_, k2.ty, k2.key, k2.sz, k2.val⟩, hh, k5, k6⟩
        · rcases (hh n).1 hn with hn | hn
          · have := hG.hin n hn; omega
          · omega
        · unfold fitsL at h2'
          unfold hiL fiL
          rcases hG.fin with hF | hF
          · rw [if_pos hF] at h2'
            cases fin with
            | false => exact .inl hF
            | true =>
              have : H ≤ e := by simpa using h2'
              right
              simp only [if_true]
              split <;> omega
          · rw [if_neg (by omega)] at h2'
            cases fin with
            | false =>
              have : e ≤ F := by simpa using h2'
              right
              simp only [Bool.false_eq_true, if_false]
              split <;> omega
            | true =>
              have hh2 : e ≤ F ∧ e = F := by simpa using h2'
              right
              simp only [if_true]
              split <;> omega
end Go.Proofs.Ytiladcdogbeomaa.QRangesPlays
