/- Law 17 (ranges): contracts of functions that its statements reach, and plain laws behind them (further part 1). No condition. -/
import Derived.Test.YtiladcdogbeomaaMk
import Derived.Test.YtiladcdogbeomaaMc
import Derived.Test.YtiladcdogbeomaaMl
namespace Go.Proofs.Ytiladcdogbeomaa.QRangesPlays
open Go.RowKit Go.Shelf Go.Proofs.YtiladcdogbeomaaW.PrintWords Go.Proofs.YtiladcdogbeomaaW.PrintLast Go.Proofs.YtiladcdogbeomaaW.PrintMore Go.Proofs.Ytiladcdogbeomaa.RowLaws Go.Proofs.Ytiladcdogbeomaa.Lazy
attribute [local go_sem] Oper.semAt_some
abbrev fk7_ops : List Oper := [{ dst := some 34, op := .move (.tmp 5), type := 70, pos := "law.go:92", after := #[], guard := none },
  { dst := some 35, op := .load 80 (.tmp 6), type := 80, pos := "law.go:92", after := #[], guard := none },
  { dst := some 36, op := .move (.tmp 0), type := 78, pos := "law.go:92", after := #[], guard := none },
  { dst := some 37, op := .move (.tmp 7), type := 3, pos := "law.go:92", after := #[], guard := none },
  { dst := some 38, op := .indexAddr 78 (.tmp 36) (.tmp 37), type := 0, pos := "law.go:92", after := #[⟨2, .data⟩, ⟨3, .data⟩], guard := none },
  { dst := some 39, op := .load 84 (.tmp 38), type := 84, pos := "law.go:92", after := #[⟨4, .data⟩], guard := none },
  { dst := some 40, op := .call { callee := .value (.func 41), args := #[.tmp 34, .tmp 35, .tmp 39], argTypes := #[70, 80, 84] }, type := 81, pos := "law.go:92", after := #[⟨0, .data⟩, ⟨1, .data⟩, ⟨5, .data⟩], guard := none },
  { dst := some 33, op := .move (.tmp 40), type := 81, pos := "law.go:92", after := #[⟨6, .data⟩], guard := none },
  { dst := some 41, op := .extract (.tmp 33) 0, type := 80, pos := "law.go:92", after := #[⟨7, .data⟩], guard := none },
  { dst := some 42, op := .extract (.tmp 33) 1, type := 4, pos := "law.go:92", after := #[⟨7, .data⟩, ⟨10, .gcOnly .lateStores⟩], guard := none },
  { dst := none, op := .store 80 (.tmp 6) (.tmp 41), type := 0, pos := "law.go:92", after := #[⟨8, .data⟩, ⟨6, .chain⟩, ⟨0, .phase⟩, ⟨1, .phase⟩, ⟨2, .phase⟩, ⟨3, .phase⟩, ⟨4, .phase⟩, ⟨5, .phase⟩, ⟨6, .phase⟩, ⟨7, .phase⟩, ⟨8, .phase⟩, ⟨9, .textOnly .lateStores⟩], guard := none }]
abbrev fk7_tab : List (Option Nat) := [none, none, none, none, none, none, none, none, none, none, none, none, none, none, none, none, none, none, none, none, none, none, none, none, none, none, none, none, none, none, none, none, none, some 7, some 0, some 1, some 2, some 3, some 4, some 5, some 6, some 8, some 9, none, none, none, none, none, none, none, none, none, none, none, none, none, none, none, none, none, none, none, none, none, none, none, none, none, none, none, none, none, none, none, none, none, none, none, none, none, none, none, none, none, none, none, none, none, none, none, none, none, none, none, none, none, none, none, none, none, none, none, none, none, none, none, none, none, none, none, none, none, none, none, none, none, none, none, none, none, none, none, none, none, none, none, none, none, none, none, none, none, none, none, none, none]

def fk7_val (g b0 o0 n c0 i : Nat) (k f t : Int) (A : Option Addr) (c : Nat) (l : List S95) : Nat → Value → World → Prop := fun j v W => match j with
  | 0 => v = .pointer (some ⟨g, 0, none⟩)
  | 1 => v = .agg #[.slice A l.length c]
  | 2 => v = .slice (some ⟨b0, o0, none⟩) n c0
  | 3 => v = .int .i64 (i : Int)
  | 4 => v = .pointer (some ⟨b0, o0 + i * 3, none⟩)
  | 5 => v = .agg #[.int .u8 k, .int .i64 f, .int .i64 t]
  | 6 => ∃ u, v = .tuple #[u, .bool true] ∧ RS W u (stepL k f t l)
  | 7 => ∃ u, v = .tuple #[u, .bool true] ∧ RS W u (stepL k f t l)
  | 8 => RS W v (stepL k f t l)
  | 9 => v = .bool true
  | 10 => True
  | _ => True
set_option maxRecDepth 100000 in
set_option maxHeartbeats 4000000 in
theorem Forks_r7 (g b6 b0 o0 n c0 i : Nat) (k f t : Int) (A : Option Addr) (c : Nat) (l : List S95) (t0 : List Value) (d0 : List Deferred) (w : World) (Q : Exit → Act → World → Prop) (hl : t0.length = fk7_tab.length)
    (t0_ : t0[0]? = some (.slice (some ⟨b0, o0, none⟩) n c0)) (t5_ : t0[5]? = some (.pointer (some ⟨g, 0, none⟩))) (t6_ : t0[6]? = some (.pointer (some ⟨b6, 0, none⟩))) (t7_ : t0[7]? = some (.int .i64 (i : Int))) (hi : i < n) (hn : n ≤ 100)
    (hJ0 : J8 g b6 b0 o0 i k f t A c l w (fun _ => false) w) (hw : wf 0 l) (hlc : l.length ≤ c) (hf : f ≤ 9223372036854775807) (hk0 : 0 ≤ k) (hk1 : k < 256) (hg6 : g ≠ b6) (hg0 : b0 ≠ g) (h06 : b0 ≠ b6)
    (hQ : ∀ σ W, Two g b6 w W → SetAt W g (stepL k f t l) → Fin1 b6 (stepL k f t l) W → Q .normal (lazyA (fun _ => true) σ t0 fk7_tab d0) W) :
    (Code.region 7 fk7_ops.toArray true).wp Try.prog Q { tmps := t0.toArray, defers := d0 } w := by
  refine wp_region_valsL (by kernel_rfl) fk7_tab (by kernel_rfl) hl (fun W W' => ∀ v, RS W v (stepL k f t l) → RS W' v (stepL k f t l)) (J8 g b6 b0 o0 i k f t A c l w) (fk7_val g b0 o0 n c0 i k f t A c l) ?hj ?hst ⟨(fun j b h => by cases h), (fun j b h => by cases h), (fun j b h => by cases h), (fun j b h => by cases h), (fun j b h => by cases h), (fun j b h => by cases h), (fun j b h => by cases h), (fun j b h => by cases h), (fun j b h => by cases h), (fun j b h => by cases h), (fun j b h => by cases h), trivial⟩ ⟨?s0, ?s1, ?s2, ?s3, ?s4, ?s5, ?s6, ?s7, ?s8, ?s9, ?s10, trivial⟩ ?hdone
  case hj =>
    have b := below_drew (Below.refl w.heap.size w)
    exact ⟨⟨rfl, rfl, rfl, Nat.le_refl _, fun _ _ _ _ => rfl⟩, hJ0.c0, hJ0.c1, hJ0.c2, fun _ => (hJ0.set0 rfl).below b, (fun e => by cases e), fun _ => ⟨(hJ0.old rfl).1, Kd.C_drew (hJ0.old rfl).2⟩, (fun e => by cases e), hJ0.one⟩
  case hst =>
    intro j v W W' hR h
    match j with
    | 0 => exact h
    | 1 => exact h
    | 2 => exact h
    | 3 => exact h
    | 4 => exact h
    | 5 => exact h
    | 6 => exact (let ⟨u, h1, h2⟩ := h; ⟨u, h1, hR u h2⟩)
    | 7 => exact (let ⟨u, h1, h2⟩ := h; ⟨u, h1, hR u h2⟩)
    | 8 => exact hR v h
    | 9 => exact h
    | 10 => exact h
    | n + 11 => trivial
  case s0 =>
    intro L ρ W hL hcl hJ hT
    have q5 := hT.2.1 5 _ t5_ rfl
    refine Op1.of_run (v := .pointer (some ⟨g, 0, none⟩)) (W' := W) (by clear hT hJ hcl; go_simp) ⟨fun _ h => h, hJ.skip (by decide) (by decide), rfl⟩
  case s1 =>
    intro L ρ W hL hcl hJ hT
    have q6 := hT.2.1 6 _ t6_ rfl
    have e10 : L 10 = false := Bool.eq_false_iff.2 fun e => by rw [hcl 6 1 (by rfl) (hcl 7 6 (by rfl) (hcl 8 7 (by rfl) (hcl 10 8 (by rfl) e)))] at hL; cases hL
    have cc := cell_of_one (hJ.old e10).1
    refine Op1.of_run (v := .agg #[.slice A l.length c]) (W' := W) (by clear hT hJ hcl; go_simp) ⟨fun _ h => h, hJ.skip (by decide) (by decide), rfl⟩
  case s2 =>
    intro L ρ W hL hcl hJ hT
    have q0 := hT.2.1 0 _ t0_ rfl
    refine Op1.of_run (v := .slice (some ⟨b0, o0, none⟩) n c0) (W' := W) (by clear hT hJ hcl; go_simp) ⟨fun _ h => h, hJ.skip (by decide) (by decide), rfl⟩
  case s3 =>
    intro L ρ W hL hcl hJ hT
    have q7 := hT.2.1 7 _ t7_ rfl
    refine Op1.of_run (v := .int .i64 (i : Int)) (W' := W) (by clear hT hJ hcl; go_simp) ⟨fun _ h => h, hJ.skip (by decide) (by decide), rfl⟩
  case s4 =>
    intro L ρ W hL hcl hJ hT
    have q36 : ρ (.tmp 36) = .slice (some ⟨b0, o0, none⟩) n c0 := hT.1 36 2 rfl rfl
    have q37 : ρ (.tmp 37) = .int .i64 (i : Int) := hT.1 37 3 rfl rfl
    have i1 : (i : Int) < (n : Int) := by omega
    refine Op1.of_run (v := .pointer (some ⟨b0, o0 + i * 3, none⟩)) (W' := W) (by clear hT hJ hcl; go_simp) ⟨fun _ h => h, hJ.skip (by decide) (by decide), rfl⟩
  case s5 =>
    intro L ρ W hL hcl hJ hT
    have q38 : ρ (.tmp 38) = .pointer (some ⟨b0, o0 + i * 3, none⟩) := hT.1 38 4 rfl rfl
    have z0 := hJ.c0
    have z1 := hJ.c1
    have z2 := hJ.c2
    refine Op1.of_run (v := .agg #[.int .u8 k, .int .i64 f, .int .i64 t]) (W' := W) (by clear hT hJ hcl; go_simp) ⟨fun _ h => h, hJ.skip (by decide) (by decide), rfl⟩
  case s6 =>
    intro L ρ W hL hcl hJ hT
    have q34 : ρ (.tmp 34) = .pointer (some ⟨g, 0, none⟩) := hT.1 34 0 rfl rfl
    have q35 : ρ (.tmp 35) = .agg #[.slice A l.length c] := hT.1 35 1 rfl rfl
    have q39 : ρ (.tmp 39) = .agg #[.int .u8 k, .int .i64 f, .int .i64 t] := hT.1 39 5 rfl rfl
    have e10 : L 10 = false := Bool.eq_false_iff.2 fun e => by rw [hcl 7 6 (by rfl) (hcl 8 7 (by rfl) (hcl 10 8 (by rfl) e))] at hL; cases hL
    have qf := hT.2.2.2 41
    refine Op1.of_call (f := 41) (args := #[.pointer (some ⟨g, 0, none⟩), .agg #[.slice A l.length c], .agg #[.int .u8 k, .int .i64 f, .int .i64 t]]) (W' := W) (by clear hT hJ hcl; go_simp) ?_
    refine (Do_calls g k f t l _ W (hJ.set0 hL) ⟨A, c, rfl, hlc, (hJ.old e10).2⟩ hw hf hk0 hk1).mono ?_
    rintro e W2 ⟨u, rfl, h1, h2, h3⟩
    exact ⟨_, rfl, fun v hv => hv.only (hJ.set0 hL) h3, hJ.call hL e10 h1 h3 hg6 hg0, u, rfl, h2⟩
  case s7 =>
    intro L ρ W hL hcl hJ hT
    obtain ⟨u, q28, hu⟩ := (show ∃ u, ρ (.tmp 40) = .tuple #[u, .bool true] ∧ RS W u (stepL k f t l) from hT.1 40 6 rfl rfl)
    exact Op1.of_run (v := .tuple #[u, .bool true]) (W' := W) (by clear hT hJ hcl; go_simp) ⟨fun _ h => h, hJ.skip (by decide) (by decide), u, rfl, hu⟩
  case s8 =>
    intro L ρ W hL hcl hJ hT
    obtain ⟨u, q21, hu⟩ := (show ∃ u, ρ (.tmp 33) = .tuple #[u, .bool true] ∧ RS W u (stepL k f t l) from hT.1 33 7 rfl rfl)
    exact Op1.of_run (v := u) (W' := W) (by clear hT hJ hcl; go_simp) ⟨fun _ h => h, hJ.skip (by decide) (by decide), hu⟩
  case s9 =>
    intro L ρ W hL hcl hJ hT
    obtain ⟨u, q21, hu⟩ := (show ∃ u, ρ (.tmp 33) = .tuple #[u, .bool true] ∧ RS W u (stepL k f t l) from hT.1 33 7 rfl rfl)
    refine Op1.of_run (v := .bool true) (W' := W) (by clear hT hJ hcl; go_simp) ⟨fun _ h => h, hJ.skip (by decide) (by decide), rfl⟩
  case s10 =>
    intro L ρ W hL hcl hJ hT
    have q6 := hT.2.1 6 _ t6_ rfl
    obtain ⟨A', c', q29, hlc', hC'⟩ := (show RS W (ρ (.tmp 41)) (stepL k f t l) from hT.1 41 8 rfl rfl)
    obtain ⟨B1, m1, e1, hb⟩ := hJ.one
    have cb := cell_of_one hb
    have fb := free_of_one hb
    exact Op1.of_skip (W' := W.setCell ⟨b6, 0, none⟩ (.slice A' (stepL k f t l).length c')) (by clear hT hJ hcl; go_simp) ⟨fun v hv => hv.sl1 ⟨_, _, _, hb⟩ ((Only.refl _ _).setCell rfl _), hJ.store hlc' hC' hg6 h06, trivial⟩
  case hdone =>
    intro σ L W hL hJ hV
    exact hQ σ W hJ.two (hJ.set1 (hL 6 (by decide))) (hJ.new (hL 10 (by decide)))
abbrev fk14_ops : List Oper := [{ dst := some 55, op := .move (.tmp 8), type := 70, pos := "law.go:99", after := #[], guard := none },
  { dst := some 56, op := .load 80 (.tmp 9), type := 80, pos := "law.go:99", after := #[], guard := none },
  { dst := some 57, op := .move (.tmp 1), type := 78, pos := "law.go:99", after := #[], guard := none },
  { dst := some 58, op := .move (.tmp 11), type := 3, pos := "law.go:99", after := #[], guard := none },
  { dst := some 59, op := .indexAddr 78 (.tmp 57) (.tmp 58), type := 0, pos := "law.go:99", after := #[⟨2, .data⟩, ⟨3, .data⟩], guard := none },
  { dst := some 60, op := .load 84 (.tmp 59), type := 84, pos := "law.go:99", after := #[⟨4, .data⟩], guard := none },
  { dst := some 61, op := .call { callee := .value (.func 41), args := #[.tmp 55, .tmp 56, .tmp 60], argTypes := #[70, 80, 84] }, type := 81, pos := "law.go:99", after := #[⟨0, .data⟩, ⟨1, .data⟩, ⟨5, .data⟩], guard := none },
  { dst := some 54, op := .move (.tmp 61), type := 81, pos := "law.go:99", after := #[⟨6, .data⟩], guard := none },
  { dst := some 62, op := .extract (.tmp 54) 0, type := 80, pos := "law.go:99", after := #[⟨7, .data⟩], guard := none },
  { dst := some 63, op := .extract (.tmp 54) 1, type := 4, pos := "law.go:99", after := #[⟨7, .data⟩, ⟨10, .gcOnly .lateStores⟩], guard := none },
  { dst := none, op := .store 80 (.tmp 9) (.tmp 62), type := 0, pos := "law.go:99", after := #[⟨8, .data⟩, ⟨6, .chain⟩, ⟨0, .phase⟩, ⟨1, .phase⟩, ⟨2, .phase⟩, ⟨3, .phase⟩, ⟨4, .phase⟩, ⟨5, .phase⟩, ⟨6, .phase⟩, ⟨7, .phase⟩, ⟨8, .phase⟩, ⟨9, .textOnly .lateStores⟩], guard := none },
  { dst := some 10, op := .assign (.tmp 63), type := 4, pos := "law.go:99", after := #[⟨9, .data⟩, ⟨10, .chain⟩, ⟨0, .phase⟩, ⟨1, .phase⟩, ⟨2, .phase⟩, ⟨3, .phase⟩, ⟨4, .phase⟩, ⟨5, .phase⟩, ⟨6, .phase⟩, ⟨7, .phase⟩, ⟨8, .phase⟩, ⟨9, .phase⟩, ⟨10, .phase⟩], guard := none }]
abbrev fk14_tab : List (Option Nat) := [none, none, none, none, none, none, none, none, none, none, some 11, none, none, none, none, none, none, none, none, none, none, none, none, none, none, none, none, none, none, none, none, none, none, none, none, none, none, none, none, none, none, none, none, none, none, none, none, none, none, none, none, none, none, none, some 7, some 0, some 1, some 2, some 3, some 4, some 5, some 6, some 8, some 9, none, none, none, none, none, none, none, none, none, none, none, none, none, none, none, none, none, none, none, none, none, none, none, none, none, none, none, none, none, none, none, none, none, none, none, none, none, none, none, none, none, none, none, none, none, none, none, none, none, none, none, none, none, none, none, none, none, none, none, none, none, none, none, none, none, none, none, none, none, none, none, none]

def fk14_val (g b0 o0 n c0 i : Nat) (k f t : Int) (A : Option Addr) (c : Nat) (l : List S95) : Nat → Value → World → Prop := fun j v W => match j with
  | 0 => v = .pointer (some ⟨g, 0, none⟩)
  | 1 => v = .agg #[.slice A l.length c]
  | 2 => v = .slice (some ⟨b0, o0, none⟩) n c0
  | 3 => v = .int .i64 (i : Int)
  | 4 => v = .pointer (some ⟨b0, o0 + i * 3, none⟩)
  | 5 => v = .agg #[.int .u8 k, .int .i64 f, .int .i64 t]
  | 6 => ∃ u, v = .tuple #[u, .bool true] ∧ RS W u (stepL k f t l)
  | 7 => ∃ u, v = .tuple #[u, .bool true] ∧ RS W u (stepL k f t l)
  | 8 => RS W v (stepL k f t l)
  | 9 => v = .bool true
  | 10 => True
  | 11 => v = .bool true
  | _ => True
set_option maxRecDepth 100000 in
set_option maxHeartbeats 4000000 in
theorem Forks_r14 (g b6 b0 o0 n c0 i : Nat) (k f t : Int) (A : Option Addr) (c : Nat) (l : List S95) (t0 : List Value) (d0 : List Deferred) (w : World) (Q : Exit → Act → World → Prop) (hl : t0.length = fk14_tab.length)
    (t1_ : t0[1]? = some (.slice (some ⟨b0, o0, none⟩) n c0)) (t8_ : t0[8]? = some (.pointer (some ⟨g, 0, none⟩))) (t9_ : t0[9]? = some (.pointer (some ⟨b6, 0, none⟩))) (t11_ : t0[11]? = some (.int .i64 (i : Int))) (hi : i < n) (hn : n ≤ 100)
    (hJ0 : J8 g b6 b0 o0 i k f t A c l w (fun _ => false) w) (hw : wf 0 l) (hlc : l.length ≤ c) (hf : f ≤ 9223372036854775807) (hk0 : 0 ≤ k) (hk1 : k < 256) (hg6 : g ≠ b6) (hg0 : b0 ≠ g) (h06 : b0 ≠ b6)
    (hQ : ∀ σ W, Two g b6 w W → SetAt W g (stepL k f t l) → Fin1 b6 (stepL k f t l) W → σ 11 = .bool true → Q .normal (lazyA (fun _ => true) σ t0 fk14_tab d0) W) :
    (Code.region 14 fk14_ops.toArray true).wp Try.prog Q { tmps := t0.toArray, defers := d0 } w := by
  refine wp_region_valsL (by kernel_rfl) fk14_tab (by kernel_rfl) hl (fun W W' => ∀ v, RS W v (stepL k f t l) → RS W' v (stepL k f t l)) (J8 g b6 b0 o0 i k f t A c l w) (fk14_val g b0 o0 n c0 i k f t A c l) ?hj ?hst ⟨(fun j b h => by cases h), (fun j b h => by cases h), (fun j b h => by cases h), (fun j b h => by cases h), (fun j b h => by cases h), (fun j b h => by cases h), (fun j b h => by cases h), (fun j b h => by cases h), (fun j b h => by cases h), (fun j b h => by cases h), (fun j b h => by cases h), (fun j b h => by cases h), trivial⟩ ⟨?s0, ?s1, ?s2, ?s3, ?s4, ?s5, ?s6, ?s7, ?s8, ?s9, ?s10, ?s11, trivial⟩ ?hdone
  case hj =>
    have b := below_drew (Below.refl w.heap.size w)
    exact ⟨⟨rfl, rfl, rfl, Nat.le_refl _, fun _ _ _ _ => rfl⟩, hJ0.c0, hJ0.c1, hJ0.c2, fun _ => (hJ0.set0 rfl).below b, (fun e => by cases e), fun _ => ⟨(hJ0.old rfl).1, Kd.C_drew (hJ0.old rfl).2⟩, (fun e => by cases e), hJ0.one⟩
  case hst =>
    intro j v W W' hR h
    match j with
    | 0 => exact h
    | 1 => exact h
    | 2 => exact h
    | 3 => exact h
    | 4 => exact h
    | 5 => exact h
    | 6 => exact (let ⟨u, h1, h2⟩ := h; ⟨u, h1, hR u h2⟩)
    | 7 => exact (let ⟨u, h1, h2⟩ := h; ⟨u, h1, hR u h2⟩)
    | 8 => exact hR v h
    | 9 => exact h
    | 10 => exact h
    | 11 => exact h
    | n + 12 => trivial
  case s0 =>
    intro L ρ W hL hcl hJ hT
    have q8 := hT.2.1 8 _ t8_ rfl
    refine Op1.of_run (v := .pointer (some ⟨g, 0, none⟩)) (W' := W) (by clear hT hJ hcl; go_simp) ⟨fun _ h => h, hJ.skip (by decide) (by decide), rfl⟩
  case s1 =>
    intro L ρ W hL hcl hJ hT
    have q9 := hT.2.1 9 _ t9_ rfl
    have e10 : L 10 = false := Bool.eq_false_iff.2 fun e => by rw [hcl 6 1 (by rfl) (hcl 7 6 (by rfl) (hcl 8 7 (by rfl) (hcl 10 8 (by rfl) e)))] at hL; cases hL
    have cc := cell_of_one (hJ.old e10).1
    refine Op1.of_run (v := .agg #[.slice A l.length c]) (W' := W) (by clear hT hJ hcl; go_simp) ⟨fun _ h => h, hJ.skip (by decide) (by decide), rfl⟩
  case s2 =>
    intro L ρ W hL hcl hJ hT
    have q1 := hT.2.1 1 _ t1_ rfl
    refine Op1.of_run (v := .slice (some ⟨b0, o0, none⟩) n c0) (W' := W) (by clear hT hJ hcl; go_simp) ⟨fun _ h => h, hJ.skip (by decide) (by decide), rfl⟩
  case s3 =>
    intro L ρ W hL hcl hJ hT
    have q11 := hT.2.1 11 _ t11_ rfl
    refine Op1.of_run (v := .int .i64 (i : Int)) (W' := W) (by clear hT hJ hcl; go_simp) ⟨fun _ h => h, hJ.skip (by decide) (by decide), rfl⟩
  case s4 =>
    intro L ρ W hL hcl hJ hT
    have q57 : ρ (.tmp 57) = .slice (some ⟨b0, o0, none⟩) n c0 := hT.1 57 2 rfl rfl
    have q58 : ρ (.tmp 58) = .int .i64 (i : Int) := hT.1 58 3 rfl rfl
    have i1 : (i : Int) < (n : Int) := by omega
    refine Op1.of_run (v := .pointer (some ⟨b0, o0 + i * 3, none⟩)) (W' := W) (by clear hT hJ hcl; go_simp) ⟨fun _ h => h, hJ.skip (by decide) (by decide), rfl⟩
  case s5 =>
    intro L ρ W hL hcl hJ hT
    have q59 : ρ (.tmp 59) = .pointer (some ⟨b0, o0 + i * 3, none⟩) := hT.1 59 4 rfl rfl
    have z0 := hJ.c0
    have z1 := hJ.c1
    have z2 := hJ.c2
    refine Op1.of_run (v := .agg #[.int .u8 k, .int .i64 f, .int .i64 t]) (W' := W) (by clear hT hJ hcl; go_simp) ⟨fun _ h => h, hJ.skip (by decide) (by decide), rfl⟩
  case s6 =>
    intro L ρ W hL hcl hJ hT
    have q55 : ρ (.tmp 55) = .pointer (some ⟨g, 0, none⟩) := hT.1 55 0 rfl rfl
    have q56 : ρ (.tmp 56) = .agg #[.slice A l.length c] := hT.1 56 1 rfl rfl
    have q60 : ρ (.tmp 60) = .agg #[.int .u8 k, .int .i64 f, .int .i64 t] := hT.1 60 5 rfl rfl
    have e10 : L 10 = false := Bool.eq_false_iff.2 fun e => by rw [hcl 7 6 (by rfl) (hcl 8 7 (by rfl) (hcl 10 8 (by rfl) e))] at hL; cases hL
    have qf := hT.2.2.2 41
    refine Op1.of_call (f := 41) (args := #[.pointer (some ⟨g, 0, none⟩), .agg #[.slice A l.length c], .agg #[.int .u8 k, .int .i64 f, .int .i64 t]]) (W' := W) (by clear hT hJ hcl; go_simp) ?_
    refine (Do_calls g k f t l _ W (hJ.set0 hL) ⟨A, c, rfl, hlc, (hJ.old e10).2⟩ hw hf hk0 hk1).mono ?_
    rintro e W2 ⟨u, rfl, h1, h2, h3⟩
    exact ⟨_, rfl, fun v hv => hv.only (hJ.set0 hL) h3, hJ.call hL e10 h1 h3 hg6 hg0, u, rfl, h2⟩
  case s7 =>
    intro L ρ W hL hcl hJ hT
    obtain ⟨u, q28, hu⟩ := (show ∃ u, ρ (.tmp 61) = .tuple #[u, .bool true] ∧ RS W u (stepL k f t l) from hT.1 61 6 rfl rfl)
    exact Op1.of_run (v := .tuple #[u, .bool true]) (W' := W) (by clear hT hJ hcl; go_simp) ⟨fun _ h => h, hJ.skip (by decide) (by decide), u, rfl, hu⟩
  case s8 =>
    intro L ρ W hL hcl hJ hT
    obtain ⟨u, q21, hu⟩ := (show ∃ u, ρ (.tmp 54) = .tuple #[u, .bool true] ∧ RS W u (stepL k f t l) from hT.1 54 7 rfl rfl)
    exact Op1.of_run (v := u) (W' := W) (by clear hT hJ hcl; go_simp) ⟨fun _ h => h, hJ.skip (by decide) (by decide), hu⟩
  case s9 =>
    intro L ρ W hL hcl hJ hT
    obtain ⟨u, q21, hu⟩ := (show ∃ u, ρ (.tmp 54) = .tuple #[u, .bool true] ∧ RS W u (stepL k f t l) from hT.1 54 7 rfl rfl)
    refine Op1.of_run (v := .bool true) (W' := W) (by clear hT hJ hcl; go_simp) ⟨fun _ h => h, hJ.skip (by decide) (by decide), rfl⟩
  case s10 =>
    intro L ρ W hL hcl hJ hT
    have q9 := hT.2.1 9 _ t9_ rfl
    obtain ⟨A', c', q29, hlc', hC'⟩ := (show RS W (ρ (.tmp 62)) (stepL k f t l) from hT.1 62 8 rfl rfl)
    obtain ⟨B1, m1, e1, hb⟩ := hJ.one
    have cb := cell_of_one hb
    have fb := free_of_one hb
    exact Op1.of_skip (W' := W.setCell ⟨b6, 0, none⟩ (.slice A' (stepL k f t l).length c')) (by clear hT hJ hcl; go_simp) ⟨fun v hv => hv.sl1 ⟨_, _, _, hb⟩ ((Only.refl _ _).setCell rfl _), hJ.store hlc' hC' hg6 h06, trivial⟩
  case s11 =>
    intro L ρ W hL hcl hJ hT
    have q63 : ρ (.tmp 63) = .bool true := hT.1 63 9 rfl rfl
    refine Op1.of_run (v := .bool true) (W' := W) (by clear hT hJ hcl; go_simp) ⟨fun _ h => h, hJ.skip (by decide) (by decide), rfl⟩
  case hdone =>
    intro σ L W hL hJ hV
    exact hQ σ W hJ.two (hJ.set1 (hL 6 (by decide))) (hJ.new (hL 10 (by decide))) (hV 11 (by decide))
abbrev fk8_ops : List Oper := [{ dst := some 43, op := .move (.tmp 5), type := 70, pos := "law.go:94", after := #[], guard := none },
  { dst := some 44, op := .call { callee := .value (.func 47), args := #[.tmp 43], argTypes := #[70] }, type := 70, pos := "law.go:94", after := #[⟨0, .data⟩], guard := none },
  { dst := some 45, op := .load 80 (.tmp 6), type := 80, pos := "law.go:94", after := #[⟨4, .gcOnly .lateStores⟩], guard := none },
  { dst := some 9, op := .alloc 80, type := 0, pos := "law.go:94", after := #[], guard := none },
  { dst := some 8, op := .assign (.tmp 44), type := 70, pos := "law.go:94", after := #[⟨1, .data⟩, ⟨1, .chain⟩, ⟨0, .phase⟩, ⟨1, .phase⟩, ⟨2, .textOnly .lateStores⟩, ⟨3, .phase⟩], guard := none },
  { dst := none, op := .store 80 (.tmp 9) (.tmp 45), type := 0, pos := "law.go:94", after := #[⟨3, .data⟩, ⟨2, .data⟩, ⟨4, .chain⟩, ⟨0, .phase⟩, ⟨1, .phase⟩, ⟨2, .phase⟩, ⟨3, .phase⟩, ⟨4, .phase⟩], guard := none },
  { dst := some 10, op := .assign (.const (.bool true)), type := 4, pos := "law.go:94", after := #[⟨5, .chain⟩, ⟨0, .phase⟩, ⟨1, .phase⟩, ⟨2, .phase⟩, ⟨3, .phase⟩, ⟨4, .phase⟩, ⟨5, .phase⟩], guard := none }]
abbrev fk8_tab : List (Option Nat) := [none, none, none, none, none, none, none, none, some 4, some 3, some 6, none, none, none, none, none, none, none, none, none, none, none, none, none, none, none, none, none, none, none, none, none, none, none, none, none, none, none, none, none, none, none, none, some 0, some 1, some 2, none, none, none, none, none, none, none, none, none, none, none, none, none, none, none, none, none, none, none, none, none, none, none, none, none, none, none, none, none, none, none, none, none, none, none, none, none, none, none, none, none, none, none, none, none, none, none, none, none, none, none, none, none, none, none, none, none, none, none, none, none, none, none, none, none, none, none, none, none, none, none, none, none, none, none, none, none, none, none, none, none, none, none, none, none, none, none, none, none, none]
/-- What the region 'f, x, ok := s.Fork(), r, true' has come to. -/
structure I8 (g b6 : Nat) (A : Option Addr) (c : Nat) (l : List S95) (w : World) (L : Nat → Bool) (σ : Nat → Value) (W : World) : Prop where
  b : Below w.heap.size w W
  v0 : L 0 = true → σ 0 = .pointer (some ⟨g, 0, none⟩)
  v1 : L 1 = true → ∃ g', σ 1 = .pointer (some ⟨g', 0, none⟩) ∧ SetAt W g' l ∧ w.heap.size ≤ g'
  v2 : L 2 = true → σ 2 = .agg #[.slice A l.length c]
  v3 : L 3 = true → ∃ b9, σ 3 = .pointer (some ⟨b9, 0, none⟩) ∧ w.heap.size ≤ b9 ∧ Sl1 b9 W ∧ (L 5 = true → Fin1 b9 l W)
  v4 : L 4 = true → σ 4 = σ 1
  v6 : L 6 = true → σ 6 = .bool true
  o5 : L 5 = true → L 4 = true
  o4 : L 4 = true → L 1 = true ∧ L 3 = true
theorem set_ne_sl1 {W : World} {g b : Nat} {l : List S95} (h : SetAt W g l) (hb : Sl1 b W) : g ≠ b := by
  rintro rfl
  obtain ⟨sv, h1, _⟩ := h
  obtain ⟨A, n, c, h2⟩ := hb
  rw [h1] at h2
  injection h2 with h2
  injection h2 with _ h2
  cases h2
set_option maxRecDepth 100000 in
set_option maxHeartbeats 4000000 in
theorem Forks_r8 (g b6 : Nat) (A : Option Addr) (c : Nat) (l : List S95) (t0 : List Value) (d0 : List Deferred) (w : World) (Q : Exit → Act → World → Prop) (hl : t0.length = fk8_tab.length)
    (t5_ : t0[5]? = some (.pointer (some ⟨g, 0, none⟩))) (t6_ : t0[6]? = some (.pointer (some ⟨b6, 0, none⟩)))
    (hS : SetAt w g l) (h6 : w.heap[b6]? = some (.cells #[.slice A l.length c] 80 (0, 0))) (hC : Kd.C k95 w A l.length l) (hlc : l.length ≤ c) (hll : l.length < 8796093022208)
    (hQ : ∀ σ W g' b9, Below w.heap.size w W → σ 4 = .pointer (some ⟨g', 0, none⟩) → SetAt W g' l → w.heap.size ≤ g' → σ 3 = .pointer (some ⟨b9, 0, none⟩) → w.heap.size ≤ b9 → Fin1 b9 l W → σ 6 = .bool true → Q .normal (lazyA (fun _ => true) σ t0 fk8_tab d0) W) :
    (Code.region 8 fk8_ops.toArray true).wp Try.prog Q { tmps := t0.toArray, defers := d0 } w := by
  refine wp_region_lazy (by kernel_rfl) fk8_tab (by kernel_rfl) hl (I8 g b6 A c l w) ⟨below_drew (Below.refl _ _), (fun h => by cases h), (fun h => by cases h), (fun h => by cases h), (fun h => by cases h), (fun h => by cases h), (fun h => by cases h), (fun h => by cases h), (fun h => by cases h)⟩ ⟨?s0, ?s1, ?s2, ?s3, ?s4, ?s5, ?s6, trivial⟩ ?hdone
  case s0 =>
    intro L σ W hL ha hI
    have q5 := lazy_old (L := L) (σ := σ) (d0 := d0) t5_ (show fk8_tab[5]? = some none from rfl)
    generalize (lazyA L σ t0 fk8_tab d0).eval = ρ at *
    exact Op1.of_run (v := .pointer (some ⟨g, 0, none⟩)) (W' := W) (by clear hI ha; go_simp) ⟨hI.b, fun _ => by simp [updS], by simpa [updL, updS] using hI.v1, by simpa [updL, updS] using hI.v2, by simpa [updL, updS] using hI.v3, by simpa [updL, updS] using hI.v4, by simpa [updL, updS] using hI.v6, by simpa [updL] using hI.o5, by simpa [updL] using hI.o4⟩
  case s1 =>
    intro L σ W hL ha hI
    have a0 : L 0 = true := ha ⟨0, .data⟩ (by simp) rfl
    have q43 : (lazyA L σ t0 fk8_tab d0).eval (.tmp 43) = .pointer (some ⟨g, 0, none⟩) := (lazy_eval hl (show fk8_tab[43]? = some (some 0) from rfl) a0).trans (hI.v0 a0)
    have qf : (lazyA L σ t0 fk8_tab d0).eval (.func 47) = .func (.func 47) #[] #[] := rfl
    generalize (lazyA L σ t0 fk8_tab d0).eval = ρ at *
    have n4 : ¬ L 4 = true := fun h => by rw [(hI.o4 h).1] at hL; cases hL
    have n5 : ¬ L 5 = true := fun h => n4 (hI.o5 h)
    refine Op1.of_call (f := 47) (args := #[.pointer (some ⟨g, 0, none⟩)]) (W' := W) (by clear hI ha; go_simp) ?_
    refine (Fork_calls g l W (hS.below hI.b) hll).mono ?_
    rintro e W2 ⟨g', rfl, h1, h2, h3⟩
    refine ⟨_, rfl, below_step hI.b h2, by simpa [updL, updS] using hI.v0, fun _ => ⟨g', by simp [updS], h1, Nat.le_trans hI.b.size h3⟩, by simpa [updL, updS] using hI.v2, fun h => ?_, fun h => (n4 (by simpa [updL] using h)).elim, by simpa [updL, updS] using hI.v6, by simpa [updL] using hI.o5, fun h => (n4 (by simpa [updL] using h)).elim⟩
    obtain ⟨b9, x1, x2, x3, x4⟩ := hI.v3 (by simpa [updL] using h)
    exact ⟨b9, by simpa [updS] using x1, x2, x3.below h2, fun h => (n5 (by simpa [updL] using h)).elim⟩
  case s2 =>
    intro L σ W hL ha hI
    have q6 := lazy_old (L := L) (σ := σ) (d0 := d0) t6_ (show fk8_tab[6]? = some none from rfl)
    generalize (lazyA L σ t0 fk8_tab d0).eval = ρ at *
    have cc := cell_of_one ((hI.b.block b6 (lt_of_block h6)).trans h6)
    exact Op1.of_run (v := .agg #[.slice A l.length c]) (W' := W) (by clear hI ha; go_simp) ⟨hI.b, by simpa [updL, updS] using hI.v0, by simpa [updL, updS] using hI.v1, fun _ => by simp [updS], by simpa [updL, updS] using hI.v3, by simpa [updL, updS] using hI.v4, by simpa [updL, updS] using hI.v6, by simpa [updL] using hI.o5, by simpa [updL] using hI.o4⟩
  case s3 =>
    intro L σ W hL ha hI
    generalize (lazyA L σ t0 fk8_tab d0).eval = ρ at *
    have n4 : ¬ L 4 = true := fun h => by rw [(hI.o4 h).2] at hL; cases hL
    have n5 : ¬ L 5 = true := fun h => n4 (hI.o5 h)
    have hb := below_alloc (Below.refl W.heap.size W) (.cells #[.slice none 0 0] 80)
    refine Op1.of_run (v := .pointer (some ⟨W.heap.size, 0, none⟩)) (W' := W.alloc (.cells #[.slice none 0 0] 80)) (by clear hI ha; go_simp) ⟨below_step hI.b hb, by simpa [updL, updS] using hI.v0, fun h => ?_, by simpa [updL, updS] using hI.v2, fun _ => ⟨W.heap.size, by simp [updS], hI.b.size, ⟨none, 0, 0, heap_alloc_new W _⟩, fun h => (n5 (by simpa [updL] using h)).elim⟩, fun h => (n4 (by simpa [updL] using h)).elim, by simpa [updL, updS] using hI.v6, by simpa [updL] using hI.o5, fun h => (n4 (by simpa [updL] using h)).elim⟩
    obtain ⟨g', x1, x2, x3⟩ := hI.v1 (by simpa [updL] using h)
    exact ⟨g', by simpa [updS] using x1, x2.below hb, x3⟩
  case s4 =>
    intro L σ W hL ha hI
    have a1 : L 1 = true := ha ⟨1, .data⟩ (by simp) rfl
    have a3 : L 3 = true := ha ⟨3, .phase⟩ (by simp) rfl
    obtain ⟨g', x1, x2, x3⟩ := hI.v1 a1
    have q44 : (lazyA L σ t0 fk8_tab d0).eval (.tmp 44) = .pointer (some ⟨g', 0, none⟩) := (lazy_eval hl (show fk8_tab[44]? = some (some 1) from rfl) a1).trans x1
    generalize (lazyA L σ t0 fk8_tab d0).eval = ρ at *
    exact Op1.of_run (v := .pointer (some ⟨g', 0, none⟩)) (W' := W) (by clear hI ha; go_simp) ⟨hI.b, by simpa [updL, updS] using hI.v0, by simpa [updL, updS] using hI.v1, by simpa [updL, updS] using hI.v2, by simpa [updL, updS] using hI.v3, fun _ => by simp [updS, x1], by simpa [updL, updS] using hI.v6, by simp [updL], fun _ => by simp [updL, a1, a3]⟩
  case s5 =>
    intro L σ W hL ha hI
    have a2 : L 2 = true := ha ⟨2, .data⟩ (by simp) rfl
    have a3 : L 3 = true := ha ⟨3, .data⟩ (by simp) rfl
    have a4 : L 4 = true := ha ⟨4, .chain⟩ (by simp) rfl
    obtain ⟨b9, x1, x2, x3, x4⟩ := hI.v3 a3
    have q9 : (lazyA L σ t0 fk8_tab d0).eval (.tmp 9) = .pointer (some ⟨b9, 0, none⟩) := (lazy_eval hl (show fk8_tab[9]? = some (some 3) from rfl) a3).trans x1
    have q45 : (lazyA L σ t0 fk8_tab d0).eval (.tmp 45) = .agg #[.slice A l.length c] := (lazy_eval hl (show fk8_tab[45]? = some (some 2) from rfl) a2).trans (hI.v2 a2)
    generalize (lazyA L σ t0 fk8_tab d0).eval = ρ at *
    obtain ⟨k1, k2, k3⟩ := Rd.put x3 rfl hlc (Kd.C_below hC hI.b)
    have x3' := x3
    obtain ⟨B1, m1, e1, hb⟩ := x3
    have cb := cell_of_one hb
    have fb := free_of_one hb
    refine Op1.of_skip (W' := W.setCell ⟨b9, 0, none⟩ (.slice A l.length c)) (by clear hI ha; go_simp) ⟨Only.belowN hI.b k1.1 x2 hI.b.size, by simpa [updL, updS] using hI.v0, fun h => ?_, by simpa [updL, updS] using hI.v2, fun _ => ⟨b9, by simpa [updS] using x1, x2, k2, fun _ => k3⟩, by simpa [updL, updS] using hI.v4, by simpa [updL, updS] using hI.v6, fun _ => by simp [updL, a4], by simpa [updL] using hI.o4⟩
    obtain ⟨g', y1, y2, y3⟩ := hI.v1 (by simpa [updL] using h)
    exact ⟨g', by simpa [updS] using y1, y2.sl1 x3' k1.1 (set_ne_sl1 y2 x3'), y3⟩
  case s6 =>
    intro L σ W hL ha hI
    have qc : (lazyA L σ t0 fk8_tab d0).eval (.const (.bool true)) = .bool true := rfl
    generalize (lazyA L σ t0 fk8_tab d0).eval = ρ at *
    exact Op1.of_run (v := .bool true) (W' := W) (by clear hI ha; go_simp) ⟨hI.b, by simpa [updL, updS] using hI.v0, by simpa [updL, updS] using hI.v1, by simpa [updL, updS] using hI.v2, by simpa [updL, updS] using hI.v3, by simpa [updL, updS] using hI.v4, fun _ => by simp [updS], by simpa [updL] using hI.o5, by simpa [updL] using hI.o4⟩
  case hdone =>
    intro L σ W hL hI
    obtain ⟨g', y1, y2, y3⟩ := hI.v1 (hL 1 (by decide))
    obtain ⟨b9, x1, x2, x3, x4⟩ := hI.v3 (hL 3 (by decide))
    exact hQ σ W g' b9 hI.b ((hI.v4 (hL 4 (by decide))).trans y1) y2 y3 x1 x2 (x4 (hL 5 (by decide))) (hI.v6 (hL 6 (by decide)))
end Go.Proofs.Ytiladcdogbeomaa.QRangesPlays

namespace Go.Proofs.Ytiladcdogbeomaa.QRangesPlays
open Go.RowKit Go.Shelf Go.Proofs.YtiladcdogbeomaaW.PrintWords Go.Proofs.YtiladcdogbeomaaW.PrintLast Go.Proofs.YtiladcdogbeomaaW.PrintMore Go.Proofs.Ytiladcdogbeomaa.RowLaws Go.Proofs.Ytiladcdogbeomaa.Lazy
attribute [local go_sem] Oper.semAt_some
theorem C_two {W W' : World} {g b : Nat} {A : Option Addr} {n : Nat} {l : List S95} {tg tb : TypeId} {vg vb : Value} (h : Kd.C k95 W A n l) (ht : Two g b W W') (hg : W.heap[g]? = some (.cells #[vg] tg (0, 0))) (hvg : ∀ k i, vg ≠ .int k i)
    (hb : W.heap[b]? = some (.cells #[vb] tb (0, 0))) (hvb : ∀ k i, vb ≠ .int k i) : Kd.C k95 W' A n l := by
  refine ⟨h.1, h.2.1, fun hn => ?_⟩
  obtain ⟨bk, o, hA, z0, _⟩ := row_at h 0 (by have := h.1; omega)
  subst hA
  have key : ∀ (q : Nat) (v : Value) (t : TypeId), W.heap[q]? = some (.cells #[v] t (0, 0)) → (∀ k i, v ≠ .int k i) → bk ≠ q := by
    intro q v t hq hv e
    subst e
    have z1 : (#[v] : Array Value)[o + 0 * 2]? = some (.int .i64 (l[0]'(by have := h.1; omega)).f0) := by simpa [World.cell?, hq] using z0
    have ho0 : o + 0 * 2 < 1 := by simpa using (Array.getElem?_eq_some_iff.1 z1).1
    have e0 : o + 0 * 2 = 0 := by omega
    rw [e0] at z1
    exact hv _ _ (by simpa using z1)
  have h1 := key g vg tg hg hvg
  have h2 := key b vb tb hb hvb
  refine ⟨_, rfl, ?_⟩
  intro j p hj
  obtain ⟨ad, hA, hc⟩ := h.2.2 hn
  injection hA with hA
  subst hA
  obtain ⟨c, c1, c2, c3⟩ := hc j p hj
  refine ⟨c, c1, c2, fun i u hu => ?_⟩
  have hcell := c3 i u hu
  rw [add_off] at hcell ⊢
  exact (World.cell?_of_block (ht.block bk (World.block_lt_of_cell? _ _ hcell) h1 h2)).trans hcell
theorem Row.nonint {W : World} {sv : Value} {l : List S95} (h : Row W sv l) : ∀ k i, sv ≠ .int k i := by
  rcases h with ⟨rfl, _⟩ | ⟨b, c, rfl, _⟩ <;> (intro k i e; cases e)
/-- A set and a reference's box, side by side: what they read as. -/
structure StW (g b : Nat) (w W : World) (l : List S95) : Prop where
  hS : SetAt W g l
  hF : Fin1 b l W
  hb : Below w.heap.size w W
  hw : wf 0 l
  hg : w.heap.size ≤ g
  hB : w.heap.size ≤ b
section
variable {g b g' b' : Nat} {w W W' : World} {l l' : List S95}
theorem StW.ne (h : StW g b w W l) : g ≠ b := set_ne_sl1 h.hS (by obtain ⟨A, c, h1, _⟩ := h.hF; exact ⟨_, _, _, h1⟩)
theorem StW.below (h : StW g b w W l) (hb : Below W.heap.size W W') : StW g b w W' l := ⟨h.hS.below hb, h.hF.below hb, below_step h.hb hb, h.hw, h.hg, h.hB⟩
theorem Two.belowN {B : Nat} {a : World} (h : Below B a W) (ht : Two g b W W') (hg : B ≤ g) (hb : B ≤ b) (hB : B ≤ W.heap.size) : Below B a W' :=
  ⟨ht.os.trans h.os, ht.tape.trans h.tape, ht.output.trans h.output, Nat.le_trans h.size ht.size, fun j hj => (ht.block j (Nat.lt_of_lt_of_le hj hB) (by omega) (by omega)).trans (h.block j hj)⟩
theorem StW.two (h : StW g b w W l) (ht : Two g b W W') (hS : SetAt W' g l') (hF : Fin1 b l' W') (hw : wf 0 l') : StW g b w W' l' := ⟨hS, hF, Two.belowN h.hb ht h.hg h.hB h.hb.size, hw, h.hg, h.hB⟩
theorem StW.far (h : StW g b w W l) (k : StW g' b' w W l') (ht : Two g' b' W W') (h1 : g ≠ g') (h2 : b ≠ b') (hW : Below w.heap.size w W') : StW g b w W' l := by
  obtain ⟨sv, s1, s2⟩ := h.hS
  obtain ⟨sv', s1', s2'⟩ := k.hS
  obtain ⟨A, c, f1, f2, f3⟩ := h.hF
  obtain ⟨A', c', f1', f2', f3'⟩ := k.hF
  have x1 : g ≠ b' := set_ne_sl1 h.hS ⟨_, _, _, f1'⟩
  have x2 : b ≠ g' := fun e => set_ne_sl1 k.hS ⟨_, _, _, f1⟩ e.symm
  have hC : ∀ {A n l}, Kd.C k95 W A n l → Kd.C k95 W' A n l := fun hc => C_two hc ht s1' s2'.nonint f1' (by intro k i e; cases e)
  refine ⟨⟨sv, (ht.block g (lt_of_block s1) h1 x1).trans s1, ?_⟩, ⟨A, c, (ht.block b (lt_of_block f1) x2 h2).trans f1, f2, hC f3⟩, hW, h.hw, h.hg, h.hB⟩
  rcases s2 with s2 | ⟨b0, c0, rfl, r2, r3, r4⟩
  · exact .inl s2
  · exact .inr ⟨b0, c0, rfl, hC r2, r3, Nat.lt_of_lt_of_le r4 ht.size⟩
end
set_option maxRecDepth 100000 in
set_option maxHeartbeats 4000000 in
theorem Forks_walk (A : Option Addr) (c : Nat) (xs : List (Int × Int × Int)) (A' : Option Addr) (c' : Nat) (ys : List (Int × Int × Int)) (w : World) (hA : ActRow w A xs) (hx : ActsOk xs) (hc : xs.length ≤ c) (hA' : ActRow w A' ys) (hy : ActsOk ys) (hc' : ys.length ≤ c') :
    Calls Try.prog 10 #[.slice A xs.length c, .slice A' ys.length c'] w fun e w' => e = .returned (.bool true) ∧ Below w.heap.size w w' := by
  have HA := Aside0.mk hA
  have HX := Aside0.mk hx
  have HA' := Aside0.mk hA'
  have HX' := Aside0.mk hy
  obtain ⟨n, hn⟩ : ∃ n, xs.length = n := ⟨_, rfl⟩
  obtain ⟨m, hm⟩ : ∃ m, ys.length = m := ⟨_, rfl⟩
  rw [hn] at hc ⊢
  rw [hm] at hc' ⊢
  clear hA hx hA' hy
  by_cases h100 : 100 < n
  · have e1 : (100 : Int) < (n : Int) := by omega
    go_enter Try.func10, Try.ntmps10
    go_wp2_with (go_at_call 35; refine (Awake_calls _).mono ?_; rintro e w2 ⟨rfl, hb⟩; have HB := Aside0.mk hb; clear hb)
    go_ret
    exact ⟨rfl, HB.out⟩
  · by_cases h101 : 100 < m
    · have e1 : ¬ (100 : Int) < (n : Int) := by omega
      have e2 : (100 : Int) < (m : Int) := by omega
      go_enter Try.func10, Try.ntmps10
      go_wp2_with (go_at_call 35; refine (Awake_calls _).mono ?_; rintro e w2 ⟨rfl, hb⟩; have HB := Aside0.mk hb; clear hb)
      go_ret
      exact ⟨rfl, HB.out⟩
    · have e1 : ¬ (100 : Int) < (n : Int) := by omega
      have e2 : ¬ (100 : Int) < (m : Int) := by omega
      go_enter Try.func10, Try.ntmps10
      go_wp2_with (first
        | (go_at_call 36; refine (New_calls _).mono ?_; rintro e w2 ⟨g, rfl, hs, hb, hg⟩; have HS := Aside0.mk hs; have HB := Aside0.mk hb; have HG := Aside0.mk hg; clear hs hb hg))
      have hgw : g = w.heap.size := by have := HG.out; simpa using this
      have HST := Aside0.mk (show StW g w2.heap.size w (w2.alloc (.cells #[.slice none 0 0] 80)) [] from ⟨HS.out.below (below_alloc (Below.refl _ w2) _), ⟨none, 0, heap_alloc_new w2 _, Nat.le_refl _, Kd.C_nil _ _⟩, below_step HB.out (below_alloc (Below.refl _ w2) _), trivial, Nat.le_of_eq hgw.symm, HB.out.size⟩)
      obtain ⟨b, hb⟩ : ∃ b, w2.heap.size = b := ⟨_, rfl⟩
      rw [hb] at HST ⊢
      clear hgw hb HS HB HG
      go_loopw [7] (fun i wr => ∃ j : Nat, j ≤ n ∧ i = .int .i64 j ∧ Aside0 (∃ l, StW g b w wr l)) (fun i _ => n - (intOf i).toNat)
      case atStart => exact ⟨0, Nat.zero_le _, rfl, ⟨⟨[], HST.out⟩⟩⟩
      case round =>
        obtain ⟨j, hj, rfl, HL⟩ := hrel
        obtain ⟨l, hl⟩ := HL.out
        by_cases hlt : j < n
        · have hlt2 : ((j : Nat) : Int) < (n : Int) := by omega
          obtain ⟨b0, o0, rfl, r0, r1, r2⟩ := HA.out j (by omega)
          have hok := HX.out xs[j] (List.getElem_mem _)
          have hbl : b0 < w.heap.size := World.block_lt_of_cell? _ _ r0
          obtain ⟨A6, c6, hF1, hF2, hF3⟩ := hl.hF
          have HLW := Aside0.mk hl
          have c0 := (hl.hb.cell (p := ⟨b0, o0 + j * 3, none⟩) hbl).trans r0
          have c1 := (hl.hb.cell (p := ⟨b0, o0 + j * 3 + 1, none⟩) hbl).trans r1
          have c2 := (hl.hb.cell (p := ⟨b0, o0 + j * 3 + 2, none⟩) hbl).trans r2
          go_wp2
          refine Forks_r7 g b b0 o0 n c j xs[j].1 xs[j].2.1 xs[j].2.2 A6 c6 l _ _ _ _ (by rfl) (by rfl) (by rfl) (by rfl) (by rfl) hlt (by omega) ⟨Two.refl _ _ _, c0, c1, c2, fun _ => hl.hS, (fun e => by cases e), fun _ => ⟨hF1, hF3⟩, (fun e => by cases e), ⟨_, _, _, hF1⟩⟩ hl.hw hF2 hok.2.2 hok.1 hok.2.1 hl.ne (by have := hl.hg; omega) (by have := hl.hB; omega) ?_
          intro σ W6 h2 hS6 hF6
          have HL6 := Aside0.mk (HLW.out.two h2 hS6 hF6 (wf_step HLW.out.hw))
          simp only [lazyA, lazyT, fk7_tab, List.zipWith_cons_cons, List.zipWith_nil_left, cond_true]
          clear hl hF1 hF2 hF3 c0 c1 c2 h2 hS6 hF6
          rename_i K0 hK0
          refine hK0 _ _ ?_
          go_wp2
          go_roundw
          case rel => exact ⟨j + 1, by omega, by simp, ⟨⟨_, HL6.out⟩⟩⟩
          case measure => simp [intOf]; omega
        · have hj2 : j = n := by omega
          subst hj2
          obtain ⟨A6, c6, hF1, hF2, hF3⟩ := hl.hF
          have hll : l.length < 8796093022208 := by have := wf_len hl.hw (by omega); omega
          have HLL := Aside0.mk hll
          have HLW := Aside0.mk hl
          clear HL
          go_wp2
          refine Forks_r8 g b A6 c6 l _ _ _ _ (by rfl) (by rfl) (by rfl) hl.hS hF1 hF3 hF2 hll ?_
          intro σ W6 g2 b2 hB6 hσ4 hS6 hg2 hσ3 hb2 hF6 hσ6
          have H1 := Aside0.mk (HLW.out.below hB6)
          have H2 := Aside0.mk (show StW g2 b2 w W6 l from ⟨hS6, hF6, below_step HLW.out.hb hB6, HLW.out.hw, Nat.le_trans HLW.out.hb.size hg2, Nat.le_trans HLW.out.hb.size hb2⟩)
          have HNE := Aside0.mk (show g ≠ g2 ∧ b ≠ b2 from ⟨by have := HLW.out.hS.lt; omega, by have := lt_of_block hF1; omega⟩)
          clear hl hF1 hF2 hF3 hll hB6 hS6 hg2 hb2 hF6
          simp only [lazyA, lazyT, fk8_tab, List.zipWith_cons_cons, List.zipWith_nil_left, cond_true]
          rename_i K0 hK0
          refine hK0 _ _ ?_
          rw [hσ3, hσ4, hσ6]
          clear hσ3 hσ4 hσ6
          go_wp2
          go_loopw [10, 11] (fun ok i wr => ∃ q : Nat, q ≤ m ∧ ok = .bool true ∧ i = .int .i64 q ∧ Aside0 (StW g b w wr l ∧ ∃ lx, StW g2 b2 w wr lx)) (fun _ i _ => m - (intOf i).toNat)
          case atStart => exact ⟨0, Nat.zero_le _, rfl, rfl, ⟨H1.out, _, H2.out⟩⟩
          case round =>
            obtain ⟨q, hq, rfl, rfl, HQ⟩ := hrel
            obtain ⟨hl, lx, hx⟩ := HQ.out
            clear H1 H2 HQ
            by_cases hlt : q < m
            · have hlt2 : ((q : Nat) : Int) < (m : Int) := by omega
              obtain ⟨b0, o0, rfl, r0, r1, r2⟩ := HA'.out q (by omega)
              have hok := HX'.out ys[q] (List.getElem_mem _)
              have hbl : b0 < w.heap.size := World.block_lt_of_cell? _ _ r0
              obtain ⟨A7, c7, hG1, hG2, hG3⟩ := hx.hF
              have HLW1 := Aside0.mk hl
              have HLX := Aside0.mk hx
              have c0 := (hl.hb.cell (p := ⟨b0, o0 + q * 3, none⟩) hbl).trans r0
              have c1 := (hl.hb.cell (p := ⟨b0, o0 + q * 3 + 1, none⟩) hbl).trans r1
              have c2 := (hl.hb.cell (p := ⟨b0, o0 + q * 3 + 2, none⟩) hbl).trans r2
              go_wp2
              refine Forks_r14 g2 b2 b0 o0 m c' q ys[q].1 ys[q].2.1 ys[q].2.2 A7 c7 lx _ _ _ _ (by rfl) (by rfl) (by rfl) (by rfl) (by rfl) hlt (by omega) ⟨Two.refl _ _ _, c0, c1, c2, fun _ => hx.hS, (fun e => by cases e), fun _ => ⟨hG1, hG3⟩, (fun e => by cases e), ⟨_, _, _, hG1⟩⟩ hx.hw hG2 hok.2.2 hok.1 hok.2.1 hx.ne (by have := hx.hg; omega) (by have := hx.hB; omega) ?_
              intro σ2 W7 h2 hS7 hF7 hσ
              have HX7 := Aside0.mk (HLX.out.two h2 hS7 hF7 (wf_step HLX.out.hw))
              have HL7 := Aside0.mk (HLW1.out.far HLX.out h2 HNE.out.1 HNE.out.2 HX7.out.hb)
              simp only [lazyA, lazyT, fk14_tab, List.zipWith_cons_cons, List.zipWith_nil_left, cond_true]
              clear hl hx hG1 hG2 hG3 c0 c1 c2 h2 hS7 hF7
              rename_i K1 hK1
              refine hK1 _ _ ?_
              rw [hσ]
              go_wp2
              go_roundw
              case rel => exact ⟨q + 1, by omega, rfl, by simp, ⟨HL7.out, _, HX7.out⟩⟩
              case measure => simp [intOf]; omega
            · have hq2 : q = m := by omega
              subst hq2
              obtain ⟨A7, c7, hG1, hG2, hG3⟩ := hx.hF
              obtain ⟨A6, c6, hF1, hF2, hF3⟩ := hl.hF
              have HLW1 := Aside0.mk hl
              have HLX := Aside0.mk hx
              have HSX := Aside0.mk (fun W (hb : Below wr.heap.size wr W) => Same_calls g2 0 0 0 lx (.agg #[.slice A7 lx.length c7]) W (HLX.out.hS.below hb) ⟨A7, c7, rfl, hG2, Kd.C_below hG3 hb⟩ HLX.out.hw)
              have HSL := Aside0.mk (fun W (hb : Below wr.heap.size wr W) => Same_calls g 0 0 0 l (.agg #[.slice A6 l.length c6]) W (HLW1.out.hS.below hb) ⟨A6, c6, rfl, hF2, Kd.C_below hF3 hb⟩ HLW1.out.hw)
              have k9 := cell_of_one hG1
              have k6 := cell_of_one hF1
              have HC := Aside0.mk (Below.refl wr.heap.size wr)
              have HM : Mk_ 0 := rfl
              clear hG1 hG2 hG3 hF1 hF2 hF3 hl hx
              go_wp2_with (first
                | (go_at_call 49; refine (Max_nil _).mono ?_; rintro e w9 ⟨rfl, hb⟩; have k9' := (hb.cell (World.block_lt_of_cell? _ _ k9)).trans k9; have k6' := (hb.cell (World.block_lt_of_cell? _ _ k6)).trans k6; have HC' := Aside0.mk (below_step HC.out hb); clear k9 k6 HC hb; have k9 := k9'; have k6 := k6'; have HC := HC'; clear k9' k6' HC')
                | (go_at_call 37; refine (Add_not none 1 2 _ (.inl rfl)).mono ?_; rintro e w9 ⟨rfl, hb⟩; have k9' := (hb.cell (World.block_lt_of_cell? _ _ k9)).trans k9; have k6' := (hb.cell (World.block_lt_of_cell? _ _ k6)).trans k6; have HC' := Aside0.mk (below_step HC.out hb); clear k9 k6 HC hb; have k9 := k9'; have k6 := k6'; have HC := HC'; clear k9' k6' HC')
                | (go_at_call 48; refine (Rem_not none 1 2 _ (.inl rfl)).mono ?_; rintro e w9 ⟨rfl, hb⟩; have k9' := (hb.cell (World.block_lt_of_cell? _ _ k9)).trans k9; have k6' := (hb.cell (World.block_lt_of_cell? _ _ k6)).trans k6; have HC' := Aside0.mk (below_step HC.out hb); clear k9 k6 HC hb; have k9 := k9'; have k6 := k6'; have HC := HC'; clear k9' k6' HC')
                | (go_at_call 40; refine (Has_nil 1 _).mono ?_; rintro e w9 ⟨rfl, hb⟩; have k9' := (hb.cell (World.block_lt_of_cell? _ _ k9)).trans k9; have k6' := (hb.cell (World.block_lt_of_cell? _ _ k6)).trans k6; have HC' := Aside0.mk (below_step HC.out hb); clear k9 k6 HC hb; have k9 := k9'; have k6 := k6'; have HC := HC'; clear k9' k6' HC')
                | (go_at_call 39; refine (Spans_nil _).mono ?_; rintro e w9 ⟨rfl, hb⟩; have k9' := (hb.cell (World.block_lt_of_cell? _ _ k9)).trans k9; have k6' := (hb.cell (World.block_lt_of_cell? _ _ k6)).trans k6; have HC' := Aside0.mk (below_step HC.out hb); clear k9 k6 HC hb; have k9 := k9'; have k6 := k6'; have HC := HC'; clear k9' k6' HC')
                | (go_at_call 43; refine (Len_nil _).mono ?_; rintro e w9 ⟨rfl, hb⟩; have k9' := (hb.cell (World.block_lt_of_cell? _ _ k9)).trans k9; have k6' := (hb.cell (World.block_lt_of_cell? _ _ k6)).trans k6; have HC' := Aside0.mk (below_step HC.out hb); clear k9 k6 HC hb; have k9 := k9'; have k6 := k6'; have HC := HC'; clear k9' k6' HC')
                | (go_at_call 50; refine (Count_nil _).mono ?_; rintro e w9 ⟨rfl, hb⟩; have k9' := (hb.cell (World.block_lt_of_cell? _ _ k9)).trans k9; have k6' := (hb.cell (World.block_lt_of_cell? _ _ k6)).trans k6; have HC' := Aside0.mk (below_step HC.out hb); clear k9 k6 HC hb; have k9 := k9'; have k6 := k6'; have HC := HC'; clear k9' k6' HC')
                | (go_at_call 46; refine (Gaps_not none 1 2 _ (.inl rfl)).mono ?_; rintro e w9 ⟨rfl, hb⟩; have k9' := (hb.cell (World.block_lt_of_cell? _ _ k9)).trans k9; have k6' := (hb.cell (World.block_lt_of_cell? _ _ k6)).trans k6; have HC' := Aside0.mk (below_step HC.out hb); clear k9 k6 HC hb; have k9 := k9'; have k6 := k6'; have HC := HC'; clear k9' k6' HC')
                | (go_at_call 51; refine (Trim_none 0 _ (by decide)).mono ?_; rintro e w9 ⟨rfl, hb⟩; have k9' := (hb.cell (World.block_lt_of_cell? _ _ k9)).trans k9; have k6' := (hb.cell (World.block_lt_of_cell? _ _ k6)).trans k6; have HC' := Aside0.mk (below_step HC.out hb); clear k9 k6 HC hb; have k9 := k9'; have k6 := k6'; have HC := HC'; clear k9' k6' HC')
                | (go_at_call 47; refine (Fork_nil _).mono ?_; rintro e w9 ⟨rfl, hb⟩; have k9' := (hb.cell (World.block_lt_of_cell? _ _ k9)).trans k9; have k6' := (hb.cell (World.block_lt_of_cell? _ _ k6)).trans k6; have HC' := Aside0.mk (below_step HC.out hb); clear k9 k6 HC hb; have k9 := k9'; have k6 := k6'; have HC := HC'; clear k9' k6' HC')
                | (have hm_ := (HM : Mk_ 0); clear hm_ HM; have HM : Mk_ 1 := rfl; go_at_call 45; refine (HSX.out _ HC.out).mono ?_; rintro e w9 ⟨rfl, hb⟩; have k9' := (hb.cell (World.block_lt_of_cell? _ _ k9)).trans k9; have k6' := (hb.cell (World.block_lt_of_cell? _ _ k6)).trans k6; have HC' := Aside0.mk (below_step HC.out hb); clear k9 k6 HC hb; have k9 := k9'; have k6 := k6'; have HC := HC'; clear k9' k6' HC')
                | (have hm_ := (HM : Mk_ 1); clear hm_ HM; have HM : Mk_ 2 := rfl; go_at_call 45; refine (HSL.out _ HC.out).mono ?_; rintro e w9 ⟨rfl, hb⟩; have k9' := (hb.cell (World.block_lt_of_cell? _ _ k9)).trans k9; have k6' := (hb.cell (World.block_lt_of_cell? _ _ k6)).trans k6; have HC' := Aside0.mk (below_step HC.out hb); clear k9 k6 HC hb; have k9 := k9'; have k6 := k6'; have HC := HC'; clear k9' k6' HC')
                | (go_at_call 35; refine (Awake_calls _).mono ?_; rintro e w9 ⟨rfl, hb⟩; have k9' := (hb.cell (World.block_lt_of_cell? _ _ k9)).trans k9; have k6' := (hb.cell (World.block_lt_of_cell? _ _ k6)).trans k6; have HC' := Aside0.mk (below_step HC.out hb); clear k9 k6 HC hb; have k9 := k9'; have k6 := k6'; have HC := HC'; clear k9' k6' HC'))
              go_ret
              exact ⟨rfl, below_step HLX.out.hb HC.out⟩
end Go.Proofs.Ytiladcdogbeomaa.QRangesPlays
