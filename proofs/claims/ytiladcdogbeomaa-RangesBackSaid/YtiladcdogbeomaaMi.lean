/- Law 17 (ranges): contracts of functions that its statements reach, and plain laws behind them (part 9 of 12). No condition. -/
import Derived.Test.YtiladcdogbeomaaMh
namespace Go.Proofs.Ytiladcdogbeomaa.QRangesPlays
open Go.RowKit Go.Shelf Go.Proofs.YtiladcdogbeomaaW.PrintWords Go.Proofs.YtiladcdogbeomaaW.PrintLast Go.Proofs.YtiladcdogbeomaaW.PrintMore Go.Proofs.Ytiladcdogbeomaa.RowLaws Go.Proofs.Ytiladcdogbeomaa.Lazy
attribute [local go_sem] Oper.semAt_some
/-- Nothing below w's end has turned but g and b. -/
structure Two (g b : Nat) (w W : World) : Prop where
  os : W.os = w.os
  tape : W.tape = w.tape
  output : W.output = w.output
  size : w.heap.size ≤ W.heap.size
  block : ∀ k, k < w.heap.size → k ≠ g → k ≠ b → W.heap[k]? = w.heap[k]?
theorem Two.refl (g b : Nat) (w : World) : Two g b w w := ⟨rfl, rfl, rfl, Nat.le_refl _, fun _ _ _ _ => rfl⟩
theorem Two.of_only {g b : Nat} {w W W' : World} (h : Two g b w W) (k : Only g W W') : Two g b w W' :=
  ⟨k.os.trans h.os, k.tape.trans h.tape, k.output.trans h.output, Nat.le_trans h.size k.size, fun j hj h1 h2 => (k.block j (Nat.lt_of_lt_of_le hj h.size) (by intro e; injection e; exact h1 ‹_›)).trans (h.block j hj h1 h2)⟩
theorem Two.of_only' {g b : Nat} {w W W' : World} (h : Two g b w W) (k : Only b W W') : Two g b w W' :=
  ⟨k.os.trans h.os, k.tape.trans h.tape, k.output.trans h.output, Nat.le_trans h.size k.size, fun j hj h1 h2 => (k.block j (Nat.lt_of_lt_of_le hj h.size) (by intro e; injection e; exact h2 ‹_›)).trans (h.block j hj h1 h2)⟩
abbrev p8_ops : List Oper := [{ dst := some 22, op := .move (.tmp 5), type := 70, pos := "law.go:65", after := #[], guard := none },
  { dst := some 23, op := .load 80 (.tmp 6), type := 80, pos := "law.go:65", after := #[], guard := none },
  { dst := some 24, op := .move (.tmp 0), type := 78, pos := "law.go:65", after := #[], guard := none },
  { dst := some 25, op := .move (.tmp 8), type := 3, pos := "law.go:65", after := #[], guard := none },
  { dst := some 26, op := .indexAddr 78 (.tmp 24) (.tmp 25), type := 0, pos := "law.go:65", after := #[⟨2, .data⟩, ⟨3, .data⟩], guard := none },
  { dst := some 27, op := .load 84 (.tmp 26), type := 84, pos := "law.go:65", after := #[⟨4, .data⟩], guard := none },
  { dst := some 28, op := .call { callee := .value (.func 41), args := #[.tmp 22, .tmp 23, .tmp 27], argTypes := #[70, 80, 84] }, type := 81, pos := "law.go:65", after := #[⟨0, .data⟩, ⟨1, .data⟩, ⟨5, .data⟩], guard := none },
  { dst := some 21, op := .move (.tmp 28), type := 81, pos := "law.go:65", after := #[⟨6, .data⟩], guard := none },
  { dst := some 29, op := .extract (.tmp 21) 0, type := 80, pos := "law.go:65", after := #[⟨7, .data⟩], guard := none },
  { dst := some 30, op := .extract (.tmp 21) 1, type := 4, pos := "law.go:65", after := #[⟨7, .data⟩, ⟨10, .gcOnly .lateStores⟩], guard := none },
  { dst := none, op := .store 80 (.tmp 6) (.tmp 29), type := 0, pos := "law.go:65", after := #[⟨8, .data⟩, ⟨6, .chain⟩, ⟨0, .phase⟩, ⟨1, .phase⟩, ⟨2, .phase⟩, ⟨3, .phase⟩, ⟨4, .phase⟩, ⟨5, .phase⟩, ⟨6, .phase⟩, ⟨7, .phase⟩, ⟨8, .phase⟩, ⟨9, .textOnly .lateStores⟩], guard := none },
  { dst := some 7, op := .assign (.tmp 30), type := 4, pos := "law.go:65", after := #[⟨9, .data⟩, ⟨10, .chain⟩, ⟨0, .phase⟩, ⟨1, .phase⟩, ⟨2, .phase⟩, ⟨3, .phase⟩, ⟨4, .phase⟩, ⟨5, .phase⟩, ⟨6, .phase⟩, ⟨7, .phase⟩, ⟨8, .phase⟩, ⟨9, .phase⟩, ⟨10, .phase⟩], guard := none }]

abbrev p8_tab : List (Option Nat) := [none, none, none, none, none, none, none, some 11, none, none, none, none, none, none, none, none, none, none, none, none, none, some 7, some 0, some 1, some 2, some 3, some 4, some 5, some 6, some 8, some 9, none, none, none, none, none, none, none, none, none, none, none, none, none, none, none, none, none, none, none, none, none, none, none]
structure J8 (g b6 b0 o0 i : Nat) (k f t : Int) (A : Option Addr) (c : Nat) (l : List S95) (w : World) (L : Nat → Bool) (W : World) : Prop where
  two : Two g b6 w W
  c0 : W.cell? ⟨b0, o0 + i * 3, none⟩ = some (.int .u8 k)
  c1 : W.cell? ⟨b0, o0 + i * 3 + 1, none⟩ = some (.int .i64 f)
  c2 : W.cell? ⟨b0, o0 + i * 3 + 2, none⟩ = some (.int .i64 t)
  set0 : L 6 = false → SetAt W g l
  set1 : L 6 = true → SetAt W g (stepL k f t l)
  old : L 10 = false → W.heap[b6]? = some (.cells #[.slice A l.length c] 80 (0, 0)) ∧ Kd.C k95 W A l.length l
  new : L 10 = true → Fin1 b6 (stepL k f t l) W
  one : Sl1 b6 W
section
variable {g b6 b0 o0 i : Nat} {k f t : Int} {A : Option Addr} {c : Nat} {l : List S95} {w W W' : World} {L : Nat → Bool}
theorem J8.skip (h : J8 g b6 b0 o0 i k f t A c l w L W) {j : Nat} (h6 : 6 ≠ j) (h10 : 10 ≠ j) : J8 g b6 b0 o0 i k f t A c l w (updL L j) W :=
  ⟨h.two, h.c0, h.c1, h.c2, by rw [upd_ne h6]; exact h.set0, by rw [upd_ne h6]; exact h.set1, by rw [upd_ne h10]; exact h.old, by rw [upd_ne h10]; exact h.new, h.one⟩
theorem J8.call (h : J8 g b6 b0 o0 i k f t A c l w L W) (hL : L 6 = false) (e10 : L 10 = false) (hs : SetAt W' g (stepL k f t l)) (ho : Only g W W') (hg6 : g ≠ b6) (hg0 : b0 ≠ g) : J8 g b6 b0 o0 i k f t A c l w (updL L 6) W' := by
  have hb := (ho.block b6 (lt_of_block (h.old e10).1) (by intro e; injection e; exact hg6 (Eq.symm ‹_›))).trans (h.old e10).1
  refine ⟨h.two.of_only ho, ho.cell hg0 h.c0, ho.cell hg0 h.c1, ho.cell hg0 h.c2, fun e => ?_, fun _ => hs, fun _ => ⟨hb, (h.set0 hL).rows ho (h.old e10).2⟩, fun e => ?_, ⟨_, _, _, hb⟩⟩
  · rw [upd_self] at e; cases e
  · rw [upd_ne (by decide), e10] at e; cases e
theorem J8.store (h : J8 g b6 b0 o0 i k f t A c l w L W) {A' : Option Addr} {c' : Nat} (hlc : (stepL k f t l).length ≤ c') (hC : Kd.C k95 W A' (stepL k f t l).length (stepL k f t l)) (hg6 : g ≠ b6) (h06 : b0 ≠ b6) : J8 g b6 b0 o0 i k f t A c l w (updL L 10) (W.setCell ⟨b6, 0, none⟩ (.slice A' (stepL k f t l).length c')) := by
  obtain ⟨k1, k2, k3⟩ := Rd.put h.one rfl hlc hC
  have ho := k1.1
  refine ⟨h.two.of_only' ho, ho.cell h06 h.c0, ho.cell h06 h.c1, ho.cell h06 h.c2, ?_, ?_, fun e => ?_, fun _ => k3, k2⟩
  · rw [upd_ne (by decide)]; exact fun e => (h.set0 e).sl1 h.one ho hg6
  · rw [upd_ne (by decide)]; exact fun e => (h.set1 e).sl1 h.one ho hg6
  · rw [upd_self] at e; cases e
end
def p8_val (g b0 o0 n c0 i : Nat) (k f t : Int) (A : Option Addr) (c : Nat) (l : List S95) : Nat → Value → World → Prop := fun j v W => match j with
  | 0 => v = .pointer (some ⟨g, 0, none⟩)
  | 1 => v = .agg #[.slice A l.length c]
  | 2 => v = .slice (some ⟨b0, o0, none⟩) n c0
  | 3 => v = .int .i64 (i : Int)
  | 4 => v = .pointer (some ⟨b0, o0 + i * 3, none⟩)
  | 5 => v = .agg #[.int .u8 k, .int .i64 f, .int .i64 t]
  | 6 => ∃ u, v = .tuple #[u, .bool true] ∧ RS W u (stepL k f t l)
  | 7 => ∃ u, v = .tuple #[u, .bool true] ∧ RS W u (stepL k f t l)
  | 8 => RS W v (stepL k f t l)
  | 9 => v = .bool true
  | 10 => True
  | 11 => v = .bool true
  | _ => True
set_option maxRecDepth 100000 in
set_option maxHeartbeats 4000000 in
theorem Play_r8 (g b6 b0 o0 n c0 i : Nat) (k f t : Int) (A : Option Addr) (c : Nat) (l : List S95) (t0 : List Value) (d0 : List Deferred) (w : World) (Q : Exit → Act → World → Prop) (hl : t0.length = p8_tab.length)
    (t0_ : t0[0]? = some (.slice (some ⟨b0, o0, none⟩) n c0)) (t5 : t0[5]? = some (.pointer (some ⟨g, 0, none⟩))) (t6 : t0[6]? = some (.pointer (some ⟨b6, 0, none⟩))) (t8 : t0[8]? = some (.int .i64 (i : Int))) (hi : i < n) (hn : n ≤ 100)
    (hJ0 : J8 g b6 b0 o0 i k f t A c l w (fun _ => false) w) (hw : wf 0 l) (hlc : l.length ≤ c) (hf : f ≤ 9223372036854775807) (hk0 : 0 ≤ k) (hk1 : k < 256) (hg6 : g ≠ b6) (hg0 : b0 ≠ g) (h06 : b0 ≠ b6)
    (hQ : ∀ σ W, Two g b6 w W → SetAt W g (stepL k f t l) → Fin1 b6 (stepL k f t l) W → σ 11 = .bool true → Q .normal (lazyA (fun _ => true) σ t0 p8_tab d0) W) :
    (Code.region 8 p8_ops.toArray true).wp Try.prog Q { tmps := t0.toArray, defers := d0 } w := by
  refine wp_region_valsL (by kernel_rfl) p8_tab (by kernel_rfl) hl (fun W W' => ∀ v, RS W v (stepL k f t l) → RS W' v (stepL k f t l)) (J8 g b6 b0 o0 i k f t A c l w) (p8_val g b0 o0 n c0 i k f t A c l) ?hj ?hst ⟨(fun j b h => by cases h), (fun j b h => by cases h), (fun j b h => by cases h), (fun j b h => by cases h), (fun j b h => by cases h), (fun j b h => by cases h), (fun j b h => by cases h), (fun j b h => by cases h), (fun j b h => by cases h), (fun j b h => by cases h), (fun j b h => by cases h), (fun j b h => by cases h), trivial⟩ ⟨?s0, ?s1, ?s2, ?s3, ?s4, ?s5, ?s6, ?s7, ?s8, ?s9, ?s10, ?s11, trivial⟩ ?hdone
  case hj =>
    have b := below_drew (Below.refl w.heap.size w)
    exact ⟨⟨rfl, rfl, rfl, Nat.le_refl _, fun _ _ _ _ => rfl⟩, hJ0.c0, hJ0.c1, hJ0.c2, fun _ => (hJ0.set0 rfl).below b, (fun e => by cases e), fun _ => ⟨(hJ0.old rfl).1, Kd.C_drew (hJ0.old rfl).2⟩, (fun e => by cases e), hJ0.one⟩
  case hst =>
    intro j v W W' hR h
    match j with
    | 0 => exact h
    | 1 => exact h
    | 2 => exact h
    | 3 => exact h
    | 4 => exact h
    | 5 => exact h
    | 6 => exact (let ⟨u, h1, h2⟩ := h; ⟨u, h1, hR u h2⟩)
    | 7 => exact (let ⟨u, h1, h2⟩ := h; ⟨u, h1, hR u h2⟩)
    | 8 => exact hR v h
    | 9 => exact h
    | 10 => exact h
    | 11 => exact h
    | n + 12 => trivial
  case s0 =>
    intro L ρ W hL hcl hJ hT
    have q5 := hT.2.1 5 _ t5 rfl
    refine Op1.of_run (v := .pointer (some ⟨g, 0, none⟩)) (W' := W) (by clear hT hJ hcl; go_simp) ⟨fun _ h => h, hJ.skip (by decide) (by decide), rfl⟩
  case s1 =>
    intro L ρ W hL hcl hJ hT
    have q6 := hT.2.1 6 _ t6 rfl
    have e10 : L 10 = false := Bool.eq_false_iff.2 fun e => by rw [hcl 6 1 (by rfl) (hcl 7 6 (by rfl) (hcl 8 7 (by rfl) (hcl 10 8 (by rfl) e)))] at hL; cases hL
    have cc := cell_of_one (hJ.old e10).1
    refine Op1.of_run (v := .agg #[.slice A l.length c]) (W' := W) (by clear hT hJ hcl; go_simp) ⟨fun _ h => h, hJ.skip (by decide) (by decide), rfl⟩
  case s2 =>
    intro L ρ W hL hcl hJ hT
    have q0 := hT.2.1 0 _ t0_ rfl
    refine Op1.of_run (v := .slice (some ⟨b0, o0, none⟩) n c0) (W' := W) (by clear hT hJ hcl; go_simp) ⟨fun _ h => h, hJ.skip (by decide) (by decide), rfl⟩
  case s3 =>
    intro L ρ W hL hcl hJ hT
    have q8 := hT.2.1 8 _ t8 rfl
    refine Op1.of_run (v := .int .i64 (i : Int)) (W' := W) (by clear hT hJ hcl; go_simp) ⟨fun _ h => h, hJ.skip (by decide) (by decide), rfl⟩
  case s4 =>
    intro L ρ W hL hcl hJ hT
    have q24 : ρ (.tmp 24) = .slice (some ⟨b0, o0, none⟩) n c0 := hT.1 24 2 rfl rfl
    have q25 : ρ (.tmp 25) = .int .i64 (i : Int) := hT.1 25 3 rfl rfl
    have i1 : (i : Int) < (n : Int) := by omega
    refine Op1.of_run (v := .pointer (some ⟨b0, o0 + i * 3, none⟩)) (W' := W) (by clear hT hJ hcl; go_simp) ⟨fun _ h => h, hJ.skip (by decide) (by decide), rfl⟩
  case s5 =>
    intro L ρ W hL hcl hJ hT
    have q26 : ρ (.tmp 26) = .pointer (some ⟨b0, o0 + i * 3, none⟩) := hT.1 26 4 rfl rfl
    have z0 := hJ.c0
    have z1 := hJ.c1
    have z2 := hJ.c2
    refine Op1.of_run (v := .agg #[.int .u8 k, .int .i64 f, .int .i64 t]) (W' := W) (by clear hT hJ hcl; go_simp) ⟨fun _ h => h, hJ.skip (by decide) (by decide), rfl⟩
  case s6 =>
    intro L ρ W hL hcl hJ hT
    have q22 : ρ (.tmp 22) = .pointer (some ⟨g, 0, none⟩) := hT.1 22 0 rfl rfl
    have q23 : ρ (.tmp 23) = .agg #[.slice A l.length c] := hT.1 23 1 rfl rfl
    have q27 : ρ (.tmp 27) = .agg #[.int .u8 k, .int .i64 f, .int .i64 t] := hT.1 27 5 rfl rfl
    have e10 : L 10 = false := Bool.eq_false_iff.2 fun e => by rw [hcl 7 6 (by rfl) (hcl 8 7 (by rfl) (hcl 10 8 (by rfl) e))] at hL; cases hL
    have qf := hT.2.2.2 41
    refine Op1.of_call (f := 41) (args := #[.pointer (some ⟨g, 0, none⟩), .agg #[.slice A l.length c], .agg #[.int .u8 k, .int .i64 f, .int .i64 t]]) (W' := W) (by clear hT hJ hcl; go_simp) ?_
    refine (Do_calls g k f t l _ W (hJ.set0 hL) ⟨A, c, rfl, hlc, (hJ.old e10).2⟩ hw hf hk0 hk1).mono ?_
    rintro e W2 ⟨u, rfl, h1, h2, h3⟩
    exact ⟨_, rfl, fun v hv => hv.only (hJ.set0 hL) h3, hJ.call hL e10 h1 h3 hg6 hg0, u, rfl, h2⟩
  case s7 =>
    intro L ρ W hL hcl hJ hT
    obtain ⟨u, q28, hu⟩ := (show ∃ u, ρ (.tmp 28) = .tuple #[u, .bool true] ∧ RS W u (stepL k f t l) from hT.1 28 6 rfl rfl)
    exact Op1.of_run (v := .tuple #[u, .bool true]) (W' := W) (by clear hT hJ hcl; go_simp) ⟨fun _ h => h, hJ.skip (by decide) (by decide), u, rfl, hu⟩
  case s8 =>
    intro L ρ W hL hcl hJ hT
    obtain ⟨u, q21, hu⟩ := (show ∃ u, ρ (.tmp 21) = .tuple #[u, .bool true] ∧ RS W u (stepL k f t l) from hT.1 21 7 rfl rfl)
    exact Op1.of_run (v := u) (W' := W) (by clear hT hJ hcl; go_simp) ⟨fun _ h => h, hJ.skip (by decide) (by decide), hu⟩
  case s9 =>
    intro L ρ W hL hcl hJ hT
    obtain ⟨u, q21, hu⟩ := (show ∃ u, ρ (.tmp 21) = .tuple #[u, .bool true] ∧ RS W u (stepL k f t l) from hT.1 21 7 rfl rfl)
    refine Op1.of_run (v := .bool true) (W' := W) (by clear hT hJ hcl; go_simp) ⟨fun _ h => h, hJ.skip (by decide) (by decide), rfl⟩
  case s10 =>
    intro L ρ W hL hcl hJ hT
    have q6 := hT.2.1 6 _ t6 rfl
    obtain ⟨A', c', q29, hlc', hC'⟩ := (show RS W (ρ (.tmp 29)) (stepL k f t l) from hT.1 29 8 rfl rfl)
    obtain ⟨B1, m1, e1, hb⟩ := hJ.one
    have cb := cell_of_one hb
    have fb := free_of_one hb
    exact Op1.of_skip (W' := W.setCell ⟨b6, 0, none⟩ (.slice A' (stepL k f t l).length c')) (by clear hT hJ hcl; go_simp) ⟨fun v hv => hv.sl1 ⟨_, _, _, hb⟩ ((Only.refl _ _).setCell rfl _), hJ.store hlc' hC' hg6 h06, trivial⟩
  case s11 =>
    intro L ρ W hL hcl hJ hT
    have q30 : ρ (.tmp 30) = .bool true := hT.1 30 9 rfl rfl
    refine Op1.of_run (v := .bool true) (W' := W) (by clear hT hJ hcl; go_simp) ⟨fun _ h => h, hJ.skip (by decide) (by decide), rfl⟩
  case hdone =>
    intro σ L W hL hJ hV
    exact hQ σ W hJ.two (hJ.set1 (hL 6 (by decide))) (hJ.new (hL 10 (by decide))) (hV 11 (by decide))
abbrev p9_ops : List Oper := [{ dst := some 31, op := .move (.tmp 7), type := 4, pos := "law.go:66", after := #[], guard := none },
  { dst := some 32, op := .unOp .not 4 (.tmp 31), type := 4, pos := "law.go:66", after := #[⟨0, .data⟩], guard := none },
  { dst := some 33, op := .move (.tmp 32), type := 4, pos := "law.go:66", after := #[⟨1, .data⟩], guard := none },
  { dst := some 34, op := .move (.tmp 5), type := 70, pos := "law.go:66", after := #[⟨2, .guard⟩], guard := some (2, false) },
  { dst := some 35, op := .load 80 (.tmp 6), type := 80, pos := "law.go:66", after := #[⟨2, .guard⟩], guard := some (2, false) },
  { dst := some 36, op := .move (.tmp 0), type := 78, pos := "law.go:66", after := #[⟨2, .guard⟩], guard := some (2, false) },
  { dst := some 37, op := .move (.tmp 8), type := 3, pos := "law.go:66", after := #[⟨2, .guard⟩], guard := some (2, false) },
  { dst := some 38, op := .indexAddr 78 (.tmp 36) (.tmp 37), type := 0, pos := "law.go:66", after := #[⟨5, .data⟩, ⟨6, .data⟩, ⟨2, .guard⟩], guard := some (2, false) },
  { dst := some 39, op := .load 84 (.tmp 38), type := 84, pos := "law.go:66", after := #[⟨7, .data⟩, ⟨2, .guard⟩], guard := some (2, false) },
  { dst := some 40, op := .call { callee := .value (.func 45), args := #[.tmp 34, .tmp 35, .tmp 39], argTypes := #[70, 80, 84] }, type := 4, pos := "law.go:66", after := #[⟨3, .data⟩, ⟨4, .data⟩, ⟨8, .data⟩, ⟨2, .chain⟩, ⟨2, .guard⟩], guard := some (2, false) },
  { dst := some 41, op := .unOp .not 4 (.tmp 40), type := 4, pos := "law.go:66", after := #[⟨9, .data⟩, ⟨2, .guard⟩], guard := some (2, false) },
  { dst := some 42, op := .pick (.tmp 33) (.const (.bool true)) (.tmp 41), type := 4, pos := "law.go:66", after := #[⟨2, .data⟩, ⟨10, .data⟩], guard := none }]

abbrev p9_tab : List (Option Nat) := [none, none, none, none, none, none, none, none, none, none, none, none, none, none, none, none, none, none, none, none, none, none, none, none, none, none, none, none, none, none, none, some 0, some 1, some 2, some 3, some 4, some 5, some 6, some 7, some 8, some 9, some 10, some 11, none, none, none, none, none, none, none, none, none, none, none]
def p9_val (g b0 o0 n c0 i : Nat) (k f t : Int) (A : Option Addr) (c : Nat) (l : List S95) : Nat → Value → World → Prop := fun j v _ => match j with
  | 0 => v = .bool true
  | 1 => v = .bool false
  | 2 => v = .bool false
  | 3 => v = .pointer (some ⟨g, 0, none⟩)
  | 4 => v = .agg #[.slice A l.length c]
  | 5 => v = .slice (some ⟨b0, o0, none⟩) n c0
  | 6 => v = .int .i64 (i : Int)
  | 7 => v = .pointer (some ⟨b0, o0 + i * 3, none⟩)
  | 8 => v = .agg #[.int .u8 k, .int .i64 f, .int .i64 t]
  | 9 => v = .bool true
  | 10 => v = .bool false
  | 11 => v = .bool false
  | _ => True
set_option maxRecDepth 100000 in
set_option maxHeartbeats 4000000 in
theorem Play_r9 (g b6 b0 o0 n c0 i : Nat) (k f t : Int) (A : Option Addr) (c : Nat) (l : List S95) (t0 : List Value) (d0 : List Deferred) (w : World) (Q : Exit → Act → World → Prop) (hl : t0.length = p9_tab.length)
    (t0_ : t0[0]? = some (.slice (some ⟨b0, o0, none⟩) n c0)) (t5 : t0[5]? = some (.pointer (some ⟨g, 0, none⟩))) (t6 : t0[6]? = some (.pointer (some ⟨b6, 0, none⟩))) (t7 : t0[7]? = some (.bool true)) (t8 : t0[8]? = some (.int .i64 (i : Int))) (hi : i < n)
    (k0 : w.cell? ⟨b0, o0 + i * 3, none⟩ = some (.int .u8 k)) (k1 : w.cell? ⟨b0, o0 + i * 3 + 1, none⟩ = some (.int .i64 f)) (k2 : w.cell? ⟨b0, o0 + i * 3 + 2, none⟩ = some (.int .i64 t))
    (hS : SetAt w g l) (h6 : w.cell? ⟨b6, 0, none⟩ = some (.slice A l.length c)) (hC : Kd.C k95 w A l.length l) (hw : wf 0 l) (hlc : l.length ≤ c)
    (hQ : ∀ σ W, Below w.heap.size w W → σ 11 = .bool false → Q .normal (lazyA (fun _ => true) σ t0 p9_tab d0) W) :
    (Code.region 9 p9_ops.toArray true).wp Try.prog Q { tmps := t0.toArray, defers := d0 } w := by
  have hb6 : b6 < w.heap.size := World.block_lt_of_cell? _ _ h6
  have hb0 : b0 < w.heap.size := World.block_lt_of_cell? _ _ k0
  refine wp_region_vals (by kernel_rfl) p9_tab (by kernel_rfl) hl (fun W W' => Below W.heap.size W W') (fun _ => True) (p9_val g b0 o0 n c0 i k f t A c l) (below_drew (Below.refl _ _)) trivial (fun _ _ _ h k => h.trans (k.mono h.size)) ?hst ⟨(fun j b h => by cases h), (fun j b h => by cases h), (fun j b h => by cases h), (fun j b h v W hv => by cases h; exact hv), (fun j b h v W hv => by cases h; exact hv), (fun j b h v W hv => by cases h; exact hv), (fun j b h v W hv => by cases h; exact hv), (fun j b h v W hv => by cases h; exact hv), (fun j b h v W hv => by cases h; exact hv), (fun j b h v W hv => by cases h; exact hv), (fun j b h v W hv => by cases h; exact hv), (fun j b h => by cases h), trivial⟩ ⟨?s0, ?s1, ?s2, ?s3, ?s4, ?s5, ?s6, ?s7, ?s8, ?s9, ?s10, ?s11, trivial⟩ ?hdone
  case hst =>
    intro j v W W' hJ hR h
    match j with
    | 0 => exact h
    | 1 => exact h
    | 2 => exact h
    | 3 => exact h
    | 4 => exact h
    | 5 => exact h
    | 6 => exact h
    | 7 => exact h
    | 8 => exact h
    | 9 => exact h
    | 10 => exact h
    | 11 => exact h
    | n + 12 => trivial
  case s0 =>
    intro ρ W hR hJ hT
    have q7 := hT.2.1 7 _ t7 rfl
    refine Op1.of_run (v := .bool true) (W' := W) (by clear hT hJ; go_simp) ⟨Below.refl _ _, trivial, rfl⟩
  case s1 =>
    intro ρ W hR hJ hT
    have q31 : ρ (.tmp 31) = .bool true := hT.1 31 0 rfl rfl
    refine Op1.of_run (v := .bool false) (W' := W) (by clear hT hJ; go_simp) ⟨Below.refl _ _, trivial, rfl⟩
  case s2 =>
    intro ρ W hR hJ hT
    have q32 : ρ (.tmp 32) = .bool false := hT.1 32 1 rfl rfl
    refine Op1.of_run (v := .bool false) (W' := W) (by clear hT hJ; go_simp) ⟨Below.refl _ _, trivial, rfl⟩
  case s3 =>
    intro ρ W hR hJ hT
    have q5 := hT.2.1 5 _ t5 rfl
    refine Op1.of_run (v := .pointer (some ⟨g, 0, none⟩)) (W' := W) (by clear hT hJ; go_simp) ⟨Below.refl _ _, trivial, rfl⟩
  case s4 =>
    intro ρ W hR hJ hT
    have q6 := hT.2.1 6 _ t6 rfl
    have cc := (hR.cell (p := ⟨b6, 0, none⟩) hb6).trans h6
    refine Op1.of_run (v := .agg #[.slice A l.length c]) (W' := W) (by clear hT hJ; go_simp) ⟨Below.refl _ _, trivial, rfl⟩
  case s5 =>
    intro ρ W hR hJ hT
    have q0 := hT.2.1 0 _ t0_ rfl
    refine Op1.of_run (v := .slice (some ⟨b0, o0, none⟩) n c0) (W' := W) (by clear hT hJ; go_simp) ⟨Below.refl _ _, trivial, rfl⟩
  case s6 =>
    intro ρ W hR hJ hT
    have q8 := hT.2.1 8 _ t8 rfl
    refine Op1.of_run (v := .int .i64 (i : Int)) (W' := W) (by clear hT hJ; go_simp) ⟨Below.refl _ _, trivial, rfl⟩
  case s7 =>
    intro ρ W hR hJ hT
    have q36 : ρ (.tmp 36) = .slice (some ⟨b0, o0, none⟩) n c0 := hT.1 36 5 rfl rfl
    have q37 : ρ (.tmp 37) = .int .i64 (i : Int) := hT.1 37 6 rfl rfl
    have i1 : (i : Int) < (n : Int) := by omega
    refine Op1.of_run (v := .pointer (some ⟨b0, o0 + i * 3, none⟩)) (W' := W) (by clear hT hJ; go_simp) ⟨Below.refl _ _, trivial, rfl⟩
  case s8 =>
    intro ρ W hR hJ hT
    have q38 : ρ (.tmp 38) = .pointer (some ⟨b0, o0 + i * 3, none⟩) := hT.1 38 7 rfl rfl
    have z0 := (hR.cell (p := ⟨b0, o0 + i * 3, none⟩) hb0).trans k0
    have z1 := (hR.cell (p := ⟨b0, o0 + i * 3 + 1, none⟩) hb0).trans k1
    have z2 := (hR.cell (p := ⟨b0, o0 + i * 3 + 2, none⟩) hb0).trans k2
    refine Op1.of_run (v := .agg #[.int .u8 k, .int .i64 f, .int .i64 t]) (W' := W) (by clear hT hJ; go_simp) ⟨Below.refl _ _, trivial, rfl⟩
  case s9 =>
    intro ρ W hR hJ hT
    have q34 : ρ (.tmp 34) = .pointer (some ⟨g, 0, none⟩) := hT.1 34 3 rfl rfl
    have q35 : ρ (.tmp 35) = .agg #[.slice A l.length c] := hT.1 35 4 rfl rfl
    have q39 : ρ (.tmp 39) = .agg #[.int .u8 k, .int .i64 f, .int .i64 t] := hT.1 39 8 rfl rfl
    have qf := hT.2.2.2 45
    refine Op1.of_call (f := 45) (args := #[.pointer (some ⟨g, 0, none⟩), .agg #[.slice A l.length c], .agg #[.int .u8 k, .int .i64 f, .int .i64 t]]) (W' := W) (by clear hT hJ; go_simp) ?_
    refine (Same_calls g k f t l _ W (hS.below hR) ⟨A, c, rfl, hlc, Kd.C_below hC hR⟩ hw).mono ?_
    rintro e W2 ⟨rfl, hb⟩
    exact ⟨_, rfl, hb, trivial, rfl⟩
  case s10 =>
    intro ρ W hR hJ hT
    have q40 : ρ (.tmp 40) = .bool true := hT.1 40 9 rfl rfl
    refine Op1.of_run (v := .bool false) (W' := W) (by clear hT hJ; go_simp) ⟨Below.refl _ _, trivial, rfl⟩
  case s11 =>
    intro ρ W hR hJ hT
    have q33 : ρ (.tmp 33) = .bool false := hT.1 33 2 rfl rfl
    have q41 : ρ (.tmp 41) = .bool false := hT.1 41 10 rfl rfl
    have qc := hT.2.2.1 (Value.bool true)
    refine Op1.of_run (v := .bool false) (W' := W) (by clear hT hJ; go_simp) ⟨Below.refl _ _, trivial, rfl⟩
  case hdone =>
    intro σ W hR hJ hV
    exact hQ σ W hR (hV 11 (by decide))
end Go.Proofs.Ytiladcdogbeomaa.QRangesPlays

namespace Go.Proofs.Ytiladcdogbeomaa.QRangesPlays
open Go.RowKit Go.Shelf Go.Proofs.YtiladcdogbeomaaW.PrintWords Go.Proofs.YtiladcdogbeomaaW.PrintLast Go.Proofs.YtiladcdogbeomaaW.PrintMore Go.Proofs.Ytiladcdogbeomaa.RowLaws Go.Proofs.Ytiladcdogbeomaa.Lazy
attribute [local go_sem] Oper.semAt_some
/-- A row of acts, as it reads. -/
def ActRow (W : World) (A : Option Addr) (xs : List (Int × Int × Int)) : Prop :=
  ∀ i (h : i < xs.length), ∃ b o, A = some ⟨b, o, none⟩ ∧ W.cell? ⟨b, o + i * 3, none⟩ = some (.int .u8 xs[i].1) ∧ W.cell? ⟨b, o + i * 3 + 1, none⟩ = some (.int .i64 xs[i].2.1) ∧ W.cell? ⟨b, o + i * 3 + 2, none⟩ = some (.int .i64 xs[i].2.2)
def ActsOk (xs : List (Int × Int × Int)) : Prop := ∀ x ∈ xs, 0 ≤ x.1 ∧ x.1 < 256 ∧ x.2.1 ≤ 9223372036854775807
/-- The worlds of the loop: the box of the last act at X, the set at g, the reference's box at b. -/
structure PlW (X g b : Nat) (k f t : Int) (w W : World) (l : List S95) : Prop where
  h3 : W.heap[X]? = some (.cells #[.int .u8 k, .int .i64 f, .int .i64 t] 84 (0, 0))
  hS : SetAt W g l
  hF : Fin1 b l W
  hb : Below w.heap.size w W
  hw : wf 0 l
theorem PlW.below {X g b : Nat} {k f t : Int} {w W W' : World} {l : List S95} (h : PlW X g b k f t w W l) (hb : Below W.heap.size W W') : PlW X g b k f t w W' l :=
  ⟨(hb.block _ (lt_of_block h.h3)).trans h.h3, h.hS.below hb, h.hF.below hb, below_step h.hb hb, h.hw⟩
theorem PlW.two {X g b : Nat} {k f t : Int} {w W W' : World} {l l' : List S95} (h : PlW X g b k f t w W l) (ht : Two g b W W') (hS : SetAt W' g l') (hF : Fin1 b l' W') (hw : wf 0 l') (hg : w.heap.size ≤ g) (hB : w.heap.size ≤ b) (hX : X ≠ g ∧ X ≠ b) : PlW X g b k f t w W' l' :=
  ⟨(ht.block _ (lt_of_block h.h3) hX.1 hX.2).trans h.h3, hS, hF, ⟨ht.os.trans h.hb.os, ht.tape.trans h.hb.tape, ht.output.trans h.hb.output, Nat.le_trans h.hb.size ht.size, fun j hj => (ht.block j (Nat.lt_of_lt_of_le hj h.hb.size) (by omega) (by omega)).trans (h.hb.block j hj)⟩, hw⟩
set_option maxRecDepth 100000 in
set_option maxHeartbeats 4000000 in
theorem Plays_walk (haw : ∀ w, Calls Try.prog 35 #[] w fun e w' => e = .returned (.bool true) ∧ Below w.heap.size w w') (A : Option Addr) (c : Nat) (xs : List (Int × Int × Int)) (k f t : Int) (w : World)
    (hA : ActRow w A xs) (hx : ActsOk xs) (hc : xs.length ≤ c) :
    Calls Try.prog 8 #[.slice A xs.length c, .agg #[.int .u8 k, .int .i64 f, .int .i64 t]] w fun e w' => e = .returned (.bool true) ∧ Below w.heap.size w w' := by
  have HAW := Aside0.mk haw
  have HA := Aside0.mk hA
  have HX := Aside0.mk hx
  obtain ⟨n, hn⟩ : ∃ n, xs.length = n := ⟨_, rfl⟩
  rw [hn] at hc ⊢
  clear haw hA hx
  by_cases h100 : 100 < n
  · have e1 : (100 : Int) < (n : Int) := by omega
    go_enter Try.func8, Try.ntmps8
    go_wp2_with (go_at_call 35; refine (HAW.out _).mono ?_; rintro e w2 ⟨rfl, hb⟩; have HB := Aside0.mk hb; clear hb)
    go_ret
    exact ⟨rfl, below_step (below_alloc (Below.refl _ _) _) HB.out⟩
  · have e1 : (n : Int) ≤ 100 := by omega
    go_enter Try.func8, Try.ntmps8
    go_wp2_with (first
      | (go_at_call 36; refine (New_calls _).mono ?_; rintro e w2 ⟨g, rfl, hs, hb, hg⟩; have HS := Aside0.mk hs; have HB := Aside0.mk hb; have HG := Aside0.mk hg; clear hs hb hg))
    have hb0 : Below w.heap.size w (w2.alloc (.cells #[.slice none 0 0] 80)) := below_step ((below_alloc (Below.refl w.heap.size w) _).trans (HB.out.mono (by simp))) (below_alloc (Below.refl _ w2) _)
    have hX2 : w2.heap[w.heap.size]? = some (.cells #[.int .u8 k, .int .i64 f, .int .i64 t] 84 (0, 0)) := (HB.out.block _ (by simp)).trans (heap_alloc_new w _)
    have hgX : g = w.heap.size + 1 := by have := HG.out; simpa using this
    have hgb : g < w2.heap.size := HS.out.lt
    have HP := Aside0.mk (show PlW w.heap.size g w2.heap.size k f t w (w2.alloc (.cells #[.slice none 0 0] 80)) [] from ⟨blk_alloc hX2 _, HS.out.below (below_alloc (Below.refl _ w2) _), ⟨none, 0, heap_alloc_new w2 _, Nat.le_refl _, Kd.C_nil _ _⟩, hb0, trivial⟩)
    obtain ⟨b, hb⟩ : ∃ b, w2.heap.size = b := ⟨_, rfl⟩
    rw [hb] at HP hgb ⊢
    have HGX := Aside0.mk (show w.heap.size < g ∧ g < b from ⟨by omega, hgb⟩)
    clear hb0 hX2 hgX hgb hb HG HS HB
    go_loopw [8] (fun i wr => ∃ j : Nat, j ≤ n ∧ i = .int .i64 j ∧ Aside0 (∃ l, PlW w.heap.size g b k f t w wr l)) (fun i _ => n - (intOf i).toNat)
    case atStart => exact ⟨0, Nat.zero_le _, rfl, ⟨⟨[], HP.out⟩⟩⟩
    case round =>
      obtain ⟨j, hj, rfl, HL⟩ := hrel
      obtain ⟨l, hl⟩ := HL.out
      by_cases hlt : j < n
      · have hlt2 : ((j : Nat) : Int) < (n : Int) := by omega
        obtain ⟨b0, o0, rfl, r0, r1, r2⟩ := HA.out j (by omega)
        have hok := HX.out xs[j] (List.getElem_mem _)
        have hbl : b0 < w.heap.size := World.block_lt_of_cell? _ _ r0
        obtain ⟨A6, c6, hF1, hF2, hF3⟩ := hl.hF
        have HLW := Aside0.mk hl
        have c0 := (hl.hb.cell (p := ⟨b0, o0 + j * 3, none⟩) hbl).trans r0
        have c1 := (hl.hb.cell (p := ⟨b0, o0 + j * 3 + 1, none⟩) hbl).trans r1
        have c2 := (hl.hb.cell (p := ⟨b0, o0 + j * 3 + 2, none⟩) hbl).trans r2
        go_wp2
        refine Play_r8 g b b0 o0 n c j xs[j].1 xs[j].2.1 xs[j].2.2 A6 c6 l _ _ _ _ (by rfl) (by rfl) (by rfl) (by rfl) (by rfl) hlt (by omega) ⟨Two.refl _ _ _, c0, c1, c2, fun _ => hl.hS, (fun e => by cases e), fun _ => ⟨hF1, hF3⟩, (fun e => by cases e), ⟨_, _, _, hF1⟩⟩ hl.hw hF2 hok.2.2 hok.1 hok.2.1 (by have := HGX.out; omega) (by have := HGX.out; omega) (by have := HGX.out; omega) ?_
        intro σ W6 h2 hS6 hF6 hσ
        have hl6 := HLW.out.two h2 hS6 hF6 (wf_step HLW.out.hw) (by have := HGX.out; omega) (by have := HGX.out; omega) ⟨by have := HGX.out; omega, by have := HGX.out; omega⟩
        simp only [lazyA, lazyT, p8_tab, List.zipWith_cons_cons, List.zipWith_nil_left, cond_true]
        clear hl hF1 hF2 hF3 c0 c1 c2 h2 hS6 hF6
        rename_i K0 hK0
        refine hK0 _ _ ?_
        rw [hσ]
        go_wp2
        have c0 := (hl6.hb.cell (p := ⟨b0, o0 + j * 3, none⟩) hbl).trans r0
        have c1 := (hl6.hb.cell (p := ⟨b0, o0 + j * 3 + 1, none⟩) hbl).trans r1
        have c2 := (hl6.hb.cell (p := ⟨b0, o0 + j * 3 + 2, none⟩) hbl).trans r2
        obtain ⟨A7, c7, hG1, hG2, hG3⟩ := hl6.hF
        refine Play_r9 g b b0 o0 n c j xs[j].1 xs[j].2.1 xs[j].2.2 A7 c7 _ _ _ _ _ (by rfl) (by rfl) (by rfl) (by rfl) (by rfl) (by rfl) hlt c0 c1 c2 hl6.hS (cell_of_one hG1) hG3 hl6.hw hG2 ?_
        intro σ2 W7 hB7 hσ2
        have HL7 := Aside0.mk (hl6.below hB7)
        simp only [lazyA, lazyT, p9_tab, List.zipWith_cons_cons, List.zipWith_nil_left, cond_true]
        clear c0 c1 c2 hG1 hG2 hG3 hl6 hB7
        rename_i K1 hK1
        refine hK1 _ _ ?_
        rw [hσ2]
        go_wp2
        go_roundw
        case rel => exact ⟨j + 1, by omega, by simp, ⟨⟨_, HL7.out⟩⟩⟩
        case measure => simp [intOf]; omega
      · have hj2 : j = n := by omega
        obtain ⟨A7, c7, hG1, hG2, hG3⟩ := hl.hF
        have HLW := Aside0.mk hl
        have c6 := cell_of_one hG1
        have h3 := hl.h3
        have d0 : wr.cell? ⟨w.heap.size, 0, none⟩ = some (.int .u8 k) := by unfold World.cell?; rw [h3]; rfl
        have d1 : wr.cell? ⟨w.heap.size, 1, none⟩ = some (.int .i64 f) := by unfold World.cell?; rw [h3]; rfl
        have d2 : wr.cell? ⟨w.heap.size, 2, none⟩ = some (.int .i64 t) := by unfold World.cell?; rw [h3]; rfl
        have HG2 := Aside0.mk hG2
        have HG3 := Aside0.mk hG3
        clear hl hG1 hG2 hG3 h3
        have HSM := Aside0.mk (Same_calls g k f t l (.agg #[.slice A7 l.length c7]) wr HLW.out.hS ⟨A7, c7, rfl, HG2.out, HG3.out⟩ HLW.out.hw)
        subst hj2
        go_wp2_with (first
          | (go_at_call 45; refine (HSM.out).mono ?_; rintro e w5 ⟨rfl, hb5⟩; have HB5 := Aside0.mk hb5; clear hb5)
          | (go_at_call 35; refine (HAW.out _).mono ?_; rintro e w6 ⟨rfl, hb6⟩; have HB6 := Aside0.mk hb6; clear hb6))
        go_ret
        exact ⟨rfl, below_step (below_step HLW.out.hb HB5.out) HB6.out⟩
end Go.Proofs.Ytiladcdogbeomaa.QRangesPlays
