/- Law 24 (outbox): contracts of functions that its statements reach, and plain laws behind them (part 3). No condition. -/
import Derived.Test.YtiladcdogbeomaaUb
import Derived.RangeFuncBox
import Derived.Maps.AppendAt
namespace Go.Proofs.Ytiladcdogbeomaa.QRangesPlays
open Go.RowKit Go.Shelf Go.Proofs.YtiladcdogbeomaaW.PrintWords Go.Proofs.YtiladcdogbeomaaW.PrintLast Go.Proofs.YtiladcdogbeomaaW.PrintMore Go.Proofs.Ytiladcdogbeomaa.RowLaws Go.Proofs.Ytiladcdogbeomaa.Lazy
abbrev r8_ops : List Oper := [{ dst := some 34, op := .load 95 (.tmp 10), type := 95, pos := "ranges.go:79", after := #[], guard := none },
  { dst := some 35, op := .load 95 (.tmp 10), type := 95, pos := "ranges.go:79", after := #[⟨4, .gcOnly .lateStores⟩], guard := none },
  { dst := some 11, op := .alloc 95, type := 0, pos := "ranges.go:79", after := #[], guard := none },
  { dst := some 12, op := .alloc 95, type := 0, pos := "ranges.go:79", after := #[], guard := none },
  { dst := none, op := .store 95 (.tmp 11) (.tmp 34), type := 0, pos := "ranges.go:79", after := #[⟨2, .data⟩, ⟨0, .data⟩, ⟨0, .phase⟩, ⟨1, .textOnly .lateStores⟩, ⟨2, .phase⟩, ⟨3, .phase⟩], guard := none },
  { dst := none, op := .store 95 (.tmp 12) (.tmp 35), type := 0, pos := "ranges.go:79", after := #[⟨3, .data⟩, ⟨1, .data⟩, ⟨4, .chain⟩, ⟨0, .phase⟩, ⟨1, .phase⟩, ⟨2, .phase⟩, ⟨3, .phase⟩, ⟨4, .phase⟩], guard := none }]
abbrev r8_tab : List (Option Nat) := [none, none, none, none, none, none, none, none, none, none, none, some 2, some 3, none, none, none, none, none, none, none, none, none, none, none, none, none, none, none, none, none, none, none, none, none, some 0, some 1, none, none, none, none, none, none, none, none, none, none, none, none, none, none, none, none, none, none, none, none, none, none, none, none, none, none, none, none, none, none, none, none, none, none, none, none, none]
theorem two_setCells {W : World} {p : Nat} {a b x y : Value} (h : W.heap[p]? = some (.cells #[a, b] 95 (0, 0))) : ((W.setCell ⟨p, 0, none⟩ x).setCell ⟨p, 1, none⟩ y).heap[p]? = some (.cells #[x, y] 95 (0, 0)) := by
  have e1 : (W.setCell ⟨p, 0, none⟩ x).heap[p]? = some (.cells #[x, b] 95 (0, 0)) := by
    have hlt := lt_of_block h
    show (W.heap.modify p _)[p]? = _
    have h' : W.heap[p] = .cells #[a, b] 95 (0, 0) := by simpa [Array.getElem?_eq_getElem hlt] using h
    rw [Array.getElem?_eq_getElem (by simpa using hlt), Array.getElem_modify_self, h']
    rfl
  have hlt := lt_of_block e1
  show ((W.setCell ⟨p, 0, none⟩ x).heap.modify p _)[p]? = _
  have h' : (W.setCell ⟨p, 0, none⟩ x).heap[p] = .cells #[x, b] 95 (0, 0) := by simpa [Array.getElem?_eq_getElem hlt] using e1
  rw [Array.getElem?_eq_getElem (by simpa using hlt), Array.getElem_modify_self, h']
  rfl
theorem two_cell {W : World} {p : Nat} {a b : Value} (h : W.heap[p]? = some (.cells #[a, b] 95 (0, 0))) : W.cell? ⟨p, 0, none⟩ = some a ∧ W.cell? ⟨p, 1, none⟩ = some b ∧ W.frozen? ⟨p, 0, none⟩ = false ∧ W.frozen? ⟨p, 1, none⟩ = false := by
  refine ⟨?_, ?_, ?_, ?_⟩ <;> simp [World.cell?, World.frozen?, h]
def sp2 (a b : Int) : Array Value := #[.int .i64 a, .int .i64 b]
structure R8 (B : Nat) (a b : Int) (w0 : World) (L : Nat → Bool) (σ : Nat → Value) (W : World) : Prop where
  v0 : L 0 = true → σ 0 = .agg #[.int .i64 a, .int .i64 b]
  v1 : L 1 = true → σ 1 = .agg #[.int .i64 a, .int .i64 b]
  hb : Below B w0 W
  k4 : L 4 = true → L 2 = true
  k5 : L 5 = true → L 3 = true
  p2 : L 2 = true → ∃ p, σ 2 = .pointer (some ⟨p, 0, none⟩) ∧ B ≤ p ∧ W.heap[p]? = some (.cells (bif L 4 then sp2 a b else sp2 0 0) 95 (0, 0))
  p3 : L 3 = true → ∃ p, σ 3 = .pointer (some ⟨p, 0, none⟩) ∧ B ≤ p ∧ W.heap[p]? = some (.cells (bif L 5 then sp2 a b else sp2 0 0) 95 (0, 0))
  ne : L 2 = true → L 3 = true → σ 2 ≠ σ 3
section
variable {B X : Nat} {a b : Int} {w0 W : World} {L : Nat → Bool} {σ : Nat → Value}
theorem upd_eval {σ : Nat → Value} {i : Nat} {v : Value} : updS σ i v i = v := by simp [updS]
theorem upd_else {σ : Nat → Value} {i j : Nat} {v : Value} (h : j ≠ i) : updS σ i v j = σ j := by simp [updS, h]
theorem R8.load0 (h : R8 B a b w0 L σ W) : R8 B a b w0 (updL L 0) (updS σ 0 (.agg #[.int .i64 a, .int .i64 b])) W := by
  refine ⟨fun _ => upd_eval, ?_, h.hb, ?_, ?_, ?_, ?_, ?_⟩ <;> simp only [upd_ne (L := L) (i := 0) (j := 1) (by decide), upd_ne (L := L) (i := 0) (j := 2) (by decide), upd_ne (L := L) (i := 0) (j := 3) (by decide), upd_ne (L := L) (i := 0) (j := 4) (by decide), upd_ne (L := L) (i := 0) (j := 5) (by decide), upd_else (σ := σ) (i := 0) (j := 1) (by decide), upd_else (σ := σ) (i := 0) (j := 2) (by decide), upd_else (σ := σ) (i := 0) (j := 3) (by decide)]
  · exact h.v1
  · exact h.k4
  · exact h.k5
  · exact h.p2
  · exact h.p3
  · exact h.ne
theorem R8.load1 (h : R8 B a b w0 L σ W) : R8 B a b w0 (updL L 1) (updS σ 1 (.agg #[.int .i64 a, .int .i64 b])) W := by
  refine ⟨?_, fun _ => upd_eval, h.hb, ?_, ?_, ?_, ?_, ?_⟩ <;> simp only [upd_ne (L := L) (i := 1) (j := 0) (by decide), upd_ne (L := L) (i := 1) (j := 2) (by decide), upd_ne (L := L) (i := 1) (j := 3) (by decide), upd_ne (L := L) (i := 1) (j := 4) (by decide), upd_ne (L := L) (i := 1) (j := 5) (by decide), upd_else (σ := σ) (i := 1) (j := 0) (by decide), upd_else (σ := σ) (i := 1) (j := 2) (by decide), upd_else (σ := σ) (i := 1) (j := 3) (by decide)]
  · exact h.v0
  · exact h.k4
  · exact h.k5
  · exact h.p2
  · exact h.p3
  · exact h.ne
theorem new_block (W : World) : (W.alloc (.cells (sp2 0 0) 95)).heap[W.heap.size]? = some (.cells (sp2 0 0) 95 (0, 0)) := heap_alloc_new W _
theorem R8.alloc2 (h : R8 B a b w0 L σ W) (hB : B = w0.heap.size) (hL : L 2 = false) : R8 B a b w0 (updL L 2) (updS σ 2 (.pointer (some ⟨W.heap.size, 0, none⟩))) (W.alloc (.cells (sp2 0 0) 95)) := by
  have hs : B ≤ W.heap.size := by rw [hB]; exact h.hb.size
  have e4 : L 4 = false := Bool.eq_false_iff.2 fun e => by rw [h.k4 e] at hL; cases hL
  have hbb : Below W.heap.size W (W.alloc (.cells (sp2 0 0) 95)) := (Below.refl _ _).alloc (Nat.le_refl _) _
  refine ⟨?_, ?_, h.hb.trans (hbb.mono hs), ?_, ?_, ?_, ?_, ?_⟩ <;> simp only [upd_ne (L := L) (i := 2) (j := 0) (by decide), upd_ne (L := L) (i := 2) (j := 1) (by decide), upd_ne (L := L) (i := 2) (j := 3) (by decide), upd_ne (L := L) (i := 2) (j := 4) (by decide), upd_ne (L := L) (i := 2) (j := 5) (by decide), upd_else (σ := σ) (i := 2) (j := 0) (by decide), upd_else (σ := σ) (i := 2) (j := 1) (by decide), upd_else (σ := σ) (i := 2) (j := 3) (by decide), upd_eval]
  · exact h.v0
  · exact h.v1
  · exact fun _ => upd_self
  · exact h.k5
  · exact fun _ => ⟨W.heap.size, rfl, hs, by rw [e4]; exact new_block W⟩
  · exact fun h3 => let ⟨p, x1, x2, x3⟩ := h.p3 h3; ⟨p, x1, x2, (hbb.block p (lt_of_block x3)).trans x3⟩
  · intro _ h3 e
    obtain ⟨p, x1, x2, x3⟩ := h.p3 h3
    rw [x1] at e
    have e' : W.heap.size = p := by injection e with e; injection e with e; injection e
    have := lt_of_block x3; omega
theorem R8.alloc3 (h : R8 B a b w0 L σ W) (hB : B = w0.heap.size) (hL : L 3 = false) : R8 B a b w0 (updL L 3) (updS σ 3 (.pointer (some ⟨W.heap.size, 0, none⟩))) (W.alloc (.cells (sp2 0 0) 95)) := by
  have hs : B ≤ W.heap.size := by rw [hB]; exact h.hb.size
  have e5 : L 5 = false := Bool.eq_false_iff.2 fun e => by rw [h.k5 e] at hL; cases hL
  have hbb : Below W.heap.size W (W.alloc (.cells (sp2 0 0) 95)) := (Below.refl _ _).alloc (Nat.le_refl _) _
  refine ⟨?_, ?_, h.hb.trans (hbb.mono hs), ?_, ?_, ?_, ?_, ?_⟩ <;> simp only [upd_ne (L := L) (i := 3) (j := 0) (by decide), upd_ne (L := L) (i := 3) (j := 1) (by decide), upd_ne (L := L) (i := 3) (j := 2) (by decide), upd_ne (L := L) (i := 3) (j := 4) (by decide), upd_ne (L := L) (i := 3) (j := 5) (by decide), upd_else (σ := σ) (i := 3) (j := 0) (by decide), upd_else (σ := σ) (i := 3) (j := 1) (by decide), upd_else (σ := σ) (i := 3) (j := 2) (by decide), upd_eval]
  · exact h.v0
  · exact h.v1
  · exact h.k4
  · exact fun _ => upd_self
  · exact fun h3 => let ⟨p, x1, x2, x3⟩ := h.p2 h3; ⟨p, x1, x2, (hbb.block p (lt_of_block x3)).trans x3⟩
  · exact fun _ => ⟨W.heap.size, rfl, hs, by rw [e5]; exact new_block W⟩
  · intro h2 _ e
    obtain ⟨p, x1, x2, x3⟩ := h.p2 h2
    rw [x1] at e
    have e' : p = W.heap.size := by injection e with e; injection e with e; injection e
    have := lt_of_block x3; omega
theorem R8.store4 (h : R8 B a b w0 L σ W) (hL : L 4 = false) (h2 : L 2 = true) {p : Nat} (hp : σ 2 = .pointer (some ⟨p, 0, none⟩)) : R8 B a b w0 (updL L 4) (updS σ 4 undef) ((W.setCell ⟨p, 0, none⟩ (.int .i64 a)).setCell ⟨p, 1, none⟩ (.int .i64 b)) := by
  obtain ⟨p', x1, x2, x3⟩ := h.p2 h2
  have e' : p' = p := by rw [hp] at x1; injection x1 with e; injection e with e; injection e with e; exact e.symm
  subst e'
  rw [hL] at x3
  refine ⟨?_, ?_, (h.hb.setCell (p := ⟨p', 0, none⟩) x2 _).setCell (p := ⟨p', 1, none⟩) x2 _, ?_, ?_, ?_, ?_, ?_⟩ <;> simp only [upd_ne (L := L) (i := 4) (j := 0) (by decide), upd_ne (L := L) (i := 4) (j := 1) (by decide), upd_ne (L := L) (i := 4) (j := 2) (by decide), upd_ne (L := L) (i := 4) (j := 3) (by decide), upd_ne (L := L) (i := 4) (j := 5) (by decide), upd_else (σ := σ) (i := 4) (j := 0) (by decide), upd_else (σ := σ) (i := 4) (j := 1) (by decide), upd_else (σ := σ) (i := 4) (j := 2) (by decide), upd_else (σ := σ) (i := 4) (j := 3) (by decide)]
  · exact h.v0
  · exact h.v1
  · exact fun _ => h2
  · exact h.k5
  · exact fun _ => ⟨p', hp, x2, by rw [upd_self]; exact two_setCells x3⟩
  · intro h3
    obtain ⟨q, y1, y2, y3⟩ := h.p3 h3
    have hne : q ≠ p' := by intro e; subst e; exact h.ne h2 h3 (by rw [hp, y1])
    exact ⟨q, y1, y2, by rw [Below.heap_setCell _ _ _ _ hne, Below.heap_setCell _ _ _ _ hne]; exact y3⟩
  · exact h.ne
theorem R8.store5 (h : R8 B a b w0 L σ W) (hL : L 5 = false) (h3 : L 3 = true) {p : Nat} (hp : σ 3 = .pointer (some ⟨p, 0, none⟩)) : R8 B a b w0 (updL L 5) (updS σ 5 undef) ((W.setCell ⟨p, 0, none⟩ (.int .i64 a)).setCell ⟨p, 1, none⟩ (.int .i64 b)) := by
  obtain ⟨p', x1, x2, x3⟩ := h.p3 h3
  have e' : p' = p := by rw [hp] at x1; injection x1 with e; injection e with e; injection e with e; exact e.symm
  subst e'
  rw [hL] at x3
  refine ⟨?_, ?_, (h.hb.setCell (p := ⟨p', 0, none⟩) x2 _).setCell (p := ⟨p', 1, none⟩) x2 _, ?_, ?_, ?_, ?_, ?_⟩ <;> simp only [upd_ne (L := L) (i := 5) (j := 0) (by decide), upd_ne (L := L) (i := 5) (j := 1) (by decide), upd_ne (L := L) (i := 5) (j := 2) (by decide), upd_ne (L := L) (i := 5) (j := 3) (by decide), upd_ne (L := L) (i := 5) (j := 4) (by decide), upd_else (σ := σ) (i := 5) (j := 0) (by decide), upd_else (σ := σ) (i := 5) (j := 1) (by decide), upd_else (σ := σ) (i := 5) (j := 2) (by decide), upd_else (σ := σ) (i := 5) (j := 3) (by decide)]
  · exact h.v0
  · exact h.v1
  · exact h.k4
  · exact fun _ => h3
  · intro h2
    obtain ⟨q, y1, y2, y3⟩ := h.p2 h2
    have hne : q ≠ p' := by intro e; subst e; exact h.ne h2 h3 (by rw [hp, y1])
    exact ⟨q, y1, y2, by rw [Below.heap_setCell _ _ _ _ hne, Below.heap_setCell _ _ _ _ hne]; exact y3⟩
  · exact fun _ => ⟨p', hp, x2, by rw [upd_self]; exact two_setCells x3⟩
  · exact h.ne
end
set_option maxRecDepth 100000 in
set_option maxHeartbeats 1000000 in
theorem Rem_r8 (X : Nat) (a b : Int) (t0 : List Value) (d0 : List Deferred) (w : World) (Q : Exit → Act → World → Prop) (hl : t0.length = r8_tab.length)
    (h10 : t0[10]? = some (.pointer (some ⟨X, 0, none⟩))) (hx : w.heap[X]? = some (.cells #[.int .i64 a, .int .i64 b] 95 (0, 0)))
    (hQ : ∀ σ p q W', Below w.heap.size w W' → p ≠ q → w.heap.size ≤ p → w.heap.size ≤ q → σ 2 = .pointer (some ⟨p, 0, none⟩) → σ 3 = .pointer (some ⟨q, 0, none⟩) → W'.heap[p]? = some (.cells #[.int .i64 a, .int .i64 b] 95 (0, 0)) → W'.heap[q]? = some (.cells #[.int .i64 a, .int .i64 b] 95 (0, 0)) → Q .normal (lazyA (fun _ => true) σ t0 r8_tab d0) W') :
    (Code.region 8 r8_ops.toArray true).wp Try.prog Q { tmps := t0.toArray, defers := d0 } w := by
  have hX : X < w.heap.size := lt_of_block hx
  have hx' : w.drew.heap[X]? = some (.cells #[.int .i64 a, .int .i64 b] 95 (0, 0)) := hx
  refine wp_region_lazy (by kernel_rfl) r8_tab (by kernel_rfl) hl (R8 w.heap.size a b w.drew) ⟨fun h => (by cases h), fun h => (by cases h), Below.refl _ _, fun h => (by cases h), fun h => (by cases h), fun h => (by cases h), fun h => (by cases h), fun h => (by cases h)⟩ ⟨?s0, ?s1, ?s2, ?s3, ?s4, ?s5, trivial⟩ ?hdone
  case hdone =>
    intro L σ W hL hI
    obtain ⟨p, x1, x2, x3⟩ := hI.p2 (hL 2 (by decide))
    obtain ⟨q, y1, y2, y3⟩ := hI.p3 (hL 3 (by decide))
    rw [hL 4 (by decide)] at x3
    rw [hL 5 (by decide)] at y3
    exact hQ σ p q W (((Below.refl _ w).drew).trans hI.hb) (fun e => hI.ne (hL 2 (by decide)) (hL 3 (by decide)) (by rw [x1, y1, e])) x2 y2 x1 y1 x3 y3
  case s0 =>
    intro L σ W hL hd hI
    have q10 := lazy_old (L := L) (σ := σ) (tab := r8_tab) (d0 := d0) h10 rfl
    generalize (lazyA L σ t0 r8_tab d0).eval = ρ at *
    obtain ⟨cc, cc1, _, _⟩ := two_cell ((hI.hb.block X hX).trans hx')
    exact Op1.of_run (v := .agg #[.int .i64 a, .int .i64 b]) (W' := W) (by clear hd hL hI; go_simp) hI.load0
  case s1 =>
    intro L σ W hL hd hI
    have q10 := lazy_old (L := L) (σ := σ) (tab := r8_tab) (d0 := d0) h10 rfl
    generalize (lazyA L σ t0 r8_tab d0).eval = ρ at *
    obtain ⟨cc, cc1, _, _⟩ := two_cell ((hI.hb.block X hX).trans hx')
    exact Op1.of_run (v := .agg #[.int .i64 a, .int .i64 b]) (W' := W) (by clear hd hL hI; go_simp) hI.load1
  case s2 =>
    intro L σ W hL hd hI
    generalize (lazyA L σ t0 r8_tab d0).eval = ρ at *
    exact Op1.of_run (v := .pointer (some ⟨W.heap.size, 0, none⟩)) (W' := W.alloc (.cells (sp2 0 0) 95)) (by unfold sp2; clear hd hL hI; go_simp) (hI.alloc2 rfl hL)
  case s3 =>
    intro L σ W hL hd hI
    generalize (lazyA L σ t0 r8_tab d0).eval = ρ at *
    exact Op1.of_run (v := .pointer (some ⟨W.heap.size, 0, none⟩)) (W' := W.alloc (.cells (sp2 0 0) 95)) (by unfold sp2; clear hd hL hI; go_simp) (hI.alloc3 rfl hL)
  case s4 =>
    intro L σ W hL hd hI
    have dp0 : L 0 = true := hd ⟨0, .data⟩ (by simp) rfl
    have dp2 : L 2 = true := hd ⟨2, .data⟩ (by simp) rfl
    obtain ⟨p, x1, x2, x3⟩ := hI.p2 dp2
    rw [hL] at x3
    have q11 : (lazyA L σ t0 r8_tab d0).eval (.tmp 11) = .pointer (some ⟨p, 0, none⟩) := (lazy_eval hl rfl dp2).trans x1
    have q34 : (lazyA L σ t0 r8_tab d0).eval (.tmp 34) = .agg #[.int .i64 a, .int .i64 b] := (lazy_eval hl rfl dp0).trans (hI.v0 dp0)
    generalize (lazyA L σ t0 r8_tab d0).eval = ρ at *
    obtain ⟨cc, cc1, ff, ff1⟩ := two_cell (a := .int .i64 0) (b := .int .i64 0) x3
    exact Op1.of_skip (W' := (W.setCell ⟨p, 0, none⟩ (.int .i64 a)).setCell ⟨p, 1, none⟩ (.int .i64 b)) (by have hI := Aside0.mk hI; clear hd hL x1 x3 hI; go_simp) (hI.store4 hL dp2 x1)
  case s5 =>
    intro L σ W hL hd hI
    have dp1 : L 1 = true := hd ⟨1, .data⟩ (by simp) rfl
    have dp3 : L 3 = true := hd ⟨3, .data⟩ (by simp) rfl
    obtain ⟨p, x1, x2, x3⟩ := hI.p3 dp3
    rw [hL] at x3
    have q12 : (lazyA L σ t0 r8_tab d0).eval (.tmp 12) = .pointer (some ⟨p, 0, none⟩) := (lazy_eval hl rfl dp3).trans x1
    have q35 : (lazyA L σ t0 r8_tab d0).eval (.tmp 35) = .agg #[.int .i64 a, .int .i64 b] := (lazy_eval hl rfl dp1).trans (hI.v1 dp1)
    generalize (lazyA L σ t0 r8_tab d0).eval = ρ at *
    obtain ⟨cc, cc1, ff, ff1⟩ := two_cell (a := .int .i64 0) (b := .int .i64 0) x3
    exact Op1.of_skip (W' := (W.setCell ⟨p, 0, none⟩ (.int .i64 a)).setCell ⟨p, 1, none⟩ (.int .i64 b)) (by have hI := Aside0.mk hI; clear hd hL x1 x3 hI; go_simp) (hI.store5 hL dp3 x1)
end Go.Proofs.Ytiladcdogbeomaa.QRangesPlays

namespace Go.Proofs.Ytiladcdogbeomaa.QRangesPlays
open Go.RowKit Go.Shelf Go.Proofs.YtiladcdogbeomaaW.PrintWords Go.Proofs.YtiladcdogbeomaaW.PrintLast Go.Proofs.YtiladcdogbeomaaW.PrintMore Go.Proofs.Ytiladcdogbeomaa.RowLaws
/-- What is left of a span. -/
def prg (f t : Int) (x : S95) : List S95 := (if x.f0 ≤ (if f - 1 < x.f1 then f - 1 else x.f1) then [⟨x.f0, if f - 1 < x.f1 then f - 1 else x.f1⟩] else []) ++ (if (if x.f0 < t + 1 then t + 1 else x.f0) ≤ x.f1 then [⟨if x.f0 < t + 1 then t + 1 else x.f0, x.f1⟩] else [])
theorem rem_prg {lo f t : Int} : ∀ {l : List S95}, wf lo l → rem f t l = l.flatMap (prg f t)
  | [], _ => rfl
  | x :: r, ⟨h1, h2, h3, h4⟩ => by
    rw [rem_cons, List.flatMap_cons, rem_prg h4]
    congr 1
    unfold prg
    congr 1
    · by_cases h : x.f0 < f
      · rw [if_pos h, if_pos (by split <;> omega)]; congr 2; split <;> omega
      · rw [if_neg h, if_neg (by split <;> omega)]
    · by_cases h : x.f1 > t
      · rw [if_pos h, if_pos (by split <;> omega)]; congr 2; split <;> omega
      · rw [if_neg h, if_neg (by split <;> omega)]
theorem one_len {p : Prop} [Decidable p] {y : S95} : (if p then [y] else []).length ≤ 1 := by split <;> simp
theorem prg_len (f t : Int) (x : S95) : (prg f t x).length ≤ 2 := by
  unfold prg; rw [List.length_append]
  exact Nat.add_le_add one_len one_len
theorem flat_len (f t : Int) (l : List S95) : (l.flatMap (prg f t)).length ≤ 2 * l.length := by
  induction l with
  | nil => simp
  | cons x r ih => rw [List.flatMap_cons, List.length_append, List.length_cons]; have := prg_len f t x; omega
theorem park {p : Prop} (h : Aside0 p) : p := h.out
theorem own_snoc {W : World} {B : Nat} {v : Value} {xs : List S95} {x y : Int} (h : W.ownsRow B 95 2 v (xs.length + 1) (rowC xs ++ [.int .i64 x, .int .i64 y])) : OwnS W B v (xs ++ [(⟨x, y⟩ : S95)]) := by
  unfold OwnS; rw [rowC_append, List.length_append]; exact h
theorem OwnS.two {W : World} {B : Nat} {v : Value} {xs : List S95} (h : OwnS W B v xs) (o1 o2 : Obj) : OwnS ((W.alloc o1).alloc o2) B v xs :=
  (h.below ((Below.refl _ W).alloc (Nat.le_refl _) o1)).below ((Below.refl _ _).alloc (Nat.le_refl _) o2)
theorem new_two (W : World) (o1 o2 : Obj) : ((W.alloc o1).alloc o2).heap[W.heap.size + 1]? = some o2 := by
  have := heap_alloc_new (W.alloc o1) o2
  rwa [World.size_alloc] at this
theorem OwnS.one {W : World} {B : Nat} {v : Value} {xs : List S95} (h : OwnS W B v xs) (o1 : Obj) : OwnS (W.alloc o1) B v xs := h.below ((Below.refl _ W).alloc (Nat.le_refl _) o1)
theorem below_one {w W : World} (h : Below w.heap.size w W) (o1 : Obj) : Below w.heap.size w (W.alloc o1) := h.alloc h.size o1
theorem OwnS.reads {W : World} {B : Nat} {v : Value} {xs : List S95} (h : OwnS W B v xs) : ∃ A c, v = .slice A xs.length c ∧ xs.length ≤ c ∧ Kd.C k95 W A xs.length xs := h.row.slice
theorem flat_succ {f t : Int} {l : List S95} {k : Nat} (hk : k < l.length) : (l.take (k + 1)).flatMap (prg f t) = (l.take k).flatMap (prg f t) ++ prg f t l[k] := by
  rw [List.take_succ_eq_append_getElem hk, List.flatMap_append]; simp
theorem below_two {w W : World} (h : Below w.heap.size w W) (o1 o2 : Obj) : Below w.heap.size w ((W.alloc o1).alloc o2) :=
  (h.alloc h.size o1).alloc (by have := h.size; simp; omega) o2
theorem idx2_0 (w : World) (a b c d : Value) : (Instr.index 137 (.agg #[a, b, c, d]) (.int .i64 0)).run Try.prog w = .ok (.agg #[a, b]) w := by kernel_rfl
theorem idx2_1 (w : World) (a b c d : Value) : (Instr.index 137 (.agg #[a, b, c, d]) (.int .i64 1)).run Try.prog w = .ok (.agg #[c, d]) w := by kernel_rfl
set_option maxRecDepth 100000 in
set_option maxHeartbeats 4000000 in
theorem Rem_in (g : Nat) (f t : Int) (l : List S95) (w : World) (hs : SetAt w g l) (hw : wf 0 l) (hf : 0 ≤ f) (hft : f ≤ t) (ht : t ≤ 1099511627776) :
    Calls Try.prog 48 #[.pointer (some ⟨g, 0, none⟩), .int .i64 f, .int .i64 t] w fun e w' => e = .returned (.int .i64 (wrap64 (cntF l - cntF (rem f t l)))) ∧ SetOwn w.heap.size w' g (rem f t l) ∧ Only g w w' := by
  have HM := Aside0.mk (may_calls f t)
  have hm : (decide (0 ≤ f) && decide (f ≤ t) && decide (t ≤ 1099511627776)) = true := by simp [hf, hft, ht]
  rw [hm] at HM
  have hl : l.length ≤ 549755813890 := by have := wf_len hw (by omega); omega
  have HC := Aside0.mk (fun (W : World) (hS : SetAt W g l) => Set_Count.calls g l W hS.isSet (by omega))
  have HS := Aside0.mk hs
  have HW := Aside0.mk hw
  obtain ⟨sv, hgb, hR⟩ := hs
  obtain ⟨A0, cap0, rfl, hlc, hC0⟩ := hR.slice
  have HGB := Aside0.mk hgb
  have hgl := lt_of_block hgb
  have hg := cell_of_one hgb
  have HC0 := Aside0.mk hC0
  clear hw hgb hR hC0 hm
  go_enter Try.func48, Try.ntmps48
  go_wp2_with (first
    | (go_at_call 72; refine (HM.out _).mono ?_; rintro e w' ⟨rfl, nd, rfl⟩)
    | (go_at_call 50; refine (HC.out _ (HS.out.below (pw_below_drewN (Below.refl _ _) _))).mono ?_; rintro e w2 ⟨rfl, hb⟩; have hB2 := (pw_below_drewN (Below.refl _ _) _ : Below w.heap.size w _).trans hb; have hg2 := (hB2.cell (p := ⟨g, 0, none⟩) hgl).trans hg; have HB2 := Aside0.mk hB2; clear hb hB2))
  have hC2 := Kd.C_below HC0.out HB2.out
  have HC2 := Aside0.mk hC2
  clear hC2
  go_loopw [8, 30] (fun v i wr => ∃ k : Nat, k ≤ l.length ∧ i = .int .i64 k ∧ OwnS wr w.heap.size v ((l.take k).flatMap (prg f t)) ∧ Aside0 (Below w.heap.size w wr)) (fun _ i _ => l.length - (intOf i).toNat)
  case atStart => exact ⟨0, Nat.zero_le _, rfl, World.ownsRow_nil _ _ _ _, HB2⟩
  case round =>
    obtain ⟨k, hk, rfl, hown, HWR⟩ := hrel
    by_cases hlt : k < l.length
    · have hC := Kd.C_below HC0.out HWR.out
      obtain ⟨bb, oo, rfl, h0, h1⟩ := row_at hC k hlt
      clear hC
      obtain ⟨a, ha⟩ : ∃ a, l[k].f0 = a := ⟨_, rfl⟩
      obtain ⟨b, hb⟩ : ∃ b, l[k].f1 = b := ⟨_, rfl⟩
      rw [ha] at h0
      rw [hb] at h1
      have hmm := wf_mem HW.out l[k] (List.getElem_mem _)
      rw [ha, hb] at hmm
      obtain ⟨ha1, hb1, hc1⟩ := hmm
      have HA := Aside0.mk ha
      have HBB := Aside0.mk hb
      have HOWN := Aside0.mk hown
      clear ha hb hown
      go_wp2
      rename_i K0 hK0
      have hlw : wr.heap.size < (wr.alloc (.cells #[.int .i64 a, .int .i64 b] 95)).heap.size := by simp
      have hxb : (wr.alloc (.cells #[.int .i64 a, .int .i64 b] 95)).heap[wr.heap.size]? = some (.cells #[.int .i64 a, .int .i64 b] 95 (0, 0)) := heap_alloc_new wr _
      have hbA : Below wr.heap.size wr (wr.alloc (.cells #[.int .i64 a, .int .i64 b] 95)) := (Below.refl _ _).alloc (Nat.le_refl _) _
      refine Rem_r8 wr.heap.size a b _ _ _ _ (by rfl) (by rfl) hxb ?_
      intro σ p q W1 hb1 hpq hp hq s2 s3 cp cq
      simp only [Lazy.lazyA, Lazy.lazyT, r8_tab, List.zipWith_cons_cons, List.zipWith_nil_left, cond_true, s2, s3]
      obtain ⟨x0, x1, _, _⟩ := two_cell ((hb1.block wr.heap.size hlw).trans hxb)
      obtain ⟨p0, p1, pz0, pz1⟩ := two_cell cp
      obtain ⟨q0, q1, qz0, qz1⟩ := two_cell cq
      have hBW : Below w.heap.size w W1 := HWR.out.trans ((hbA.trans (hb1.mono (by omega))).mono HWR.out.size)
      have hO1 : OwnS W1 w.heap.size u8 ((l.take k).flatMap (prg f t)) := HOWN.out.below (hbA.trans (hb1.mono (by omega)))
      have hwp : w.heap.size ≤ p := by have := HWR.out.size; omega
      have hwq : w.heap.size ≤ q := by have := HWR.out.size; omega
      have hpo : ∀ kk, u8.ownBlock = some kk → kk ≠ p ∧ kk ≠ q := fun kk e => by have := (HOWN.out.lt e).2; omega
      have CP := Aside0.mk cp
      have CQ := Aside0.mk cq
      have HBW := Aside0.mk hBW
      have HO1 := Aside0.mk hO1
      have HPO := Aside0.mk hpo
      clear hb1 hxb hbA hBW hO1 hpo s2 s3 cp cq hlw
      refine hK0 _ _ ?_
      go_wp2
      rename_i K1 hK1
      go_region
      obtain ⟨mn, hmn⟩ : ∃ mn, (if f - 1 < b then f - 1 else b) = mn := ⟨_, rfl⟩
      obtain ⟨mx, hmx⟩ : ∃ mx, (if a < t + 1 then t + 1 else a) = mx := ⟨_, rfl⟩
      rw [hmn, hmx]
      obtain ⟨W2, hW2⟩ : ∃ W2, ((W1.setCell ⟨p, 1, none⟩ (.int .i64 mn)).setCell ⟨q, 0, none⟩ (.int .i64 mx)).drew = W2 := ⟨_, rfl⟩
      have hcc : ∀ r : Addr, r.block ≠ q → r ≠ ⟨p, 1, none⟩ → W2.cell? r = W1.cell? r := by
        intro r h1 h2; rw [← hW2]
        show ((W1.setCell ⟨p, 1, none⟩ (.int .i64 mn)).setCell ⟨q, 0, none⟩ (.int .i64 mx)).cell? r = _
        rw [World.cell?_setCell_other _ _ _ _ (fun e => h1 (by rw [← e])), World.cell?_setCell_other _ _ _ _ (fun e => h2 e.symm)]
      have r0 : W2.cell? ⟨p, 0, none⟩ = some (.int .i64 a) := (hcc _ hpq (by simp)).trans p0
      have r1 : W2.cell? ⟨p, 1, none⟩ = some (.int .i64 mn) := by
        rw [← hW2]; show ((W1.setCell ⟨p, 1, none⟩ (.int .i64 mn)).setCell ⟨q, 0, none⟩ (.int .i64 mx)).cell? _ = _
        rw [World.cell?_setCell_other _ _ _ _ (fun e => hpq (by injection e with e1 _ _; exact e1.symm))]; exact setCell_put _ _ _ p1
      have r2 : W2.cell? ⟨q, 0, none⟩ = some (.int .i64 mx) := by
        rw [← hW2]; exact setCell_put _ _ _ ((World.cell?_setCell_other _ _ _ _ (fun e => hpq (by injection e))).trans q0)
      have r3 : W2.cell? ⟨q, 1, none⟩ = some (.int .i64 b) := by
        rw [← hW2]; show ((W1.setCell ⟨p, 1, none⟩ (.int .i64 mn)).setCell ⟨q, 0, none⟩ (.int .i64 mx)).cell? _ = _
        rw [World.cell?_setCell_other _ _ _ _ (by simp), World.cell?_setCell_other _ _ _ _ (fun e => hpq (by injection e))]; exact q1
      have HB2W := Aside0.mk (show Below w.heap.size w W2 from by rw [← hW2]; exact ((HBW.out.setCell (p := ⟨p, 1, none⟩) hwp _).setCell (p := ⟨q, 0, none⟩) hwq _).drew)
      have HO2W := Aside0.mk (show OwnS W2 w.heap.size u8 ((l.take k).flatMap (prg f t)) from by
        rw [← hW2]
        exact own_move HO1.out (fun kk e => (Below.heap_setCell _ _ _ _ (HPO.out kk e).2).trans (Below.heap_setCell _ _ _ _ (HPO.out kk e).1)))
      rw [hW2]
      have hpr : prg f t l[k] = (if a ≤ mn then [(⟨a, mn⟩ : S95)] else []) ++ (if mx ≤ b then [(⟨mx, b⟩ : S95)] else []) := by
        unfold prg; rw [HA.out, HBB.out, hmn, hmx]
      have HPR := Aside0.mk hpr
      have hfl : ((l.take k).flatMap (prg f t)).length ≤ 2 * k := by have := flat_len f t (l.take k); rw [List.length_take] at this; omega
      have HFL := Aside0.mk (show ((l.take k).flatMap (prg f t)).length ≤ 2 * 549755813890 from by omega)
      clear hW2 hmn hmx hcc hpr hfl
      clear x0 x1 p0 p1 pz0 pz1 q0 q1 qz0 qz1
      obtain ⟨xs, hxs⟩ : ∃ xs, (l.take k).flatMap (prg f t) = xs := ⟨_, rfl⟩
      rw [hxs] at HFL HO2W
      have HXS := Aside0.mk hxs
      clear hxs
      obtain ⟨i0, hi0, hz0, hz1, hz2⟩ := info_parts info95f
      refine hK1 _ _ ?_
      go_wp2
      have y0 := fun (W : World) => idx2_0 W (.int .i64 a) (.int .i64 mn) (.int .i64 mx) (.int .i64 b)
      have y1 := fun (W : World) => idx2_1 W (.int .i64 a) (.int .i64 mn) (.int .i64 mx) (.int .i64 b)
      refine wp_loop_rounds 4 ?_
      rw [rounds_succ]
      have HOA5 := Aside0.mk (fun o1 o2 => HO2W.out.two o1 o2)
      have HBA5 := Aside0.mk (fun o1 o2 => below_two HB2W.out o1 o2)
      have HFL5 := HFL
      have HKB5 := Aside0.mk (fun k hk => (HO2W.out.lt (k := k) hk).1)
      go_wp2_with (((with_reducible refine gate_builtin (b := .append) (xs := #[.tmp 59, .tmp 61]) rfl ?_); at_builtin; refine wpList_append_own _ rfl (.tmp 59) (.tmp 61) 74 rfl w.heap.size 95 i0 (.agg #[.int .i64 0, .int .i64 0]) 2 16 Try.underlying74 hi0 hz0 hz1 hz2 rfl (by decide) _ _ _ rfl (HOA5.out _ _) ⟨_, 0, none⟩ 1 1 [.int .i64 a, .int .i64 mn] rfl rfl (World.news_of_block (new_two _ _ _)) (by simp [Value.oneCell']) (by have := HFL5.out; unfold maxLen; omega) (by have := HFL5.out; omega) ((HBA5.out _ _).size) ?_; intro v5 w5 ho hgr hn_; clear hn_; have HO5 := Aside0.mk (show OwnS w5 w.heap.size v5 (xs ++ [(⟨a, mn⟩ : S95)]) from own_snoc ho); have HB5 := Aside0.mk ((HBA5.out _ _).grown hgr (HBA5.out _ _).size (fun k hk => HKB5.out k hk)); clear ho hgr))
      · have hle : a ≤ mn := by assumption
        obtain ⟨x6, hx6⟩ : ∃ x6, xs ++ [(⟨a, mn⟩ : S95)] = x6 := ⟨_, rfl⟩
        rw [hx6] at HO5
        have HFL6 := Aside0.mk (show x6.length ≤ 2 * 549755813890 + 1 from by rw [← hx6]; have := HFL.out; simp; omega)
        have HX6 := Aside0.mk hx6
        clear hx6
        have HOA6 := Aside0.mk (fun o1 o2 => HO5.out.two o1 o2)
        have HBA6 := Aside0.mk (fun o1 o2 => below_two HB5.out o1 o2)
        have HKB6 := Aside0.mk (fun k hk => (HO5.out.lt (k := k) hk).1)
        rw [rounds_succ]
        go_wp2_with (((with_reducible refine gate_builtin (b := .append) (xs := #[.tmp 59, .tmp 61]) rfl ?_); at_builtin; refine wpList_append_own _ rfl (.tmp 59) (.tmp 61) 74 rfl w.heap.size 95 i0 (.agg #[.int .i64 0, .int .i64 0]) 2 16 Try.underlying74 hi0 hz0 hz1 hz2 rfl (by decide) _ _ _ rfl (HOA6.out _ _) ⟨_, 0, none⟩ 1 1 [.int .i64 mx, .int .i64 b] rfl rfl (World.news_of_block (new_two _ _ _)) (by simp [Value.oneCell']) (by have := HFL6.out; unfold maxLen; omega) (by have := HFL6.out; omega) ((HBA6.out _ _).size) ?_; intro v6 w6 ho hgr hn_; clear hn_; have HO6 := Aside0.mk (show OwnS w6 w.heap.size v6 (x6 ++ [(⟨mx, b⟩ : S95)]) from own_snoc ho); have HB6 := Aside0.mk ((HBA6.out _ _).grown hgr (HBA6.out _ _).size (fun k hk => HKB6.out k hk)); clear ho hgr))
        · have hle2 : mx ≤ b := by assumption
          rw [rounds_succ]
          go_wp2
          go_roundw
          case rel => exact ⟨k + 1, by omega, by simp, by rw [flat_succ hlt, HPR.out, if_pos hle, if_pos hle2, HXS.out, ← List.append_assoc, HX6.out]; exact HO6.out, HB6⟩
          case measure => simp [intOf]; omega
        · have hle2 : b < mx := by assumption
          rw [rounds_succ]
          go_wp2
          go_roundw
          case rel => exact ⟨k + 1, by omega, by simp, by rw [flat_succ hlt, HPR.out, if_pos hle, if_neg (by omega), HXS.out, ← List.append_assoc, HX6.out, List.append_nil]; exact HO5.out.one _, ⟨below_one HB5.out _⟩⟩
          case measure => simp [intOf]; omega
      · have hle : mn < a := by assumption
        obtain ⟨W3, hW3, -⟩ := alc2 W2 (.int .i64 a) (.int .i64 mn) 95
        rw [hW3]
        have HO3 := Aside0.mk (show OwnS W3 w.heap.size u8 xs from by rw [← hW3]; exact HO2W.out.one _)
        have HB3 := Aside0.mk (show Below w.heap.size w W3 from by rw [← hW3]; exact below_one HB2W.out _)
        clear hW3
        have HOA6 := Aside0.mk (fun o1 o2 => HO3.out.two o1 o2)
        have HBA6 := Aside0.mk (fun o1 o2 => below_two HB3.out o1 o2)
        have HKB6 := HKB5
        have HFL6 := HFL
        rw [rounds_succ]
        go_wp2_with (((with_reducible refine gate_builtin (b := .append) (xs := #[.tmp 59, .tmp 61]) rfl ?_); at_builtin; refine wpList_append_own _ rfl (.tmp 59) (.tmp 61) 74 rfl w.heap.size 95 i0 (.agg #[.int .i64 0, .int .i64 0]) 2 16 Try.underlying74 hi0 hz0 hz1 hz2 rfl (by decide) _ _ _ rfl (HOA6.out _ _) ⟨_, 0, none⟩ 1 1 [.int .i64 mx, .int .i64 b] rfl rfl (World.news_of_block (new_two _ _ _)) (by simp [Value.oneCell']) (by have := HFL6.out; unfold maxLen; omega) (by have := HFL6.out; omega) ((HBA6.out _ _).size) ?_; intro v6 w6 ho hgr hn_; clear hn_; have HO6 := Aside0.mk (show OwnS w6 w.heap.size v6 (xs ++ [(⟨mx, b⟩ : S95)]) from own_snoc ho); have HB6 := Aside0.mk ((HBA6.out _ _).grown hgr (HBA6.out _ _).size (fun k hk => HKB6.out k hk)); clear ho hgr))
        · have hle2 : mx ≤ b := by assumption
          rw [rounds_succ]
          go_wp2
          go_roundw
          case rel => exact ⟨k + 1, by omega, by simp, by rw [flat_succ hlt, HPR.out, if_neg (by omega), if_pos hle2, HXS.out, List.nil_append]; exact HO6.out, HB6⟩
          case measure => simp [intOf]; omega
        · have hle2 : b < mx := by assumption
          rw [rounds_succ]
          go_wp2
          go_roundw
          case rel => exact ⟨k + 1, by omega, by simp, by rw [flat_succ hlt, HPR.out, if_neg (by omega), if_neg (by omega), HXS.out, List.append_nil, List.append_nil]; exact HO3.out.one _, ⟨below_one HB3.out _⟩⟩
          case measure => simp [intOf]; omega
    · have hk2 : k = l.length := by omega
      have HK := Aside0.mk (show l.take k = l from List.take_of_length_le (by omega))
      rw [HK.out] at hown
      rw [← rem_prg HW.out] at hown
      have hgc := (HWR.out.cell (p := ⟨g, 0, none⟩) hgl).trans hg
      have hgz := (HWR.out.frozen (p := ⟨g, 0, none⟩) hgl).trans (free_of_one HGB.out)
      obtain ⟨A3, c3, hv, _, _⟩ := hown.reads
      have HV := Aside0.mk hv
      have HOWN := Aside0.mk hown
      have hl2 : (rem f t l).length ≤ 549755813890 := by have := wf_len (wf_rem hft HW.out) (by omega); omega
      have HS4 := Aside0.mk (show SetOwn w.heap.size (wr.setCell ⟨g, 0, none⟩ u8) g (rem f t l) from ⟨u8, one_setCell ((HWR.out.block g hgl).trans HGB.out), OwnS.put hown (p := ⟨g, 0, none⟩) hgl u8⟩)
      have HO4 := Aside0.mk ((Only.of_below HWR.out).setCell (p := ⟨g, 0, none⟩) (g := g) rfl u8)
      subst hv
      clear hown
      go_wp2_with (go_at_call 50; refine (Set_Count.calls g (rem f t l) _ HS4.out.setAt.isSet (by omega)).mono ?_; rintro e w5 ⟨rfl, hb⟩; have HB5 := Aside0.mk hb; clear hb)
      go_ret
      exact ⟨by first | rfl | simp [IntKind.wrap_i64, wrap64], HS4.out.below HB5.out, HO4.out.step HB5.out⟩
set_option maxRecDepth 100000 in
set_option maxHeartbeats 1000000 in
theorem Rem_not (p : Option Addr) (f t : Int) (w : World) (hp : p = none ∨ (decide (0 ≤ f) && decide (f ≤ t) && decide (t ≤ 1099511627776)) = false) :
    Calls Try.prog 48 #[.pointer p, .int .i64 f, .int .i64 t] w fun e w' => e = .returned (.int .i64 0) ∧ Below w.heap.size w w' := by
  have HM := Aside0.mk (may_calls f t)
  cases p with
  | none =>
    clear HM
    go_enter Try.func48, Try.ntmps48
    go_wp2
    go_ret
    exact ⟨rfl, Below.refl _ _⟩
  | some a =>
    rcases hp with hp | hm
    · cases hp
    · rw [hm] at HM
      clear hm
      go_enter Try.func48, Try.ntmps48
      go_wp2_with (go_at_call 72; refine (HM.out _).mono ?_; rintro e w' ⟨rfl, nd, rfl⟩)
      go_ret
      exact ⟨rfl, pw_below_drewN (Below.refl _ _) _⟩
def remL (f t : Int) (l : List S95) : List S95 := if may f t then rem f t l else l
theorem Rem_calls (g : Nat) (f t : Int) (l : List S95) (w : World) (hs : SetAt w g l) (hw : wf 0 l) :
    Calls Try.prog 48 #[.pointer (some ⟨g, 0, none⟩), .int .i64 f, .int .i64 t] w fun e w' => e = .returned (.int .i64 (wrap64 (cntF l - cntF (remL f t l)))) ∧ SetNew w w' g (remL f t l) := by
  unfold remL
  by_cases hm : may f t = true
  · rw [if_pos hm]
    unfold may at hm
    simp only [Bool.and_eq_true, decide_eq_true_eq] at hm
    refine (Rem_in g f t l w hs hw hm.1.1 hm.1.2 hm.2).mono ?_
    rintro e w' ⟨rfl, h1, h2⟩
    exact ⟨rfl, h1.setAt, h2, .inl h1⟩
  · rw [if_neg hm]
    refine (Rem_not (some ⟨g, 0, none⟩) f t w (.inr (by simpa [may] using hm))).mono ?_
    rintro e w' ⟨rfl, hb⟩
    exact ⟨by rw [Int.sub_self, show wrap64 0 = 0 by unfold wrap64; omega], hs.below hb, Only.of_below hb, .inr hb⟩
end Go.Proofs.Ytiladcdogbeomaa.QRangesPlays

namespace Go.Proofs.Ytiladcdogbeomaa.QRangesPlays
open Go.RowKit Go.Shelf Go.Proofs.YtiladcdogbeomaaW.PrintWords Go.Proofs.YtiladcdogbeomaaW.PrintLast Go.Proofs.YtiladcdogbeomaaW.PrintMore Go.Proofs.Ytiladcdogbeomaa.RowLaws
attribute [local go_sem] Oper.semAt_some
open Iter
def gstep (s : List S95 × Int) (z : Int × Int) : List S95 × Int := (if s.2 < z.1 then s.1 ++ [(⟨s.2, z.1 - 1⟩ : S95)] else s.1, z.2 + 1)
theorem gps_fold (f t : Int) : ∀ (l : List S95) (o : List S95) (c : Int), o ++ gps f t c l = (((l.map pr).filter (tch f t)).foldl gstep (o, c)).1 ++ (if (((l.map pr).filter (tch f t)).foldl gstep (o, c)).2 ≤ t then [⟨(((l.map pr).filter (tch f t)).foldl gstep (o, c)).2, t⟩] else []) := by
  intro l
  induction l with
  | nil => intro o c; rfl
  | cons x r ih =>
    intro o c
    show o ++ (if f ≤ x.f1 ∧ x.f0 ≤ t then (if x.f0 > c then [⟨c, x.f0 - 1⟩] else []) ++ gps f t (x.f1 + 1) r else gps f t c r) = _
    by_cases h : f ≤ x.f1 ∧ x.f0 ≤ t
    · have ht : tch f t (pr x) = true := by rw [tch_pr]; simp [h]
      have e : gstep (o, c) (pr x) = (o ++ (if x.f0 > c then [(⟨c, x.f0 - 1⟩ : S95)] else []), x.f1 + 1) := by
        unfold gstep pr
        by_cases h2 : c < x.f0
        · simp [h2]
        · simp [h2]
      rw [List.map_cons, List.filter_cons, if_pos ht, if_pos h, List.foldl_cons, ← List.append_assoc, ih, e]
    · have ht : ¬ tch f t (pr x) = true := by rw [tch_pr]; simp; intro h1; omega
      rw [List.map_cons, List.filter_cons, if_neg ht, if_neg h, ih]
/-- What has been found by the places that have come. -/
def gfold (zs : List (Int × Int)) (f : Int) (pre : List (Fin zs.length)) : List S95 × Int := (pre.map (fun i => zs[i])).foldl gstep ([], f)
theorem gfold_snoc (zs : List (Int × Int)) (f : Int) (pre : List (Fin zs.length)) (x : Fin zs.length) : gfold zs f (pre ++ [x]) = gstep (gfold zs f pre) zs[x] := by
  unfold gfold; rw [List.map_append, List.foldl_append]; rfl
theorem gfold_len (zs : List (Int × Int)) (f : Int) : ∀ (pre : List (Fin zs.length)), (gfold zs f pre).1.length ≤ pre.length := by
  intro pre
  have h : ∀ (l : List (Int × Int)) (s : List S95 × Int), (l.foldl gstep s).1.length ≤ s.1.length + l.length := by
    intro l
    induction l with
    | nil => intro s; simp
    | cons z r ih =>
      intro s
      have := ih (gstep s z)
      have h2 : (gstep s z).1.length ≤ s.1.length + 1 := by unfold gstep; split <;> simp
      rw [List.foldl_cons, List.length_cons]; omega
  unfold gfold
  have := h (pre.map (fun i => zs[i])) ([], f)
  simpa using this
theorem gaps_of {l : List S95} {f t : Int} {ys : List (Fin (l.map pr).length)} (hy : ys = hits (l.map pr) f t (l.map pr).length) :
    gps f t f l = (gfold (l.map pr) f ys).1 ++ (if (gfold (l.map pr) f ys).2 ≤ t then [⟨(gfold (l.map pr) f ys).2, t⟩] else []) := by
  have h := gps_fold f t l [] f
  rw [List.nil_append] at h
  rw [h]
  unfold gfold
  rw [hy, hits_get]
theorem below_putD {n D : Nat} {a w : World} {o' : Obj} (h : Below n a w) (hD : n ≤ D) : Below n a (w.putObj D o') :=
  ⟨h.os, h.tape, h.output, Nat.le_trans h.size (by simp), fun k hk => (World.putObj_heap_other (by omega)).trans (h.block k hk)⟩
/-- What a round leaves of the boxes (base N0; the row of what has been found lies from N0 + 6 on). -/
structure GB (N0 : Nat) (W X : World) (v c p t : Value) : Prop where
  ko : KeepsOthers W X
  kp : Kp N0 (N0 + 1 + 1 + 1 + 1) (N0 + 1 + 1 + 1 + 1 + 1) W X
  b2 : Boxed X (N0 + 1 + 1) 74 v
  b1 : Boxed X (N0 + 1) 3 c
  b0 : Boxed X N0 70 p
  b5 : Boxed X (N0 + 1 + 1 + 1 + 1 + 1) 3 t
theorem box6 {W X : World} {B n : Nat} {t : TypeId} {v : Value} (h : Boxed W B t v) (hb : Below n W X) (hn : B < n) : Boxed X B t v := (hb.block B hn).trans h
theorem GB.of_below {N0 : Nat} {W X : World} {v c p t : Value} (h2 : Boxed W (N0 + 1 + 1) 74 v) (h1 : Boxed W (N0 + 1) 3 c) (h0 : Boxed W N0 70 p) (h5 : Boxed W (N0 + 1 + 1 + 1 + 1 + 1) 3 t) (hb : Below (N0 + 6) W X) (hk : KeepsOthers W X) : GB N0 W X v c p t :=
  ⟨hk, ⟨hb.mono (by omega), by have := hb.block (N0 + 1 + 1 + 1 + 1) (by omega); simp [World.cell?, this], by have := hb.block (N0 + 1 + 1 + 1 + 1 + 1) (by omega); simp [World.cell?, this]⟩, box6 h2 hb (by omega), box6 h1 hb (by omega), box6 h0 hb (by omega), box6 h5 hb (by omega)⟩
theorem box_other {W : World} {B C i : Nat} {t : TypeId} {v u : Value} (h : Boxed W B t v) (hne : B ≠ C) : Boxed (W.setCell ⟨C, i, none⟩ u) B t v := (Below.heap_setCell _ _ _ _ hne).trans h
theorem GB.set2 {N0 : Nat} {W X : World} {v c p t : Value} (h : GB N0 W X v c p t) (v' : Value) : GB N0 W (X.setCell ⟨N0 + 1 + 1, 0, none⟩ v') v' c p t :=
  ⟨h.ko.trans (KeepsOthers.setCell _ _ _), ⟨h.kp.1.setCell (p := ⟨N0 + 1 + 1, 0, none⟩) (by show N0 ≤ N0 + 1 + 1; omega) _, (World.cell?_setCell_other _ _ _ _ (by intro e; injection e with e1 _ _; omega)).trans h.kp.2.1, (World.cell?_setCell_other _ _ _ _ (by intro e; injection e with e1 _ _; omega)).trans h.kp.2.2⟩,
    h.b2.set v', box_other h.b1 (by omega), box_other h.b0 (by omega), box_other h.b5 (by omega)⟩
theorem GB.set1 {N0 : Nat} {W X : World} {v c p t : Value} (h : GB N0 W X v c p t) (c' : Value) : GB N0 W (X.setCell ⟨N0 + 1, 0, none⟩ c') v c' p t :=
  ⟨h.ko.trans (KeepsOthers.setCell _ _ _), ⟨h.kp.1.setCell (p := ⟨N0 + 1, 0, none⟩) (by show N0 ≤ N0 + 1; omega) _, (World.cell?_setCell_other _ _ _ _ (by intro e; injection e with e1 _ _; omega)).trans h.kp.2.1, (World.cell?_setCell_other _ _ _ _ (by intro e; injection e with e1 _ _; omega)).trans h.kp.2.2⟩,
    box_other h.b2 (by omega), h.b1.set c', box_other h.b0 (by omega), box_other h.b5 (by omega)⟩
/-- The world behind the append. -/
theorem GB.app0 {N0 : Nat} {W W1 w5 : World} {v c p t : Value} {o : List S95} (h2 : Boxed W (N0 + 1 + 1) 74 v) (h1 : Boxed W (N0 + 1) 3 c) (h0 : Boxed W N0 70 p) (h5 : Boxed W (N0 + 1 + 1 + 1 + 1 + 1) 3 t) (hb : Below (N0 + 6) W W1) (hk : KeepsOthers W W1) (hO : OwnS W1 (N0 + 6) v o)
    (hgr : W1.grownBy w5 v.ownBlock) : GB N0 W w5 v c p t := by
  have hs : N0 + 6 ≤ W.heap.size := h5.lt
  refine GB.of_below h2 h1 h0 h5 (hb.grown hgr (Nat.le_trans hs hb.size) (fun k hk => (hO.lt hk).1)) ?_
  refine hk.trans (KeepsOthers.of_grownBy hgr fun j ob ej hj => ?_)
  rcases hO.2 with ⟨rfl, _⟩ | ⟨g, cap, cur, rfl, _, hgb, _⟩
  · simp [Value.ownBlock] at ej
  · obtain rfl : g = j := by simpa [Value.ownBlock] using ej
    rw [hgb] at hj; cases hj; rfl
theorem GB.app {N0 : Nat} {W w5 : World} {v c p t : Value} {o : List S95} {o1 o2 : Obj} (h2 : Boxed W (N0 + 1 + 1) 74 v) (h1 : Boxed W (N0 + 1) 3 c) (h0 : Boxed W N0 70 p) (h5 : Boxed W (N0 + 1 + 1 + 1 + 1 + 1) 3 t) (hO : OwnS W (N0 + 6) v o)
    (hgr : ((W.alloc o1).alloc o2).grownBy w5 v.ownBlock) : GB N0 W w5 v c p t :=
  have hs : N0 + 6 ≤ W.heap.size := h5.lt
  GB.app0 h2 h1 h0 h5 (((Below.refl _ W).alloc hs o1).alloc (by simp; omega) o2) ((KeepsOthers.alloc W o1).trans (KeepsOthers.alloc _ o2)) ((hO.one o1).one o2) hgr
theorem GB.app1 {N0 : Nat} {W w5 : World} {v c p t : Value} {o : List S95} {o1 : Obj} (h2 : Boxed W (N0 + 1 + 1) 74 v) (h1 : Boxed W (N0 + 1) 3 c) (h0 : Boxed W N0 70 p) (h5 : Boxed W (N0 + 1 + 1 + 1 + 1 + 1) 3 t) (hO : OwnS W (N0 + 6) v o)
    (hgr : (W.alloc o1).grownBy w5 v.ownBlock) : GB N0 W w5 v c p t :=
  GB.app0 h2 h1 h0 h5 ((Below.refl _ W).alloc h5.lt o1) (KeepsOthers.alloc W o1) (hO.one o1) hgr
set_option maxRecDepth 100000 in
set_option maxHeartbeats 4000000 in
theorem Gaps_in (g : Nat) (f t : Int) (l : List S95) (w : World) (hs : SetAt w g l) (hw : wf 0 l) (hf : 0 ≤ f) (hft : f ≤ t) (ht : t ≤ 1099511627776) :
    CallsIn Fence.wide 5 Try.prog 46 #[.pointer (some ⟨g, 0, none⟩), .int .i64 f, .int .i64 t] w fun e w' => ∃ v, e = .returned v ∧ OwnS w' w.heap.size v (gps f t f l) ∧ Below w.heap.size w w' := by
  have HM := Aside0.mk (may_calls f t)
  have hm : (decide (0 ≤ f) && decide (f ≤ t) && decide (t ≤ 1099511627776)) = true := by simp [hf, hft, ht]
  rw [hm] at HM
  have hl : l.length ≤ 549755813890 := by have := wf_len hw (by omega); omega
  obtain ⟨sv, hgb, hR⟩ := hs
  have hg := cell_of_one hgb
  have hgl := lt_of_block hgb
  refine callsIn_of_wp_marks Try.func46 rfl trivial ?_ rfl
  simp only [Try.ntmps46, List.size_toArray, List.length_cons, List.length_nil, Nat.reduceAdd, Nat.reduceSub, Array.replicate_succ, Array.replicate_zero, List.push_toArray, List.append_toArray, List.nil_append, List.cons_append]
  gi_wp2
  refine ⟨trivial, (callsIn_wide.2 (HM.out _)).mono ?_⟩
  rintro e w' ⟨rfl, nd, rfl⟩
  gi_wp2
  refine ⟨trivial, (all_in Fence.wide 4 trivial rfl _ _ _ _).mono ?_⟩
  rintro e w' ⟨rfl, rfl⟩
  gi_wp2
  obtain ⟨N0, hN0⟩ : ∃ N0, w.heap.size = N0 := ⟨_, rfl⟩
  have hV : ∃ V0, ((((((((w.alloc (.cells #[.pointer (some ⟨g, 0, none⟩)] 70)).alloc (.cells #[.int .i64 f] 3)).drewN nd).alloc (.cells #[.slice none 0 0] 74)).alloc (.cells #[.pointer (some ⟨g, 0, none⟩)] 70)).alloc (.cells #[.int .i64 f] 3)).alloc (.cells #[.int .i64 t] 3))) = V0 ∧ V0.heap.size = N0 + 6 ∧ Below N0 w V0 ∧ Boxed V0 N0 70 (.pointer (some ⟨g, 0, none⟩)) ∧ Boxed V0 (N0 + 1) 3 (.int .i64 f) ∧ Boxed V0 (N0 + 1 + 1) 74 (.slice none 0 0) ∧ Boxed V0 (N0 + 1 + 1 + 1) 70 (.pointer (some ⟨g, 0, none⟩)) ∧ Boxed V0 (N0 + 1 + 1 + 1 + 1) 3 (.int .i64 f) ∧ Boxed V0 (N0 + 1 + 1 + 1 + 1 + 1) 3 (.int .i64 t) := by
    obtain ⟨A1, e1, s1, b1, -⟩ := alc1 w (.pointer (some ⟨g, 0, none⟩)) 70
    have x1 : Boxed A1 N0 70 (.pointer (some ⟨g, 0, none⟩)) := by rw [← e1, ← hN0]; exact Boxed.new w 70 _
    rw [e1]
    obtain ⟨A2, e2, s2, b2, -⟩ := alc1 A1 (.int .i64 f) 3
    have x2 : Boxed A2 (N0 + 1) 3 (.int .i64 f) := by rw [← e2, ← hN0, ← s1]; exact Boxed.new A1 3 _
    have x12 : Boxed A2 N0 70 (.pointer (some ⟨g, 0, none⟩)) := by rw [← e2]; exact x1.alloc _
    rw [e2]
    have bd : Below A2.heap.size A2 (A2.drewN nd) := pw_below_drewN (Below.refl _ _) nd
    have sd : (A2.drewN nd).heap.size = A2.heap.size := rfl
    have x2d : Boxed (A2.drewN nd) (N0 + 1) 3 (.int .i64 f) := x2
    have x12d : Boxed (A2.drewN nd) N0 70 (.pointer (some ⟨g, 0, none⟩)) := x12
    generalize A2.drewN nd = A2' at *
    obtain ⟨A3, e3, s3, b3, -⟩ := alc1 A2' (.slice none 0 0) 74
    have x3 : Boxed A3 (N0 + 1 + 1) 74 (.slice none 0 0) := by rw [← e3, show N0 + 1 + 1 = A2'.heap.size by omega]; exact Boxed.new A2' 74 _
    have x23 : Boxed A3 (N0 + 1) 3 (.int .i64 f) := by rw [← e3]; exact x2d.alloc _
    have x13 : Boxed A3 N0 70 (.pointer (some ⟨g, 0, none⟩)) := by rw [← e3]; exact x12d.alloc _
    rw [e3]
    obtain ⟨A4, e4, s4, b4, -⟩ := alc1 A3 (.pointer (some ⟨g, 0, none⟩)) 70
    have x4 : Boxed A4 (N0 + 1 + 1 + 1) 70 (.pointer (some ⟨g, 0, none⟩)) := by rw [← e4, show N0 + 1 + 1 + 1 = A3.heap.size by omega]; exact Boxed.new A3 70 _
    have x34 : Boxed A4 (N0 + 1 + 1) 74 (.slice none 0 0) := by rw [← e4]; exact x3.alloc _
    have x24 : Boxed A4 (N0 + 1) 3 (.int .i64 f) := by rw [← e4]; exact x23.alloc _
    have x14 : Boxed A4 N0 70 (.pointer (some ⟨g, 0, none⟩)) := by rw [← e4]; exact x13.alloc _
    rw [e4]
    obtain ⟨A5, e5, s5, b5, -⟩ := alc1 A4 (.int .i64 f) 3
    have x5 : Boxed A5 (N0 + 1 + 1 + 1 + 1) 3 (.int .i64 f) := by rw [← e5, show N0 + 1 + 1 + 1 + 1 = A4.heap.size by omega]; exact Boxed.new A4 3 _
    rw [e5]
    obtain ⟨A6, e6, s6, b6, -⟩ := alc1 A5 (.int .i64 t) 3
    have x6 : Boxed A6 (N0 + 1 + 1 + 1 + 1 + 1) 3 (.int .i64 t) := by rw [← e6, show N0 + 1 + 1 + 1 + 1 + 1 = A5.heap.size by omega]; exact Boxed.new A5 3 _
    rw [e6]
    refine ⟨A6, rfl, by omega, ?_, ?_, ?_, ?_, ?_, ?_, x6⟩
    · exact (b1.mono (by omega)).trans ((b2.mono (by omega)).trans ((bd.mono (by omega)).trans ((b3.mono (by omega)).trans ((b4.mono (by omega)).trans ((b5.mono (by omega)).trans (b6.mono (by omega)))))))
    · rw [← e6, ← e5]; exact (x14.alloc _).alloc _
    · rw [← e6, ← e5]; exact (x24.alloc _).alloc _
    · rw [← e6, ← e5]; exact (x34.alloc _).alloc _
    · rw [← e6, ← e5]; exact (x4.alloc _).alloc _
    · rw [← e6]; exact x5.alloc _
  obtain ⟨V0, hV0, sV, bV, v1, v2, v3, v4, v5, v6⟩ := hV
  rw [hV0]
  rw [hN0] at hgl ⊢
  have hgV := (bV.cell (p := ⟨g, 0, none⟩) hgl).trans hg
  have hIV : Spans N0 V0 sv (l.map pr) := by
    have h := hR.spans (by omega)
    rw [hN0] at h
    exact h.below bV
  refine wpIn_rangeFunc_ownF rfl (by decide) (gf := 90) (lb := #[.pointer (some ⟨N0 + 1 + 1 + 1, 0, none⟩), .pointer (some ⟨N0 + 1 + 1 + 1 + 1, 0, none⟩), .pointer (some ⟨N0 + 1 + 1 + 1 + 1 + 1, 0, none⟩)]) rfl trivial (enters_of Try.func90 (by kernel_rfl) rfl)
    (all_stops Fence.wide 4 trivial rfl (by decide) (N0 + 1 + 1 + 1) (N0 + 1 + 1 + 1 + 1) (N0 + 1 + 1 + 1 + 1 + 1) g N0 f t sv (l.map pr) V0 (by omega) (by omega) (by omega) (by omega) (by omega) v4.cell hgV v5.cell v6.cell hIV) kp_t (kp_b (by omega) (by omega) (by omega)) (Below.refl _ _) (fun _ => rfl)
    (fun pre V => ((((∃ v, Boxed V (N0 + 1 + 1) 74 v ∧ V.ownsRow (N0 + 6) 95 2 v (gfold (l.map pr) f pre).1.length (rowC (gfold (l.map pr) f pre).1) ∧ True) ∧ Boxed V (N0 + 1) 3 (.int .i64 (gfold (l.map pr) f pre).2)) ∧ Boxed V N0 70 (.pointer (some ⟨g, 0, none⟩))) ∧ Boxed V (N0 + 1 + 1 + 1 + 1 + 1) 3 (.int .i64 t)) ∧ Below N0 w V)
    (fun _ _ _ => False)
    (OwnFrom.and (OwnFrom.and (OwnFrom.and (OwnFrom.and (Own.from (holdsRow_own (N0 + 6) (N0 + 1 + 1) 74 95 2 (fun pre => (gfold (l.map pr) f pre).1.length) (fun pre => rowC (gfold (l.map pr) f pre).1) (fun _ _ => True)) _) (Own.from (boxed_own (N0 + 1) 3 (fun pre => .int .i64 (gfold (l.map pr) f pre).2)) _)) (Own.from (boxed_own N0 70 (fun _ => .pointer (some ⟨g, 0, none⟩))) _)) (Own.from (boxed_own (N0 + 1 + 1 + 1 + 1 + 1) 3 (fun _ => .int .i64 t)) _)) (ownFrom_below (by omega) (by omega)))
    (fun _ _ _ _ _ h _ _ => h)
    ⟨⟨⟨⟨⟨.slice none 0 0, v3, World.ownsRow_nil _ _ _ _, trivial⟩, v2⟩, v1⟩, v6⟩, bV⟩
    (fun x => { tmps := #[.pointer (some ⟨g, 0, none⟩), .int .i64 f, .int .i64 t, .pointer (some ⟨N0, 0, none⟩), .pointer (some ⟨N0 + 1, 0, none⟩), undef, .slice none 0 0, .pointer (some ⟨N0 + 1 + 1, 0, none⟩), .int .i64 ((x.val : Nat) : Int), undef, .pointer (some ⟨g, 0, none⟩), .bool false, .bool false, .int .i64 f, .int .i64 t, .bool true, .bool false, .bool false, .pointer (some ⟨g, 0, none⟩), .int .i64 f, .int .i64 t, .func (.func 90) #[] #[.pointer (some ⟨N0 + 1 + 1 + 1, 0, none⟩), .pointer (some ⟨N0 + 1 + 1 + 1 + 1, 0, none⟩), .pointer (some ⟨N0 + 1 + 1 + 1 + 1 + 1, 0, none⟩)], .int .i64 ((x.val : Nat) : Int), undef, undef, undef, undef, undef, undef, undef, undef, undef, undef, undef, undef, undef, undef, undef, undef, undef, undef, undef, undef, undef, undef, undef, undef, undef, undef, undef, undef, undef, undef, undef, undef, undef, undef, undef, undef, undef, undef], defers := [] }) ?assign ?body ?done ?stop
  case assign =>
    intro l' x W K hK
    gi_wp2
    exact hK
  case stop =>
    rintro D c pre W _ _ h _
    exact h.elim
  case body =>
    rintro l' pre x W ⟨⟨⟨⟨⟨v, hv, hrow, -⟩, hb1⟩, hb0⟩, hb5⟩, hB⟩ hlen
    have hpl := gfold_len (l.map pr) f pre
    have hxl : x.val < l.length := by have := x.isLt; simpa using this
    have EG : gfold (l.map pr) f (pre ++ [x]) = gstep (gfold (l.map pr) f pre) (l[x.val].f0, l[x.val].f1) := by
      rw [gfold_snoc]; congr 1; simp [pr]
    have hwm := wf_mem hw l[x.val] (List.getElem_mem _)
    have hgW := (hB.cell (p := ⟨g, 0, none⟩) hgl).trans hg
    rcases hR with ⟨_, rfl⟩ | ⟨b, cap, rfl, h2, h3, h4⟩
    · simp at hxl
    obtain ⟨b', o', e, r0, r1⟩ := row_at h2 x.val hxl
    injection e with e
    injection e with e1 e2 _
    subst e1; subst e2
    rw [Nat.zero_add] at r0 r1
    rw [hN0] at h4
    have q0 := (hB.cell (p := ⟨b, x.val * 2, none⟩) h4).trans r0
    have q1 := (hB.cell (p := ⟨b, x.val * 2 + 1, none⟩) h4).trans r1
    have hlt : ((x.val : Nat) : Int) < (l.length : Int) := by omega
    obtain ⟨A, hA⟩ : ∃ A, l[x.val].f0 = A := ⟨_, rfl⟩
    obtain ⟨C, hC⟩ : ∃ C, l[x.val].f1 = C := ⟨_, rfl⟩
    rw [hA] at q0 EG hwm
    rw [hC] at q1 EG hwm
    obtain ⟨⟨o, c⟩, hoc⟩ : ∃ s, gfold (l.map pr) f pre = s := ⟨_, rfl⟩
    rw [hoc] at hrow hb1 EG hpl
    simp only at hrow hb1 hpl
    obtain ⟨xv, hxv⟩ : ∃ xv, x.val = xv := ⟨_, rfl⟩
    rw [hxv] at q0 q1 hlt ⊢
    have wA : IntKind.i64.wrap (A - 1) = A - 1 := IntWalk.i64_in _ (by omega)
    have wC : IntKind.i64.wrap (C + 1) = C + 1 := IntWalk.i64_in _ (by omega)
    have k0 := hb0.cell
    have k1 := hb1.cell
    have z1 := hb1.frozen
    have k2 := hv.cell
    have hs0 : N0 + 1 + 1 < W.heap.size := hv.lt
    have z2 := hv.frozen
    have sW := hB.size
    have EG := Aside0.mk EG
    clear hA hC r0 r1 h2 HM hoc hIV hV0 v1 v2 v3 v4 v5 v6 bV hgV
    have h9 : pre.length < l.length := by simpa using hlen
    have hop : o.length ≤ 549755813890 := by omega
    have hO : OwnS W (N0 + 6) v o := hrow
    have hs6 : N0 + 6 ≤ W.heap.size := hb5.lt
    have HPP := Aside0.mk (fun (o1 o2 : Obj) (w5 : World) (hgr : ((W.alloc o1).alloc o2).grownBy w5 v.ownBlock) => GB.app hv hb1 hb0 hb5 hO hgr)
    have HOA := Aside0.mk (fun o1 o2 => hO.two o1 o2)
    have HAL := Aside0.mk (fun (ob : Obj) => GB.of_below hv hb1 hb0 hb5 ((Below.refl _ W).alloc hs6 ob) (KeepsOthers.alloc W ob))
    have HO1 := Aside0.mk (fun (ob : Obj) => hO.one ob)
    have HB := Aside0.mk hB
    have j0 : ∀ ob, (W.alloc ob).cell? ⟨N0, 0, none⟩ = some (.pointer (some ⟨g, 0, none⟩)) := fun ob => (hb0.alloc ob).cell
    have j1 : ∀ ob, (W.alloc ob).cell? ⟨N0 + 1, 0, none⟩ = some (.int .i64 c) := fun ob => (hb1.alloc ob).cell
    have j2 : ∀ ob, (W.alloc ob).frozen? ⟨N0 + 1, 0, none⟩ = false := fun ob => (hb1.alloc ob).frozen
    have j3 : ∀ ob, (W.alloc ob).cell? ⟨N0 + 1 + 1, 0, none⟩ = some v := fun ob => (hv.alloc ob).cell
    have j4 : ∀ ob, (W.alloc ob).cell? ⟨g, 0, none⟩ = some (.slice (some ⟨b, 0, none⟩) l.length cap) := fun ob => Go.Lib.cell?_alloc_some ob hgW
    have j5 : ∀ ob, (W.alloc ob).cell? ⟨b, xv * 2, none⟩ = some (.int .i64 A) := fun ob => Go.Lib.cell?_alloc_some ob q0
    have j6 : ∀ ob, (W.alloc ob).cell? ⟨b, xv * 2 + 1, none⟩ = some (.int .i64 C) := fun ob => Go.Lib.cell?_alloc_some ob q1
    clear hv hb1 hb0 hb5 hO hrow hB
    obtain ⟨i0, hi0, hz0, hz1, hz2⟩ := info_parts info95f
    gi_wp2_with (gi_at_builtin; refine wpListIn_append_own _ rfl (.tmp 34) (.tmp 40) 74 rfl (N0 + 6) 95 i0 (.agg #[.int .i64 0, .int .i64 0]) 2 16 Try.underlying74 hi0 hz0 hz1 hz2 rfl (by decide) _ _ _ rfl (HOA.out _ _) ⟨_, 0, none⟩ 1 1 [.int .i64 c, .int .i64 (A - 1)] rfl rfl (World.news_of_block (new_two _ _ _)) (by simp [Value.oneCell']) (by unfold maxLen; omega) (by omega) (by simp; omega) ?_; intro v5 w5 ho hgr hn_; clear hn_; obtain ⟨gb, cc, rfl⟩ := ownsRow_succ ho; have HO5 := Aside0.mk (show OwnS w5 (N0 + 6) _ (o ++ [(⟨c, A - 1⟩ : S95)]) from own_snoc ho); have HG5 := Aside0.mk (HPP.out _ _ _ hgr); clear ho hgr; have m0 := HG5.out.b0.cell; have m1 := HG5.out.b1.cell; have m2 := HG5.out.b2.cell; have m3 := HG5.out.b2.frozen; have m4 := HG5.out.b1.frozen; have m5 := (HG5.out.kp.1.cell (p := ⟨g, 0, none⟩) hgl).trans hgW; have m6 := (HG5.out.kp.1.cell (p := ⟨b, xv * 2, none⟩) h4).trans q0; have m7 := (HG5.out.kp.1.cell (p := ⟨b, xv * 2 + 1, none⟩) h4).trans q1)
    · have e : gfold (l.map pr) f (pre ++ [x]) = (o ++ [(⟨c, A - 1⟩ : S95)], C + 1) := by rw [EG.out]; unfold gstep; rw [if_pos (by show c < A; omega)]
      refine ⟨((HG5.out.set2 _).set1 _).ko, ((HG5.out.set2 _).set1 _).kp, ⟨⟨⟨⟨_, ((HG5.out.set2 _).set1 _).b2, ?_⟩, ?_⟩, ((HG5.out.set2 _).set1 _).b0⟩, ((HG5.out.set2 _).set1 _).b5⟩, HB.out.trans ((HG5.out.set2 _).set1 _).kp.1⟩
      · rw [e]; exact (HO5.out.put (by show N0 + 1 + 1 < N0 + 6; omega) _).put (by show N0 + 1 < N0 + 6; omega) _
      · rw [e]; exact ((HG5.out.set2 _).set1 _).b1
    · have e : gfold (l.map pr) f (pre ++ [x]) = (o, C + 1) := by rw [EG.out]; unfold gstep; rw [if_neg (by show ¬ c < A; omega)]
      refine ⟨((HAL.out _).set1 _).ko, ((HAL.out _).set1 _).kp, ⟨⟨⟨⟨v, ((HAL.out _).set1 _).b2, ?_⟩, ?_⟩, ((HAL.out _).set1 _).b0⟩, ((HAL.out _).set1 _).b5⟩, HB.out.trans ((HAL.out _).set1 _).kp.1⟩
      · rw [e]; exact (HO1.out _).put (by show N0 + 1 < N0 + 6; omega) _
      · rw [e]; exact ((HAL.out _).set1 _).b1
  case done =>
    rintro D ys W hD hy ⟨⟨⟨⟨⟨v, hv, hrow, -⟩, hb1⟩, hb0⟩, hb5⟩, hB⟩ hK
    have EG := Aside0.mk (gaps_of (l := l) (f := f) (t := t) hy)
    have hpl : (gfold (l.map pr) f ys).1.length ≤ 549755813890 := by
      have h1 := gfold_len (l.map pr) f ys
      have h2 : ys.length ≤ l.length := by rw [hy]; have := hits_length (l.map pr) f t (l.map pr).length; simpa using this
      omega
    obtain ⟨⟨o, c⟩, hoc⟩ : ∃ s, gfold (l.map pr) f ys = s := ⟨_, rfl⟩
    rw [hoc] at hrow hb1 EG hpl
    simp only at hrow hb1 hpl EG
    clear hoc HM hy hIV hV0 v1 v2 v3 v4 v5 v6 bV hgV
    have hO : OwnS W (N0 + 6) v o := hrow
    have hs6 : N0 + 6 ≤ W.heap.size := hb5.lt
    have HPP := Aside0.mk (fun (o1 : Obj) (w5 : World) (hgr : (W.alloc o1).grownBy w5 v.ownBlock) => GB.app1 hv hb1 hb0 hb5 hO hgr)
    have HOA := Aside0.mk (fun o1 => hO.one o1)
    have HO := Aside0.mk hO
    have HB := Aside0.mk hB
    have HK := Aside0.mk hK
    have k1 := hb1.cell
    have k2 := hv.cell
    clear hv hb1 hb0 hb5 hO hrow hB hK
    obtain ⟨i0, hi0, hz0, hz1, hz2⟩ := info_parts info95f
    gi_wp2_with (gi_at_builtin; refine wpListIn_append_own _ rfl (.tmp 54) (.tmp 58) 74 rfl (N0 + 6) 95 i0 (.agg #[.int .i64 0, .int .i64 0]) 2 16 Try.underlying74 hi0 hz0 hz1 hz2 rfl (by decide) _ _ _ rfl (HOA.out _) ⟨_, 0, none⟩ 1 1 [.int .i64 c, .int .i64 t] rfl rfl (World.news_of_block (heap_alloc_new _ _)) (by simp [Value.oneCell']) (by unfold maxLen; omega) (by omega) (by simp; omega) ?_; intro v5 w5 ho hgr hn_; clear hn_; obtain ⟨gb, cc, rfl⟩ := ownsRow_succ ho; have HO5 := Aside0.mk (show OwnS w5 (N0 + 6) _ (o ++ [(⟨c, t⟩ : S95)]) from own_snoc ho); have HG5 := Aside0.mk (HPP.out _ _ hgr); clear ho hgr; have m2 := HG5.out.b2.cell; have m3 := HG5.out.b2.frozen)
    · have hD2 : (w5.setCell ⟨N0 + 1 + 1, 0, none⟩ (.slice (some ⟨gb, 0, none⟩) (o.length + 1) cc)).heap[D]? = some (.deferred (some [])) := (HG5.out.set2 _).ko.same D _ HK.out rfl
      refine ⟨by simp, .inl ⟨_, _, rfl, run_takeDeferred hD2, ?_⟩⟩
      refine ⟨.slice (some ⟨gb, 0, none⟩) (o.length + 1) cc, by simp [results, Try.f46, go_sem], ⟨_, rfl, ?_, ?_⟩⟩
      · rw [EG.out, if_pos (by assumption), hN0]
        exact OwnS.lower (show OwnS _ (N0 + 6) _ _ from ownsRow_putObj (HO5.out.put (by show N0 + 1 + 1 < N0 + 6; omega) _) _ hD2 rfl) (by omega)
      · rw [hN0]
        exact below_putD (HB.out.trans (HG5.out.set2 _).kp.1) (by omega)
    · have hD2 := HK.out
      refine ⟨by simp, .inl ⟨_, _, rfl, run_takeDeferred hD2, ?_⟩⟩
      refine ⟨v, by simp [results, Try.f46, go_sem], ⟨_, rfl, ?_, ?_⟩⟩
      · rw [EG.out, if_neg (by omega), hN0, List.append_nil]
        exact OwnS.lower (show OwnS _ (N0 + 6) _ _ from ownsRow_putObj HO.out _ hD2 rfl) (by omega)
      · rw [hN0]
        exact below_putD HB.out (by omega)
set_option maxRecDepth 100000 in
set_option maxHeartbeats 4000000 in
theorem Gaps_not (p : Option Addr) (f t : Int) (w : World) (hp : p = none ∨ (decide (0 ≤ f) && decide (f ≤ t) && decide (t ≤ 1099511627776)) = false) :
    Calls Try.prog 46 #[.pointer p, .int .i64 f, .int .i64 t] w fun e w' => e = .returned (.slice none 0 0) ∧ Below w.heap.size w w' := by
  have HM := Aside0.mk (may_calls f t)
  rcases hp with rfl | hm
  · clear HM
    go_enter Try.func46, Try.ntmps46
    go_wp2
    go_ret
    exact ⟨rfl, below_alloc (below_alloc (Below.refl _ _) _) _⟩
  · rw [hm] at HM
    clear hm
    cases p with
    | none =>
      clear HM
      go_enter Try.func46, Try.ntmps46
      go_wp2
      go_ret
      exact ⟨rfl, below_alloc (below_alloc (Below.refl _ _) _) _⟩
    | some a =>
      go_enter Try.func46, Try.ntmps46
      go_wp2_with (go_at_call 72; refine (HM.out _).mono ?_; rintro e w' ⟨rfl, nd, rfl⟩)
      go_ret
      exact ⟨rfl, pw_below_drewN (below_alloc (below_alloc (Below.refl _ _) _) _) _⟩
def gapsL (f t : Int) (l : List S95) : List S95 := if may f t then gps f t f l else []
theorem OwnS.nil (W : World) (B : Nat) : OwnS W B (.slice none 0 0) [] := World.ownsRow_nil _ _ _ _
theorem Gaps_calls (g : Nat) (f t : Int) (l : List S95) (w : World) (hs : SetAt w g l) (hw : wf 0 l) :
    Calls Try.prog 46 #[.pointer (some ⟨g, 0, none⟩), .int .i64 f, .int .i64 t] w fun e w' => ∃ v, e = .returned v ∧ OwnS w' w.heap.size v (gapsL f t l) ∧ Below w.heap.size w w' := by
  unfold gapsL
  by_cases hm : may f t = true
  · rw [if_pos hm]
    unfold may at hm
    simp only [Bool.and_eq_true, decide_eq_true_eq] at hm
    exact (callsIn_wide (n := 5)).1 (Gaps_in g f t l w hs hw hm.1.1 hm.1.2 hm.2)
  · rw [if_neg hm]
    refine (Gaps_not (some ⟨g, 0, none⟩) f t w (.inr (by simpa [may] using hm))).mono ?_
    rintro e w' ⟨rfl, hb⟩
    exact ⟨_, rfl, OwnS.nil _ _, hb⟩
end Go.Proofs.Ytiladcdogbeomaa.QRangesPlays
