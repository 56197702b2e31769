/- Law 24 (outbox): contracts of functions that its statements reach, and plain laws behind them (part 2). No condition. -/
import Derived.Test.YtiladcdogbeomaaUa
import Derived.OneCell
namespace Go.Proofs.Ytiladcdogbeomaa.QRangesPlays
open Go.RowKit Go.Shelf Go.Proofs.YtiladcdogbeomaaW.PrintWords Go.Proofs.YtiladcdogbeomaaW.PrintLast Go.Proofs.YtiladcdogbeomaaW.PrintMore Go.Proofs.Ytiladcdogbeomaa.RowLaws Go.Proofs.Ytiladcdogbeomaa.Lazy
abbrev r11_ops : List Oper := [{ dst := some 38, op := .fieldAddr 95 (.tmp 8) 0, type := 0, pos := "ranges.go:58", after := #[], guard := none },
  { dst := some 39, op := .load 3 (.tmp 38), type := 3, pos := "ranges.go:58", after := #[⟨0, .data⟩], guard := none },
  { dst := some 40, op := .load 70 (.tmp 3), type := 70, pos := "ranges.go:58", after := #[], guard := none },
  { dst := some 41, op := .nilCheck (.tmp 40), type := 0, pos := "ranges.go:58", after := #[⟨2, .data⟩], guard := none },
  { dst := some 42, op := .fieldAddr 121 (.tmp 41) 0, type := 0, pos := "ranges.go:58", after := #[⟨3, .data⟩], guard := none },
  { dst := some 43, op := .load 74 (.tmp 42), type := 74, pos := "ranges.go:58", after := #[⟨4, .data⟩], guard := none },
  { dst := some 44, op := .move (.tmp 11), type := 3, pos := "ranges.go:58", after := #[], guard := none },
  { dst := some 45, op := .indexAddr 74 (.tmp 43) (.tmp 44), type := 0, pos := "ranges.go:58", after := #[⟨5, .data⟩, ⟨6, .data⟩], guard := none },
  { dst := some 46, op := .fieldAddr 95 (.tmp 45) 0, type := 0, pos := "ranges.go:58", after := #[⟨7, .data⟩], guard := none },
  { dst := some 47, op := .load 3 (.tmp 46), type := 3, pos := "ranges.go:58", after := #[⟨8, .data⟩], guard := none },
  { dst := some 48, op := .call { callee := .builtin .min, args := #[.tmp 39, .tmp 47], argTypes := #[3, 3] }, type := 3, pos := "ranges.go:58", after := #[⟨1, .data⟩, ⟨9, .data⟩], guard := none },
  { dst := some 49, op := .fieldAddr 95 (.tmp 8) 1, type := 0, pos := "ranges.go:58", after := #[], guard := none },
  { dst := some 50, op := .load 3 (.tmp 49), type := 3, pos := "ranges.go:58", after := #[⟨11, .data⟩], guard := none },
  { dst := some 51, op := .load 70 (.tmp 3), type := 70, pos := "ranges.go:58", after := #[], guard := none },
  { dst := some 52, op := .nilCheck (.tmp 51), type := 0, pos := "ranges.go:58", after := #[⟨13, .data⟩], guard := none },
  { dst := some 53, op := .fieldAddr 121 (.tmp 52) 0, type := 0, pos := "ranges.go:58", after := #[⟨14, .data⟩], guard := none },
  { dst := some 54, op := .load 74 (.tmp 53), type := 74, pos := "ranges.go:58", after := #[⟨15, .data⟩], guard := none },
  { dst := some 55, op := .move (.tmp 11), type := 3, pos := "ranges.go:58", after := #[], guard := none },
  { dst := some 56, op := .indexAddr 74 (.tmp 54) (.tmp 55), type := 0, pos := "ranges.go:58", after := #[⟨16, .data⟩, ⟨17, .data⟩], guard := none },
  { dst := some 57, op := .fieldAddr 95 (.tmp 56) 1, type := 0, pos := "ranges.go:58", after := #[⟨18, .data⟩], guard := none },
  { dst := some 58, op := .load 3 (.tmp 57), type := 3, pos := "ranges.go:58", after := #[⟨19, .data⟩], guard := none },
  { dst := some 59, op := .call { callee := .builtin .max, args := #[.tmp 50, .tmp 58], argTypes := #[3, 3] }, type := 3, pos := "ranges.go:58", after := #[⟨12, .data⟩, ⟨20, .data⟩], guard := none },
  { dst := some 60, op := .fieldAddr 95 (.tmp 8) 0, type := 0, pos := "ranges.go:58", after := #[⟨0, .phase⟩, ⟨1, .phase⟩, ⟨2, .phase⟩, ⟨3, .phase⟩, ⟨4, .phase⟩, ⟨5, .phase⟩, ⟨6, .phase⟩, ⟨7, .phase⟩, ⟨8, .phase⟩, ⟨9, .phase⟩, ⟨10, .phase⟩, ⟨11, .phase⟩, ⟨12, .phase⟩, ⟨13, .textOnly .lateStores⟩, ⟨14, .textOnly .inlinedCapture⟩, ⟨15, .textOnly .inlinedCapture⟩, ⟨16, .textOnly .inlinedCapture⟩, ⟨17, .textOnly .lateStores⟩, ⟨18, .textOnly .inlinedCapture⟩, ⟨19, .textOnly .inlinedCapture⟩, ⟨20, .textOnly .inlinedCapture⟩, ⟨21, .textOnly .lateStoresUnsure⟩], guard := none },
  { dst := none, op := .store 3 (.tmp 60) (.tmp 48), type := 0, pos := "ranges.go:58", after := #[⟨22, .data⟩, ⟨10, .data⟩, ⟨0, .phase⟩, ⟨1, .phase⟩, ⟨2, .phase⟩, ⟨3, .phase⟩, ⟨4, .phase⟩, ⟨5, .phase⟩, ⟨6, .phase⟩, ⟨7, .phase⟩, ⟨8, .phase⟩, ⟨9, .phase⟩, ⟨10, .phase⟩, ⟨11, .phase⟩, ⟨12, .phase⟩, ⟨13, .textOnly .lateStores⟩, ⟨14, .textOnly .inlinedCapture⟩, ⟨15, .textOnly .inlinedCapture⟩, ⟨16, .textOnly .inlinedCapture⟩, ⟨17, .textOnly .lateStores⟩, ⟨18, .textOnly .inlinedCapture⟩, ⟨19, .textOnly .inlinedCapture⟩, ⟨20, .textOnly .inlinedCapture⟩, ⟨21, .textOnly .lateStoresUnsure⟩], guard := none },
  { dst := some 61, op := .fieldAddr 95 (.tmp 8) 1, type := 0, pos := "ranges.go:58", after := #[⟨0, .phase⟩, ⟨1, .phase⟩, ⟨2, .phase⟩, ⟨3, .phase⟩, ⟨4, .phase⟩, ⟨5, .phase⟩, ⟨6, .phase⟩, ⟨7, .phase⟩, ⟨8, .phase⟩, ⟨9, .phase⟩, ⟨10, .phase⟩, ⟨11, .phase⟩, ⟨12, .phase⟩, ⟨13, .phase⟩, ⟨14, .phase⟩, ⟨15, .phase⟩, ⟨16, .phase⟩, ⟨17, .phase⟩, ⟨18, .phase⟩, ⟨19, .phase⟩, ⟨20, .phase⟩, ⟨21, .phase⟩, ⟨22, .phase⟩, ⟨23, .phase⟩], guard := none },
  { dst := none, op := .store 3 (.tmp 61) (.tmp 59), type := 0, pos := "ranges.go:58", after := #[⟨24, .data⟩, ⟨21, .data⟩, ⟨23, .chain⟩, ⟨0, .phase⟩, ⟨1, .phase⟩, ⟨2, .phase⟩, ⟨3, .phase⟩, ⟨4, .phase⟩, ⟨5, .phase⟩, ⟨6, .phase⟩, ⟨7, .phase⟩, ⟨8, .phase⟩, ⟨9, .phase⟩, ⟨10, .phase⟩, ⟨11, .phase⟩, ⟨12, .phase⟩, ⟨13, .phase⟩, ⟨14, .phase⟩, ⟨15, .phase⟩, ⟨16, .phase⟩, ⟨17, .phase⟩, ⟨18, .phase⟩, ⟨19, .phase⟩, ⟨20, .phase⟩, ⟨21, .phase⟩, ⟨22, .phase⟩, ⟨23, .phase⟩], guard := none }]
abbrev r11_tab : List (Option Nat) := [none, none, none, none, none, none, none, none, none, none, none, none, none, none, none, none, none, none, none, none, none, none, none, none, none, none, none, none, none, none, none, none, none, none, none, none, none, none, some 0, some 1, some 2, some 3, some 4, some 5, some 6, some 7, some 8, some 9, some 10, some 11, some 12, some 13, some 14, some 15, some 16, some 17, some 18, some 19, some 20, some 21, some 22, some 24, none, none, none, none, none, none, none, none, none, none, none, none, none, none, none, none, none, none, none, none, none, none, none, none, none, none, none, none, none, none, none]

def r11_vals (X g b n cap k : Nat) (a c A C : Int) : List Value := [Value.pointer (some ⟨X, 0, none⟩), Value.int .i64 a, Value.pointer (some ⟨g, 0, none⟩), Value.pointer (some ⟨g, 0, none⟩), Value.pointer (some ⟨g, 0, none⟩), Value.slice (some ⟨b, 0, none⟩) n cap, Value.int .i64 (k : Int), Value.pointer (some ⟨b, (k * 2), none⟩), Value.pointer (some ⟨b, (k * 2), none⟩), Value.int .i64 A, Value.int .i64 (if A < a then A else a), Value.pointer (some ⟨X, 1, none⟩), Value.int .i64 c, Value.pointer (some ⟨g, 0, none⟩), Value.pointer (some ⟨g, 0, none⟩), Value.pointer (some ⟨g, 0, none⟩), Value.slice (some ⟨b, 0, none⟩) n cap, Value.int .i64 (k : Int), Value.pointer (some ⟨b, (k * 2), none⟩), Value.pointer (some ⟨b, (k * 2 + 1), none⟩), Value.int .i64 C, Value.int .i64 (if c < C then C else c), Value.pointer (some ⟨X, 0, none⟩), undef, Value.pointer (some ⟨X, 1, none⟩), undef]
def r11_w (X : Nat) (a c A C : Int) (w : World) (p q : Bool) : World := bif q then (w.drew.setCell ⟨X, 0, none⟩ (.int .i64 (if A < a then A else a))).setCell ⟨X, 1, none⟩ (.int .i64 (if c < C then C else c)) else bif p then w.drew.setCell ⟨X, 0, none⟩ (.int .i64 (if A < a then A else a)) else w.drew
theorem r11_cell {X : Nat} {a c A C : Int} {w : World} (p q : Bool) {x : Addr} (hx : x.block ≠ X) : (r11_w X a c A C w p q).cell? x = w.cell? x := by
  unfold r11_w
  cases q <;> cases p <;> simp only [cond_true, cond_false]
  · rfl
  · exact World.cell?_setCell_other _ _ _ _ (fun e => hx (by rw [← e]))
  · rw [World.cell?_setCell_other _ _ _ _ (fun e => hx (by rw [← e])), World.cell?_setCell_other _ _ _ _ (fun e => hx (by rw [← e]))]; rfl
  · rw [World.cell?_setCell_other _ _ _ _ (fun e => hx (by rw [← e])), World.cell?_setCell_other _ _ _ _ (fun e => hx (by rw [← e]))]; rfl
theorem r11_w1 {X : Nat} {a c A C : Int} {w : World} (c1 : w.cell? ⟨X, 1, none⟩ = some (.int .i64 c)) (p : Bool) : (r11_w X a c A C w p false).cell? ⟨X, 1, none⟩ = some (.int .i64 c) := by
  unfold r11_w
  cases p
  · exact c1
  · exact (World.cell?_setCell_other _ _ _ _ (by simp)).trans c1
set_option maxRecDepth 100000 in
set_option maxHeartbeats 2000000 in
theorem Add_r11 (F : Fence) (m : Nat) (X S g b n cap k : Nat) (a c A C : Int) (t0 : List Value) (d0 : List Deferred) (w : World) (Q : Exit → Act → World → Prop) (hl : t0.length = r11_tab.length)
    (h8 : t0[8]? = some (.pointer (some ⟨X, 0, none⟩))) (h3 : t0[3]? = some (.pointer (some ⟨S, 0, none⟩))) (h11 : t0[11]? = some (.int .i64 (k : Int)))
    (cs : w.cell? ⟨S, 0, none⟩ = some (.pointer (some ⟨g, 0, none⟩))) (cg : w.cell? ⟨g, 0, none⟩ = some (.slice (some ⟨b, 0, none⟩) n cap)) (y0 : w.cell? ⟨b, k * 2, none⟩ = some (.int .i64 A)) (y1 : w.cell? ⟨b, k * 2 + 1, none⟩ = some (.int .i64 C))
    (c0 : w.cell? ⟨X, 0, none⟩ = some (.int .i64 a)) (c1 : w.cell? ⟨X, 1, none⟩ = some (.int .i64 c)) (z0 : w.frozen? ⟨X, 0, none⟩ = false) (z1 : w.frozen? ⟨X, 1, none⟩ = false)
    (hS : S ≠ X) (hG : g ≠ X) (hB : b ≠ X) (hk : k < n)
    (hQ : ∀ a', Q .normal a' ((w.drew.setCell ⟨X, 0, none⟩ (.int .i64 (if A < a then A else a))).setCell ⟨X, 1, none⟩ (.int .i64 (if c < C then C else c)))) :
    (Code.region 11 r11_ops.toArray true).wpIn F m Try.prog Q { tmps := t0.toArray, defers := d0 } w := by
  refine wpIn_region_lazy (by kernel_rfl) r11_tab (by kernel_rfl) hl (fun L σ W => (∀ i, L i = true → σ i = (r11_vals X g b n cap k a c A C).getD i undef) ∧ (L 23 = true → L 1 = true) ∧ (L 25 = true → L 12 = true ∧ L 23 = true) ∧ W = r11_w X a c A C w (L 23) (L 25)) ⟨fun i h => (by cases h), fun h => (by cases h), fun h => (by cases h), rfl⟩ ⟨?s0, ?s1, ?s2, ?s3, ?s4, ?s5, ?s6, ?s7, ?s8, ?s9, ?s10, ?s11, ?s12, ?s13, ?s14, ?s15, ?s16, ?s17, ?s18, ?s19, ?s20, ?s21, ?s22, ?s23, ?s24, ?s25, trivial⟩ ?hdone
  case hdone =>
    intro L σ W hL ⟨_, _, _, hW⟩
    rw [hL 23 (by decide), hL 25 (by decide)] at hW
    rw [hW]
    exact hQ _
  case s0 =>
    intro L σ W hL hd ⟨hσ, hk1, hk2, hW⟩
    have q8 := lazy_old (L := L) (σ := σ) (tab := r11_tab) (d0 := d0) h8 rfl
    generalize (lazyA L σ t0 r11_tab d0).eval = ρ at *
    refine OpIn.of_run (fun w => rfl) (v := Value.pointer (some ⟨X, 0, none⟩)) (W' := W) (by clear hσ hd hk1 hk2 hW hL; go_simp) ⟨upd_val hσ rfl, fun h => upd_keep _ (hk1 (upd_other h (by decide))), fun h => ⟨upd_keep _ (hk2 (upd_other h (by decide))).1, upd_keep _ (hk2 (upd_other h (by decide))).2⟩, ?_⟩
    rw [upd_ne (by decide), upd_ne (by decide)]; exact hW
  case s1 =>
    intro L σ W hL hd ⟨hσ, hk1, hk2, hW⟩
    have dp0 : L 0 = true := hd ⟨0, .data⟩ (by simp) rfl
    have q38 : (lazyA L σ t0 r11_tab d0).eval (.tmp 38) = Value.pointer (some ⟨X, 0, none⟩) := (lazy_eval hl rfl dp0).trans (hσ 0 dp0)
    generalize (lazyA L σ t0 r11_tab d0).eval = ρ at *
    have e23 : L 23 = false := (Bool.eq_false_iff.2 fun h => by rw [hk1 h] at hL; cases hL)
    have e25 : L 25 = false := (Bool.eq_false_iff.2 fun h => by rw [(hk2 h).2] at e23; cases e23)
    have cc : W.cell? ⟨X, 0, none⟩ = some (.int .i64 a) := by rw [hW, e23, e25]; exact c0
    refine OpIn.of_run (fun w => rfl) (v := Value.int .i64 a) (W' := W) (by clear hσ hd hk1 hk2 hW hL; go_simp) ⟨upd_val hσ rfl, fun h => upd_keep _ (hk1 (upd_other h (by decide))), fun h => ⟨upd_keep _ (hk2 (upd_other h (by decide))).1, upd_keep _ (hk2 (upd_other h (by decide))).2⟩, ?_⟩
    rw [upd_ne (by decide), upd_ne (by decide)]; exact hW
  case s2 =>
    intro L σ W hL hd ⟨hσ, hk1, hk2, hW⟩
    have q3 := lazy_old (L := L) (σ := σ) (tab := r11_tab) (d0 := d0) h3 rfl
    generalize (lazyA L σ t0 r11_tab d0).eval = ρ at *
    have cc : W.cell? ⟨S, 0, none⟩ = some (.pointer (some ⟨g, 0, none⟩)) := by rw [hW]; exact (r11_cell _ _ hS).trans cs
    refine OpIn.of_run (fun w => rfl) (v := Value.pointer (some ⟨g, 0, none⟩)) (W' := W) (by clear hσ hd hk1 hk2 hW hL; go_simp) ⟨upd_val hσ rfl, fun h => upd_keep _ (hk1 (upd_other h (by decide))), fun h => ⟨upd_keep _ (hk2 (upd_other h (by decide))).1, upd_keep _ (hk2 (upd_other h (by decide))).2⟩, ?_⟩
    rw [upd_ne (by decide), upd_ne (by decide)]; exact hW
  case s3 =>
    intro L σ W hL hd ⟨hσ, hk1, hk2, hW⟩
    have dp2 : L 2 = true := hd ⟨2, .data⟩ (by simp) rfl
    have q40 : (lazyA L σ t0 r11_tab d0).eval (.tmp 40) = Value.pointer (some ⟨g, 0, none⟩) := (lazy_eval hl rfl dp2).trans (hσ 2 dp2)
    generalize (lazyA L σ t0 r11_tab d0).eval = ρ at *
    refine OpIn.of_run (fun w => rfl) (v := Value.pointer (some ⟨g, 0, none⟩)) (W' := W) (by clear hσ hd hk1 hk2 hW hL; go_simp) ⟨upd_val hσ rfl, fun h => upd_keep _ (hk1 (upd_other h (by decide))), fun h => ⟨upd_keep _ (hk2 (upd_other h (by decide))).1, upd_keep _ (hk2 (upd_other h (by decide))).2⟩, ?_⟩
    rw [upd_ne (by decide), upd_ne (by decide)]; exact hW
  case s4 =>
    intro L σ W hL hd ⟨hσ, hk1, hk2, hW⟩
    have dp3 : L 3 = true := hd ⟨3, .data⟩ (by simp) rfl
    have q41 : (lazyA L σ t0 r11_tab d0).eval (.tmp 41) = Value.pointer (some ⟨g, 0, none⟩) := (lazy_eval hl rfl dp3).trans (hσ 3 dp3)
    generalize (lazyA L σ t0 r11_tab d0).eval = ρ at *
    refine OpIn.of_run (fun w => rfl) (v := Value.pointer (some ⟨g, 0, none⟩)) (W' := W) (by clear hσ hd hk1 hk2 hW hL; go_simp) ⟨upd_val hσ rfl, fun h => upd_keep _ (hk1 (upd_other h (by decide))), fun h => ⟨upd_keep _ (hk2 (upd_other h (by decide))).1, upd_keep _ (hk2 (upd_other h (by decide))).2⟩, ?_⟩
    rw [upd_ne (by decide), upd_ne (by decide)]; exact hW
  case s5 =>
    intro L σ W hL hd ⟨hσ, hk1, hk2, hW⟩
    have dp4 : L 4 = true := hd ⟨4, .data⟩ (by simp) rfl
    have q42 : (lazyA L σ t0 r11_tab d0).eval (.tmp 42) = Value.pointer (some ⟨g, 0, none⟩) := (lazy_eval hl rfl dp4).trans (hσ 4 dp4)
    generalize (lazyA L σ t0 r11_tab d0).eval = ρ at *
    have cc : W.cell? ⟨g, 0, none⟩ = some (.slice (some ⟨b, 0, none⟩) n cap) := by rw [hW]; exact (r11_cell _ _ hG).trans cg
    refine OpIn.of_run (fun w => rfl) (v := Value.slice (some ⟨b, 0, none⟩) n cap) (W' := W) (by clear hσ hd hk1 hk2 hW hL; go_simp) ⟨upd_val hσ rfl, fun h => upd_keep _ (hk1 (upd_other h (by decide))), fun h => ⟨upd_keep _ (hk2 (upd_other h (by decide))).1, upd_keep _ (hk2 (upd_other h (by decide))).2⟩, ?_⟩
    rw [upd_ne (by decide), upd_ne (by decide)]; exact hW
  case s6 =>
    intro L σ W hL hd ⟨hσ, hk1, hk2, hW⟩
    have q11 := lazy_old (L := L) (σ := σ) (tab := r11_tab) (d0 := d0) h11 rfl
    generalize (lazyA L σ t0 r11_tab d0).eval = ρ at *
    refine OpIn.of_run (fun w => rfl) (v := Value.int .i64 (k : Int)) (W' := W) (by clear hσ hd hk1 hk2 hW hL; go_simp) ⟨upd_val hσ rfl, fun h => upd_keep _ (hk1 (upd_other h (by decide))), fun h => ⟨upd_keep _ (hk2 (upd_other h (by decide))).1, upd_keep _ (hk2 (upd_other h (by decide))).2⟩, ?_⟩
    rw [upd_ne (by decide), upd_ne (by decide)]; exact hW
  case s7 =>
    intro L σ W hL hd ⟨hσ, hk1, hk2, hW⟩
    have dp5 : L 5 = true := hd ⟨5, .data⟩ (by simp) rfl
    have q43 : (lazyA L σ t0 r11_tab d0).eval (.tmp 43) = Value.slice (some ⟨b, 0, none⟩) n cap := (lazy_eval hl rfl dp5).trans (hσ 5 dp5)
    have dp6 : L 6 = true := hd ⟨6, .data⟩ (by simp) rfl
    have q44 : (lazyA L σ t0 r11_tab d0).eval (.tmp 44) = Value.int .i64 (k : Int) := (lazy_eval hl rfl dp6).trans (hσ 6 dp6)
    generalize (lazyA L σ t0 r11_tab d0).eval = ρ at *
    have b0 : (0 : Int) ≤ (k : Int) := by omega
    have b1 : (k : Int) < (n : Int) := by omega
    refine OpIn.of_run (fun w => rfl) (v := Value.pointer (some ⟨b, (k * 2), none⟩)) (W' := W) (by clear hσ hd hk1 hk2 hW hL; go_simp) ⟨upd_val hσ rfl, fun h => upd_keep _ (hk1 (upd_other h (by decide))), fun h => ⟨upd_keep _ (hk2 (upd_other h (by decide))).1, upd_keep _ (hk2 (upd_other h (by decide))).2⟩, ?_⟩
    rw [upd_ne (by decide), upd_ne (by decide)]; exact hW
  case s8 =>
    intro L σ W hL hd ⟨hσ, hk1, hk2, hW⟩
    have dp7 : L 7 = true := hd ⟨7, .data⟩ (by simp) rfl
    have q45 : (lazyA L σ t0 r11_tab d0).eval (.tmp 45) = Value.pointer (some ⟨b, (k * 2), none⟩) := (lazy_eval hl rfl dp7).trans (hσ 7 dp7)
    generalize (lazyA L σ t0 r11_tab d0).eval = ρ at *
    refine OpIn.of_run (fun w => rfl) (v := Value.pointer (some ⟨b, (k * 2), none⟩)) (W' := W) (by clear hσ hd hk1 hk2 hW hL; go_simp) ⟨upd_val hσ rfl, fun h => upd_keep _ (hk1 (upd_other h (by decide))), fun h => ⟨upd_keep _ (hk2 (upd_other h (by decide))).1, upd_keep _ (hk2 (upd_other h (by decide))).2⟩, ?_⟩
    rw [upd_ne (by decide), upd_ne (by decide)]; exact hW
  case s9 =>
    intro L σ W hL hd ⟨hσ, hk1, hk2, hW⟩
    have dp8 : L 8 = true := hd ⟨8, .data⟩ (by simp) rfl
    have q46 : (lazyA L σ t0 r11_tab d0).eval (.tmp 46) = Value.pointer (some ⟨b, (k * 2), none⟩) := (lazy_eval hl rfl dp8).trans (hσ 8 dp8)
    generalize (lazyA L σ t0 r11_tab d0).eval = ρ at *
    have cc : W.cell? ⟨b, k * 2, none⟩ = some (.int .i64 A) := by rw [hW]; exact (r11_cell _ _ hB).trans y0
    refine OpIn.of_run (fun w => rfl) (v := Value.int .i64 A) (W' := W) (by clear hσ hd hk1 hk2 hW hL; go_simp) ⟨upd_val hσ rfl, fun h => upd_keep _ (hk1 (upd_other h (by decide))), fun h => ⟨upd_keep _ (hk2 (upd_other h (by decide))).1, upd_keep _ (hk2 (upd_other h (by decide))).2⟩, ?_⟩
    rw [upd_ne (by decide), upd_ne (by decide)]; exact hW
  case s10 =>
    intro L σ W hL hd ⟨hσ, hk1, hk2, hW⟩
    have dp1 : L 1 = true := hd ⟨1, .data⟩ (by simp) rfl
    have q39 : (lazyA L σ t0 r11_tab d0).eval (.tmp 39) = Value.int .i64 a := (lazy_eval hl rfl dp1).trans (hσ 1 dp1)
    have dp9 : L 9 = true := hd ⟨9, .data⟩ (by simp) rfl
    have q47 : (lazyA L σ t0 r11_tab d0).eval (.tmp 47) = Value.int .i64 A := (lazy_eval hl rfl dp9).trans (hσ 9 dp9)
    generalize (lazyA L σ t0 r11_tab d0).eval = ρ at *
    refine OpIn.of_run (fun w => rfl) (v := Value.int .i64 (if A < a then A else a)) (W' := W) (by clear hσ hd hk1 hk2 hW hL; go_simp) ⟨upd_val hσ rfl, fun h => upd_keep _ (hk1 (upd_other h (by decide))), fun h => ⟨upd_keep _ (hk2 (upd_other h (by decide))).1, upd_keep _ (hk2 (upd_other h (by decide))).2⟩, ?_⟩
    rw [upd_ne (by decide), upd_ne (by decide)]; exact hW
  case s11 =>
    intro L σ W hL hd ⟨hσ, hk1, hk2, hW⟩
    have q8 := lazy_old (L := L) (σ := σ) (tab := r11_tab) (d0 := d0) h8 rfl
    generalize (lazyA L σ t0 r11_tab d0).eval = ρ at *
    refine OpIn.of_run (fun w => rfl) (v := Value.pointer (some ⟨X, 1, none⟩)) (W' := W) (by clear hσ hd hk1 hk2 hW hL; go_simp) ⟨upd_val hσ rfl, fun h => upd_keep _ (hk1 (upd_other h (by decide))), fun h => ⟨upd_keep _ (hk2 (upd_other h (by decide))).1, upd_keep _ (hk2 (upd_other h (by decide))).2⟩, ?_⟩
    rw [upd_ne (by decide), upd_ne (by decide)]; exact hW
  case s12 =>
    intro L σ W hL hd ⟨hσ, hk1, hk2, hW⟩
    have dp11 : L 11 = true := hd ⟨11, .data⟩ (by simp) rfl
    have q49 : (lazyA L σ t0 r11_tab d0).eval (.tmp 49) = Value.pointer (some ⟨X, 1, none⟩) := (lazy_eval hl rfl dp11).trans (hσ 11 dp11)
    generalize (lazyA L σ t0 r11_tab d0).eval = ρ at *
    have e25 : L 25 = false := (Bool.eq_false_iff.2 fun h => by rw [(hk2 h).1] at hL; cases hL)
    have cc : W.cell? ⟨X, 1, none⟩ = some (.int .i64 c) := by rw [hW, e25]; exact r11_w1 c1 _
    refine OpIn.of_run (fun w => rfl) (v := Value.int .i64 c) (W' := W) (by clear hσ hd hk1 hk2 hW hL; go_simp) ⟨upd_val hσ rfl, fun h => upd_keep _ (hk1 (upd_other h (by decide))), fun h => ⟨upd_keep _ (hk2 (upd_other h (by decide))).1, upd_keep _ (hk2 (upd_other h (by decide))).2⟩, ?_⟩
    rw [upd_ne (by decide), upd_ne (by decide)]; exact hW
  case s13 =>
    intro L σ W hL hd ⟨hσ, hk1, hk2, hW⟩
    have q3 := lazy_old (L := L) (σ := σ) (tab := r11_tab) (d0 := d0) h3 rfl
    generalize (lazyA L σ t0 r11_tab d0).eval = ρ at *
    have cc : W.cell? ⟨S, 0, none⟩ = some (.pointer (some ⟨g, 0, none⟩)) := by rw [hW]; exact (r11_cell _ _ hS).trans cs
    refine OpIn.of_run (fun w => rfl) (v := Value.pointer (some ⟨g, 0, none⟩)) (W' := W) (by clear hσ hd hk1 hk2 hW hL; go_simp) ⟨upd_val hσ rfl, fun h => upd_keep _ (hk1 (upd_other h (by decide))), fun h => ⟨upd_keep _ (hk2 (upd_other h (by decide))).1, upd_keep _ (hk2 (upd_other h (by decide))).2⟩, ?_⟩
    rw [upd_ne (by decide), upd_ne (by decide)]; exact hW
  case s14 =>
    intro L σ W hL hd ⟨hσ, hk1, hk2, hW⟩
    have dp13 : L 13 = true := hd ⟨13, .data⟩ (by simp) rfl
    have q51 : (lazyA L σ t0 r11_tab d0).eval (.tmp 51) = Value.pointer (some ⟨g, 0, none⟩) := (lazy_eval hl rfl dp13).trans (hσ 13 dp13)
    generalize (lazyA L σ t0 r11_tab d0).eval = ρ at *
    refine OpIn.of_run (fun w => rfl) (v := Value.pointer (some ⟨g, 0, none⟩)) (W' := W) (by clear hσ hd hk1 hk2 hW hL; go_simp) ⟨upd_val hσ rfl, fun h => upd_keep _ (hk1 (upd_other h (by decide))), fun h => ⟨upd_keep _ (hk2 (upd_other h (by decide))).1, upd_keep _ (hk2 (upd_other h (by decide))).2⟩, ?_⟩
    rw [upd_ne (by decide), upd_ne (by decide)]; exact hW
  case s15 =>
    intro L σ W hL hd ⟨hσ, hk1, hk2, hW⟩
    have dp14 : L 14 = true := hd ⟨14, .data⟩ (by simp) rfl
    have q52 : (lazyA L σ t0 r11_tab d0).eval (.tmp 52) = Value.pointer (some ⟨g, 0, none⟩) := (lazy_eval hl rfl dp14).trans (hσ 14 dp14)
    generalize (lazyA L σ t0 r11_tab d0).eval = ρ at *
    refine OpIn.of_run (fun w => rfl) (v := Value.pointer (some ⟨g, 0, none⟩)) (W' := W) (by clear hσ hd hk1 hk2 hW hL; go_simp) ⟨upd_val hσ rfl, fun h => upd_keep _ (hk1 (upd_other h (by decide))), fun h => ⟨upd_keep _ (hk2 (upd_other h (by decide))).1, upd_keep _ (hk2 (upd_other h (by decide))).2⟩, ?_⟩
    rw [upd_ne (by decide), upd_ne (by decide)]; exact hW
  case s16 =>
    intro L σ W hL hd ⟨hσ, hk1, hk2, hW⟩
    have dp15 : L 15 = true := hd ⟨15, .data⟩ (by simp) rfl
    have q53 : (lazyA L σ t0 r11_tab d0).eval (.tmp 53) = Value.pointer (some ⟨g, 0, none⟩) := (lazy_eval hl rfl dp15).trans (hσ 15 dp15)
    generalize (lazyA L σ t0 r11_tab d0).eval = ρ at *
    have cc : W.cell? ⟨g, 0, none⟩ = some (.slice (some ⟨b, 0, none⟩) n cap) := by rw [hW]; exact (r11_cell _ _ hG).trans cg
    refine OpIn.of_run (fun w => rfl) (v := Value.slice (some ⟨b, 0, none⟩) n cap) (W' := W) (by clear hσ hd hk1 hk2 hW hL; go_simp) ⟨upd_val hσ rfl, fun h => upd_keep _ (hk1 (upd_other h (by decide))), fun h => ⟨upd_keep _ (hk2 (upd_other h (by decide))).1, upd_keep _ (hk2 (upd_other h (by decide))).2⟩, ?_⟩
    rw [upd_ne (by decide), upd_ne (by decide)]; exact hW
  case s17 =>
    intro L σ W hL hd ⟨hσ, hk1, hk2, hW⟩
    have q11 := lazy_old (L := L) (σ := σ) (tab := r11_tab) (d0 := d0) h11 rfl
    generalize (lazyA L σ t0 r11_tab d0).eval = ρ at *
    refine OpIn.of_run (fun w => rfl) (v := Value.int .i64 (k : Int)) (W' := W) (by clear hσ hd hk1 hk2 hW hL; go_simp) ⟨upd_val hσ rfl, fun h => upd_keep _ (hk1 (upd_other h (by decide))), fun h => ⟨upd_keep _ (hk2 (upd_other h (by decide))).1, upd_keep _ (hk2 (upd_other h (by decide))).2⟩, ?_⟩
    rw [upd_ne (by decide), upd_ne (by decide)]; exact hW
  case s18 =>
    intro L σ W hL hd ⟨hσ, hk1, hk2, hW⟩
    have dp16 : L 16 = true := hd ⟨16, .data⟩ (by simp) rfl
    have q54 : (lazyA L σ t0 r11_tab d0).eval (.tmp 54) = Value.slice (some ⟨b, 0, none⟩) n cap := (lazy_eval hl rfl dp16).trans (hσ 16 dp16)
    have dp17 : L 17 = true := hd ⟨17, .data⟩ (by simp) rfl
    have q55 : (lazyA L σ t0 r11_tab d0).eval (.tmp 55) = Value.int .i64 (k : Int) := (lazy_eval hl rfl dp17).trans (hσ 17 dp17)
    generalize (lazyA L σ t0 r11_tab d0).eval = ρ at *
    have b0 : (0 : Int) ≤ (k : Int) := by omega
    have b1 : (k : Int) < (n : Int) := by omega
    refine OpIn.of_run (fun w => rfl) (v := Value.pointer (some ⟨b, (k * 2), none⟩)) (W' := W) (by clear hσ hd hk1 hk2 hW hL; go_simp) ⟨upd_val hσ rfl, fun h => upd_keep _ (hk1 (upd_other h (by decide))), fun h => ⟨upd_keep _ (hk2 (upd_other h (by decide))).1, upd_keep _ (hk2 (upd_other h (by decide))).2⟩, ?_⟩
    rw [upd_ne (by decide), upd_ne (by decide)]; exact hW
  case s19 =>
    intro L σ W hL hd ⟨hσ, hk1, hk2, hW⟩
    have dp18 : L 18 = true := hd ⟨18, .data⟩ (by simp) rfl
    have q56 : (lazyA L σ t0 r11_tab d0).eval (.tmp 56) = Value.pointer (some ⟨b, (k * 2), none⟩) := (lazy_eval hl rfl dp18).trans (hσ 18 dp18)
    generalize (lazyA L σ t0 r11_tab d0).eval = ρ at *
    refine OpIn.of_run (fun w => rfl) (v := Value.pointer (some ⟨b, (k * 2 + 1), none⟩)) (W' := W) (by clear hσ hd hk1 hk2 hW hL; go_simp) ⟨upd_val hσ rfl, fun h => upd_keep _ (hk1 (upd_other h (by decide))), fun h => ⟨upd_keep _ (hk2 (upd_other h (by decide))).1, upd_keep _ (hk2 (upd_other h (by decide))).2⟩, ?_⟩
    rw [upd_ne (by decide), upd_ne (by decide)]; exact hW
  case s20 =>
    intro L σ W hL hd ⟨hσ, hk1, hk2, hW⟩
    have dp19 : L 19 = true := hd ⟨19, .data⟩ (by simp) rfl
    have q57 : (lazyA L σ t0 r11_tab d0).eval (.tmp 57) = Value.pointer (some ⟨b, (k * 2 + 1), none⟩) := (lazy_eval hl rfl dp19).trans (hσ 19 dp19)
    generalize (lazyA L σ t0 r11_tab d0).eval = ρ at *
    have cc : W.cell? ⟨b, k * 2 + 1, none⟩ = some (.int .i64 C) := by rw [hW]; exact (r11_cell _ _ hB).trans y1
    refine OpIn.of_run (fun w => rfl) (v := Value.int .i64 C) (W' := W) (by clear hσ hd hk1 hk2 hW hL; go_simp) ⟨upd_val hσ rfl, fun h => upd_keep _ (hk1 (upd_other h (by decide))), fun h => ⟨upd_keep _ (hk2 (upd_other h (by decide))).1, upd_keep _ (hk2 (upd_other h (by decide))).2⟩, ?_⟩
    rw [upd_ne (by decide), upd_ne (by decide)]; exact hW
  case s21 =>
    intro L σ W hL hd ⟨hσ, hk1, hk2, hW⟩
    have dp12 : L 12 = true := hd ⟨12, .data⟩ (by simp) rfl
    have q50 : (lazyA L σ t0 r11_tab d0).eval (.tmp 50) = Value.int .i64 c := (lazy_eval hl rfl dp12).trans (hσ 12 dp12)
    have dp20 : L 20 = true := hd ⟨20, .data⟩ (by simp) rfl
    have q58 : (lazyA L σ t0 r11_tab d0).eval (.tmp 58) = Value.int .i64 C := (lazy_eval hl rfl dp20).trans (hσ 20 dp20)
    generalize (lazyA L σ t0 r11_tab d0).eval = ρ at *
    refine OpIn.of_run (fun w => rfl) (v := Value.int .i64 (if c < C then C else c)) (W' := W) (by clear hσ hd hk1 hk2 hW hL; go_simp) ⟨upd_val hσ rfl, fun h => upd_keep _ (hk1 (upd_other h (by decide))), fun h => ⟨upd_keep _ (hk2 (upd_other h (by decide))).1, upd_keep _ (hk2 (upd_other h (by decide))).2⟩, ?_⟩
    rw [upd_ne (by decide), upd_ne (by decide)]; exact hW
  case s22 =>
    intro L σ W hL hd ⟨hσ, hk1, hk2, hW⟩
    have q8 := lazy_old (L := L) (σ := σ) (tab := r11_tab) (d0 := d0) h8 rfl
    generalize (lazyA L σ t0 r11_tab d0).eval = ρ at *
    refine OpIn.of_run (fun w => rfl) (v := Value.pointer (some ⟨X, 0, none⟩)) (W' := W) (by clear hσ hd hk1 hk2 hW hL; go_simp) ⟨upd_val hσ rfl, fun h => upd_keep _ (hk1 (upd_other h (by decide))), fun h => ⟨upd_keep _ (hk2 (upd_other h (by decide))).1, upd_keep _ (hk2 (upd_other h (by decide))).2⟩, ?_⟩
    rw [upd_ne (by decide), upd_ne (by decide)]; exact hW
  case s23 =>
    intro L σ W hL hd ⟨hσ, hk1, hk2, hW⟩
    have dp22 : L 22 = true := hd ⟨22, .data⟩ (by simp) rfl
    have q60 : (lazyA L σ t0 r11_tab d0).eval (.tmp 60) = Value.pointer (some ⟨X, 0, none⟩) := (lazy_eval hl rfl dp22).trans (hσ 22 dp22)
    have dp10 : L 10 = true := hd ⟨10, .data⟩ (by simp) rfl
    have q48 : (lazyA L σ t0 r11_tab d0).eval (.tmp 48) = Value.int .i64 (if A < a then A else a) := (lazy_eval hl rfl dp10).trans (hσ 10 dp10)
    generalize (lazyA L σ t0 r11_tab d0).eval = ρ at *
    have e25 : L 25 = false := (Bool.eq_false_iff.2 fun h => by rw [(hk2 h).2] at hL; cases hL)
    rw [hL, e25] at hW
    simp only [r11_w, cond_true, cond_false] at hW
    refine OpIn.of_skip (fun w => rfl) (W' := W.setCell ⟨X, 0, none⟩ (Value.int .i64 (if A < a then A else a))) (by have cc : W.cell? ⟨X, 0, none⟩ = some (.int .i64 a) := (by rw [hW]; exact c0); have ff : W.frozen? ⟨X, 0, none⟩ = false := (by rw [hW]; exact z0); clear hW hσ hd hk1 hk2 hL; go_simp) ⟨upd_val hσ rfl, fun _ => upd_keep _ (hd ⟨1, .phase⟩ (by simp) rfl), fun h => absurd (upd_other h (by decide)) (by rw [e25]; decide), ?_⟩
    rw [upd_self, upd_ne (by decide), e25, hW]; rfl
  case s24 =>
    intro L σ W hL hd ⟨hσ, hk1, hk2, hW⟩
    have q8 := lazy_old (L := L) (σ := σ) (tab := r11_tab) (d0 := d0) h8 rfl
    generalize (lazyA L σ t0 r11_tab d0).eval = ρ at *
    refine OpIn.of_run (fun w => rfl) (v := Value.pointer (some ⟨X, 1, none⟩)) (W' := W) (by clear hσ hd hk1 hk2 hW hL; go_simp) ⟨upd_val hσ rfl, fun h => upd_keep _ (hk1 (upd_other h (by decide))), fun h => ⟨upd_keep _ (hk2 (upd_other h (by decide))).1, upd_keep _ (hk2 (upd_other h (by decide))).2⟩, ?_⟩
    rw [upd_ne (by decide), upd_ne (by decide)]; exact hW
  case s25 =>
    intro L σ W hL hd ⟨hσ, hk1, hk2, hW⟩
    have dp24 : L 24 = true := hd ⟨24, .data⟩ (by simp) rfl
    have q61 : (lazyA L σ t0 r11_tab d0).eval (.tmp 61) = Value.pointer (some ⟨X, 1, none⟩) := (lazy_eval hl rfl dp24).trans (hσ 24 dp24)
    have dp21 : L 21 = true := hd ⟨21, .data⟩ (by simp) rfl
    have q59 : (lazyA L σ t0 r11_tab d0).eval (.tmp 59) = Value.int .i64 (if c < C then C else c) := (lazy_eval hl rfl dp21).trans (hσ 21 dp21)
    generalize (lazyA L σ t0 r11_tab d0).eval = ρ at *
    have e23 : L 23 = true := hd ⟨23, .phase⟩ (by simp) rfl
    rw [hL, e23] at hW
    simp only [r11_w, cond_true, cond_false] at hW
    refine OpIn.of_skip (fun w => rfl) (W' := W.setCell ⟨X, 1, none⟩ (Value.int .i64 (if c < C then C else c))) (by have cc : W.cell? ⟨X, 1, none⟩ = some (.int .i64 c) := (by rw [hW]; exact (World.cell?_setCell_other _ _ _ _ (by simp)).trans c1); have ff : W.frozen? ⟨X, 1, none⟩ = false := (by rw [hW, World.frozen?_setCell]; exact z1); clear hW hσ hd hk1 hk2 hL; go_simp) ⟨upd_val hσ rfl, fun _ => upd_keep _ (hd ⟨1, .phase⟩ (by simp) rfl), fun _ => ⟨upd_keep _ (hd ⟨12, .phase⟩ (by simp) rfl), upd_keep _ e23⟩, ?_⟩
    rw [upd_self, upd_ne (by decide), e23, hW]; rfl
end Go.Proofs.Ytiladcdogbeomaa.QRangesPlays

namespace Go.Proofs.Ytiladcdogbeomaa.QRangesPlays
open Go.RowKit Go.Shelf Go.Proofs.YtiladcdogbeomaaW.PrintWords Go.Proofs.YtiladcdogbeomaaW.PrintLast Go.Proofs.YtiladcdogbeomaaW.PrintMore Go.Proofs.Ytiladcdogbeomaa.RowLaws Go.Proofs.Ytiladcdogbeomaa.Lazy
theorem own95 {W : World} {base : Nat} {ok : Nat → Prop} {v : Value} {xs : List S95} (h : Kd.R k95 95 W base ok v xs) : OwnS W base v xs := by
  obtain ⟨inner, ho, hr⟩ := h.2
  have e : inner = rowC xs := by
    apply List.ext_getElem?
    intro k
    rcases Nat.lt_or_ge k inner.length with hk | hk
    · have hl : inner.length = xs.length * 2 := hr.1
      have hj : k / 2 < xs.length := by omega
      have hm := hr.2 (k / 2) _ (List.getElem?_eq_getElem hj)
      have hx : (inner.drop (k / 2 * 2)).take 2 = [.int .i64 xs[k / 2].f0, .int .i64 xs[k / 2].f1] := by
        obtain ⟨c1, c2, e, h1, h2⟩ := hm
        have h1' : c1 = [.int .i64 xs[k / 2].f0] := h1
        have h2' : c2 = [.int .i64 xs[k / 2].f1] := h2
        have e' : (inner.drop (k / 2 * 2)).take 2 = c1 ++ c2 := e
        rw [e', h1', h2']; rfl
      have hy : ((rowC xs).drop (k / 2 * 2)).take 2 = [.int .i64 xs[k / 2].f0, .int .i64 xs[k / 2].f1] := by
        have h2 := rowC_take (xs.drop (k / 2)) 1
        rw [rowC_drop, show (rowC (xs.drop (k / 2))).take 2 = _ from h2, List.drop_eq_getElem_cons hj]; rfl
      have g1 : inner[k]? = ((inner.drop (k / 2 * 2)).take 2)[k % 2]? := by
        rw [List.getElem?_take, if_pos (Nat.mod_lt _ (by decide)), List.getElem?_drop]; congr 1; omega
      have g2 : (rowC xs)[k]? = (((rowC xs).drop (k / 2 * 2)).take 2)[k % 2]? := by
        rw [List.getElem?_take, if_pos (Nat.mod_lt _ (by decide)), List.getElem?_drop]; congr 1; omega
      rw [g1, g2, hx, hy]
    · have hl : inner.length = xs.length * 2 := hr.1
      rw [List.getElem?_eq_none hk, List.getElem?_eq_none (by rw [rowC_length]; omega)]
  subst e
  exact ho
theorem OwnS.lower {W : World} {B B' : Nat} {v : Value} {xs : List S95} (h : OwnS W B v xs) (hb : B' ≤ B) : OwnS W B' v xs := by
  obtain ⟨h1, h2⟩ := h
  refine ⟨h1, ?_⟩
  rcases h2 with h2 | ⟨g, cap, cur, hv, hg, r⟩
  · exact .inl h2
  · exact .inr ⟨g, cap, cur, hv, by omega, r⟩
theorem OwnS.lt {W : World} {B : Nat} {v : Value} {xs : List S95} (h : OwnS W B v xs) {k : Nat} (hk : v.ownBlock = some k) : B ≤ k ∧ k < W.heap.size := World.ownsRow.lt h k hk
theorem OwnS.below {W W' : World} {B : Nat} {v : Value} {xs : List S95} (h : OwnS W B v xs) (hb : Below W.heap.size W W') : OwnS W' B v xs := own_move h (fun _ hk => hb.block _ (h.lt hk).2)
theorem OwnS.put {W : World} {B : Nat} {v : Value} {xs : List S95} (h : OwnS W B v xs) {p : Addr} (hp : p.block < B) (u : Value) : OwnS (W.setCell p u) B v xs := own_move h (fun k hk => Below.heap_setCell _ _ _ _ (by have := (h.lt hk).1; omega))
abbrev r17_ops : List Oper := [{ dst := some 74, op := .load 70 (.tmp 3), type := 70, pos := "ranges.go:67", after := #[], guard := none },
  { dst := some 75, op := .load 70 (.tmp 3), type := 70, pos := "ranges.go:67", after := #[], guard := none },
  { dst := some 76, op := .nilCheck (.tmp 75), type := 0, pos := "ranges.go:67", after := #[⟨1, .data⟩], guard := none },
  { dst := some 77, op := .fieldAddr 121 (.tmp 76) 0, type := 0, pos := "ranges.go:67", after := #[⟨2, .data⟩], guard := none },
  { dst := some 78, op := .load 74 (.tmp 77), type := 74, pos := "ranges.go:67", after := #[⟨3, .data⟩], guard := none },
  { dst := some 79, op := .call { callee := .value (.func 75), args := #[.tmp 78], argTypes := #[74] }, type := 74, pos := "ranges.go:67", after := #[⟨4, .data⟩], guard := none },
  { dst := some 80, op := .load 3 (.tmp 9), type := 3, pos := "ranges.go:67", after := #[], guard := none },
  { dst := some 81, op := .load 3 (.tmp 9), type := 3, pos := "ranges.go:67", after := #[], guard := none },
  { dst := some 82, op := .load 3 (.tmp 10), type := 3, pos := "ranges.go:67", after := #[], guard := none },
  { dst := some 83, op := .binOp .add 3 (.tmp 81) (.tmp 82) 3, type := 3, pos := "ranges.go:67", after := #[⟨7, .data⟩, ⟨8, .data⟩], guard := none },
  { dst := some 84, op := .load 95 (.tmp 8), type := 95, pos := "ranges.go:67", after := #[], guard := none },
  { dst := some 85, op := .buildSlice 74 1 #[(0, .tmp 84)], type := 74, pos := "ranges.go:67", after := #[⟨10, .data⟩], guard := none },
  { dst := some 86, op := .call { callee := .value (.func 74), args := #[.tmp 79, .tmp 80, .tmp 83, .tmp 85], argTypes := #[74, 3, 3, 74] }, type := 74, pos := "ranges.go:67", after := #[⟨5, .data⟩, ⟨6, .data⟩, ⟨9, .data⟩, ⟨11, .data⟩, ⟨5, .chain⟩], guard := none },
  { dst := some 87, op := .nilCheck (.tmp 74), type := 0, pos := "ranges.go:67", after := #[⟨0, .data⟩, ⟨0, .phase⟩, ⟨1, .phase⟩, ⟨2, .phase⟩, ⟨3, .phase⟩, ⟨4, .phase⟩, ⟨5, .phase⟩, ⟨6, .phase⟩, ⟨7, .phase⟩, ⟨8, .phase⟩, ⟨9, .phase⟩, ⟨10, .phase⟩, ⟨11, .phase⟩, ⟨12, .phase⟩], guard := none },
  { dst := some 88, op := .fieldAddr 121 (.tmp 87) 0, type := 0, pos := "ranges.go:67", after := #[⟨13, .data⟩, ⟨0, .phase⟩, ⟨1, .phase⟩, ⟨2, .phase⟩, ⟨3, .phase⟩, ⟨4, .phase⟩, ⟨5, .phase⟩, ⟨6, .phase⟩, ⟨7, .phase⟩, ⟨8, .phase⟩, ⟨9, .phase⟩, ⟨10, .phase⟩, ⟨11, .phase⟩, ⟨12, .phase⟩], guard := none },
  { dst := none, op := .store 74 (.tmp 88) (.tmp 86), type := 0, pos := "ranges.go:67", after := #[⟨14, .data⟩, ⟨12, .data⟩, ⟨12, .chain⟩, ⟨0, .phase⟩, ⟨1, .phase⟩, ⟨2, .phase⟩, ⟨3, .phase⟩, ⟨4, .phase⟩, ⟨5, .phase⟩, ⟨6, .phase⟩, ⟨7, .phase⟩, ⟨8, .phase⟩, ⟨9, .phase⟩, ⟨10, .phase⟩, ⟨11, .phase⟩, ⟨12, .phase⟩], guard := none }]
abbrev r17_tab : List (Option Nat) := [none, none, none, none, none, none, none, none, none, none, none, none, none, none, none, none, none, none, none, none, none, none, none, none, none, none, none, none, none, none, none, none, none, none, none, none, none, none, none, none, none, none, none, none, none, none, none, none, none, none, none, none, none, none, none, none, none, none, none, none, none, none, none, none, none, none, none, none, none, none, none, none, none, none, some 0, some 1, some 2, some 3, some 4, some 5, some 6, some 7, some 8, some 9, some 10, some 11, some 12, some 13, some 14, none, none, none, none]

def r17_vals (g n cap i m : Nat) (A : Option Addr) (a c : Int) : List Value := [Value.pointer (some ⟨g, 0, none⟩), Value.pointer (some ⟨g, 0, none⟩), Value.pointer (some ⟨g, 0, none⟩), Value.pointer (some ⟨g, 0, none⟩), Value.slice A n cap, undef, Value.int .i64 (i : Int), Value.int .i64 (i : Int), Value.int .i64 (m : Int), Value.int .i64 ((i : Int) + (m : Int)), Value.agg #[.int .i64 a, .int .i64 c], undef, undef, Value.pointer (some ⟨g, 0, none⟩), Value.pointer (some ⟨g, 0, none⟩), undef]
structure R17 (g n cap i m B : Nat) (A : Option Addr) (a c : Int) (l : List S95) (w0 : World) (L : Nat → Bool) (σ : Nat → Value) (W : World) : Prop where
  hv : ∀ j, L j = true → j ≠ 5 → j ≠ 11 → j ≠ 12 → σ j = (r17_vals g n cap i m A a c).getD j undef
  k12 : L 12 = true → L 5 = true ∧ L 11 = true
  k14 : L 14 = true → L 13 = true
  k15 : L 15 = true → ∀ j, j < 15 → L j = true
  hb : L 15 = false → Below B w0 W
  h5 : L 5 = true → L 12 = false → OwnS W B (σ 5) l
  h11 : L 11 = true → L 12 = false → ∃ bx, σ 11 = .slice (some ⟨bx, 0, none⟩) 1 1 ∧ B ≤ bx ∧ W.heap[bx]? = some (.cells #[.int .i64 a, .int .i64 c] 95 (0, 0)) ∧ (L 5 = true → some bx ≠ (σ 5).ownBlock)
  h12 : L 12 = true → L 15 = false → OwnS W B (σ 12) (l.take i ++ [(⟨a, c⟩ : S95)] ++ l.drop (i + m))
  h15 : L 15 = true → Only g w0 W ∧ W.heap[g]? = some (.cells #[σ 12] 121 (0, 0)) ∧ OwnS W B (σ 12) (l.take i ++ [(⟨a, c⟩ : S95)] ++ l.drop (i + m))
section
variable {g n cap i m B : Nat} {A : Option Addr} {a c : Int} {l : List S95} {w0 W : World} {L : Nat → Bool} {σ : Nat → Value}
theorem R17.no15 (h : R17 g n cap i m B A a c l w0 L σ W) {j : Nat} (hj : j < 15) (hL : L j = false) : L 15 = false :=
  Bool.eq_false_iff.2 fun e => by rw [h.k15 e j hj] at hL; cases hL
theorem R17.plain (h : R17 g n cap i m B A a c l w0 L σ W) {j : Nat} {v : Value} (hj : j ≠ 5 ∧ j ≠ 11 ∧ j ≠ 12 ∧ j ≠ 15) (hv : (r17_vals g n cap i m A a c).getD j undef = v) (h14 : j = 14 → L 13 = true) : R17 g n cap i m B A a c l w0 (updL L j) (updS σ j v) W := by
  obtain ⟨j5, j11, j12, j15⟩ := hj
  have s5 : updS σ j v 5 = σ 5 := by simp [updS, Ne.symm j5]
  have s11 : updS σ j v 11 = σ 11 := by simp [updS, Ne.symm j11]
  have s12 : updS σ j v 12 = σ 12 := by simp [updS, Ne.symm j12]
  refine ⟨?_, ?_, ?_, ?_, ?_, ?_, ?_, ?_, ?_⟩
  · intro k hk k5 k11 k12
    by_cases e : k = j
    · subst e; simp only [updS, if_true]; exact hv.symm
    · simp only [updS, if_neg e]; exact h.hv k (upd_other hk e) k5 k11 k12
  · rw [upd_ne (Ne.symm j12), upd_ne (Ne.symm j5), upd_ne (Ne.symm j11)]; exact h.k12
  · intro e
    by_cases hj : j = 14
    · exact upd_keep _ (h14 hj)
    · exact upd_keep _ (h.k14 (upd_other e (Ne.symm hj)))
  · rw [upd_ne (Ne.symm j15)]; exact fun e k hk => upd_keep _ (h.k15 e k hk)
  · rw [upd_ne (Ne.symm j15)]; exact h.hb
  · rw [upd_ne (Ne.symm j12), upd_ne (Ne.symm j5), s5]; exact h.h5
  · rw [upd_ne (Ne.symm j12), upd_ne (Ne.symm j11), upd_ne (Ne.symm j5), s5, s11]; exact h.h11
  · rw [upd_ne (Ne.symm j12), upd_ne (Ne.symm j15), s12]; exact h.h12
  · rw [upd_ne (Ne.symm j15), s12]; exact h.h15
set_option maxRecDepth 100000 in
set_option maxHeartbeats 1000000 in
theorem r17_s5 {ρ : Operand → Value} (hl0 : l.length = n) (hC : Kd.C k95 w0 A n l) (hlc : n ≤ cap) (hsz : n ≤ 4398046511104) (him : i + m ≤ n) (hi : B = w0.heap.size) (_ : g < B) (_ : g < B) (_ : w0.cell? ⟨g, 0, none⟩ = some (.slice A n cap)) (_ : w0.frozen? ⟨g, 0, none⟩ = false)
    (qf : ρ (.func 75) = .func (.func 75) #[] #[]) (q78 : ρ (.tmp 78) = .slice A n cap) (hI : R17 g n cap i m B A a c l w0 L σ W) (hL : L 5 = false) :
    OpIn Fence.wide 5 Try.prog { dst := some 79, op := Op.call { callee := Callee.value (Operand.func 75), args := #[Operand.tmp 78], argTypes := #[74] }, type := 74, pos := "ranges.go:67", after := #[{ on := 4, ground := Ground.data }], guard := none } ρ W (fun v W' => R17 g n cap i m B A a c l w0 (updL L 5) (updS σ 5 v) W') := by
  have e15 := hI.no15 (by decide) hL
  have e12 : L 12 = false := Bool.eq_false_iff.2 fun e => by rw [(hI.k12 e).1] at hL; cases hL
  have hb := hI.hb e15
  subst hi
  subst hl0
  have hcl := slices_Clone.calls A cap l l W (Kd.C_below hC hb) hlc (by unfold slices_Clone.f; rw [if_pos (by omega)])
  refine OpIn.of_call (f := 75) (args := #[.slice A l.length cap]) (fun _ _ => trivial) (by clear hL hI e15 e12 hb; go_simp) (fun h => by cases h) ((callsIn_wide.2 hcl).mono ?_)
  rintro e W' ⟨v, rfl, hR, hB⟩
  have ho : OwnS W' W.heap.size v l := own95 hR
  refine ⟨v, rfl, ?_⟩
  have s11 : updS σ 5 v 11 = σ 11 := by simp [updS]
  have s12 : updS σ 5 v 12 = σ 12 := by simp [updS]
  have s5 : updS σ 5 v 5 = v := by simp [updS]
  refine ⟨?_, ?_, ?_, ?_, ?_, ?_, ?_, ?_, ?_⟩
  · intro k hk k5 k11 k12
    simp only [updS, if_neg k5]; exact hI.hv k (upd_other hk k5) k5 k11 k12
  · rw [upd_ne (by decide), e12]; exact fun h => by cases h
  · exact fun e => upd_keep _ (hI.k14 (upd_other e (by decide)))
  · rw [upd_ne (by decide)]; exact fun e k hk => upd_keep _ (hI.k15 e k hk)
  · exact fun _ => hb.trans (hB.mono hb.size)
  · rw [s5]; exact fun _ _ => ho.lower hb.size
  · rw [upd_ne (by decide), s11, s5]
    intro h1 h2
    rw [upd_ne (by decide)] at h2
    obtain ⟨bx, h3, h4, h5, _⟩ := hI.h11 h1 h2
    have hlt : bx < W.heap.size := (Array.getElem?_eq_some_iff.1 h5).1
    exact ⟨bx, h3, h4, (hB.block bx hlt).trans h5, fun _ e => by have := (ho.lt e.symm).1; omega⟩
  · rw [upd_ne (by decide), e12]; exact fun h => by cases h
  · rw [upd_ne (by decide), e15]; exact fun h => by cases h
set_option maxRecDepth 100000 in
set_option maxHeartbeats 1000000 in
theorem r17_s11 {ρ : Operand → Value} (hl0 : l.length = n) (hC : Kd.C k95 w0 A n l) (hlc : n ≤ cap) (hsz : n ≤ 4398046511104) (him : i + m ≤ n) (hi : B = w0.heap.size) (_ : g < B) (_ : g < B) (_ : w0.cell? ⟨g, 0, none⟩ = some (.slice A n cap)) (_ : w0.frozen? ⟨g, 0, none⟩ = false)
    (q84 : ρ (.tmp 84) = .agg #[.int .i64 a, .int .i64 c]) (hI : R17 g n cap i m B A a c l w0 L σ W) (hL : L 11 = false) :
    OpIn Fence.wide 5 Try.prog { dst := some 85, op := Op.buildSlice 74 1 #[(0, Operand.tmp 84)], type := 74, pos := "ranges.go:67", after := #[{ on := 10, ground := Ground.data }], guard := none } ρ W (fun v W' => R17 g n cap i m B A a c l w0 (updL L 11) (updS σ 11 v) W') := by
  have e15 := hI.no15 (by decide) hL
  have e12 : L 12 = false := Bool.eq_false_iff.2 fun e => by rw [(hI.k12 e).2] at hL; cases hL
  have hb := hI.hb e15
  subst hi
  refine OpIn.of_run (fun w => rfl) (v := .slice (some ⟨W.heap.size, 0, none⟩) 1 1) (W' := W.alloc (.cells #[.int .i64 a, .int .i64 c] 95)) (by clear hL hI e15 e12 hb hC; go_simp) ?_
  have hB : Below W.heap.size W (W.alloc (.cells #[.int .i64 a, .int .i64 c] 95)) := (Below.refl _ _).alloc (Nat.le_refl _) _
  generalize hv : Value.slice (some ⟨W.heap.size, 0, none⟩) 1 1 = v
  have s11 : updS σ 11 v 11 = v := by simp [updS]
  have s12 : updS σ 11 v 12 = σ 12 := by simp [updS]
  have s5 : updS σ 11 v 5 = σ 5 := by simp [updS]
  refine ⟨?_, ?_, ?_, ?_, ?_, ?_, ?_, ?_, ?_⟩
  · intro k hk k5 k11 k12
    simp only [updS, if_neg k11]; exact hI.hv k (upd_other hk k11) k5 k11 k12
  · rw [upd_ne (by decide), e12]; exact fun h => by cases h
  · exact fun e => upd_keep _ (hI.k14 (upd_other e (by decide)))
  · rw [upd_ne (by decide)]; exact fun e k hk => upd_keep _ (hI.k15 e k hk)
  · exact fun _ => hb.trans (hB.mono hb.size)
  · rw [s5, upd_ne (by decide), upd_ne (by decide)]; exact fun h1 h2 => (hI.h5 h1 h2).below hB
  · rw [s11, s5]
    intro _ h2
    rw [upd_ne (by decide)] at h2
    refine ⟨W.heap.size, hv.symm, hb.size, heap_alloc_new W _, fun h5 e => ?_⟩
    rw [upd_ne (by decide)] at h5
    have := ((hI.h5 h5 h2).lt e.symm).2
    omega
  · rw [upd_ne (by decide), e12]; exact fun h => by cases h
  · rw [upd_ne (by decide), e15]; exact fun h => by cases h
set_option maxRecDepth 100000 in
set_option maxHeartbeats 1000000 in
theorem r17_s12 {ρ : Operand → Value} (hl0 : l.length = n) (hC : Kd.C k95 w0 A n l) (hlc : n ≤ cap) (hsz : n ≤ 4398046511104) (him : i + m ≤ n) (hi : B = w0.heap.size) (_ : g < B) (_ : g < B) (_ : w0.cell? ⟨g, 0, none⟩ = some (.slice A n cap)) (_ : w0.frozen? ⟨g, 0, none⟩ = false)
    (qf : ρ (.func 74) = .func (.func 74) #[] #[]) (q79 : ρ (.tmp 79) = σ 5) (q80 : ρ (.tmp 80) = .int .i64 (i : Int)) (q83 : ρ (.tmp 83) = .int .i64 ((i : Int) + (m : Int))) (q85 : ρ (.tmp 85) = σ 11) (hI : R17 g n cap i m B A a c l w0 L σ W) (hL : L 12 = false) (dp5 : L 5 = true) (dp11 : L 11 = true) {af : Array Edge} :
    OpIn Fence.wide 5 Try.prog { dst := some 86, op := Op.call { callee := Callee.value (Operand.func 74), args := #[Operand.tmp 79, Operand.tmp 80, Operand.tmp 83, Operand.tmp 85], argTypes := #[74, 3, 3, 74] }, type := 74, pos := "ranges.go:67", after := af, guard := none } ρ W (fun v W' => R17 g n cap i m B A a c l w0 (updL L 12) (updS σ 12 v) W') := by
  have e15 := hI.no15 (by decide) hL
  have hb := hI.hb e15
  have ho := hI.h5 dp5 hL
  obtain ⟨bx, hbx1, hbx2, hbx3, hbx4⟩ := hI.h11 dp11 hL
  subst hi
  subst hl0
  have hcl := Replace_calls w0.heap.size (σ 5) l i (i + m) l.length a c bx W ho rfl hsz hbx3 (hbx4 dp5) (by omega) him hb.size
  rw [show (((i + m : Nat)) : Int) = (i : Int) + (m : Int) by omega, ← hbx1] at hcl
  refine OpIn.of_call (f := 74) (args := #[σ 5, .int .i64 (i : Int), .int .i64 ((i : Int) + (m : Int)), σ 11]) (fun _ _ => trivial) (by clear hL hI e15 hb ho hcl hbx1; go_simp) (fun h => by cases h) ((callsIn_wide.2 hcl).mono ?_)
  rintro e W' ⟨v, rfl, hO, hG⟩
  refine ⟨v, rfl, ?_⟩
  have s12 : updS σ 12 v 12 = v := by simp [updS]
  have hbB : Below w0.heap.size w0 W' := hb.grown hG hb.size (fun k hk => (ho.lt hk).1)
  refine ⟨?_, ?_, ?_, ?_, ?_, ?_, ?_, ?_, ?_⟩
  · intro k hk k5 k11 k12
    simp only [updS, if_neg k12]; exact hI.hv k (upd_other hk k12) k5 k11 k12
  · exact fun _ => ⟨upd_keep _ dp5, upd_keep _ dp11⟩
  · exact fun e => upd_keep _ (hI.k14 (upd_other e (by decide)))
  · rw [upd_ne (by decide)]; exact fun e k hk => upd_keep _ (hI.k15 e k hk)
  · exact fun _ => hbB
  · rw [upd_self]; exact fun _ h => by cases h
  · rw [upd_self]; exact fun _ h => by cases h
  · rw [s12]; exact fun _ _ => hO
  · rw [upd_ne (by decide), e15]; exact fun h => by cases h
set_option maxRecDepth 100000 in
set_option maxHeartbeats 1000000 in
theorem r17_s15 {ρ : Operand → Value} {af : Array Edge} (hl0 : l.length = n) (hC : Kd.C k95 w0 A n l) (hlc : n ≤ cap) (hsz : n ≤ 4398046511104) (him : i + m ≤ n) (hi : B = w0.heap.size) (hg1 : g < B) (_ : g < B) (cg : w0.cell? ⟨g, 0, none⟩ = some (.slice A n cap)) (zg : w0.frozen? ⟨g, 0, none⟩ = false)
    (hgb : w0.heap[g]? = some (.cells #[.slice A n cap] 121 (0, 0))) (q88 : ρ (.tmp 88) = .pointer (some ⟨g, 0, none⟩)) (q86 : ρ (.tmp 86) = σ 12) (hI : R17 g n cap i m B A a c l w0 L σ W) (hL : L 15 = false) (hd : ∀ j, j < 15 → L j = true) :
    OpIn Fence.wide 5 Try.prog { dst := none, op := Op.store 74 (Operand.tmp 88) (Operand.tmp 86), type := 0, pos := "ranges.go:67", after := af, guard := none } ρ W (fun v W' => R17 g n cap i m B A a c l w0 (updL L 15) (updS σ 15 v) W') := by
  have hb := hI.hb hL
  have ho := hI.h12 (hd 12 (by decide)) hL
  have cc := (hb.cell (p := ⟨g, 0, none⟩) hg1).trans cg
  have zz := (hb.frozen (p := ⟨g, 0, none⟩) hg1).trans zg
  obtain ⟨A', c', hs⟩ : ∃ A' c', σ 12 = .slice A' (l.take i ++ [(⟨a, c⟩ : S95)] ++ l.drop (i + m)).length c' := by
    rcases ho.2 with ⟨h1, h2⟩ | ⟨g', cap', cur', h1, _⟩
    · exact ⟨none, 0, by rw [h1, h2]⟩
    · exact ⟨_, _, h1⟩
  rw [hs] at q86
  refine OpIn.of_skip (fun w => rfl) (W' := W.setCell ⟨g, 0, none⟩ (σ 12)) (by rw [hs]; clear hL hI hd hb ho; go_simp) ?_
  have s12 : updS σ 15 undef 12 = σ 12 := by simp [updS]
  subst hi
  refine ⟨?_, ?_, ?_, ?_, ?_, ?_, ?_, ?_, ?_⟩
  · intro k hk k5 k11 k12
    by_cases e : k = 15
    · subst e; simp only [updS, if_true]; rfl
    · simp only [updS, if_neg e]; exact hI.hv k (upd_other hk e) k5 k11 k12
  · rw [upd_ne (by decide), upd_ne (by decide), upd_ne (by decide)]; exact hI.k12
  · exact fun e => upd_keep _ (hI.k14 (upd_other e (by decide)))
  · exact fun _ k hk => upd_keep _ (hd k hk)
  · rw [upd_self]; exact fun h => by cases h
  · rw [upd_ne (by decide), upd_ne (by decide), hd 12 (by decide)]; exact fun _ h => by cases h
  · rw [upd_ne (by decide), upd_ne (by decide), hd 12 (by decide)]; exact fun _ h => by cases h
  · rw [upd_self]; exact fun _ h => by cases h
  · rw [s12]
    exact fun _ => ⟨(Only.of_below hb).setCell (p := ⟨g, 0, none⟩) rfl _, one_setCell ((hb.block g hg1).trans hgb), ho.put hg1 _⟩
end
set_option maxRecDepth 100000 in
set_option maxHeartbeats 2000000 in
theorem Add_r17 (X Y Z S g n cap i m : Nat) (A : Option Addr) (a c : Int) (l : List S95) (t0 : List Value) (d0 : List Deferred) (w : World) (Q : Exit → Act → World → Prop) (hl : t0.length = r17_tab.length)
    (h3 : t0[3]? = some (.pointer (some ⟨S, 0, none⟩))) (h8 : t0[8]? = some (.pointer (some ⟨X, 0, none⟩))) (h9 : t0[9]? = some (.pointer (some ⟨Y, 0, none⟩))) (h10 : t0[10]? = some (.pointer (some ⟨Z, 0, none⟩)))
    (cs : w.cell? ⟨S, 0, none⟩ = some (.pointer (some ⟨g, 0, none⟩))) (hgb : w.heap[g]? = some (.cells #[.slice A n cap] 121 (0, 0))) (hC : Kd.C k95 w A n l) (hl0 : l.length = n) (hlc : n ≤ cap) (hsz : n ≤ 4398046511104)
    (cx0 : w.cell? ⟨X, 0, none⟩ = some (.int .i64 a)) (cx1 : w.cell? ⟨X, 1, none⟩ = some (.int .i64 c)) (ci : w.cell? ⟨Y, 0, none⟩ = some (.int .i64 (i : Int))) (cm : w.cell? ⟨Z, 0, none⟩ = some (.int .i64 (m : Int))) (him : i + m ≤ n)
    (hQ : ∀ σ rv W', Only g w W' → W'.heap[g]? = some (.cells #[rv] 121 (0, 0)) → OwnS W' w.heap.size rv (l.take i ++ [(⟨a, c⟩ : S95)] ++ l.drop (i + m)) → Q .normal (lazyA (fun _ => true) σ t0 r17_tab d0) W') :
    (Code.region 17 r17_ops.toArray true).wpIn Fence.wide 5 Try.prog Q { tmps := t0.toArray, defers := d0 } w := by
  have cg : w.cell? ⟨g, 0, none⟩ = some (.slice A n cap) := cell_of_one hgb
  have zg : w.frozen? ⟨g, 0, none⟩ = false := free_of_one hgb
  have hgl : g < w.heap.size := World.block_lt_of_cell? _ _ cg
  have hgb : w.drew.heap[g]? = some (.cells #[.slice A n cap] 121 (0, 0)) := hgb
  have hX : X < w.heap.size := World.block_lt_of_cell? _ _ cx0
  have hY : Y < w.heap.size := World.block_lt_of_cell? _ _ ci
  have hZ : Z < w.heap.size := World.block_lt_of_cell? _ _ cm
  have hS : S < w.heap.size := World.block_lt_of_cell? _ _ cs
  have hgB := hgl
  have hi : w.heap.size = w.drew.heap.size := rfl
  have cs : w.drew.cell? ⟨S, 0, none⟩ = some (.pointer (some ⟨g, 0, none⟩)) := cs
  have cg : w.drew.cell? ⟨g, 0, none⟩ = some (.slice A n cap) := cg
  have zg : w.drew.frozen? ⟨g, 0, none⟩ = false := zg
  have cx0 : w.drew.cell? ⟨X, 0, none⟩ = some (.int .i64 a) := cx0
  have cx1 : w.drew.cell? ⟨X, 1, none⟩ = some (.int .i64 c) := cx1
  have ci : w.drew.cell? ⟨Y, 0, none⟩ = some (.int .i64 (i : Int)) := ci
  have cm : w.drew.cell? ⟨Z, 0, none⟩ = some (.int .i64 (m : Int)) := cm
  have hC : Kd.C k95 w.drew A n l := Kd.C_drew hC
  refine wpIn_region_lazy (by kernel_rfl) r17_tab (by kernel_rfl) hl (R17 g n cap i m w.heap.size A a c l w.drew) ⟨fun j h => (by cases h), fun h => (by cases h), fun h => (by cases h), fun h => (by cases h), fun _ => Below.refl _ _, fun h => (by cases h), fun h => (by cases h), fun h => (by cases h), fun h => (by cases h)⟩ ⟨?s0, ?s1, ?s2, ?s3, ?s4, ?s5, ?s6, ?s7, ?s8, ?s9, ?s10, ?s11, ?s12, ?s13, ?s14, ?s15, trivial⟩ ?hdone
  case hdone =>
    intro L σ W hL hI
    obtain ⟨h1, h2, h3⟩ := hI.h15 (hL 15 (by decide))
    exact hQ σ _ W ((Only.refl g w).drew.trans h1) h2 h3
  case s0 =>
    intro L σ W hL hd hI
    have q3 := lazy_old (L := L) (σ := σ) (tab := r17_tab) (d0 := d0) h3 rfl
    generalize (lazyA L σ t0 r17_tab d0).eval = ρ at *
    have e15 : L 15 = false := hI.no15 (j := 0) (by decide) hL
    have cc := ((hI.hb e15).cell (p := ⟨S, 0, none⟩) hS).trans cs
    refine OpIn.of_run (fun w => rfl) (v := Value.pointer (some ⟨g, 0, none⟩)) (W' := W) (by clear hL e15; go_simp) (hI.plain (j := 0) (by decide) rfl (fun h => absurd h (by decide)))
  case s1 =>
    intro L σ W hL hd hI
    have q3 := lazy_old (L := L) (σ := σ) (tab := r17_tab) (d0 := d0) h3 rfl
    generalize (lazyA L σ t0 r17_tab d0).eval = ρ at *
    have e15 : L 15 = false := hI.no15 (j := 1) (by decide) hL
    have cc := ((hI.hb e15).cell (p := ⟨S, 0, none⟩) hS).trans cs
    refine OpIn.of_run (fun w => rfl) (v := Value.pointer (some ⟨g, 0, none⟩)) (W' := W) (by clear hL e15; go_simp) (hI.plain (j := 1) (by decide) rfl (fun h => absurd h (by decide)))
  case s2 =>
    intro L σ W hL hd hI
    have dp1 : L 1 = true := hd ⟨1, .data⟩ (by simp) rfl
    have q75 : (lazyA L σ t0 r17_tab d0).eval (.tmp 75) = Value.pointer (some ⟨g, 0, none⟩) := (lazy_eval hl rfl dp1).trans (hI.hv 1 dp1 (by decide) (by decide) (by decide))
    generalize (lazyA L σ t0 r17_tab d0).eval = ρ at *
    have e15 : L 15 = false := hI.no15 (j := 2) (by decide) hL
    refine OpIn.of_run (fun w => rfl) (v := Value.pointer (some ⟨g, 0, none⟩)) (W' := W) (by clear hL e15; go_simp) (hI.plain (j := 2) (by decide) rfl (fun h => absurd h (by decide)))
  case s3 =>
    intro L σ W hL hd hI
    have dp2 : L 2 = true := hd ⟨2, .data⟩ (by simp) rfl
    have q76 : (lazyA L σ t0 r17_tab d0).eval (.tmp 76) = Value.pointer (some ⟨g, 0, none⟩) := (lazy_eval hl rfl dp2).trans (hI.hv 2 dp2 (by decide) (by decide) (by decide))
    generalize (lazyA L σ t0 r17_tab d0).eval = ρ at *
    have e15 : L 15 = false := hI.no15 (j := 3) (by decide) hL
    refine OpIn.of_run (fun w => rfl) (v := Value.pointer (some ⟨g, 0, none⟩)) (W' := W) (by clear hL e15; go_simp) (hI.plain (j := 3) (by decide) rfl (fun h => absurd h (by decide)))
  case s4 =>
    intro L σ W hL hd hI
    have dp3 : L 3 = true := hd ⟨3, .data⟩ (by simp) rfl
    have q77 : (lazyA L σ t0 r17_tab d0).eval (.tmp 77) = Value.pointer (some ⟨g, 0, none⟩) := (lazy_eval hl rfl dp3).trans (hI.hv 3 dp3 (by decide) (by decide) (by decide))
    generalize (lazyA L σ t0 r17_tab d0).eval = ρ at *
    have e15 : L 15 = false := hI.no15 (j := 4) (by decide) hL
    have cc := ((hI.hb e15).cell (p := ⟨g, 0, none⟩) hgB).trans cg
    refine OpIn.of_run (fun w => rfl) (v := Value.slice A n cap) (W' := W) (by clear hL e15; go_simp) (hI.plain (j := 4) (by decide) rfl (fun h => absurd h (by decide)))
  case s5 =>
    intro L σ W hL hd hI
    have dp4 : L 4 = true := hd ⟨4, .data⟩ (by simp) rfl
    have q78 : (lazyA L σ t0 r17_tab d0).eval (.tmp 78) = Value.slice A n cap := (lazy_eval hl rfl dp4).trans (hI.hv 4 dp4 (by decide) (by decide) (by decide))
    have qf : (lazyA L σ t0 r17_tab d0).eval (.func 75) = .func (.func 75) #[] #[] := rfl
    generalize (lazyA L σ t0 r17_tab d0).eval = ρ at *
    have e15 : L 15 = false := hI.no15 (j := 5) (by decide) hL
    exact r17_s5 hl0 hC hlc hsz him hi hgl hgB cg zg qf q78 hI hL 
  case s6 =>
    intro L σ W hL hd hI
    have q9 := lazy_old (L := L) (σ := σ) (tab := r17_tab) (d0 := d0) h9 rfl
    generalize (lazyA L σ t0 r17_tab d0).eval = ρ at *
    have e15 : L 15 = false := hI.no15 (j := 6) (by decide) hL
    have cc := ((hI.hb e15).cell (p := ⟨Y, 0, none⟩) hY).trans ci
    refine OpIn.of_run (fun w => rfl) (v := Value.int .i64 (i : Int)) (W' := W) (by clear hL e15; go_simp) (hI.plain (j := 6) (by decide) rfl (fun h => absurd h (by decide)))
  case s7 =>
    intro L σ W hL hd hI
    have q9 := lazy_old (L := L) (σ := σ) (tab := r17_tab) (d0 := d0) h9 rfl
    generalize (lazyA L σ t0 r17_tab d0).eval = ρ at *
    have e15 : L 15 = false := hI.no15 (j := 7) (by decide) hL
    have cc := ((hI.hb e15).cell (p := ⟨Y, 0, none⟩) hY).trans ci
    refine OpIn.of_run (fun w => rfl) (v := Value.int .i64 (i : Int)) (W' := W) (by clear hL e15; go_simp) (hI.plain (j := 7) (by decide) rfl (fun h => absurd h (by decide)))
  case s8 =>
    intro L σ W hL hd hI
    have q10 := lazy_old (L := L) (σ := σ) (tab := r17_tab) (d0 := d0) h10 rfl
    generalize (lazyA L σ t0 r17_tab d0).eval = ρ at *
    have e15 : L 15 = false := hI.no15 (j := 8) (by decide) hL
    have cc := ((hI.hb e15).cell (p := ⟨Z, 0, none⟩) hZ).trans cm
    refine OpIn.of_run (fun w => rfl) (v := Value.int .i64 (m : Int)) (W' := W) (by clear hL e15; go_simp) (hI.plain (j := 8) (by decide) rfl (fun h => absurd h (by decide)))
  case s9 =>
    intro L σ W hL hd hI
    have dp7 : L 7 = true := hd ⟨7, .data⟩ (by simp) rfl
    have q81 : (lazyA L σ t0 r17_tab d0).eval (.tmp 81) = Value.int .i64 (i : Int) := (lazy_eval hl rfl dp7).trans (hI.hv 7 dp7 (by decide) (by decide) (by decide))
    have dp8 : L 8 = true := hd ⟨8, .data⟩ (by simp) rfl
    have q82 : (lazyA L σ t0 r17_tab d0).eval (.tmp 82) = Value.int .i64 (m : Int) := (lazy_eval hl rfl dp8).trans (hI.hv 8 dp8 (by decide) (by decide) (by decide))
    generalize (lazyA L σ t0 r17_tab d0).eval = ρ at *
    have e15 : L 15 = false := hI.no15 (j := 9) (by decide) hL
    have b0 : (i : Int) + (m : Int) ≤ 4398046511104 := by omega
    have b1 : (0 : Int) ≤ (i : Int) := by omega
    have b2 : (0 : Int) ≤ (m : Int) := by omega
    have b3 : IntKind.i64.wrap ((i : Int) + (m : Int)) = (i : Int) + (m : Int) := IntWalk.i64_in _ (by omega)
    refine OpIn.of_run (fun w => rfl) (v := Value.int .i64 ((i : Int) + (m : Int))) (W' := W) (by clear hL e15; go_simp) (hI.plain (j := 9) (by decide) rfl (fun h => absurd h (by decide)))
  case s10 =>
    intro L σ W hL hd hI
    have q8 := lazy_old (L := L) (σ := σ) (tab := r17_tab) (d0 := d0) h8 rfl
    generalize (lazyA L σ t0 r17_tab d0).eval = ρ at *
    have e15 : L 15 = false := hI.no15 (j := 10) (by decide) hL
    have cc := ((hI.hb e15).cell (p := ⟨X, 0, none⟩) hX).trans cx0
    have cc1 := ((hI.hb e15).cell (p := ⟨X, 1, none⟩) hX).trans cx1
    refine OpIn.of_run (fun w => rfl) (v := Value.agg #[.int .i64 a, .int .i64 c]) (W' := W) (by clear hL e15; go_simp) (hI.plain (j := 10) (by decide) rfl (fun h => absurd h (by decide)))
  case s11 =>
    intro L σ W hL hd hI
    have dp10 : L 10 = true := hd ⟨10, .data⟩ (by simp) rfl
    have q84 : (lazyA L σ t0 r17_tab d0).eval (.tmp 84) = Value.agg #[.int .i64 a, .int .i64 c] := (lazy_eval hl rfl dp10).trans (hI.hv 10 dp10 (by decide) (by decide) (by decide))
    generalize (lazyA L σ t0 r17_tab d0).eval = ρ at *
    have e15 : L 15 = false := hI.no15 (j := 11) (by decide) hL
    exact r17_s11 hl0 hC hlc hsz him hi hgl hgB cg zg q84 hI hL 
  case s12 =>
    intro L σ W hL hd hI
    have dp5 : L 5 = true := hd ⟨5, .data⟩ (by simp) rfl
    have q79 : (lazyA L σ t0 r17_tab d0).eval (.tmp 79) = σ 5 := lazy_eval hl rfl dp5
    have dp6 : L 6 = true := hd ⟨6, .data⟩ (by simp) rfl
    have q80 : (lazyA L σ t0 r17_tab d0).eval (.tmp 80) = Value.int .i64 (i : Int) := (lazy_eval hl rfl dp6).trans (hI.hv 6 dp6 (by decide) (by decide) (by decide))
    have dp9 : L 9 = true := hd ⟨9, .data⟩ (by simp) rfl
    have q83 : (lazyA L σ t0 r17_tab d0).eval (.tmp 83) = Value.int .i64 ((i : Int) + (m : Int)) := (lazy_eval hl rfl dp9).trans (hI.hv 9 dp9 (by decide) (by decide) (by decide))
    have dp11 : L 11 = true := hd ⟨11, .data⟩ (by simp) rfl
    have q85 : (lazyA L σ t0 r17_tab d0).eval (.tmp 85) = σ 11 := lazy_eval hl rfl dp11
    have qf : (lazyA L σ t0 r17_tab d0).eval (.func 74) = .func (.func 74) #[] #[] := rfl
    generalize (lazyA L σ t0 r17_tab d0).eval = ρ at *
    have e15 : L 15 = false := hI.no15 (j := 12) (by decide) hL
    exact r17_s12 hl0 hC hlc hsz him hi hgl hgB cg zg qf q79 q80 q83 q85 hI hL dp5 dp11
  case s13 =>
    intro L σ W hL hd hI
    have dp0 : L 0 = true := hd ⟨0, .data⟩ (by simp) rfl
    have q74 : (lazyA L σ t0 r17_tab d0).eval (.tmp 74) = Value.pointer (some ⟨g, 0, none⟩) := (lazy_eval hl rfl dp0).trans (hI.hv 0 dp0 (by decide) (by decide) (by decide))
    generalize (lazyA L σ t0 r17_tab d0).eval = ρ at *
    have e15 : L 15 = false := hI.no15 (j := 13) (by decide) hL
    refine OpIn.of_run (fun w => rfl) (v := Value.pointer (some ⟨g, 0, none⟩)) (W' := W) (by clear hL e15; go_simp) (hI.plain (j := 13) (by decide) rfl (fun h => absurd h (by decide)))
  case s14 =>
    intro L σ W hL hd hI
    have dp13 : L 13 = true := hd ⟨13, .data⟩ (by simp) rfl
    have q87 : (lazyA L σ t0 r17_tab d0).eval (.tmp 87) = Value.pointer (some ⟨g, 0, none⟩) := (lazy_eval hl rfl dp13).trans (hI.hv 13 dp13 (by decide) (by decide) (by decide))
    generalize (lazyA L σ t0 r17_tab d0).eval = ρ at *
    have e15 : L 15 = false := hI.no15 (j := 14) (by decide) hL
    refine OpIn.of_run (fun w => rfl) (v := Value.pointer (some ⟨g, 0, none⟩)) (W' := W) (by clear hL e15; go_simp) (hI.plain (j := 14) (by decide) rfl (fun _ => hd ⟨13, .data⟩ (by simp) rfl))
  case s15 =>
    intro L σ W hL hd hI
    have dp14 : L 14 = true := hd ⟨14, .data⟩ (by simp) rfl
    have q88 : (lazyA L σ t0 r17_tab d0).eval (.tmp 88) = Value.pointer (some ⟨g, 0, none⟩) := (lazy_eval hl rfl dp14).trans (hI.hv 14 dp14 (by decide) (by decide) (by decide))
    have dp12 : L 12 = true := hd ⟨12, .data⟩ (by simp) rfl
    have q86 : (lazyA L σ t0 r17_tab d0).eval (.tmp 86) = σ 12 := lazy_eval hl rfl dp12
    have hall : ∀ j, j < 15 → L j = true := by
      intro j hj
      have : j = 0 ∨ j = 1 ∨ j = 2 ∨ j = 3 ∨ j = 4 ∨ j = 5 ∨ j = 6 ∨ j = 7 ∨ j = 8 ∨ j = 9 ∨ j = 10 ∨ j = 11 ∨ j = 12 ∨ j = 13 ∨ j = 14 := by omega
      rcases this with rfl | rfl | rfl | rfl | rfl | rfl | rfl | rfl | rfl | rfl | rfl | rfl | rfl | rfl | rfl
      · exact hd ⟨0, .phase⟩ (by simp) rfl
      · exact hd ⟨1, .phase⟩ (by simp) rfl
      · exact hd ⟨2, .phase⟩ (by simp) rfl
      · exact hd ⟨3, .phase⟩ (by simp) rfl
      · exact hd ⟨4, .phase⟩ (by simp) rfl
      · exact hd ⟨5, .phase⟩ (by simp) rfl
      · exact hd ⟨6, .phase⟩ (by simp) rfl
      · exact hd ⟨7, .phase⟩ (by simp) rfl
      · exact hd ⟨8, .phase⟩ (by simp) rfl
      · exact hd ⟨9, .phase⟩ (by simp) rfl
      · exact hd ⟨10, .phase⟩ (by simp) rfl
      · exact hd ⟨11, .phase⟩ (by simp) rfl
      · exact hd ⟨12, .phase⟩ (by simp) rfl
      · exact hI.k14 (hd ⟨14, .data⟩ (by simp) rfl)
      · exact hd ⟨14, .data⟩ (by simp) rfl
    generalize (lazyA L σ t0 r17_tab d0).eval = ρ at *
    have e15 := hL
    exact r17_s15 hl0 hC hlc hsz him hi hgl hgB cg zg hgb q88 q86 hI hL hall
end Go.Proofs.Ytiladcdogbeomaa.QRangesPlays

namespace Go.Proofs.Ytiladcdogbeomaa.QRangesPlays
/-- rising spans with room between, from lo on -/
def wf (lo : Int) : List S95 → Prop
  | [] => True
  | x :: r => lo ≤ x.f0 ∧ x.f0 ≤ x.f1 ∧ x.f1 ≤ 1099511627776 ∧ wf (x.f1 + 2) r
theorem wf_mono {a b : Int} (h : b ≤ a) : ∀ {l : List S95}, wf a l → wf b l
  | [], _ => trivial
  | _ :: _, ⟨h1, h2⟩ => ⟨by omega, h2⟩
theorem wf_append {a : Int} : ∀ {l m : List S95}, wf a (l ++ m) ↔ wf a l ∧ wf ((l.getLast?.map (·.f1 + 2)).getD a) m
  | [], m => by simp [wf]
  | [x], m => by simp [wf]; grind
  | x :: y :: r, m => by
    have := @wf_append (x.f1 + 2) (y :: r) m
    have e : ((x :: y :: r).getLast?.map (·.f1 + 2)).getD a = (((y :: r).getLast?.map (·.f1 + 2)).getD (x.f1 + 2)) := by
      simp [List.getLast?_cons]
    rw [e]
    show (_ ∧ _ ∧ _ ∧ wf (x.f1 + 2) ((y :: r) ++ m)) ↔ (_ ∧ _ ∧ _ ∧ wf (x.f1 + 2) (y :: r)) ∧ _
    rw [this]
    grind
/-- the set with a span -/
def ins (f t : Int) : List S95 → List S95
  | [] => [⟨f, t⟩]
  | x :: r => if x.f1 < f - 1 then x :: ins f t r else if x.f0 > t + 1 then ⟨f, t⟩ :: x :: r else ins (min f x.f0) (max t x.f1) r
def has (l : List S95) (n : Int) : Prop := ∃ x ∈ l, x.f0 ≤ n ∧ n ≤ x.f1
theorem ins_cons (f t : Int) (x : S95) (r : List S95) : ins f t (x :: r) = if x.f1 < f - 1 then x :: ins f t r else if x.f0 > t + 1 then ⟨f, t⟩ :: x :: r else ins (min f x.f0) (max t x.f1) r := rfl
theorem wf_ins {lo : Int} : ∀ {l : List S95} {f t : Int}, lo ≤ f → f ≤ t → t ≤ 1099511627776 → wf lo l → wf lo (ins f t l) := by
  intro l
  induction l generalizing lo with
  | nil => intro f t a b c _; exact ⟨a, b, c, trivial⟩
  | cons x r ih =>
    intro f t a b c ⟨h1, h2, h3, h4⟩
    unfold ins
    split
    · rename_i hx
      refine ⟨h1, h2, h3, ih (by omega) b c h4⟩
    · split
      · exact ⟨a, b, c, by show t + 2 ≤ x.f0; omega, h2, h3, h4⟩
      · exact ih (by omega) (by omega) (by omega) (wf_mono (by omega) h4)
theorem has_cons {x : S95} {r : List S95} {n : Int} : has (x :: r) n ↔ (x.f0 ≤ n ∧ n ≤ x.f1) ∨ has r n := by simp [has]
theorem has_ins {lo : Int} : ∀ {l : List S95} {f t : Int} (n : Int), wf lo l → f ≤ t → (has (ins f t l) n ↔ (f ≤ n ∧ n ≤ t) ∨ has l n) := by
  intro l
  induction l generalizing lo with
  | nil => intro f t n _ _; simp [ins, has]
  | cons x r ih =>
    intro f t n ⟨h1, h2, h3, h4⟩ hft
    unfold ins
    split
    · rw [has_cons, ih n h4 hft, has_cons]; grind
    · split
      · rw [has_cons, has_cons]
      · rw [ih n h4 (by omega), has_cons]
        constructor
        · rintro (h | h)
          · by_cases h' : x.f0 ≤ n ∧ n ≤ x.f1
            · exact .inr (.inl h')
            · left; omega
          · exact .inr (.inr h)
        · rintro (h | h | h)
          · left; omega
          · left; omega
          · exact .inr h
theorem wf_lo {lo : Int} {l : List S95} {n : Int} (h : wf lo l) (hn : has l n) : lo ≤ n := by
  induction l generalizing lo with
  | nil => simp [has] at hn
  | cons x r ih =>
    obtain ⟨h1, h2, h3, h4⟩ := h
    rw [has_cons] at hn
    rcases hn with h | h
    · omega
    · have := ih h4 h; omega
theorem wf_mem {lo : Int} : ∀ {l : List S95}, wf lo l → ∀ x ∈ l, lo ≤ x.f0 ∧ x.f0 ≤ x.f1 ∧ x.f1 ≤ 1099511627776 := by
  intro l
  induction l generalizing lo with
  | nil => intro _ x hx; cases hx
  | cons y r ih =>
    intro ⟨h1, h2, h3, h4⟩ x hx
    rcases List.mem_cons.1 hx with rfl | hx
    · exact ⟨h1, h2, h3⟩
    · have := ih h4 x hx; omega
theorem wf_len {lo : Int} : ∀ {l : List S95}, wf lo l → lo ≤ 1099511627778 → 2 * (l.length : Int) ≤ 1099511627778 - lo + 2 := by
  intro l
  induction l generalizing lo with
  | nil => intro _ h; simp; omega
  | cons y r ih =>
    intro ⟨h1, h2, h3, h4⟩ h
    have := ih h4 (by omega)
    simp only [List.length_cons]; omega
/-- Two such sets that have the same numbers are the same. -/
theorem wf_ext {lo lo' : Int} : ∀ {a b : List S95}, wf lo a → wf lo' b → (∀ n, has a n ↔ has b n) → a = b := by
  intro a
  induction a generalizing lo lo' with
  | nil =>
    intro b _ hb h
    cases b with
    | nil => rfl
    | cons y s => exact absurd ((h y.f0).2 (has_cons.2 (.inl ⟨Int.le_refl _, hb.2.1⟩))) (by simp [has])
  | cons x r ih =>
    intro b ha hb h
    cases b with
    | nil => exact absurd ((h x.f0).1 (has_cons.2 (.inl ⟨Int.le_refl _, ha.2.1⟩))) (by simp [has])
    | cons y s =>
      obtain ⟨a1, a2, a3, a4⟩ := ha
      obtain ⟨b1, b2, b3, b4⟩ := hb
      have hx := (h x.f0).1 (has_cons.2 (.inl ⟨Int.le_refl _, a2⟩))
      have hy := (h y.f0).2 (has_cons.2 (.inl ⟨Int.le_refl _, b2⟩))
      have e0 : x.f0 = y.f0 := by
        rw [has_cons] at hx hy
        rcases hx with hx | hx <;> rcases hy with hy | hy
        · omega
        · have := wf_lo a4 hy; omega
        · have := wf_lo b4 hx; omega
        · have := wf_lo a4 hy; have := wf_lo b4 hx; omega
      have e1 : x.f1 = y.f1 := by
        have k1 := (h (x.f1 + 1))
        have k2 := (h (y.f1 + 1))
        rw [has_cons, has_cons] at k1 k2
        rcases Int.lt_trichotomy x.f1 y.f1 with hl | hl | hl
        · have := k1.2 (.inl (by omega))
          rcases this with h | h
          · omega
          · have := wf_lo a4 h; omega
        · exact hl
        · have := k2.1 (.inl (by omega))
          rcases this with h | h
          · omega
          · have := wf_lo b4 h; omega
      have ex : x = y := by cases x; cases y; simp_all
      subst ex
      congr 1
      refine ih a4 b4 (fun n => ?_)
      have hn := h n
      rw [has_cons, has_cons] at hn
      constructor
      · intro hr
        have := wf_lo a4 hr
        rcases hn.1 (.inr hr) with h | h
        · omega
        · exact h
      · intro hr
        have := wf_lo b4 hr
        rcases hn.2 (.inr hr) with h | h
        · omega
        · exact h
/-- the set without a span -/
def rem (f t : Int) : List S95 → List S95
  | [] => []
  | x :: r => (if x.f0 < f then [⟨x.f0, min x.f1 (f - 1)⟩] else []) ++ (if x.f1 > t then [⟨max x.f0 (t + 1), x.f1⟩] else []) ++ rem f t r
theorem rem_cons (f t : Int) (x : S95) (r : List S95) : rem f t (x :: r) = (if x.f0 < f then [⟨x.f0, min x.f1 (f - 1)⟩] else []) ++ (if x.f1 > t then [⟨max x.f0 (t + 1), x.f1⟩] else []) ++ rem f t r := rfl
theorem wf_rem {lo f t : Int} (hft : f ≤ t) : ∀ {l : List S95}, wf lo l → wf lo (rem f t l) := by
  intro l
  induction l generalizing lo with
  | nil => intro _; trivial
  | cons x r ih =>
    intro ⟨h1, h2, h3, h4⟩
    unfold rem
    have hr := ih h4
    split <;> split
    · exact ⟨h1, by simp only []; omega, by simp only []; omega, by simp only []; omega, by simp only []; omega, h3, hr⟩
    · exact ⟨h1, by simp only []; omega, by simp only []; omega, wf_mono (by simp only []; omega) hr⟩
    · exact ⟨by simp only []; omega, by simp only []; omega, h3, hr⟩
    · exact wf_mono (by omega) hr
theorem has_rem {lo f t : Int} (hft : f ≤ t) (n : Int) : ∀ {l : List S95}, wf lo l → (has (rem f t l) n ↔ has l n ∧ ¬ (f ≤ n ∧ n ≤ t)) := by
  intro l
  induction l generalizing lo with
  | nil => intro _; simp [rem, has]
  | cons x r ih =>
    intro ⟨h1, h2, h3, h4⟩
    unfold rem
    have hr := ih h4
    split <;> split <;> simp only [List.cons_append, List.nil_append, has_cons, hr] <;> grind

/-- how many numbers there are -/
def cnt : List S95 → Int
  | [] => 0
  | x :: r => (x.f1 - x.f0 + 1) + cnt r
/-- how many of them lie in a span -/
def ov (f t : Int) : List S95 → Int
  | [] => 0
  | x :: r => max 0 (min t x.f1 - max f x.f0 + 1) + ov f t r
theorem cnt_cons (x : S95) (r : List S95) : cnt (x :: r) = (x.f1 - x.f0 + 1) + cnt r := rfl
theorem ov_cons (f t : Int) (x : S95) (r : List S95) : ov f t (x :: r) = max 0 (min t x.f1 - max f x.f0 + 1) + ov f t r := rfl
theorem ov_above {f t lo : Int} (h : t < lo) : ∀ {l : List S95}, wf lo l → ov f t l = 0 := by
  intro l
  induction l generalizing lo with
  | nil => intro _; rfl
  | cons x r ih =>
    intro ⟨h1, h2, h3, h4⟩
    unfold ov
    rw [ih (by omega) h4]; omega
theorem ov_wide {f t f' t' lo : Int} : ∀ {l : List S95}, wf lo l → f' ≤ lo → f ≤ lo → (t' = t ∨ (t ≤ t' ∧ t' < lo)) → ov f' t' l = ov f t l := by
  intro l
  induction l generalizing lo with
  | nil => intro _ _ _ _; rfl
  | cons x r ih =>
    intro ⟨h1, h2, h3, h4⟩ a b c
    unfold ov
    rw [ih h4 (by omega) (by omega) (by omega)]; omega
theorem cnt_ins {lo : Int} : ∀ {l : List S95} {f t : Int}, wf lo l → f ≤ t → cnt (ins f t l) = cnt l + (t - f + 1) - ov f t l := by
  intro l
  induction l generalizing lo with
  | nil => intro f t _ _; simp [ins, cnt, ov]
  | cons x r ih =>
    intro f t ⟨h1, h2, h3, h4⟩ hft
    unfold ins
    split
    · rename_i hx
      unfold cnt ov
      rw [ih h4 hft]; omega
    · split
      · have e : ov f t (x :: r) = 0 := ov_above (lo := x.f0) (by omega) ⟨Int.le_refl _, h2, h3, h4⟩
        rw [e]
        show (t - f + 1) + cnt (x :: r) = _
        omega
      · rw [ih h4 (by omega)]
        rw [ov_wide (f := f) (t := t) (lo := x.f1 + 2) h4 (by omega) (by omega) (by omega)]
        rw [cnt_cons, ov_cons]; omega
theorem ov_none {lo f t : Int} (hft : f ≤ t) : ∀ {l : List S95}, wf lo l → (∀ n, f ≤ n → n ≤ t → ¬ has l n) → ov f t l = 0 := by
  intro l
  induction l generalizing lo with
  | nil => intro _ _; rfl
  | cons x r ih =>
    intro ⟨h1, h2, h3, h4⟩ h
    unfold ov
    rw [ih h4 (fun n a b hn => h n a b (has_cons.2 (.inr hn)))]
    have := h (max f x.f0)
    rw [has_cons] at this
    by_cases hh : max f x.f0 ≤ min t x.f1
    · exact absurd (.inl ⟨by omega, by omega⟩) (this (by omega) (by omega))
    · omega
theorem rem_none {lo f t : Int} (hft : f ≤ t) : ∀ {l : List S95}, wf lo l → (∀ n, f ≤ n → n ≤ t → ¬ has l n) → rem f t l = l := by
  intro l
  induction l generalizing lo with
  | nil => intro _ _; rfl
  | cons x r ih =>
    intro ⟨h1, h2, h3, h4⟩ h
    unfold rem
    rw [ih h4 (fun n a b hn => h n a b (has_cons.2 (.inr hn)))]
    have := h (max f x.f0)
    rw [has_cons] at this
    have hh : ¬ (max f x.f0 ≤ min t x.f1) := fun hh => absurd (.inl ⟨by omega, by omega⟩) (this (by omega) (by omega))
    by_cases c : x.f1 < f
    · rw [if_pos (by omega), if_neg (by omega)]
      have e : min x.f1 (f - 1) = x.f1 := by omega
      rw [e]; rfl
    · rw [if_neg (by omega), if_pos (by omega)]
      have e : max x.f0 (t + 1) = x.f0 := by omega
      rw [e]; rfl
/-- three parts of a set: ahead of a span, touching it, behind it -/
theorem split2 {lo t : Int} : ∀ {l : List S95}, wf lo l → ∃ B C, l = B ++ C ∧ (∀ x ∈ B, x.f0 ≤ t + 1) ∧ (∀ x ∈ C, t + 1 < x.f0) := by
  intro l
  induction l generalizing lo with
  | nil => intro _; exact ⟨[], [], rfl, by simp, by simp⟩
  | cons x r ih =>
    intro ⟨h1, h2, h3, h4⟩
    by_cases hx : x.f0 ≤ t + 1
    · obtain ⟨B, C, rfl, hB, hC⟩ := ih h4
      refine ⟨x :: B, C, rfl, ?_, hC⟩
      intro y hy
      rcases List.mem_cons.1 hy with rfl | hy
      · exact hx
      · exact hB y hy
    · refine ⟨[], x :: r, rfl, by simp, ?_⟩
      intro y hy
      rcases List.mem_cons.1 hy with rfl | hy
      · omega
      · have := wf_lo h4 (n := y.f0) ⟨y, hy, Int.le_refl _, ?_⟩
        · omega
        · have := wf_mem h4 y hy
          exact this.2.1
theorem split3 {lo f t : Int} : ∀ {l : List S95}, wf lo l → ∃ A B C, l = A ++ B ++ C ∧ (∀ x ∈ A, x.f1 < f - 1) ∧ (∀ x ∈ B, f - 1 ≤ x.f1 ∧ x.f0 ≤ t + 1) ∧ (∀ x ∈ C, f - 1 ≤ x.f1 ∧ t + 1 < x.f0) := by
  intro l
  induction l generalizing lo with
  | nil => intro _; exact ⟨[], [], [], rfl, by simp, by simp, by simp⟩
  | cons x r ih =>
    intro h
    have h' := h
    obtain ⟨h1, h2, h3, h4⟩ := h
    by_cases hx : x.f1 < f - 1
    · obtain ⟨A, B, C, rfl, hA, hB, hC⟩ := ih h4
      refine ⟨x :: A, B, C, rfl, ?_, hB, hC⟩
      intro y hy
      rcases List.mem_cons.1 hy with rfl | hy
      · exact hx
      · exact hA y hy
    · obtain ⟨B, C, e, hB, hC⟩ := split2 (t := t) h'
      have hall : ∀ y ∈ x :: r, f - 1 ≤ y.f1 := by
        intro y hy
        rcases List.mem_cons.1 hy with rfl | hy
        · omega
        · have := wf_mem h4 y hy; omega
      refine ⟨[], B, C, e, by simp, fun y hy => ⟨hall y (by rw [e]; exact List.mem_append_left _ hy), hB y hy⟩, fun y hy => ⟨hall y (by rw [e]; exact List.mem_append_right _ hy), hC y hy⟩⟩

/-- the least begin, the greatest end, as the program finds them -/
def fmin (f : Int) (B : List S95) : Int := B.foldl (fun a x => min a x.f0) f
def fmax (t : Int) (B : List S95) : Int := B.foldl (fun b x => max b x.f1) t
theorem ins_ahead {f t : Int} {m : List S95} : ∀ {A : List S95}, (∀ x ∈ A, x.f1 < f - 1) → ins f t (A ++ m) = A ++ ins f t m := by
  intro A
  induction A with
  | nil => intro _; rfl
  | cons x r ih =>
    intro h
    show ins f t (x :: (r ++ m)) = _
    rw [ins_cons, if_pos (h x (List.mem_cons_self ..)), ih (fun y hy => h y (List.mem_cons_of_mem _ hy))]; rfl
theorem ins_behind {f t : Int} {C : List S95} (hft : f ≤ t) (h : ∀ x ∈ C, t + 1 < x.f0 ∧ x.f0 ≤ x.f1) : ins f t C = ⟨f, t⟩ :: C := by
  cases C with
  | nil => rfl
  | cons x r =>
    have := h x (List.mem_cons_self ..)
    unfold ins
    rw [if_neg (by omega), if_pos (by omega)]
theorem ins_touch {C : List S95} : ∀ {B : List S95} {lo f t : Int}, f ≤ t → (∀ x ∈ B, f - 1 ≤ x.f1 ∧ x.f0 ≤ t + 1) → wf lo (B ++ C) → (∀ x ∈ C, t + 1 < x.f0) → ins f t (B ++ C) = ⟨fmin f B, fmax t B⟩ :: C := by
  intro B
  induction B with
  | nil =>
    intro lo f t hft _ hw hC
    exact ins_behind hft (fun x hx => ⟨hC x hx, (wf_mem hw x hx).2.1⟩)
  | cons x r ih =>
    intro lo f t hft hB ⟨h1, h2, h3, h4⟩ hC
    have hx := hB x (List.mem_cons_self ..)
    show ins f t (x :: (r ++ C)) = _
    unfold ins
    rw [if_neg (by omega), if_neg (by omega), ih (lo := x.f1 + 2) (by omega) ?_ h4 ?_]
    · rfl
    · intro y hy
      have := hB y (List.mem_cons_of_mem _ hy)
      omega
    · intro y hy
      have := hC y hy
      have := (wf_mem h4 y (List.mem_append_right _ hy)).1
      omega
theorem ins_parts {lo f t : Int} {A B C : List S95} (hft : f ≤ t) (hw : wf lo (A ++ B ++ C)) (hA : ∀ x ∈ A, x.f1 < f - 1) (hB : ∀ x ∈ B, f - 1 ≤ x.f1 ∧ x.f0 ≤ t + 1) (hC : ∀ x ∈ C, t + 1 < x.f0) :
    ins f t (A ++ B ++ C) = A ++ ⟨fmin f B, fmax t B⟩ :: C := by
  rw [List.append_assoc, ins_ahead hA]
  rw [List.append_assoc, wf_append] at hw
  rw [ins_touch hft hB hw.2 hC]
/-- the document's way: what lies ahead, what behind, the span -/
def addR : List S95 → List S95 → Int → Int → List S95 → List S95
  | a, b, f, t, [] => a ++ [⟨f, t⟩] ++ b
  | a, b, f, t, x :: r => if x.f1 < f - 1 then addR (a ++ [x]) b f t r else if x.f0 > t + 1 then addR a (b ++ [x]) f t r else addR a b (min f x.f0) (max t x.f1) r
theorem addR_behind {f t : Int} (hft : f ≤ t) : ∀ {r a b : List S95}, (∀ x ∈ r, t + 1 < x.f0 ∧ x.f0 ≤ x.f1) → addR a b f t r = a ++ [⟨f, t⟩] ++ (b ++ r) := by
  intro r
  induction r with
  | nil => intro a b _; simp [addR]
  | cons x r ih =>
    intro a b h
    have hx := h x (List.mem_cons_self ..)
    unfold addR
    rw [if_neg (by omega), if_pos (by omega), ih (fun y hy => h y (List.mem_cons_of_mem _ hy))]
    simp
theorem addR_ins : ∀ {r a : List S95} {lo f t : Int}, f ≤ t → wf lo r → addR a [] f t r = a ++ ins f t r := by
  intro r
  induction r with
  | nil => intro a lo f t _ _; simp [addR, ins]
  | cons x r ih =>
    intro a lo f t hft ⟨h1, h2, h3, h4⟩
    unfold addR ins
    split
    · rw [ih hft h4]; simp
    · split
      · rw [addR_behind hft (fun y hy => by have := wf_mem h4 y hy; omega)]; simp
      · rw [ih (by omega) h4]
/-- the numbers between two that are not in a set: as the program finds them -/
def gps (f t : Int) : Int → List S95 → List S95
  | c, [] => if c ≤ t then [⟨c, t⟩] else []
  | c, x :: r => if f ≤ x.f1 ∧ x.f0 ≤ t then (if x.f0 > c then [⟨c, x.f0 - 1⟩] else []) ++ gps f t (x.f1 + 1) r else gps f t c r
theorem rem_append (f t : Int) (a b : List S95) : rem f t (a ++ b) = rem f t a ++ rem f t b := by
  induction a with
  | nil => rfl
  | cons x r ih => show rem f t (x :: (r ++ b)) = _; rw [rem_cons, rem_cons, ih]; simp
theorem rem_lower {f t : Int} (hft : f ≤ t) : ∀ {o : List S95}, (∀ x ∈ o, x.f0 ≤ x.f1 ∧ x.f1 < f) → rem f t o = o := by
  intro o
  induction o with
  | nil => intro _; rfl
  | cons x r ih =>
    intro h
    have hx := h x (List.mem_cons_self ..)
    rw [rem_cons, ih (fun y hy => h y (List.mem_cons_of_mem _ hy)), if_pos (by omega), if_neg (by omega)]
    have e : min x.f1 (f - 1) = x.f1 := by omega
    rw [e]; rfl
theorem gps_rem {f t : Int} : ∀ {l o : List S95} {lo c : Int}, wf lo l → f ≤ c → (∀ x ∈ o, x.f0 ≤ x.f1 ∧ x.f1 < c) → (c = f ∨ c ≤ lo) → (c = f → ∀ x ∈ o, x.f1 < lo) →
    l.foldl (fun s x => rem x.f0 x.f1 s) (o ++ (if c ≤ t then [⟨c, t⟩] else [])) = o ++ gps f t c l := by
  intro l
  induction l with
  | nil => intro o lo c _ _ _ _ _; rfl
  | cons x r ih =>
    intro o lo c ⟨h1, h2, h3, h4⟩ hc ho hcl hof
    rw [List.foldl_cons, rem_append, rem_lower h2 (fun y hy => ⟨(ho y hy).1, by have := (ho y hy).2; rcases hcl with h | h <;> first | (have := hof h y hy; omega) | omega⟩)]
    unfold gps
    by_cases ht : f ≤ x.f1 ∧ x.f0 ≤ t
    · rw [if_pos ht]
      by_cases hct : c ≤ t
      · rw [if_pos hct]
        have e : rem x.f0 x.f1 [(⟨c, t⟩ : S95)] = (if c < x.f0 then [⟨c, x.f0 - 1⟩] else []) ++ (if x.f1 + 1 ≤ t then [⟨x.f1 + 1, t⟩] else []) := by
          show (if c < x.f0 then [(⟨c, min t (x.f0 - 1)⟩ : S95)] else []) ++ (if t > x.f1 then [⟨max c (x.f1 + 1), t⟩] else []) ++ [] = _
          rw [List.append_nil]
          congr 1
          · by_cases h : c < x.f0
            · rw [if_pos h, if_pos h]; congr 2; omega
            · rw [if_neg h, if_neg h]
          · by_cases h : t > x.f1
            · rw [if_pos h, if_pos (by omega)]; congr 2; omega
            · rw [if_neg h, if_neg (by omega)]
        rw [e, ← List.append_assoc]
        rw [ih (lo := x.f1 + 2) (c := x.f1 + 1) h4 (by omega) ?_ (.inr (by omega)) ?_]
        · simp
        · intro y hy
          rcases List.mem_append.1 hy with hy | hy
          · have := ho y hy; refine ⟨this.1, ?_⟩
            rcases hcl with h | h
            · have := hof h y hy; omega
            · omega
          · by_cases h : c < x.f0
            · rw [if_pos h] at hy
              rw [List.mem_singleton] at hy
              subst hy
              exact ⟨by show c ≤ x.f0 - 1; omega, by show x.f0 - 1 < _; omega⟩
            · rw [if_neg h] at hy; cases hy
        · intro h
          omega
      · rw [if_neg hct]
        have e : rem x.f0 x.f1 [] = (if x.f1 + 1 ≤ t then [(⟨x.f1 + 1, t⟩ : S95)] else []) := by
          rw [if_neg (by omega)]; rfl
        rw [e, ih (lo := x.f1 + 2) (c := x.f1 + 1) h4 (by omega) ?_ (.inr (by omega)) (fun h => by omega)]
        · rw [if_neg (by omega)]; rfl
        · intro y hy
          have := ho y hy; refine ⟨this.1, ?_⟩
          rcases hcl with h | h
          · have := hof h y hy; omega
          · omega
    · rw [if_neg ht]
      have e : rem x.f0 x.f1 (if c ≤ t then [(⟨c, t⟩ : S95)] else []) = (if c ≤ t then [(⟨c, t⟩ : S95)] else []) := by
        by_cases hct : c ≤ t
        · rw [if_pos hct]
          show (if c < x.f0 then [(⟨c, min t (x.f0 - 1)⟩ : S95)] else []) ++ (if t > x.f1 then [⟨max c (x.f1 + 1), t⟩] else []) ++ [] = _
          by_cases h : x.f0 ≤ t
          · rw [if_neg (by omega), if_pos (by omega)]
            have e : max c (x.f1 + 1) = c := by omega
            rw [e]; rfl
          · rw [if_pos (by omega), if_neg (by omega)]
            have e : min t (x.f0 - 1) = t := by omega
            rw [e]; rfl
        · rw [if_neg hct]; rfl
      rw [e, ih (lo := x.f1 + 2) (c := c) h4 hc ho ?_ ?_]
      · rcases hcl with h | h
        · exact .inl h
        · exact .inr (by omega)
      · intro h y hy
        have := hof h y hy; omega

end Go.Proofs.Ytiladcdogbeomaa.QRangesPlays

namespace Go.Proofs.Ytiladcdogbeomaa.Iter
theorem hits_full (zs : List (Int × Int)) (f t : Int) : hits zs f t zs.length = (List.finRange zs.length).filter fun j => tch f t zs[j] := by
  unfold hits; rw [List.take_of_length_le (by simp)]
theorem hits_get (zs : List (Int × Int)) (f t : Int) : (hits zs f t zs.length).map (fun i => zs[i]) = zs.filter (tch f t) := by
  rw [hits_full]
  have h : zs = (List.finRange zs.length).map (fun i => zs[i]) := by
    apply List.ext_getElem
    · simp
    · intro i h1 h2; simp
  conv => rhs; rw [h]
  rw [List.filter_map]; rfl
theorem hits_val (zs : List (Int × Int)) (f t : Int) : (hits zs f t zs.length).map (·.val) = (List.range zs.length).filter fun k => tch f t (zs[k]?.getD (0, 0)) := by
  rw [hits_full]
  have h : List.range zs.length = (List.finRange zs.length).map (·.val) := by
    apply List.ext_getElem
    · simp
    · intro i h1 h2; simp
  rw [h, List.filter_map]
  congr 1
  apply List.filter_congr
  intro i _
  simp
theorem hits_range {A B C : List (Int × Int)} {f t : Int} (hA : ∀ x ∈ A, tch f t x = false) (hB : ∀ x ∈ B, tch f t x = true) (hC : ∀ x ∈ C, tch f t x = false) :
    (hits (A ++ B ++ C) f t (A ++ B ++ C).length).map (·.val) = List.range' A.length B.length := by
  rw [hits_val]
  have e : List.range (A ++ B ++ C).length = List.range' 0 A.length ++ List.range' A.length B.length ++ List.range' (A.length + B.length) C.length := by
    rw [List.range_eq_range', List.length_append, List.length_append]
    rw [← List.range'_append_1, ← List.range'_append_1, Nat.zero_add, Nat.zero_add]
  rw [e, List.filter_append, List.filter_append]
  have e1 : (List.range' 0 A.length).filter (fun k => tch f t ((A ++ B ++ C)[k]?.getD (0, 0))) = [] := by
    rw [List.filter_eq_nil_iff]
    intro k hk
    have hk := List.mem_range'_1.1 hk
    rw [List.append_assoc, List.getElem?_append_left (by omega), List.getElem?_eq_getElem (by omega)]
    simp [hA _ (List.getElem_mem _)]
  have e2 : (List.range' A.length B.length).filter (fun k => tch f t ((A ++ B ++ C)[k]?.getD (0, 0))) = List.range' A.length B.length := by
    rw [List.filter_eq_self]
    intro k hk
    have hk := List.mem_range'_1.1 hk
    rw [List.append_assoc, List.getElem?_append_right (by omega), List.getElem?_append_left (by omega), List.getElem?_eq_getElem (by omega)]
    simp [hB _ (List.getElem_mem _)]
  have e3 : (List.range' (A.length + B.length) C.length).filter (fun k => tch f t ((A ++ B ++ C)[k]?.getD (0, 0))) = [] := by
    rw [List.filter_eq_nil_iff]
    intro k hk
    have hk := List.mem_range'_1.1 hk
    rw [List.getElem?_append_right (by simp; omega), List.getElem?_eq_getElem (by simp; omega)]
    simp [hC _ (List.getElem_mem _)]
  rw [e1, e2, e3]; simp
theorem filter_parts {A B C : List (Int × Int)} {p : Int × Int → Bool} (hA : ∀ x ∈ A, p x = false) (hB : ∀ x ∈ B, p x = true) (hC : ∀ x ∈ C, p x = false) : (A ++ B ++ C).filter p = B := by
  rw [List.filter_append, List.filter_append, List.filter_eq_nil_iff.2 (fun x hx => by simp [hA x hx]), List.filter_eq_self.2 hB, List.filter_eq_nil_iff.2 (fun x hx => by simp [hC x hx])]
  simp

theorem hits_prefix (zs : List (Int × Int)) (f t : Int) (k : Nat) : hits zs f t k <+: hits zs f t zs.length := by
  unfold hits
  rw [List.take_of_length_le (l := List.finRange zs.length) (i := zs.length) (by simp)]
  exact (List.take_prefix k _).filter _
end Go.Proofs.Ytiladcdogbeomaa.Iter

namespace Go.Proofs.Ytiladcdogbeomaa.QRangesPlays
open Go.RowKit Go.Shelf Go.Proofs.YtiladcdogbeomaaW.PrintWords Go.Proofs.YtiladcdogbeomaaW.PrintLast Go.Proofs.YtiladcdogbeomaaW.PrintMore Go.Proofs.Ytiladcdogbeomaa.RowLaws
theorem OwnS.row {W : World} {B : Nat} {v : Value} {xs : List S95} (h : OwnS W B v xs) : Row W v xs := by
  obtain ⟨h1, h2⟩ := h
  rcases h2 with ⟨hv, hn⟩ | ⟨g, cap, cur, hv, hg, hh, hle, hm, hcs, htk⟩
  · exact .inl ⟨hv, List.eq_nil_of_length_eq_zero hn⟩
  · refine .inr ⟨g, cap, hv, ⟨rfl, by unfold maxLen at hm; omega, fun _ => ⟨_, rfl, ?_⟩⟩, hle, (Array.getElem?_eq_some_iff.1 hh).1⟩
    intro j p hj
    have hjl := (List.getElem?_eq_some_iff.1 hj).1
    refine ⟨[.int .i64 p.f0, .int .i64 p.f1], rfl, ⟨_, _, rfl, rfl, rfl⟩, ?_⟩
    intro i u hu
    have hz : k95.sz = 2 := rfl
    rw [hz, add_off, Nat.zero_add]
    have hr : (rowC xs)[j * 2 + i]? = some u := by
      have e : (rowC xs).drop (j * 2) = [.int .i64 p.f0, .int .i64 p.f1] ++ rowC (xs.drop (j + 1)) := by
        rw [rowC_drop, List.drop_eq_getElem_cons hjl]
        have : xs[j] = p := (List.getElem?_eq_some_iff.1 hj).2
        rw [this]; rfl
      rw [← List.getElem?_drop, e, List.getElem?_append_left (List.getElem?_eq_some_iff.1 hu).1]; exact hu
    rw [← htk, List.getElem?_take] at hr
    split at hr
    · have : cur[j * 2 + i]? = some u := by simpa using hr
      simp [World.cell?, hh, this]
    · cases hr
/-- A set that lies at block g. -/
def SetAt (W : World) (g : Nat) (l : List S95) : Prop := ∃ sv, W.heap[g]? = some (.cells #[sv] 121 (0, 0)) ∧ Row W sv l
theorem SetAt.lt {W : World} {g : Nat} {l : List S95} (h : SetAt W g l) : g < W.heap.size := by
  obtain ⟨sv, h1, _⟩ := h
  exact lt_of_block h1
theorem SetAt.below {W W' : World} {g : Nat} {l : List S95} (h : SetAt W g l) (hb : Below W.heap.size W W') : SetAt W' g l := by
  have hl := h.lt
  obtain ⟨sv, h1, h2⟩ := h
  exact ⟨sv, (hb.block g hl).trans h1, h2.below hb⟩
theorem SetAt.isSet {W : World} {g : Nat} {l : List S95} (h : SetAt W g l) : IsSet W g l := by
  obtain ⟨sv, h1, h2⟩ := h
  exact h2.set (cell_of_one h1)
/-- A row of spans stays where a set turns. -/
theorem C_only {W W' : World} {g : Nat} {A : Option Addr} {n : Nat} {l : List S95} (h : Kd.C k95 W A n l) (ho : Only g W W') {v : Value} (hg : W.heap[g]? = some (.cells #[v] 121 (0, 0))) (hv : ∀ k i, v ≠ .int k i) : Kd.C k95 W' A n l := by
  refine ⟨h.1, h.2.1, fun hn => ?_⟩
  obtain ⟨b, o, hA, z0, _⟩ := row_at h 0 (by have := h.1; omega)
  subst hA
  refine ⟨_, rfl, ?_⟩
  intro j p hj
  obtain ⟨ad, hA, hc⟩ := h.2.2 hn
  injection hA with hA
  subst hA
  obtain ⟨c, h1, h2, h3⟩ := hc j p hj
  refine ⟨c, h1, h2, fun i u hu => ?_⟩
  have hcell := h3 i u hu
  rw [add_off] at hcell ⊢
  have hne : b ≠ g := by
    intro e
    subst e
    have z1 : (#[v] : Array Value)[o + 0 * 2]? = some (.int .i64 (l[0]'(by have := h.1; omega)).f0) := by simpa [World.cell?, hg] using z0
    have ho0 : o + 0 * 2 < 1 := by simpa using (Array.getElem?_eq_some_iff.1 z1).1
    have e0 : o + 0 * 2 = 0 := by omega
    rw [e0] at z1
    exact hv _ _ (by simpa using z1)
  exact ho.cell (p := ⟨b, _, none⟩) hne hcell
theorem Row.slice {W : World} {sv : Value} {l : List S95} (h : Row W sv l) : ∃ A c, sv = .slice A l.length c ∧ l.length ≤ c ∧ Kd.C k95 W A l.length l := by
  rcases h with ⟨rfl, rfl⟩ | ⟨b, c, rfl, h2, h3, h4⟩
  · exact ⟨none, 0, rfl, Nat.le_refl _, Kd.C_nil _ _⟩
  · exact ⟨_, c, rfl, h3, h2⟩
theorem Row.only {W W' : World} {g : Nat} {sv v : Value} {l : List S95} (h : Row W sv l) (ho : Only g W W') (hg : W.heap[g]? = some (.cells #[v] 121 (0, 0))) (hv : ∀ k i, v ≠ .int k i) : Row W' sv l := by
  rcases h with h | ⟨b, c, rfl, h2, h3, h4⟩
  · exact .inl h
  · exact .inr ⟨b, c, rfl, C_only h2 ho hg hv, h3, Nat.lt_of_lt_of_le h4 ho.size⟩
theorem Row.noint {W : World} {sv : Value} {l : List S95} (h : Row W sv l) : ∀ k i, sv ≠ .int k i := by
  obtain ⟨A, c, rfl, _⟩ := h.slice
  intro k i e; cases e
/-- Another set, and a row of spans, stay where a set turns. -/
theorem SetAt.only {W W' : World} {g g' : Nat} {l l' : List S95} (h : SetAt W g' l') (ho : Only g W W') (hs : SetAt W g l) (hne : g' ≠ g) : SetAt W' g' l' := by
  have hl := h.lt
  obtain ⟨sv, h1, h2⟩ := h
  obtain ⟨tv, k1, k2⟩ := hs
  exact ⟨sv, (ho.block g' hl (by intro e; injection e; exact hne ‹_›)).trans h1, h2.only ho k1 k2.noint⟩
theorem SetAt.rows {W W' : World} {g n : Nat} {A : Option Addr} {l m : List S95} (hs : SetAt W g l) (ho : Only g W W') (h : Kd.C k95 W A n m) : Kd.C k95 W' A n m := by
  obtain ⟨tv, k1, k2⟩ := hs
  exact C_only h ho k1 k2.noint
end Go.Proofs.Ytiladcdogbeomaa.QRangesPlays

namespace Go.Proofs.Ytiladcdogbeomaa.QRangesPlays
open Go.RowKit Go.Shelf Iter
def xF (zs : List (Int × Int)) (f : Int) (pre : List (Fin zs.length)) : Int := pre.foldl (fun a i => if zs[i].1 < a then zs[i].1 else a) f
def xT (zs : List (Int × Int)) (t : Int) (pre : List (Fin zs.length)) : Int := pre.foldl (fun b i => if b < zs[i].2 then zs[i].2 else b) t
def fst {n : Nat} : List (Fin n) → Int
  | [] => -1
  | i :: _ => (i.val : Int)
theorem xF_map (zs : List (Int × Int)) (f : Int) (pre : List (Fin zs.length)) : xF zs f pre = (pre.map (fun i => zs[i])).foldl (fun a z => if z.1 < a then z.1 else a) f := by
  unfold xF; rw [List.foldl_map]
theorem xT_map (zs : List (Int × Int)) (t : Int) (pre : List (Fin zs.length)) : xT zs t pre = (pre.map (fun i => zs[i])).foldl (fun b z => if b < z.2 then z.2 else b) t := by
  unfold xT; rw [List.foldl_map]
theorem fold_min (B : List S95) : ∀ f : Int, (B.map pr).foldl (fun a (z : Int × Int) => if z.1 < a then z.1 else a) f = fmin f B := by
  induction B with
  | nil => intro f; rfl
  | cons x r ih =>
    intro f
    show (r.map pr).foldl _ (if x.f0 < f then x.f0 else f) = fmin (min f x.f0) r
    rw [show (if x.f0 < f then x.f0 else f) = min f x.f0 by omega]
    exact ih _
theorem fold_max (B : List S95) : ∀ t : Int, (B.map pr).foldl (fun b (z : Int × Int) => if b < z.2 then z.2 else b) t = fmax t B := by
  induction B with
  | nil => intro t; rfl
  | cons x r ih =>
    intro t
    show (r.map pr).foldl _ (if t < x.f1 then x.f1 else t) = fmax (max t x.f1) r
    rw [show (if t < x.f1 then x.f1 else t) = max t x.f1 by omega]
    exact ih _
theorem tch_pr (f t : Int) (x : S95) : tch f t (pr x) = (decide (f ≤ x.f1) && decide (x.f0 ≤ t)) := rfl
section
variable {lo f t : Int} {l A B C : List S95}
theorem parts_false {p q : Int} {A : List S95} (h : ∀ x ∈ A, x.f1 < p ∨ q < x.f0) : ∀ z ∈ A.map pr, tch p q z = false := by
  intro z hz
  obtain ⟨x, hx, rfl⟩ := List.mem_map.1 hz
  rw [tch_pr]
  rcases h x hx with h | h
  · simp [show ¬ (p ≤ x.f1) by omega]
  · simp [show ¬ (x.f0 ≤ q) by omega]
theorem parts_true {p q : Int} {A : List S95} (h : ∀ x ∈ A, p ≤ x.f1 ∧ x.f0 ≤ q) : ∀ z ∈ A.map pr, tch p q z = true := by
  intro z hz
  obtain ⟨x, hx, rfl⟩ := List.mem_map.1 hz
  rw [tch_pr]
  simp [h x hx]
/-- What is touched. -/
theorem add_hits (p q : Int) (hA : ∀ x ∈ A, x.f1 < p ∨ q < x.f0) (hB : ∀ x ∈ B, p ≤ x.f1 ∧ x.f0 ≤ q) (hC : ∀ x ∈ C, x.f1 < p ∨ q < x.f0) :
    (hits ((A ++ B ++ C).map pr) p q ((A ++ B ++ C).map pr).length).map (·.val) = List.range' A.length B.length ∧ (hits ((A ++ B ++ C).map pr) p q ((A ++ B ++ C).map pr).length).map (fun i => ((A ++ B ++ C).map pr)[i]) = B.map pr := by
  have e : (A ++ B ++ C).map pr = A.map pr ++ B.map pr ++ C.map pr := by simp
  constructor
  · rw [e, hits_range (parts_false hA) (parts_true hB) (parts_false hC), List.length_map, List.length_map]
  · rw [hits_get, e, filter_parts (parts_false hA) (parts_true hB) (parts_false hC)]
theorem fst_val {n : Nat} {ys : List (Fin n)} {a b : Nat} (h : ys.map (·.val) = List.range' a b) (hne : ys ≠ []) : fst ys = (a : Int) ∧ ys.length = b := by
  have hl : ys.length = b := by have := congrArg List.length h; simpa using this
  cases ys with
  | nil => exact absurd rfl hne
  | cons y r =>
    cases b with
    | zero => simp at hl
    | succ b =>
      rw [List.range'_succ] at h
      simp only [List.map_cons] at h
      injection h with h1 h2
      exact ⟨by show (y.val : Int) = _; rw [h1], hl⟩
/-- The three parts, from the set. -/
theorem add_parts (hw : wf lo l) (hft : f ≤ t) : ∃ A B C, l = A ++ B ++ C ∧ (∀ x ∈ A, x.f1 < f - 1) ∧ (∀ x ∈ B, f - 1 ≤ x.f1 ∧ x.f0 ≤ t + 1) ∧ (∀ x ∈ C, f - 1 ≤ x.f1 ∧ t + 1 < x.f0 ∧ x.f0 ≤ x.f1 ∧ x.f1 ≤ 1099511627776) ∧ ins f t l = A ++ ⟨fmin f B, fmax t B⟩ :: C := by
  obtain ⟨A, B, C, rfl, hA, hB, hC⟩ := split3 (f := f) (t := t) hw
  exact ⟨A, B, C, rfl, hA, hB, fun x hx => ⟨(hC x hx).1, (hC x hx).2, (wf_mem hw x (List.mem_append_right _ hx)).2.1, (wf_mem hw x (List.mem_append_right _ hx)).2.2⟩, ins_parts hft hw hA hB (fun x hx => (hC x hx).2)⟩
theorem add_some (hw : wf lo l) (hft : f ≤ t) {y0 : Fin (l.map pr).length} {yr : List (Fin (l.map pr).length)} (hy : y0 :: yr = hits (l.map pr) (f - 1) (t + 1) (l.map pr).length) :
    y0.val + (y0 :: yr).length ≤ l.length ∧ l.take y0.val ++ [(⟨xF (l.map pr) f (y0 :: yr), xT (l.map pr) t (y0 :: yr)⟩ : S95)] ++ l.drop (y0.val + (y0 :: yr).length) = ins f t l := by
  obtain ⟨A, B, C, rfl, hA, hB, hC, hi⟩ := add_parts (f := f) (t := t) hw hft
  obtain ⟨h1, h2⟩ := add_hits (A := A) (B := B) (C := C) (f - 1) (t + 1) (fun x hx => .inl (hA x hx)) hB (fun x hx => .inr (hC x hx).2.1)
  rw [← hy] at h1 h2
  obtain ⟨h3, h4⟩ := fst_val h1 (by simp)
  have h3' : y0.val = A.length := by have : (y0.val : Int) = A.length := h3; omega
  have eF : xF ((A ++ B ++ C).map pr) f (y0 :: yr) = fmin f B := by rw [xF_map, h2, fold_min]
  have eT : xT ((A ++ B ++ C).map pr) t (y0 :: yr) = fmax t B := by rw [xT_map, h2, fold_max]
  rw [h4, h3', hi, eF, eT]
  refine ⟨by simp, ?_⟩
  rw [List.append_assoc, List.append_assoc, List.take_left']
  · have e : (A ++ (B ++ C)).drop (A.length + B.length) = C := by rw [← List.append_assoc, List.drop_left' (by simp)]
    rw [e]; simp
  · rfl
/-- Where nothing is touched: the first span behind, or the end. -/
theorem add_none (hw : wf lo l) (hft : f ≤ t) (hy : [] = hits (l.map pr) (f - 1) (t + 1) (l.map pr).length) :
    ∃ k, k ≤ l.length ∧ l.take k ++ [(⟨f, t⟩ : S95)] ++ l.drop (k + 0) = ins f t l ∧ (hits (l.map pr) t 1099511627776 (l.map pr).length = [] → k = l.length) ∧ (∀ y r, hits (l.map pr) t 1099511627776 (l.map pr).length = y :: r → y.val = k) := by
  obtain ⟨A, B, C, rfl, hA, hB, hC, hi⟩ := add_parts (f := f) (t := t) hw hft
  obtain ⟨h1, h2⟩ := add_hits (A := A) (B := B) (C := C) (f - 1) (t + 1) (fun x hx => .inl (hA x hx)) hB (fun x hx => .inr (hC x hx).2.1)
  rw [← hy] at h1
  have hB0 : B = [] := by
    cases B with
    | nil => rfl
    | cons x r => rw [List.length_cons, List.range'_succ] at h1; cases h1
  subst hB0
  obtain ⟨k1, _⟩ := add_hits (A := A) (B := C) (C := []) t 1099511627776 (fun x hx => .inl (by have := hA x hx; omega)) (fun x hx => by have := hC x hx; omega) (by simp)
  have e : A ++ [] ++ C = A ++ C ++ [] := by simp
  rw [e]
  refine ⟨A.length, by simp, ?_, ?_, ?_⟩
  · rw [show A ++ C ++ [] = A ++ [] ++ C by simp, hi]; simp [fmin, fmax]
  · intro h
    rw [h] at k1
    cases C with
    | nil => simp
    | cons x r => rw [List.length_cons, List.range'_succ] at k1; cases k1
  · intro y r h
    obtain ⟨h3, _⟩ := fst_val k1 (by rw [h]; simp)
    rw [h] at h3
    have : (y.val : Int) = A.length := h3
    omega
end
end Go.Proofs.Ytiladcdogbeomaa.QRangesPlays

namespace Go.Proofs.Ytiladcdogbeomaa.QRangesPlays
open Go.RowKit Go.Shelf Go.Proofs.YtiladcdogbeomaaW.PrintWords Go.Proofs.YtiladcdogbeomaaW.PrintLast Go.Proofs.YtiladcdogbeomaaW.PrintMore
attribute [local go_sem] Oper.semAt_some
open Iter Go.Proofs.Ytiladcdogbeomaa.RowLaws
/-- A new block of one cell; of two. -/
theorem alc1 (W : World) (v : Value) (t : TypeId) : ∃ W1, W.alloc (.cells #[v] t) = W1 ∧ W1.heap.size = W.heap.size + 1 ∧ Below W.heap.size W W1 ∧ W1.cell? ⟨W.heap.size, 0, none⟩ = some v ∧ W1.frozen? ⟨W.heap.size, 0, none⟩ = false :=
  ⟨_, rfl, by simp, (Below.refl _ _).alloc (Nat.le_refl _) _, (cell_new_l W v t).1, (cell_new_l W v t).2⟩
theorem alc2 (W : World) (u v : Value) (t : TypeId) : ∃ W1, W.alloc (.cells #[u, v] t) = W1 ∧ W1.heap.size = W.heap.size + 1 ∧ Below W.heap.size W W1 ∧ W1.cell? ⟨W.heap.size, 0, none⟩ = some u ∧ W1.cell? ⟨W.heap.size, 1, none⟩ = some v ∧ W1.frozen? ⟨W.heap.size, 0, none⟩ = false ∧ W1.frozen? ⟨W.heap.size, 1, none⟩ = false := by
  have h : (W.alloc (.cells #[u, v] t)).heap[W.heap.size]? = some (.cells #[u, v] t) := heap_alloc_new W _
  refine ⟨_, rfl, by simp, (Below.refl _ _).alloc (Nat.le_refl _) _, ?_, ?_, ?_, ?_⟩
  · unfold World.cell?; rw [h]; rfl
  · unfold World.cell?; rw [h]; rfl
  · unfold World.frozen?; rw [h]; rfl
  · unfold World.frozen?; rw [h]; rfl
theorem setCell_put (W : World) (p : Addr) (u : Value) {v : Value} (h : W.cell? p = some v) : (W.setCell p u).cell? p = some u := World.cell?_setCell_same' _ _ _ (by rw [h]; rfl)
/-- What a round of Add's first loop leaves, from the world behind the count on. -/
theorem add_round {W W3 : World} {X s n₀ : Nat} {mn mx fi nn : Int} {v0 v1 : Value} (hn : n₀ ≤ X) (hs : s < X)
    (k3 : ∀ p : Addr, p.block ≠ X + 1 → p.block ≠ X + 1 + 1 → W3.cell? p = W.cell? p) (f3 : ∀ p : Addr, W3.frozen? p = W.frozen? p) (ko : KeepsOthers W W3) (b3 : Below n₀ W W3)
    (c0 : W.cell? ⟨X, 0, none⟩ = some v0) (c1 : W.cell? ⟨X, 1, none⟩ = some v1) (c2 : W3.cell? ⟨X + 1, 0, none⟩ = some (.int .i64 fi)) (c3 : W3.cell? ⟨X + 1 + 1, 0, none⟩ = some (.int .i64 nn)) :
    ∃ W4, ((W3.drew.setCell ⟨X, 0, none⟩ (.int .i64 mn)).setCell ⟨X, 1, none⟩ (.int .i64 mx)) = W4 ∧ KeepsOthers W W4 ∧ Iter.Kp n₀ (X + 1 + 1 + 1 + 1) (X + 1 + 1 + 1 + 1 + 1) W W4 ∧ W4.cell? ⟨X, 0, none⟩ = some (.int .i64 mn) ∧ W4.cell? ⟨X, 1, none⟩ = some (.int .i64 mx) ∧ W4.cell? ⟨X + 1, 0, none⟩ = some (.int .i64 fi) ∧ W4.cell? ⟨X + 1 + 1, 0, none⟩ = some (.int .i64 nn) ∧
      W4.cell? ⟨s, 0, none⟩ = W.cell? ⟨s, 0, none⟩ ∧ (∀ p, W4.frozen? p = W.frozen? p) ∧ Below n₀ W W4 := by
  have e : ∀ p : Addr, p.block ≠ X → ((W3.drew.setCell ⟨X, 0, none⟩ (.int .i64 mn)).setCell ⟨X, 1, none⟩ (.int .i64 mx)).cell? p = W3.cell? p := by
    intro p hp
    rw [World.cell?_setCell_other _ _ _ _ (fun h => hp (by rw [← h])), World.cell?_setCell_other _ _ _ _ (fun h => hp (by rw [← h]))]
    rfl
  have hd0 : W3.drew.cell? ⟨X, 0, none⟩ = some v0 := (k3 ⟨X, 0, none⟩ (by show X ≠ X + 1; omega) (by show X ≠ X + 1 + 1; omega)).trans c0
  have hd1 : W3.drew.cell? ⟨X, 1, none⟩ = some v1 := (k3 ⟨X, 1, none⟩ (by show X ≠ X + 1; omega) (by show X ≠ X + 1 + 1; omega)).trans c1
  have hb : Below n₀ W ((W3.drew.setCell ⟨X, 0, none⟩ (.int .i64 mn)).setCell ⟨X, 1, none⟩ (.int .i64 mx)) := ((b3.drew).setCell (p := ⟨X, 0, none⟩) hn _).setCell (p := ⟨X, 1, none⟩) hn _
  refine ⟨_, rfl, ((ko.trans (KeepsOthers.drew W3)).trans (KeepsOthers.setCell _ _ _)).trans (KeepsOthers.setCell _ _ _), ⟨hb, ?_, ?_⟩, ?_, ?_, ?_, ?_, ?_, ?_, hb⟩
  · rw [e _ (by show X + 1 + 1 + 1 + 1 ≠ X; omega)]; exact k3 _ (by show X + 1 + 1 + 1 + 1 ≠ X + 1; omega) (by show X + 1 + 1 + 1 + 1 ≠ X + 1 + 1; omega)
  · rw [e _ (by show X + 1 + 1 + 1 + 1 + 1 ≠ X; omega)]; exact k3 _ (by show X + 1 + 1 + 1 + 1 + 1 ≠ X + 1; omega) (by show X + 1 + 1 + 1 + 1 + 1 ≠ X + 1 + 1; omega)
  · rw [World.cell?_setCell_other _ _ _ _ (by simp)]; exact setCell_put _ _ _ hd0
  · exact setCell_put _ _ _ ((World.cell?_setCell_other _ _ _ _ (by simp)).trans hd1)
  · rw [e _ (by show X + 1 ≠ X; omega)]; exact c2
  · rw [e _ (by show X + 1 + 1 ≠ X; omega)]; exact c3
  · rw [e _ (by show s ≠ X; omega)]; exact k3 _ (by show s ≠ X + 1; omega) (by show s ≠ X + 1 + 1; omega)
  · intro p; rw [World.frozen?_setCell, World.frozen?_setCell]; exact f3 p
theorem Row.below' {W W' : World} {sv : Value} {l : List S95} (h : Row W sv l) (hb : Below W.heap.size W W') : Row W' sv l := h.below hb
theorem C_cells {W W' : World} {A : Option Addr} {n : Nat} {l : List S95} (h : Kd.C k95 W A n l) (hc : ∀ (p : Addr) v, W.cell? p = some v → W'.cell? p = some v) : Kd.C k95 W' A n l := by
  refine ⟨h.1, h.2.1, fun hn => ?_⟩
  obtain ⟨ad, hA, h1⟩ := h.2.2 hn
  refine ⟨ad, hA, fun j p hj => ?_⟩
  obtain ⟨c, h2, h3, h4⟩ := h1 j p hj
  exact ⟨c, h2, h3, fun i u hu => hc _ _ (h4 i u hu)⟩
theorem SetAt.putD {W : World} {g D : Nat} {l : List S95} {o : Obj} (h : SetAt W g l) (hD : W.heap[D]? = some o) (ho : o.isCells = false) {o' : Obj} : SetAt (W.putObj D o') g l := by
  obtain ⟨sv, h1, h2⟩ := h
  have hne : g ≠ D := by intro e; subst e; rw [h1] at hD; injection hD with hD; subst hD; cases ho
  refine ⟨sv, (World.putObj_heap_other hne).trans h1, ?_⟩
  rcases h2 with h2 | ⟨b, c, rfl, k2, k3, k4⟩
  · exact .inl h2
  · exact .inr ⟨b, c, rfl, C_cells k2 (fun p v hp => cell_kept hp (grownBy_putObj' _ D o') (fun r e => by cases e; exact ⟨_, hD, ho⟩)), k3, by simpa using k4⟩
/-- A set whose row lies at or beyond B. -/
def SetOwn (B : Nat) (W : World) (g : Nat) (l : List S95) : Prop := ∃ sv, W.heap[g]? = some (.cells #[sv] 121 (0, 0)) ∧ OwnS W B sv l
theorem SetOwn.setAt {B : Nat} {W : World} {g : Nat} {l : List S95} (h : SetOwn B W g l) : SetAt W g l := by
  obtain ⟨sv, h1, h2⟩ := h
  exact ⟨sv, h1, h2.row⟩
theorem SetOwn.below {B : Nat} {W W' : World} {g : Nat} {l : List S95} (h : SetOwn B W g l) (hb : Below W.heap.size W W') : SetOwn B W' g l := by
  obtain ⟨sv, h1, h2⟩ := h
  exact ⟨sv, (hb.block g (lt_of_block h1)).trans h1, h2.below hb⟩
theorem SetOwn.putD {B : Nat} {W : World} {g D : Nat} {l : List S95} {o : Obj} (h : SetOwn B W g l) (hD : W.heap[D]? = some o) (ho : o.isCells = false) {o' : Obj} : SetOwn B (W.putObj D o') g l := by
  obtain ⟨sv, h1, h2⟩ := h
  have hne : g ≠ D := by intro e; subst e; rw [h1] at hD; injection hD with hD; subst hD; cases ho
  exact ⟨sv, (World.putObj_heap_other hne).trans h1, ownsRow_putObj h2 _ hD ho⟩
/-- What a call on a set leaves: the set, nothing else turned; its row is new, or nothing turned at all. -/
def SetNew (w w' : World) (g : Nat) (l : List S95) : Prop := SetAt w' g l ∧ Only g w w' ∧ (SetOwn w.heap.size w' g l ∨ Below w.heap.size w w')
theorem only_putD {g D : Nat} {a w : World} {o' : Obj} (h : Only g a w) (hD : a.heap.size ≤ D) : Only g a (w.putObj D o') :=
  ⟨h.os, h.tape, h.output, Nat.le_trans h.size (by simp), fun k hk hn => (World.putObj_heap_other (by omega)).trans (h.block k hk hn)⟩
theorem own_rec {β : Type} {B D : Nat} {ds : Option (List Deferred)} (h : D < B) : OwnFrom B (fun (_ : β) W => W.heap[D]? = some (.deferred ds)) :=
  fun _ W W' row hs hg hr => (hg.block D (Array.getElem?_eq_some_iff.1 hs).1 (fun e => by have := (hr D e.symm).1; omega)).trans hs
set_option maxRecDepth 100000 in
theorem may_calls (f t : Int) (w : World) :
    Calls Try.prog 72 #[.int .i64 f, .int .i64 t] w fun e w' => e = .returned (.bool (decide (0 ≤ f) && decide (f ≤ t) && decide (t ≤ 1099511627776))) ∧ ∃ n, w' = w.drewN n := by
  by_cases h1 : 0 ≤ f
  · by_cases h2 : f ≤ t
    · have d1 : decide (0 ≤ f) = true := decide_eq_true h1
      have d2 : decide (f ≤ t) = true := decide_eq_true h2
      go_enter Try.func72, Try.ntmps72
      go_wp2
      go_ret
      exact ⟨by simp [d1, d2], 0, rfl⟩
    · have d1 : decide (0 ≤ f) = true := decide_eq_true h1
      have d2 : decide (f ≤ t) = false := decide_eq_false h2
      go_enter Try.func72, Try.ntmps72
      go_wp2
      go_ret
      exact ⟨by simp [d1, d2], 0, rfl⟩
  · have d1 : decide (0 ≤ f) = false := decide_eq_false h1
    go_enter Try.func72, Try.ntmps72
    go_wp2
    go_ret
    exact ⟨by simp [d1], 0, rfl⟩
set_option maxRecDepth 100000 in
set_option maxHeartbeats 4000000 in
theorem Add_in (g : Nat) (f t : Int) (l : List S95) (w : World) (hs : SetAt w g l) (hw : wf 0 l) (hf : 0 ≤ f) (hft : f ≤ t) (ht : t ≤ 1099511627776) :
    CallsIn Fence.wide 5 Try.prog 37 #[.pointer (some ⟨g, 0, none⟩), .int .i64 f, .int .i64 t] w fun e w' => e = .returned (.bool (decide (cntF l < cntF (ins f t l)))) ∧ SetOwn w.heap.size w' g (ins f t l) ∧ Only g w w' := by
  have hSA := Aside0.mk hs
  obtain ⟨sv, hgb, hR⟩ := hs
  have hg : w.cell? ⟨g, 0, none⟩ = some sv := cell_of_one hgb
  have hl : l.length ≤ 549755813890 := by have := wf_len hw (by omega); omega
  have hwi := Aside0.mk (wf_ins (f := f) (t := t) hf hft ht hw)
  have hli : (ins f t l).length ≤ 549755813890 := by have := wf_len hwi.out (by omega); omega
  have HGB := Aside0.mk hgb
  clear hgb
  have HM := Aside0.mk (may_calls f t)
  have HC := Aside0.mk (fun (W : World) (hS : IsSet W g l) => Set_Count.calls g l W hS (by omega))
  have HS := Aside0.mk (hR.set hg)
  have hm : (decide (0 ≤ f) && decide (f ≤ t) && decide (t ≤ 1099511627776)) = true := by simp [hf, hft, ht]
  rw [hm] at HM
  refine callsIn_of_wp_marks Try.func37 rfl trivial ?_ rfl
  simp only [Try.ntmps37, List.size_toArray, List.length_cons, List.length_nil, Nat.reduceAdd, Nat.reduceSub, Array.replicate_succ, Array.replicate_zero, List.push_toArray, List.append_toArray, List.nil_append, List.cons_append]
  gi_wp2
  refine ⟨trivial, (callsIn_wide.2 (HM.out _)).mono ?_⟩
  rintro e w' ⟨rfl, nd, rfl⟩
  gi_wp2
  have HB1 : Below w.heap.size w ((w.alloc (.cells #[.pointer (some ⟨g, 0, none⟩)] 70)).drewN nd) := pw_below_drewN (below_alloc (Below.refl _ _) _) _
  have hs0 := (cell_new_l w (.pointer (some ⟨g, 0, none⟩)) 70).1
  refine ⟨trivial, (callsIn_wide.2 (HC.out _ (HS.out.below HB1))).mono ?_⟩
  rintro e w2 ⟨rfl, hb2⟩
  have hz2 : w.heap.size < w2.heap.size := by have := hb2.size; simp at this; omega
  have hs2 : w2.cell? ⟨w.heap.size, 0, none⟩ = some (.pointer (some ⟨g, 0, none⟩)) := by
    have hb3 : Below (w.alloc (.cells #[.pointer (some ⟨g, 0, none⟩)] 70)).heap.size (w.alloc (.cells #[.pointer (some ⟨g, 0, none⟩)] 70)) ((w.alloc (.cells #[.pointer (some ⟨g, 0, none⟩)] 70)).drewN nd) := pw_below_drewN (Below.refl _ _) nd
    have h1 := hb3.cell (p := ⟨w.heap.size, 0, none⟩) (by simp)
    exact (hb2.cell (p := ⟨w.heap.size, 0, none⟩) (by simp)).trans (h1.trans hs0)
  have HB2 : Below w.heap.size w w2 := below_step HB1 hb2
  clear HB1 hs0 hb2
  have hs5 : ∀ o1 o2 o3, (((w2.alloc o1).alloc o2).alloc o3).cell? ⟨w.heap.size, 0, none⟩ = some (.pointer (some ⟨g, 0, none⟩)) := fun o1 o2 o3 => cell_alloc_l _ (cell_alloc_l _ (cell_alloc_l _ hs2))
  gi_wp2
  refine ⟨trivial, (all_in Fence.wide 4 trivial rfl _ _ _ _).mono ?_⟩
  rintro e w' ⟨rfl, rfl⟩
  gi_wp2
  obtain ⟨X, hX⟩ : ∃ X, w2.heap.size = X := ⟨_, rfl⟩
  have hW : ∃ W0, ((((((w2.alloc (.cells #[.int .i64 f, .int .i64 t] 95)).alloc (.cells #[.int .i64 (-1)] 3)).alloc (.cells #[.int .i64 0] 3)).alloc (.cells #[.pointer (some ⟨g, 0, none⟩)] 70)).alloc (.cells #[.int .i64 (f - 1)] 3)).alloc (.cells #[.int .i64 (t + 1)] 3)) = W0 ∧ W0.heap.size = X + 6 ∧ Below w.heap.size w W0 ∧ W0.cell? ⟨X, 0, none⟩ = some (.int .i64 f) ∧ W0.cell? ⟨X, 1, none⟩ = some (.int .i64 t) ∧ W0.cell? ⟨X + 1, 0, none⟩ = some (.int .i64 (-1)) ∧ W0.cell? ⟨X + 1 + 1, 0, none⟩ = some (.int .i64 0) ∧
      W0.cell? ⟨X + 1 + 1 + 1, 0, none⟩ = some (.pointer (some ⟨g, 0, none⟩)) ∧ W0.cell? ⟨X + 1 + 1 + 1 + 1, 0, none⟩ = some (.int .i64 (f - 1)) ∧ W0.cell? ⟨X + 1 + 1 + 1 + 1 + 1, 0, none⟩ = some (.int .i64 (t + 1)) ∧ W0.cell? ⟨w.heap.size, 0, none⟩ = some (.pointer (some ⟨g, 0, none⟩)) ∧
      W0.frozen? ⟨X, 0, none⟩ = false ∧ W0.frozen? ⟨X, 1, none⟩ = false ∧ W0.frozen? ⟨X + 1, 0, none⟩ = false ∧ W0.frozen? ⟨X + 1 + 1, 0, none⟩ = false := by
    obtain ⟨A1, e1, s1, b1, p1, p2, f1, f2⟩ := alc2 w2 (.int .i64 f) (.int .i64 t) 95
    rw [e1]
    obtain ⟨A2, e2, s2, b2, p3, f3⟩ := alc1 A1 (.int .i64 (-1)) 3
    rw [e2]
    obtain ⟨A3, e3, s3, b3, p4, f4⟩ := alc1 A2 (.int .i64 0) 3
    rw [e3]
    obtain ⟨A4, e4, s4, b4, p5, f5⟩ := alc1 A3 (.pointer (some ⟨g, 0, none⟩)) 70
    rw [e4]
    obtain ⟨A5, e5, s5, b5, p6, f6⟩ := alc1 A4 (.int .i64 (f - 1)) 3
    rw [e5]
    obtain ⟨A6, e6, s6, b6, p7, f7⟩ := alc1 A5 (.int .i64 (t + 1)) 3
    rw [e6]
    rw [s1] at s2 b2 p3 f3
    rw [s2] at s3 b3 p4 f4
    rw [s3] at s4 b4 p5 f5
    rw [s4] at s5 b5 p6 f6
    rw [s5] at s6 b6 p7 f7
    rw [hX] at s1 s2 s3 s4 s5 s6 b1 b2 b3 b4 b5 b6 p1 p2 p3 p4 p5 p6 p7 f1 f2 f3 f4
    have k6 : ∀ p : Addr, p.block < X + 1 + 1 + 1 + 1 + 1 → A6.cell? p = A5.cell? p ∧ A6.frozen? p = A5.frozen? p := fun p h => ⟨b6.cell h, b6.frozen h⟩
    have k5 : ∀ p : Addr, p.block < X + 1 + 1 + 1 + 1 → A5.cell? p = A4.cell? p ∧ A5.frozen? p = A4.frozen? p := fun p h => ⟨b5.cell h, b5.frozen h⟩
    have k4 : ∀ p : Addr, p.block < X + 1 + 1 + 1 → A4.cell? p = A3.cell? p ∧ A4.frozen? p = A3.frozen? p := fun p h => ⟨b4.cell h, b4.frozen h⟩
    have k3 : ∀ p : Addr, p.block < X + 1 + 1 → A3.cell? p = A2.cell? p ∧ A3.frozen? p = A2.frozen? p := fun p h => ⟨b3.cell h, b3.frozen h⟩
    have k2 : ∀ p : Addr, p.block < X + 1 → A2.cell? p = A1.cell? p ∧ A2.frozen? p = A1.frozen? p := fun p h => ⟨b2.cell h, b2.frozen h⟩
    have K : ∀ p : Addr, p.block < X + 1 → A6.cell? p = A1.cell? p ∧ A6.frozen? p = A1.frozen? p := fun p h =>
      ⟨(k6 p (by omega)).1.trans ((k5 p (by omega)).1.trans ((k4 p (by omega)).1.trans ((k3 p (by omega)).1.trans (k2 p h).1))), (k6 p (by omega)).2.trans ((k5 p (by omega)).2.trans ((k4 p (by omega)).2.trans ((k3 p (by omega)).2.trans (k2 p h).2)))⟩
    have K2 : ∀ p : Addr, p.block < X + 1 + 1 → A6.cell? p = A2.cell? p ∧ A6.frozen? p = A2.frozen? p := fun p h =>
      ⟨(k6 p (by omega)).1.trans ((k5 p (by omega)).1.trans ((k4 p (by omega)).1.trans (k3 p h).1)), (k6 p (by omega)).2.trans ((k5 p (by omega)).2.trans ((k4 p (by omega)).2.trans (k3 p h).2))⟩
    have K3 : ∀ p : Addr, p.block < X + 1 + 1 + 1 → A6.cell? p = A3.cell? p ∧ A6.frozen? p = A3.frozen? p := fun p h =>
      ⟨(k6 p (by omega)).1.trans ((k5 p (by omega)).1.trans (k4 p h).1), (k6 p (by omega)).2.trans ((k5 p (by omega)).2.trans (k4 p h).2)⟩
    have hb26 : Below w.heap.size w2 A6 := (b1.mono (by omega)).trans ((b2.mono (by omega)).trans ((b3.mono (by omega)).trans ((b4.mono (by omega)).trans ((b5.mono (by omega)).trans (b6.mono (by omega))))))
    refine ⟨A6, rfl, by omega, HB2.trans hb26, (K ⟨X, 0, none⟩ (by show X < _; omega)).1.trans p1, (K ⟨X, 1, none⟩ (by show X < _; omega)).1.trans p2, (K2 ⟨X + 1, 0, none⟩ (by show X + 1 < _; omega)).1.trans p3, (K3 ⟨X + 1 + 1, 0, none⟩ (by show X + 1 + 1 < _; omega)).1.trans p4,
      (k6 ⟨X + 1 + 1 + 1, 0, none⟩ (by show X + 1 + 1 + 1 < _; omega)).1.trans ((k5 ⟨X + 1 + 1 + 1, 0, none⟩ (by show X + 1 + 1 + 1 < _; omega)).1.trans p5), (k6 ⟨X + 1 + 1 + 1 + 1, 0, none⟩ (by show X + 1 + 1 + 1 + 1 < _; omega)).1.trans p6, p7, ?_,
      (K ⟨X, 0, none⟩ (by show X < _; omega)).2.trans f1, (K ⟨X, 1, none⟩ (by show X < _; omega)).2.trans f2, (K2 ⟨X + 1, 0, none⟩ (by show X + 1 < _; omega)).2.trans f3, (K3 ⟨X + 1 + 1, 0, none⟩ (by show X + 1 + 1 < _; omega)).2.trans f4⟩
    have hsX : w.heap.size < X := by omega
    exact (K ⟨w.heap.size, 0, none⟩ (by show w.heap.size < _; omega)).1.trans ((b1.cell (p := ⟨w.heap.size, 0, none⟩) hsX).trans hs2)
  obtain ⟨W0, hW0, hz0, hB0, c1, c2, c3, c4, c5, c6, c7, c8, z1, z2, z3, z4⟩ := hW
  rw [hW0]
  rw [hX] at hz2 ⊢
  have hgl : g < w.heap.size := World.block_lt_of_cell? _ _ hg
  have hgW := (hB0.cell (p := ⟨g, 0, none⟩) hgl).trans hg
  have hIW := (hR.spans (by omega)).below hB0
  refine wpIn_rangeFunc_ownF rfl (by decide) (gf := 90) (lb := #[.pointer (some ⟨X + 1 + 1 + 1, 0, none⟩), .pointer (some ⟨X + 1 + 1 + 1 + 1, 0, none⟩), .pointer (some ⟨X + 1 + 1 + 1 + 1 + 1, 0, none⟩)]) rfl trivial (enters_of Try.func90 (by kernel_rfl) rfl)
    (all_stops Fence.wide 4 trivial rfl (by decide) (X + 1 + 1 + 1) (X + 1 + 1 + 1 + 1) (X + 1 + 1 + 1 + 1 + 1) g w.heap.size (f - 1) (t + 1) sv (l.map pr) W0 (by omega) (by omega) (by omega) (by omega) (by omega) c5 hgW c6 c7 hIW) kp_t (kp_b (by omega) (by omega) (by omega)) (Below.refl _ _) (fun _ => rfl)
    (fun pre W => (W.cell? ⟨X, 0, none⟩ = some (.int .i64 (xF (l.map pr) f pre)) ∧ W.cell? ⟨X, 1, none⟩ = some (.int .i64 (xT (l.map pr) t pre)) ∧ W.cell? ⟨X + 1, 0, none⟩ = some (.int .i64 (fst pre)) ∧ W.cell? ⟨X + 1 + 1, 0, none⟩ = some (.int .i64 pre.length) ∧ W.cell? ⟨w.heap.size, 0, none⟩ = some (.pointer (some ⟨g, 0, none⟩)) ∧
      W.frozen? ⟨X, 0, none⟩ = false ∧ W.frozen? ⟨X, 1, none⟩ = false ∧ W.frozen? ⟨X + 1, 0, none⟩ = false ∧ W.frozen? ⟨X + 1 + 1, 0, none⟩ = false) ∧ Below w.heap.size w W)
    (fun _ _ _ => False)
    (OwnFrom.and (Own.from (fun s A B row hs hg hr => ⟨cell_kept hs.1 hg hr, cell_kept hs.2.1 hg hr, cell_kept hs.2.2.1 hg hr, cell_kept hs.2.2.2.1 hg hr, cell_kept hs.2.2.2.2.1 hg hr, (frozen_kept hs.1 hg hr).trans hs.2.2.2.2.2.1, (frozen_kept hs.2.1 hg hr).trans hs.2.2.2.2.2.2.1, (frozen_kept hs.2.2.1 hg hr).trans hs.2.2.2.2.2.2.2.1, (frozen_kept hs.2.2.2.1 hg hr).trans hs.2.2.2.2.2.2.2.2⟩) _) (ownFrom_below (Nat.le_refl _) (by omega)))
    (fun _ _ _ _ _ h _ _ => h)
    ⟨⟨c1, c2, c3, c4, c8, z1, z2, z3, z4⟩, hB0⟩
    (fun x => { tmps := #[.pointer (some ⟨g, 0, none⟩), .int .i64 f, .int .i64 t, .pointer (some ⟨w.heap.size, 0, none⟩), undef, undef, .bool false, .int .i64 (cntF l), .pointer (some ⟨X, 0, none⟩), .pointer (some ⟨X + 1, 0, none⟩), .pointer (some ⟨X + 1 + 1, 0, none⟩), .int .i64 ((x.val : Nat) : Int), undef, .pointer (some ⟨g, 0, none⟩), .bool false, .bool false, .int .i64 f, .int .i64 t, .bool true, .bool false, .bool false, .pointer (some ⟨g, 0, none⟩), .int .i64 (cntF l), .int .i64 f, .int .i64 t, .agg #[.int .i64 f, .int .i64 t], .pointer (some ⟨g, 0, none⟩), .int .i64 f, .int .i64 (f - 1), .int .i64 t, .int .i64 (t + 1), .func (.func 90) #[] #[.pointer (some ⟨X + 1 + 1 + 1, 0, none⟩), .pointer (some ⟨X + 1 + 1 + 1 + 1, 0, none⟩), .pointer (some ⟨X + 1 + 1 + 1 + 1 + 1, 0, none⟩)], .int .i64 ((x.val : Nat) : Int), undef, undef, undef, undef, undef, undef, undef, undef, undef, undef, undef, undef, undef, undef, undef, undef, undef, undef, undef, undef, undef, undef, undef, undef, undef, undef, undef, undef, undef, undef, undef, undef, undef, undef, undef, undef, undef, undef, undef, undef, undef, undef, undef, undef, undef, undef, undef, undef, undef, undef, undef, undef, undef, undef, undef, undef, undef, undef, undef, undef], defers := [] }) ?assign ?body ?done ?stop
  case assign =>
    intro l' x W K hK
    gi_wp2
    exact hK
  case body =>
    rintro l' pre x W ⟨⟨c1, c2, c3, c4, c5, z1, z2, z3, z4⟩, hB⟩ hlen
    have hgw := (hB.cell (p := ⟨g, 0, none⟩) hgl).trans hg
    have hxl : x.val < l.length := by have := x.isLt; simpa using this
    rcases hR with ⟨_, rfl⟩ | ⟨b, cap, rfl, h2, h3, h4⟩
    · simp at hxl
    obtain ⟨b', o', e, r0, r1⟩ := row_at h2 x.val hxl
    injection e with e
    injection e with e1 e2 _
    subst e1; subst e2
    rw [Nat.zero_add] at r0 r1
    have q0 := (hB.cell (p := ⟨b, x.val * 2, none⟩) h4).trans r0
    have q1 := (hB.cell (p := ⟨b, x.val * 2 + 1, none⟩) h4).trans r1
    have hlt : ((x.val : Nat) : Int) < (l.length : Int) := by omega
    obtain ⟨A, hA⟩ : ∃ A, l[x.val].f0 = A := ⟨_, rfl⟩
    obtain ⟨C, hC⟩ : ∃ C, l[x.val].f1 = C := ⟨_, rfl⟩
    rw [hA] at q0
    rw [hC] at q1
    have eF : xF (l.map pr) f (pre ++ [x]) = (if A < xF (l.map pr) f pre then A else xF (l.map pr) f pre) := by
      simp only [xF, List.foldl_append, List.foldl_cons, List.foldl_nil]
      simp [pr, hA]
    have eT : xT (l.map pr) t (pre ++ [x]) = (if xT (l.map pr) t pre < C then C else xT (l.map pr) t pre) := by
      simp only [xT, List.foldl_append, List.foldl_cons, List.foldl_nil]
      simp [pr, hC]
    obtain ⟨a, ha⟩ : ∃ a, xF (l.map pr) f pre = a := ⟨_, rfl⟩
    obtain ⟨cc, hcc⟩ : ∃ a, xT (l.map pr) t pre = a := ⟨_, rfl⟩
    rw [ha] at c1 eF
    rw [hcc] at c2 eT
    obtain ⟨xv, hxv⟩ : ∃ xv, x.val = xv := ⟨_, rfl⟩
    rw [hxv] at q0 q1 hlt ⊢
    have EF := Aside0.mk eF
    have ET := Aside0.mk eT
    clear eF eT hA hC r0 r1 h2 HM HC HS hIW hm
    have hbz : b < X := by omega
    cases pre with
    | nil =>
      simp only [fst] at c3
      gi_wp2
      obtain ⟨W3, hW3⟩ : ∃ W3, ((W.setCell ⟨X + 1, 0, none⟩ (.int .i64 (xv : Int))).setCell ⟨X + 1 + 1, 0, none⟩ (.int .i64 1)) = W3 := ⟨_, rfl⟩
      have k3 : ∀ p : Addr, p.block ≠ X + 1 → p.block ≠ X + 1 + 1 → W3.cell? p = W.cell? p := by
        intro p h1 h2
        subst hW3
        rw [World.cell?_setCell_other _ _ _ _ (fun e => h2 (by rw [← e])), World.cell?_setCell_other _ _ _ _ (fun e => h1 (by rw [← e]))]
      have f3 : ∀ p : Addr, W3.frozen? p = W.frozen? p := by
        intro p; subst hW3
        rw [World.frozen?_setCell, World.frozen?_setCell]
      have r3 : W3.cell? ⟨X + 1, 0, none⟩ = some (.int .i64 (xv : Int)) := by
        subst hW3; rw [World.cell?_setCell_other _ _ _ _ (by simp)]; exact setCell_put _ _ _ c3
      have r4 : W3.cell? ⟨X + 1 + 1, 0, none⟩ = some (.int .i64 1) := by
        subst hW3; exact setCell_put _ _ _ ((World.cell?_setCell_other _ _ _ _ (by simp)).trans c4)
      have ko : KeepsOthers W W3 := by subst hW3; exact (KeepsOthers.setCell _ _ _).trans (KeepsOthers.setCell _ _ _)
      have b3 : Below w.heap.size W W3 := by subst hW3; exact ((Below.refl _ W).setCell (p := ⟨X + 1, 0, none⟩) (by show _ ≤ X + 1; omega) _).setCell (p := ⟨X + 1 + 1, 0, none⟩) (by show _ ≤ X + 1 + 1; omega) _
      have K3 := Aside0.mk k3
      have F3 := Aside0.mk f3
      have HK3 := Aside0.mk hW3
      rw [hW3]
      clear hW3
      refine Add_r11 _ _ X w.heap.size g b l.length cap xv a cc A C [_, _, _, _, _, _, _, _, _, _, _, _, _, _, _, _, _, _, _, _, _, _, _, _, _, _, _, _, _, _, _, _, _, _, _, _, _, _, _, _, _, _, _, _, _, _, _, _, _, _, _, _, _, _, _, _, _, _, _, _, _, _, _, _, _, _, _, _, _, _, _, _, _, _, _, _, _, _, _, _, _, _, _, _, _, _, _, _, _, _, _, _, _] [] W3 _ rfl rfl rfl rfl ((k3 ⟨w.heap.size, 0, none⟩ (by show w.heap.size ≠ X + 1; omega) (by show w.heap.size ≠ X + 1 + 1; omega)).trans c5) ((k3 ⟨g, 0, none⟩ (by show g ≠ X + 1; omega) (by show g ≠ X + 1 + 1; omega)).trans hgw) ((k3 ⟨b, xv * 2, none⟩ (by show b ≠ X + 1; omega) (by show b ≠ X + 1 + 1; omega)).trans q0) ((k3 ⟨b, xv * 2 + 1, none⟩ (by show b ≠ X + 1; omega) (by show b ≠ X + 1 + 1; omega)).trans q1)
        ((k3 ⟨X, 0, none⟩ (by show X ≠ X + 1; omega) (by show X ≠ X + 1 + 1; omega)).trans c1) ((k3 ⟨X, 1, none⟩ (by show X ≠ X + 1; omega) (by show X ≠ X + 1 + 1; omega)).trans c2) ((f3 _).trans z1) ((f3 _).trans z2) (by omega) (by omega) (by omega) (by omega) ?_
      intro a'
      obtain ⟨W4, hW4, g1, g2, g3, g4, g5, g6, g7, g8, g9⟩ := add_round (mn := if A < a then A else a) (mx := if cc < C then C else cc) (n₀ := w.heap.size) (s := w.heap.size) (by omega) (by omega) k3 f3 ko b3 c1 c2 r3 r4
      rw [hW4]
      have hpre : ([] : List (Fin (l.map pr).length)) ++ [x] = [x] := rfl
      exact ⟨g1, g2, ⟨by rw [EF.out]; exact g3, by rw [ET.out]; exact g4, by rw [hpre]; show _ = some (Value.int .i64 (x.val : Int)); rw [hxv]; exact g5, g6, g7.trans c5, (g8 _).trans z1, (g8 _).trans z2, (g8 _).trans z3, (g8 _).trans z4⟩, hB.trans g9⟩
    | cons p0 pre0 =>
      simp only [fst] at c3
      have hp0 : (0 : Int) ≤ (p0.val : Int) := by omega
      obtain ⟨ln, hln⟩ : ∃ ln, (p0 :: pre0).length = ln := ⟨_, rfl⟩
      have hlnb : ln ≤ 4398046511104 * 2 := by have := hlen; rw [hln] at this; simp at this; omega
      rw [hln] at c4
      have HLN := Aside0.mk hln
      obtain ⟨pv, hpv⟩ : ∃ pv, p0.val = pv := ⟨_, rfl⟩
      rw [hpv] at c3 hp0
      have HPV := Aside0.mk hpv
      clear hln hpv hlen
      gi_wp2
      obtain ⟨W3, hW3⟩ : ∃ W3, (W.setCell ⟨X + 1 + 1, 0, none⟩ (.int .i64 ((ln : Int) + 1))) = W3 := ⟨_, rfl⟩
      have k3 : ∀ p : Addr, p.block ≠ X + 1 → p.block ≠ X + 1 + 1 → W3.cell? p = W.cell? p := by
        intro p h1 h2
        subst hW3
        rw [World.cell?_setCell_other _ _ _ _ (fun e => h2 (by rw [← e]))]
      have f3 : ∀ p : Addr, W3.frozen? p = W.frozen? p := by
        intro p; subst hW3
        rw [World.frozen?_setCell]
      have r3 : W3.cell? ⟨X + 1, 0, none⟩ = some (.int .i64 (pv : Int)) := by
        subst hW3; rw [World.cell?_setCell_other _ _ _ _ (by simp)]; exact c3
      have r4 : W3.cell? ⟨X + 1 + 1, 0, none⟩ = some (.int .i64 ((ln : Int) + 1)) := by
        subst hW3; exact setCell_put _ _ _ c4
      have ko : KeepsOthers W W3 := by subst hW3; exact KeepsOthers.setCell _ _ _
      have b3 : Below w.heap.size W W3 := by subst hW3; exact (Below.refl _ W).setCell (p := ⟨X + 1 + 1, 0, none⟩) (by show _ ≤ X + 1 + 1; omega) _
      have K3 := Aside0.mk k3
      have F3 := Aside0.mk f3
      have HK3 := Aside0.mk hW3
      rw [hW3]
      clear hW3
      refine Add_r11 _ _ X w.heap.size g b l.length cap xv a cc A C [_, _, _, _, _, _, _, _, _, _, _, _, _, _, _, _, _, _, _, _, _, _, _, _, _, _, _, _, _, _, _, _, _, _, _, _, _, _, _, _, _, _, _, _, _, _, _, _, _, _, _, _, _, _, _, _, _, _, _, _, _, _, _, _, _, _, _, _, _, _, _, _, _, _, _, _, _, _, _, _, _, _, _, _, _, _, _, _, _, _, _, _, _] [] W3 _ rfl rfl rfl rfl ((k3 ⟨w.heap.size, 0, none⟩ (by show w.heap.size ≠ X + 1; omega) (by show w.heap.size ≠ X + 1 + 1; omega)).trans c5) ((k3 ⟨g, 0, none⟩ (by show g ≠ X + 1; omega) (by show g ≠ X + 1 + 1; omega)).trans hgw) ((k3 ⟨b, xv * 2, none⟩ (by show b ≠ X + 1; omega) (by show b ≠ X + 1 + 1; omega)).trans q0) ((k3 ⟨b, xv * 2 + 1, none⟩ (by show b ≠ X + 1; omega) (by show b ≠ X + 1 + 1; omega)).trans q1)
        ((k3 ⟨X, 0, none⟩ (by show X ≠ X + 1; omega) (by show X ≠ X + 1 + 1; omega)).trans c1) ((k3 ⟨X, 1, none⟩ (by show X ≠ X + 1; omega) (by show X ≠ X + 1 + 1; omega)).trans c2) ((f3 _).trans z1) ((f3 _).trans z2) (by omega) (by omega) (by omega) (by omega) ?_
      intro a'
      obtain ⟨W4, hW4, g1, g2, g3, g4, g5, g6, g7, g8, g9⟩ := add_round (mn := if A < a then A else a) (mx := if cc < C then C else cc) (n₀ := w.heap.size) (s := w.heap.size) (by omega) (by omega) k3 f3 ko b3 c1 c2 r3 r4
      rw [hW4]
      have hfst : fst ((p0 :: pre0) ++ [x]) = (pv : Int) := by show (p0.val : Int) = _; rw [HPV.out]
      have hll : (((p0 :: pre0) ++ [x]).length : Int) = (ln : Int) + 1 := by rw [List.length_append, HLN.out]; rfl
      exact ⟨g1, g2, ⟨by rw [EF.out]; exact g3, by rw [ET.out]; exact g4, by rw [hfst]; exact g5, by rw [hll]; exact g6, g7.trans c5, (g8 _).trans z1, (g8 _).trans z2, (g8 _).trans z3, (g8 _).trans z4⟩, hB.trans g9⟩
  case done =>
    rintro D ys W hD hy ⟨⟨c1, c2, c3, c4, c5, z1, z2, z3, z4⟩, hB⟩ hK
    by_cases h0 : ys = []
    · subst h0
      simp only [fst] at c3
      obtain ⟨kk, hkl, hkins, hkn, hks⟩ := add_none hw hft hy
      have hgw := (hB.cell (p := ⟨g, 0, none⟩) hgl).trans hg
      obtain ⟨A0, cap0, hsv, hlc0, hC00⟩ := hR.slice
      rw [hsv] at hgw
      gi_wp2
      refine ⟨trivial, (all_in Fence.wide 4 trivial rfl _ _ _ _).mono ?_⟩
      rintro e w' ⟨rfl, rfl⟩
      gi_wp2
      obtain ⟨Y, hY⟩ : ∃ Y, W.heap.size = Y := ⟨_, rfl⟩
      have hDY : D < Y := by rw [← hY]; exact (Array.getElem?_eq_some_iff.1 hK).1
      have hXW : X + 1 + 1 < W.heap.size := World.block_lt_of_cell? _ _ c4
      have hVx : ∃ V0, ((((W.setCell ⟨X + 1, 0, none⟩ (.int .i64 (l.length : Int))).alloc (.cells #[.pointer (some ⟨g, 0, none⟩)] 70)).alloc (.cells #[.int .i64 t] 3)).alloc (.cells #[.int .i64 1099511627776] 3)) = V0 ∧ V0.heap.size = Y + 3 ∧ Below w.heap.size w V0 ∧ V0.cell? ⟨Y, 0, none⟩ = some (.pointer (some ⟨g, 0, none⟩)) ∧ V0.cell? ⟨Y + 1, 0, none⟩ = some (.int .i64 t) ∧ V0.cell? ⟨Y + 1 + 1, 0, none⟩ = some (.int .i64 1099511627776) ∧
          V0.cell? ⟨X, 0, none⟩ = some (.int .i64 f) ∧ V0.cell? ⟨X, 1, none⟩ = some (.int .i64 t) ∧ V0.cell? ⟨X + 1, 0, none⟩ = some (.int .i64 (l.length : Int)) ∧ V0.cell? ⟨X + 1 + 1, 0, none⟩ = some (.int .i64 0) ∧ V0.cell? ⟨w.heap.size, 0, none⟩ = some (.pointer (some ⟨g, 0, none⟩)) ∧ V0.frozen? ⟨X + 1, 0, none⟩ = false ∧ V0.heap[D]? = some (.deferred (some [])) := by
        have r1 : (W.setCell ⟨X + 1, 0, none⟩ (.int .i64 (l.length : Int))).cell? ⟨X + 1, 0, none⟩ = some (.int .i64 (l.length : Int)) := setCell_put _ _ _ c3
        have r2 : ∀ p : Addr, p.block ≠ X + 1 → (W.setCell ⟨X + 1, 0, none⟩ (.int .i64 (l.length : Int))).cell? p = W.cell? p := fun p hp => World.cell?_setCell_other _ _ _ _ (fun e => hp (by rw [← e]))
        have r3 : ∀ p : Addr, (W.setCell ⟨X + 1, 0, none⟩ (.int .i64 (l.length : Int))).frozen? p = W.frozen? p := fun p => World.frozen?_setCell _ _ _ _
        have r4 : (W.setCell ⟨X + 1, 0, none⟩ (.int .i64 (l.length : Int))).heap[D]? = W.heap[D]? := Below.heap_setCell _ _ _ _ (by show D ≠ X + 1; omega)
        have r5 : (W.setCell ⟨X + 1, 0, none⟩ (.int .i64 (l.length : Int))).heap.size = Y := by rw [← hY]; simp [World.setCell]
        have r6 : Below w.heap.size w (W.setCell ⟨X + 1, 0, none⟩ (.int .i64 (l.length : Int))) := hB.setCell (p := ⟨X + 1, 0, none⟩) (by show _ ≤ X + 1; omega) _
        generalize W.setCell ⟨X + 1, 0, none⟩ (.int .i64 (l.length : Int)) = U at *
        obtain ⟨A1, e1, s1, b1, p1, f1⟩ := alc1 U (.pointer (some ⟨g, 0, none⟩)) 70
        rw [e1]
        obtain ⟨A2, e2, s2, b2, p2, f2⟩ := alc1 A1 (.int .i64 t) 3
        rw [e2]
        obtain ⟨A3, e3, s3, b3, p3, f3⟩ := alc1 A2 (.int .i64 1099511627776) 3
        rw [e3]
        rw [s1] at s2 b2 p2 f2
        rw [s2] at s3 b3 p3 f3
        rw [r5] at s1 s2 s3 b1 b2 b3 p1 p2 p3
        have hXY : X + 1 + 1 < Y := by omega
        have K : ∀ p : Addr, p.block < Y → A3.cell? p = U.cell? p ∧ A3.frozen? p = U.frozen? p := fun p h =>
          ⟨(b3.cell (by omega)).trans ((b2.cell (by omega)).trans (b1.cell h)), (b3.frozen (by omega)).trans ((b2.frozen (by omega)).trans (b1.frozen h))⟩
        refine ⟨A3, rfl, by omega, r6.trans ((b1.mono (by omega)).trans ((b2.mono (by omega)).trans (b3.mono (by omega)))), (b3.cell (p := ⟨Y, 0, none⟩) (by show Y < Y + 1 + 1; omega)).trans ((b2.cell (p := ⟨Y, 0, none⟩) (by show Y < Y + 1; omega)).trans p1), (b3.cell (p := ⟨Y + 1, 0, none⟩) (by show Y + 1 < Y + 1 + 1; omega)).trans p2, p3,
          (K ⟨X, 0, none⟩ (by show X < Y; omega)).1.trans ((r2 ⟨X, 0, none⟩ (by show X ≠ X + 1; omega)).trans c1), (K ⟨X, 1, none⟩ (by show X < Y; omega)).1.trans ((r2 ⟨X, 1, none⟩ (by show X ≠ X + 1; omega)).trans c2), (K ⟨X + 1, 0, none⟩ (by show X + 1 < Y; omega)).1.trans r1, (K ⟨X + 1 + 1, 0, none⟩ (by show X + 1 + 1 < Y; omega)).1.trans ((r2 ⟨X + 1 + 1, 0, none⟩ (by show X + 1 + 1 ≠ X + 1; omega)).trans c4), (K ⟨w.heap.size, 0, none⟩ (by show w.heap.size < Y; omega)).1.trans ((r2 ⟨w.heap.size, 0, none⟩ (by show w.heap.size ≠ X + 1; omega)).trans c5), (K ⟨X + 1, 0, none⟩ (by show X + 1 < Y; omega)).2.trans ((r3 _).trans z3), ?_⟩
        exact (b3.block D (by omega)).trans ((b2.block D (by omega)).trans ((b1.block D (by omega)).trans (r4.trans hK)))
      obtain ⟨V0, hV0, sV, bV, v1, v2, v3, v4, v5, v6, v7, v8, v9, v10⟩ := hVx
      rw [hV0]
      rw [hY]
      have hgV := (bV.cell (p := ⟨g, 0, none⟩) hgl).trans hg
      have hIV := (hR.spans (by omega)).below bV
      have hXY : X + 1 + 1 < Y := by omega
      refine wpIn_rangeFunc_ownF rfl (by decide) (gf := 90) (lb := #[.pointer (some ⟨Y, 0, none⟩), .pointer (some ⟨Y + 1, 0, none⟩), .pointer (some ⟨Y + 1 + 1, 0, none⟩)]) rfl trivial (enters_of Try.func90 (by kernel_rfl) rfl)
        (all_stops Fence.wide 4 trivial rfl (by decide) Y (Y + 1) (Y + 1 + 1) g w.heap.size t 1099511627776 sv (l.map pr) V0 (by omega) (by omega) (by omega) (by omega) (by omega) v1 hgV v2 v3 hIV) kp_t (kp_b (by omega) (by omega) (by omega)) (Below.refl _ _) (fun _ => rfl)
        (fun pre V => ((pre = [] ∧ V.cell? ⟨X + 1, 0, none⟩ = some (.int .i64 (l.length : Int)) ∧ V.cell? ⟨X, 0, none⟩ = some (.int .i64 f) ∧ V.cell? ⟨X, 1, none⟩ = some (.int .i64 t) ∧ V.cell? ⟨X + 1 + 1, 0, none⟩ = some (.int .i64 0) ∧ V.cell? ⟨w.heap.size, 0, none⟩ = some (.pointer (some ⟨g, 0, none⟩)) ∧ V.frozen? ⟨X + 1, 0, none⟩ = false) ∧ Below w.heap.size w V) ∧ V.heap[D]? = some (.deferred (some [])))
        (fun c pre V => ((c = .exit 2 ∧ (∃ x, pre = [x] ∧ V.cell? ⟨X + 1, 0, none⟩ = some (.int .i64 (x.val : Int))) ∧ V.cell? ⟨X, 0, none⟩ = some (.int .i64 f) ∧ V.cell? ⟨X, 1, none⟩ = some (.int .i64 t) ∧ V.cell? ⟨X + 1 + 1, 0, none⟩ = some (.int .i64 0) ∧ V.cell? ⟨w.heap.size, 0, none⟩ = some (.pointer (some ⟨g, 0, none⟩))) ∧ Below w.heap.size w V) ∧ V.heap[D]? = some (.deferred (some [])))
        (OwnFrom.and (OwnFrom.and (Own.from (fun s A B row hs hg hr => ⟨hs.1, cell_kept hs.2.1 hg hr, cell_kept hs.2.2.1 hg hr, cell_kept hs.2.2.2.1 hg hr, cell_kept hs.2.2.2.2.1 hg hr, cell_kept hs.2.2.2.2.2.1 hg hr, (frozen_kept hs.2.1 hg hr).trans hs.2.2.2.2.2.2⟩) _) (ownFrom_below (Nat.le_refl _) (by omega))) (own_rec (by omega)))
        (fun c => OwnFrom.and (OwnFrom.and (Own.from (fun s A B row hs hg hr => ⟨hs.1, (let ⟨x, hx, hc⟩ := hs.2.1; ⟨x, hx, cell_kept hc hg hr⟩), cell_kept hs.2.2.1 hg hr, cell_kept hs.2.2.2.1 hg hr, cell_kept hs.2.2.2.2.1 hg hr, cell_kept hs.2.2.2.2.2 hg hr⟩) _) (ownFrom_below (Nat.le_refl _) (by omega))) (own_rec (by omega)))
        ⟨⟨⟨rfl, v6, v4, v5, v7, v8, v9⟩, bV⟩, v10⟩
        (fun x => { tmps := #[.pointer (some ⟨g, 0, none⟩), .int .i64 f, .int .i64 t, .pointer (some ⟨w.heap.size, 0, none⟩), undef, undef, .bool false, .int .i64 (cntF l), .pointer (some ⟨X, 0, none⟩), .pointer (some ⟨X + 1, 0, none⟩), .pointer (some ⟨X + 1 + 1, 0, none⟩), undef, .int .i64 ((x.val : Nat) : Int), .pointer (some ⟨g, 0, none⟩), .bool false, .bool false, .int .i64 f, .int .i64 t, .bool true, .bool false, .bool false, .pointer (some ⟨g, 0, none⟩), .int .i64 (cntF l), .int .i64 f, .int .i64 t, .agg #[.int .i64 f, .int .i64 t], .pointer (some ⟨g, 0, none⟩), .int .i64 f, .int .i64 (f - 1), .int .i64 t, .int .i64 (t + 1), .func (.func 90) #[] #[.pointer (some ⟨X + 1 + 1 + 1, 0, none⟩), .pointer (some ⟨X + 1 + 1 + 1 + 1, 0, none⟩), .pointer (some ⟨X + 1 + 1 + 1 + 1 + 1, 0, none⟩)], undef, undef, undef, undef, undef, undef, undef, undef, undef, undef, undef, undef, undef, undef, undef, undef, undef, undef, undef, undef, undef, undef, undef, undef, undef, undef, undef, undef, undef, undef, .int .i64 (-1), .bool true, .pointer (some ⟨g, 0, none⟩), .pointer (some ⟨g, 0, none⟩), .pointer (some ⟨g, 0, none⟩), .slice A0 l.length cap0, .int .i64 l.length, .pointer (some ⟨g, 0, none⟩), .int .i64 t, .func (.func 90) #[] #[.pointer (some ⟨Y, 0, none⟩), .pointer (some ⟨Y + 1, 0, none⟩), .pointer (some ⟨Y + 1 + 1, 0, none⟩)], .int .i64 ((x.val : Nat) : Int), undef, undef, undef, undef, undef, undef, undef, undef, undef, undef, undef, undef, undef, undef, undef, undef, undef, undef, undef, undef], defers := [] }) ?assign2 ?body2 ?done2 ?stop2
      case assign2 =>
        intro l' x W K hK
        gi_wp2
        exact hK
      case body2 =>
        rintro l' pre x V ⟨⟨⟨rfl, u1, u2, u3, u4, u5, u6⟩, hBV⟩, uD⟩ _
        gi_wp2
        refine ⟨KeepsOthers.setCell _ _ _, ⟨⟨rfl, ⟨x, rfl, setCell_put _ _ _ u1⟩, (World.cell?_setCell_other _ _ _ _ (by simp)).trans u2, (World.cell?_setCell_other _ _ _ _ (by simp)).trans u3, (World.cell?_setCell_other _ _ _ _ (by simp)).trans u4, (World.cell?_setCell_other _ _ _ _ (by intro e; injection e with e1 _ _; omega)).trans u5⟩, hBV.setCell (p := ⟨X + 1, 0, none⟩) (by show _ ≤ X + 1; omega) _⟩, ?_⟩
        exact (Below.heap_setCell _ _ _ _ (by show D ≠ X + 1; omega)).trans uD
      case done2 =>
        rintro D2 xs V hD2 hxs ⟨⟨⟨rfl, u1, u2, u3, u4, u5, u6⟩, hBV⟩, uD⟩ hK2
        have hk := hkn hxs.symm
        rw [← hk] at u1
        gi_wp2
        have hgV2 := (hBV.cell (p := ⟨g, 0, none⟩) hgl).trans hg
        rw [hsv] at hgV2
        have hCV : Kd.C k95 V A0 l.length l := Kd.C_below hC00 hBV
        refine Add_r17 X (X + 1) (X + 1 + 1) w.heap.size g l.length cap0 kk 0 A0 f t l _ _ V _ (by rfl) (by rfl) (by rfl) (by rfl) (by rfl) u5 (by rw [← hsv]; exact (hBV.block g hgl).trans HGB.out) hCV rfl hlc0 (by omega) u2 u3 u1 u4 (by omega) ?_
        intro σ rv W' ho' hrv hOw
        simp only [Lazy.lazyA, Lazy.lazyT, r17_tab, List.zipWith_cons_cons, List.zipWith_nil_left, cond_true]
        rw [hkins] at hOw
        have hS2 := Aside0.mk (show SetOwn w.heap.size W' g (ins f t l) from ⟨rv, hrv, hOw.lower hBV.size⟩)
        have cs' : W'.cell? ⟨w.heap.size, 0, none⟩ = some (.pointer (some ⟨g, 0, none⟩)) := ho'.cell (by show w.heap.size ≠ g; omega) u5
        have hDW : D < V.heap.size := (Array.getElem?_eq_some_iff.1 uD).1
        have hDW2 : D2 < V.heap.size := (Array.getElem?_eq_some_iff.1 hK2).1
        have hKD : W'.heap[D]? = some (.deferred (some [])) := (ho'.block D hDW (by intro e; injection e; omega)).trans uD
        have hKD2 : W'.heap[D2]? = some (.deferred (some [])) := (ho'.block D2 hDW2 (by intro e; injection e; omega)).trans hK2
        have HO := Aside0.mk (((Only.of_below hBV) : Only g w V).trans ho')
        have HKD := Aside0.mk hKD
        have HKD2 := Aside0.mk hKD2
        clear hOw hrv ho' hKD hKD2 hK2 uD
        rename_i K0 hK0
        refine hK0 _ _ ?_
        gi_wp2
        refine ⟨trivial, (callsIn_wide.2 (Set_Count.calls g (ins f t l) W' hS2.out.setAt.isSet (by omega))).mono ?_⟩
        rintro e w3 ⟨rfl, hb3⟩
        have HB3 := Aside0.mk hb3
        clear hb3
        gi_wp2
        have hK3 : w3.heap[D]? = some (.deferred (some [])) := (HB3.out.block D (by have := (Array.getElem?_eq_some_iff.1 HKD.out).1; omega)).trans HKD.out
        have hK32 : w3.heap[D2]? = some (.deferred (some [])) := (HB3.out.block D2 (by have := (Array.getElem?_eq_some_iff.1 HKD2.out).1; omega)).trans HKD2.out
        refine ⟨by simp, .inl ⟨_, _, rfl, run_takeDeferred hK32, ?_⟩⟩
        have hDD : D < D2 := by omega
        have hK33 : (w3.putObj D2 (.deferred none)).heap[D]? = some (.deferred (some [])) := (World.putObj_heap_other (by omega)).trans hK3
        refine ⟨by simp, .inl ⟨_, _, rfl, run_takeDeferred hK33, ?_⟩⟩
        refine ⟨_, ?_, ⟨rfl, ?_, ?_⟩⟩
        · simp [results, Try.f37, go_sem]
        · exact ((hS2.out.below HB3.out).putD hK32 rfl).putD hK33 rfl
        · exact only_putD (only_putD (HO.out.step HB3.out) (by omega)) (by omega)
      case stop2 =>
        rintro D2 c pre V hD2 ⟨k2, _, hpre⟩ ⟨⟨⟨rfl, ⟨x, hx, u1⟩, u2, u3, u4, u5⟩, hBV⟩, uD⟩ hK2
        have hxk : x.val = kk := by
          obtain ⟨r, hr⟩ := hits_prefix (l.map pr) t 1099511627776 k2
          rw [← hpre, hx] at hr
          exact hks x r hr.symm
        rw [hxk] at u1
        gi_wp2
        have hgV2 := (hBV.cell (p := ⟨g, 0, none⟩) hgl).trans hg
        rw [hsv] at hgV2
        have hCV : Kd.C k95 V A0 l.length l := Kd.C_below hC00 hBV
        refine Add_r17 X (X + 1) (X + 1 + 1) w.heap.size g l.length cap0 kk 0 A0 f t l _ _ V _ (by rfl) (by rfl) (by rfl) (by rfl) (by rfl) u5 (by rw [← hsv]; exact (hBV.block g hgl).trans HGB.out) hCV rfl hlc0 (by omega) u2 u3 u1 u4 (by omega) ?_
        intro σ rv W' ho' hrv hOw
        simp only [Lazy.lazyA, Lazy.lazyT, r17_tab, List.zipWith_cons_cons, List.zipWith_nil_left, cond_true]
        rw [hkins] at hOw
        have hS2 := Aside0.mk (show SetOwn w.heap.size W' g (ins f t l) from ⟨rv, hrv, hOw.lower hBV.size⟩)
        have cs' : W'.cell? ⟨w.heap.size, 0, none⟩ = some (.pointer (some ⟨g, 0, none⟩)) := ho'.cell (by show w.heap.size ≠ g; omega) u5
        have hDW : D < V.heap.size := (Array.getElem?_eq_some_iff.1 uD).1
        have hDW2 : D2 < V.heap.size := (Array.getElem?_eq_some_iff.1 hK2).1
        have hKD : W'.heap[D]? = some (.deferred (some [])) := (ho'.block D hDW (by intro e; injection e; omega)).trans uD
        have hKD2 : W'.heap[D2]? = some (.deferred (some [])) := (ho'.block D2 hDW2 (by intro e; injection e; omega)).trans hK2
        have HO := Aside0.mk (((Only.of_below hBV) : Only g w V).trans ho')
        have HKD := Aside0.mk hKD
        have HKD2 := Aside0.mk hKD2
        clear hOw hrv ho' hKD hKD2 hK2 uD
        rename_i K0 hK0
        refine hK0 _ _ ?_
        gi_wp2
        refine ⟨trivial, (callsIn_wide.2 (Set_Count.calls g (ins f t l) W' hS2.out.setAt.isSet (by omega))).mono ?_⟩
        rintro e w3 ⟨rfl, hb3⟩
        have HB3 := Aside0.mk hb3
        clear hb3
        gi_wp2
        have hK3 : w3.heap[D]? = some (.deferred (some [])) := (HB3.out.block D (by have := (Array.getElem?_eq_some_iff.1 HKD.out).1; omega)).trans HKD.out
        have hK32 : w3.heap[D2]? = some (.deferred (some [])) := (HB3.out.block D2 (by have := (Array.getElem?_eq_some_iff.1 HKD2.out).1; omega)).trans HKD2.out
        refine ⟨by simp, .inl ⟨_, _, rfl, run_takeDeferred hK32, ?_⟩⟩
        have hDD : D < D2 := by omega
        have hK33 : (w3.putObj D2 (.deferred none)).heap[D]? = some (.deferred (some [])) := (World.putObj_heap_other (by omega)).trans hK3
        refine ⟨by simp, .inl ⟨_, _, rfl, run_takeDeferred hK33, ?_⟩⟩
        refine ⟨_, ?_, ⟨rfl, ?_, ?_⟩⟩
        · simp [results, Try.f37, go_sem]
        · exact ((hS2.out.below HB3.out).putD hK32 rfl).putD hK33 rfl
        · exact only_putD (only_putD (HO.out.step HB3.out) (by omega)) (by omega)
    · obtain ⟨y0, yr, rfl⟩ := List.exists_cons_of_ne_nil h0
      simp only [fst] at c3
      have hp0 : (0 : Int) ≤ (y0.val : Int) := by omega
      obtain ⟨pv, hpv⟩ : ∃ pv, y0.val = pv := ⟨_, rfl⟩
      rw [hpv] at c3 hp0
      have HPV := Aside0.mk hpv
      have HY := Aside0.mk hy
      clear hpv hy
      obtain ⟨ln, hln⟩ : ∃ ln, (y0 :: yr).length = ln := ⟨_, rfl⟩
      rw [hln] at c4
      have HLN := Aside0.mk hln
      clear hln
      obtain ⟨him', hins⟩ := add_some hw hft HY.out
      rw [HLN.out, HPV.out] at him' hins
      have him := him'
      have HIN := Aside0.mk hins
      clear hins him'
      gi_wp2
      obtain ⟨A0, cap0, hsv, hC0, hlc0⟩ : ∃ A0 cap0, sv = .slice A0 l.length cap0 ∧ Kd.C k95 W A0 l.length l ∧ l.length ≤ cap0 := by
        obtain ⟨A0, cap0, h1, h2, h3⟩ := (hR.below' hB).set ((hB.cell (p := ⟨g, 0, none⟩) hgl).trans hg)
        exact ⟨A0, cap0, Option.some.inj (((hB.cell (p := ⟨g, 0, none⟩) hgl).trans hg).symm.trans h1), h2, h3⟩
      have hgW2 := (hB.cell (p := ⟨g, 0, none⟩) hgl).trans hg
      rw [hsv] at hgW2
      refine Add_r17 X (X + 1) (X + 1 + 1) w.heap.size g l.length cap0 pv ln A0 (xF (l.map pr) f (y0 :: yr)) (xT (l.map pr) t (y0 :: yr)) l _ _ W _ (by rfl) (by rfl) (by rfl) (by rfl) (by rfl) c5 (by rw [← hsv]; exact (hB.block g hgl).trans HGB.out) hC0 rfl hlc0 (by omega) c1 c2 c3 c4 him ?_
      intro σ rv W' ho' hrv hOw
      simp only [Lazy.lazyA, Lazy.lazyT, r17_tab, List.zipWith_cons_cons, List.zipWith_nil_left, cond_true]
      rw [HIN.out] at hOw
      have hS2 := Aside0.mk (show SetOwn w.heap.size W' g (ins f t l) from ⟨rv, hrv, hOw.lower hB.size⟩)
      have cs' : W'.cell? ⟨w.heap.size, 0, none⟩ = some (.pointer (some ⟨g, 0, none⟩)) := ho'.cell (by show w.heap.size ≠ g; omega) c5
      have hDW : D < W.heap.size := (Array.getElem?_eq_some_iff.1 hK).1
      have hKD : W'.heap[D]? = some (.deferred (some [])) := (ho'.block D hDW (by intro e; injection e; omega)).trans hK
      have HO := Aside0.mk (((Only.of_below hB) : Only g w W).trans ho')
      have HKD := Aside0.mk hKD
      clear hOw hrv ho' hKD hK
      rename_i K0 hK0
      refine hK0 _ _ ?_
      gi_wp2
      refine ⟨trivial, (callsIn_wide.2 (Set_Count.calls g (ins f t l) W' hS2.out.setAt.isSet (by omega))).mono ?_⟩
      rintro e w3 ⟨rfl, hb3⟩
      have HB3 := Aside0.mk hb3
      clear hb3
      gi_wp2
      have hK3 : w3.heap[D]? = some (.deferred (some [])) := (HB3.out.block D (by have := HO.out.size; have := (Array.getElem?_eq_some_iff.1 HKD.out).1; omega)).trans HKD.out
      refine ⟨by simp, .inl ⟨_, _, rfl, run_takeDeferred hK3, ?_⟩⟩
      refine ⟨_, ?_, ⟨rfl, ?_, ?_⟩⟩
      · simp [results, Try.f37, go_sem]
      · exact (hS2.out.below HB3.out).putD hK3 rfl
      · exact only_putD (HO.out.step HB3.out) (by omega)
  case stop =>
    rintro D c pre W _ _ h _
    exact h.elim
set_option maxRecDepth 100000 in
set_option maxHeartbeats 1000000 in
theorem Add_not (p : Option Addr) (f t : Int) (w : World) (hp : p = none ∨ (decide (0 ≤ f) && decide (f ≤ t) && decide (t ≤ 1099511627776)) = false) :
    Calls Try.prog 37 #[.pointer p, .int .i64 f, .int .i64 t] w fun e w' => e = .returned (.bool false) ∧ Below w.heap.size w w' := by
  have HM := Aside0.mk (may_calls f t)
  rcases hp with rfl | hm
  · clear HM
    go_enter Try.func37, Try.ntmps37
    go_wp2
    go_ret
    exact ⟨rfl, below_alloc (Below.refl _ _) _⟩
  · rw [hm] at HM
    clear hm
    cases p with
    | none =>
      clear HM
      go_enter Try.func37, Try.ntmps37
      go_wp2
      go_ret
      exact ⟨rfl, below_alloc (Below.refl _ _) _⟩
    | some a =>
      go_enter Try.func37, Try.ntmps37
      go_wp2_with (go_at_call 72; refine (HM.out _).mono ?_; rintro e w' ⟨rfl, nd, rfl⟩)
      go_ret
      exact ⟨rfl, pw_below_drewN (below_alloc (Below.refl _ _) _) _⟩
/-- What the program's Add makes of a set. -/
def may (f t : Int) : Bool := decide (0 ≤ f) && decide (f ≤ t) && decide (t ≤ 1099511627776)
def addL (f t : Int) (l : List S95) : List S95 := if may f t then ins f t l else l
theorem Add_calls (g : Nat) (f t : Int) (l : List S95) (w : World) (hs : SetAt w g l) (hw : wf 0 l) :
    Calls Try.prog 37 #[.pointer (some ⟨g, 0, none⟩), .int .i64 f, .int .i64 t] w fun e w' => e = .returned (.bool (decide (cntF l < cntF (addL f t l)))) ∧ SetNew w w' g (addL f t l) := by
  unfold addL
  by_cases hm : may f t = true
  · rw [if_pos hm]
    unfold may at hm
    simp only [Bool.and_eq_true, decide_eq_true_eq] at hm
    refine ((callsIn_wide (n := 5)).1 (Add_in g f t l w hs hw hm.1.1 hm.1.2 hm.2)).mono ?_
    rintro e w' ⟨rfl, h1, h2⟩
    exact ⟨rfl, h1.setAt, h2, .inl h1⟩
  · rw [if_neg hm]
    refine (Add_not (some ⟨g, 0, none⟩) f t w (.inr (by simpa [may] using hm))).mono ?_
    rintro e w' ⟨rfl, hb⟩
    exact ⟨by simp, hs.below hb, Only.of_below hb, .inr hb⟩
end Go.Proofs.Ytiladcdogbeomaa.QRangesPlays
