/- Law 17 (ranges): contracts of functions that its statements reach, and plain laws behind them (further part 3). No condition. -/
import Derived.Test.YtiladcdogbeomaaMm
import Derived.Test.YtiladcdogbeomaaMn
namespace Go.Proofs.Ytiladcdogbeomaa.QRangesPlays
open Go.RowKit Go.Shelf Go.Proofs.YtiladcdogbeomaaW.PrintWords Go.Proofs.YtiladcdogbeomaaW.PrintLast Go.Proofs.YtiladcdogbeomaaW.PrintMore Go.Proofs.Ytiladcdogbeomaa.RowLaws Go.Proofs.Ytiladcdogbeomaa.Lazy
attribute [local go_sem] Oper.semAt_some
abbrev gp7_ops : List Oper := [{ dst := some 41, op := .move (.tmp 5), type := 70, pos := "own.go:59", after := #[], guard := none },
  { dst := some 42, op := .load 80 (.tmp 6), type := 80, pos := "own.go:59", after := #[], guard := none },
  { dst := some 43, op := .move (.tmp 0), type := 78, pos := "own.go:59", after := #[], guard := none },
  { dst := some 44, op := .move (.tmp 7), type := 3, pos := "own.go:59", after := #[], guard := none },
  { dst := some 45, op := .indexAddr 78 (.tmp 43) (.tmp 44), type := 0, pos := "own.go:59", after := #[⟨2, .data⟩, ⟨3, .data⟩], guard := none },
  { dst := some 46, op := .load 84 (.tmp 45), type := 84, pos := "own.go:59", after := #[⟨4, .data⟩], guard := none },
  { dst := some 47, op := .call { callee := .value (.func 41), args := #[.tmp 41, .tmp 42, .tmp 46], argTypes := #[70, 80, 84] }, type := 81, pos := "own.go:59", after := #[⟨0, .data⟩, ⟨1, .data⟩, ⟨5, .data⟩], guard := none },
  { dst := some 40, op := .move (.tmp 47), type := 81, pos := "own.go:59", after := #[⟨6, .data⟩], guard := none },
  { dst := some 48, op := .extract (.tmp 40) 0, type := 80, pos := "own.go:59", after := #[⟨7, .data⟩], guard := none },
  { dst := some 49, op := .extract (.tmp 40) 1, type := 4, pos := "own.go:59", after := #[⟨7, .data⟩, ⟨10, .gcOnly .lateStores⟩], guard := none },
  { dst := none, op := .store 80 (.tmp 6) (.tmp 48), type := 0, pos := "own.go:59", after := #[⟨8, .data⟩, ⟨6, .chain⟩, ⟨0, .phase⟩, ⟨1, .phase⟩, ⟨2, .phase⟩, ⟨3, .phase⟩, ⟨4, .phase⟩, ⟨5, .phase⟩, ⟨6, .phase⟩, ⟨7, .phase⟩, ⟨8, .phase⟩, ⟨9, .textOnly .lateStores⟩], guard := none }]
abbrev gp7_tab : List (Option Nat) := [none, none, none, none, none, none, none, none, none, none, none, none, none, none, none, none, none, none, none, none, none, none, none, none, none, none, none, none, none, none, none, none, none, none, none, none, none, none, none, none, some 7, some 0, some 1, some 2, some 3, some 4, some 5, some 6, some 8, some 9, none, none, none, none, none, none, none, none, none, none, none, none, none, none, none, none, none, none, none, none, none, none, none, none, none, none, none, none, none, none, none, none, none, none, none, none, none, none, none, none, none, none, none, none, none, none, none, none, none, none, none, none, none, none, none, none, none, none, none, none, none, none, none, none, none, none, none, none, none]

def gp7_val (g b0 o0 n c0 i : Nat) (k f t : Int) (A : Option Addr) (c : Nat) (l : List S95) : Nat → Value → World → Prop := fun j v W => match j with
  | 0 => v = .pointer (some ⟨g, 0, none⟩)
  | 1 => v = .agg #[.slice A l.length c]
  | 2 => v = .slice (some ⟨b0, o0, none⟩) n c0
  | 3 => v = .int .i64 (i : Int)
  | 4 => v = .pointer (some ⟨b0, o0 + i * 3, none⟩)
  | 5 => v = .agg #[.int .u8 k, .int .i64 f, .int .i64 t]
  | 6 => ∃ u, v = .tuple #[u, .bool true] ∧ RS W u (stepL k f t l)
  | 7 => ∃ u, v = .tuple #[u, .bool true] ∧ RS W u (stepL k f t l)
  | 8 => RS W v (stepL k f t l)
  | 9 => v = .bool true
  | 10 => True
  | _ => True
set_option maxRecDepth 100000 in
set_option maxHeartbeats 4000000 in
theorem Gaps_r7 (g b6 b0 o0 n c0 i : Nat) (k f t : Int) (A : Option Addr) (c : Nat) (l : List S95) (t0 : List Value) (d0 : List Deferred) (w : World) (Q : Exit → Act → World → Prop) (hl : t0.length = gp7_tab.length)
    (t0_ : t0[0]? = some (.slice (some ⟨b0, o0, none⟩) n c0)) (t5_ : t0[5]? = some (.pointer (some ⟨g, 0, none⟩))) (t6_ : t0[6]? = some (.pointer (some ⟨b6, 0, none⟩))) (t7_ : t0[7]? = some (.int .i64 (i : Int))) (hi : i < n) (hn : n ≤ 100)
    (hJ0 : J8 g b6 b0 o0 i k f t A c l w (fun _ => false) w) (hw : wf 0 l) (hlc : l.length ≤ c) (hf : f ≤ 9223372036854775807) (hk0 : 0 ≤ k) (hk1 : k < 256) (hg6 : g ≠ b6) (hg0 : b0 ≠ g) (h06 : b0 ≠ b6)
    (hQ : ∀ σ W, Two g b6 w W → SetAt W g (stepL k f t l) → Fin1 b6 (stepL k f t l) W → Q .normal (lazyA (fun _ => true) σ t0 gp7_tab d0) W) :
    (Code.region 7 gp7_ops.toArray true).wp Try.prog Q { tmps := t0.toArray, defers := d0 } w := by
  refine wp_region_valsL (by kernel_rfl) gp7_tab (by kernel_rfl) hl (fun W W' => ∀ v, RS W v (stepL k f t l) → RS W' v (stepL k f t l)) (J8 g b6 b0 o0 i k f t A c l w) (gp7_val g b0 o0 n c0 i k f t A c l) ?hj ?hst ⟨(fun j b h => by cases h), (fun j b h => by cases h), (fun j b h => by cases h), (fun j b h => by cases h), (fun j b h => by cases h), (fun j b h => by cases h), (fun j b h => by cases h), (fun j b h => by cases h), (fun j b h => by cases h), (fun j b h => by cases h), (fun j b h => by cases h), trivial⟩ ⟨?s0, ?s1, ?s2, ?s3, ?s4, ?s5, ?s6, ?s7, ?s8, ?s9, ?s10, trivial⟩ ?hdone
  case hj =>
    have b := below_drew (Below.refl w.heap.size w)
    exact ⟨⟨rfl, rfl, rfl, Nat.le_refl _, fun _ _ _ _ => rfl⟩, hJ0.c0, hJ0.c1, hJ0.c2, fun _ => (hJ0.set0 rfl).below b, (fun e => by cases e), fun _ => ⟨(hJ0.old rfl).1, Kd.C_drew (hJ0.old rfl).2⟩, (fun e => by cases e), hJ0.one⟩
  case hst =>
    intro j v W W' hR h
    match j with
    | 0 => exact h
    | 1 => exact h
    | 2 => exact h
    | 3 => exact h
    | 4 => exact h
    | 5 => exact h
    | 6 => exact (let ⟨u, h1, h2⟩ := h; ⟨u, h1, hR u h2⟩)
    | 7 => exact (let ⟨u, h1, h2⟩ := h; ⟨u, h1, hR u h2⟩)
    | 8 => exact hR v h
    | 9 => exact h
    | 10 => exact h
    | n + 11 => trivial
  case s0 =>
    intro L ρ W hL hcl hJ hT
    have q5 := hT.2.1 5 _ t5_ rfl
    refine Op1.of_run (v := .pointer (some ⟨g, 0, none⟩)) (W' := W) (by clear hT hJ hcl; go_simp) ⟨fun _ h => h, hJ.skip (by decide) (by decide), rfl⟩
  case s1 =>
    intro L ρ W hL hcl hJ hT
    have q6 := hT.2.1 6 _ t6_ rfl
    have e10 : L 10 = false := Bool.eq_false_iff.2 fun e => by rw [hcl 6 1 (by rfl) (hcl 7 6 (by rfl) (hcl 8 7 (by rfl) (hcl 10 8 (by rfl) e)))] at hL; cases hL
    have cc := cell_of_one (hJ.old e10).1
    refine Op1.of_run (v := .agg #[.slice A l.length c]) (W' := W) (by clear hT hJ hcl; go_simp) ⟨fun _ h => h, hJ.skip (by decide) (by decide), rfl⟩
  case s2 =>
    intro L ρ W hL hcl hJ hT
    have q0 := hT.2.1 0 _ t0_ rfl
    refine Op1.of_run (v := .slice (some ⟨b0, o0, none⟩) n c0) (W' := W) (by clear hT hJ hcl; go_simp) ⟨fun _ h => h, hJ.skip (by decide) (by decide), rfl⟩
  case s3 =>
    intro L ρ W hL hcl hJ hT
    have q7 := hT.2.1 7 _ t7_ rfl
    refine Op1.of_run (v := .int .i64 (i : Int)) (W' := W) (by clear hT hJ hcl; go_simp) ⟨fun _ h => h, hJ.skip (by decide) (by decide), rfl⟩
  case s4 =>
    intro L ρ W hL hcl hJ hT
    have q43 : ρ (.tmp 43) = .slice (some ⟨b0, o0, none⟩) n c0 := hT.1 43 2 rfl rfl
    have q44 : ρ (.tmp 44) = .int .i64 (i : Int) := hT.1 44 3 rfl rfl
    have i1 : (i : Int) < (n : Int) := by omega
    refine Op1.of_run (v := .pointer (some ⟨b0, o0 + i * 3, none⟩)) (W' := W) (by clear hT hJ hcl; go_simp) ⟨fun _ h => h, hJ.skip (by decide) (by decide), rfl⟩
  case s5 =>
    intro L ρ W hL hcl hJ hT
    have q45 : ρ (.tmp 45) = .pointer (some ⟨b0, o0 + i * 3, none⟩) := hT.1 45 4 rfl rfl
    have z0 := hJ.c0
    have z1 := hJ.c1
    have z2 := hJ.c2
    refine Op1.of_run (v := .agg #[.int .u8 k, .int .i64 f, .int .i64 t]) (W' := W) (by clear hT hJ hcl; go_simp) ⟨fun _ h => h, hJ.skip (by decide) (by decide), rfl⟩
  case s6 =>
    intro L ρ W hL hcl hJ hT
    have q41 : ρ (.tmp 41) = .pointer (some ⟨g, 0, none⟩) := hT.1 41 0 rfl rfl
    have q42 : ρ (.tmp 42) = .agg #[.slice A l.length c] := hT.1 42 1 rfl rfl
    have q46 : ρ (.tmp 46) = .agg #[.int .u8 k, .int .i64 f, .int .i64 t] := hT.1 46 5 rfl rfl
    have e10 : L 10 = false := Bool.eq_false_iff.2 fun e => by rw [hcl 7 6 (by rfl) (hcl 8 7 (by rfl) (hcl 10 8 (by rfl) e))] at hL; cases hL
    have qf := hT.2.2.2 41
    refine Op1.of_call (f := 41) (args := #[.pointer (some ⟨g, 0, none⟩), .agg #[.slice A l.length c], .agg #[.int .u8 k, .int .i64 f, .int .i64 t]]) (W' := W) (by clear hT hJ hcl; go_simp) ?_
    refine (Do_calls g k f t l _ W (hJ.set0 hL) ⟨A, c, rfl, hlc, (hJ.old e10).2⟩ hw hf hk0 hk1).mono ?_
    rintro e W2 ⟨u, rfl, h1, h2, h3⟩
    exact ⟨_, rfl, fun v hv => hv.only (hJ.set0 hL) h3, hJ.call hL e10 h1 h3 hg6 hg0, u, rfl, h2⟩
  case s7 =>
    intro L ρ W hL hcl hJ hT
    obtain ⟨u, q28, hu⟩ := (show ∃ u, ρ (.tmp 47) = .tuple #[u, .bool true] ∧ RS W u (stepL k f t l) from hT.1 47 6 rfl rfl)
    exact Op1.of_run (v := .tuple #[u, .bool true]) (W' := W) (by clear hT hJ hcl; go_simp) ⟨fun _ h => h, hJ.skip (by decide) (by decide), u, rfl, hu⟩
  case s8 =>
    intro L ρ W hL hcl hJ hT
    obtain ⟨u, q21, hu⟩ := (show ∃ u, ρ (.tmp 40) = .tuple #[u, .bool true] ∧ RS W u (stepL k f t l) from hT.1 40 7 rfl rfl)
    exact Op1.of_run (v := u) (W' := W) (by clear hT hJ hcl; go_simp) ⟨fun _ h => h, hJ.skip (by decide) (by decide), hu⟩
  case s9 =>
    intro L ρ W hL hcl hJ hT
    obtain ⟨u, q21, hu⟩ := (show ∃ u, ρ (.tmp 40) = .tuple #[u, .bool true] ∧ RS W u (stepL k f t l) from hT.1 40 7 rfl rfl)
    refine Op1.of_run (v := .bool true) (W' := W) (by clear hT hJ hcl; go_simp) ⟨fun _ h => h, hJ.skip (by decide) (by decide), rfl⟩
  case s10 =>
    intro L ρ W hL hcl hJ hT
    have q6 := hT.2.1 6 _ t6_ rfl
    obtain ⟨A', c', q29, hlc', hC'⟩ := (show RS W (ρ (.tmp 48)) (stepL k f t l) from hT.1 48 8 rfl rfl)
    obtain ⟨B1, m1, e1, hb⟩ := hJ.one
    have cb := cell_of_one hb
    have fb := free_of_one hb
    exact Op1.of_skip (W' := W.setCell ⟨b6, 0, none⟩ (.slice A' (stepL k f t l).length c')) (by clear hT hJ hcl; go_simp) ⟨fun v hv => hv.sl1 ⟨_, _, _, hb⟩ ((Only.refl _ _).setCell rfl _), hJ.store hlc' hC' hg6 h06, trivial⟩
  case hdone =>
    intro σ L W hL hJ hV
    exact hQ σ W hJ.two (hJ.set1 (hL 6 (by decide))) (hJ.new (hL 10 (by decide)))
abbrev gp13_ops : List Oper := [{ dst := some 64, op := .move (.tmp 9), type := 70, pos := "own.go:64", after := #[], guard := none },
  { dst := some 65, op := .move (.tmp 8), type := 74, pos := "own.go:64", after := #[], guard := none },
  { dst := some 66, op := .move (.tmp 10), type := 3, pos := "own.go:64", after := #[], guard := none },
  { dst := some 67, op := .indexAddr 74 (.tmp 65) (.tmp 66), type := 0, pos := "own.go:64", after := #[⟨1, .data⟩, ⟨2, .data⟩], guard := none },
  { dst := some 68, op := .fieldAddr 95 (.tmp 67) 0, type := 0, pos := "own.go:64", after := #[⟨3, .data⟩], guard := none },
  { dst := some 69, op := .load 3 (.tmp 68), type := 3, pos := "own.go:64", after := #[⟨4, .data⟩], guard := none },
  { dst := some 70, op := .move (.tmp 8), type := 74, pos := "own.go:64", after := #[], guard := none },
  { dst := some 71, op := .move (.tmp 10), type := 3, pos := "own.go:64", after := #[], guard := none },
  { dst := some 72, op := .indexAddr 74 (.tmp 70) (.tmp 71), type := 0, pos := "own.go:64", after := #[⟨6, .data⟩, ⟨7, .data⟩], guard := none },
  { dst := some 73, op := .fieldAddr 95 (.tmp 72) 1, type := 0, pos := "own.go:64", after := #[⟨8, .data⟩], guard := none },
  { dst := some 74, op := .load 3 (.tmp 73), type := 3, pos := "own.go:64", after := #[⟨9, .data⟩], guard := none },
  { dst := some 75, op := .call { callee := .value (.func 48), args := #[.tmp 64, .tmp 69, .tmp 74], argTypes := #[70, 3, 3] }, type := 3, pos := "own.go:64", after := #[⟨0, .data⟩, ⟨5, .data⟩, ⟨10, .data⟩], guard := none },
  { dst := some 76, op := .binOp .neq 3 (.tmp 75) (.const (.int .i64 0)) 3, type := 4, pos := "own.go:64", after := #[⟨11, .data⟩], guard := none },
  { dst := some 77, op := .move (.tmp 76), type := 4, pos := "own.go:64", after := #[⟨12, .data⟩, ⟨11, .chain⟩], guard := none },
  { dst := some 78, op := .move (.tmp 9), type := 70, pos := "own.go:64", after := #[⟨13, .guard⟩], guard := some (13, false) },
  { dst := some 79, op := .move (.tmp 8), type := 74, pos := "own.go:64", after := #[⟨13, .guard⟩], guard := some (13, false) },
  { dst := some 80, op := .move (.tmp 10), type := 3, pos := "own.go:64", after := #[⟨13, .guard⟩], guard := some (13, false) },
  { dst := some 81, op := .indexAddr 74 (.tmp 79) (.tmp 80), type := 0, pos := "own.go:64", after := #[⟨15, .data⟩, ⟨16, .data⟩, ⟨13, .guard⟩], guard := some (13, false) },
  { dst := some 82, op := .fieldAddr 95 (.tmp 81) 0, type := 0, pos := "own.go:64", after := #[⟨17, .data⟩, ⟨13, .guard⟩], guard := some (13, false) },
  { dst := some 83, op := .load 3 (.tmp 82), type := 3, pos := "own.go:64", after := #[⟨18, .data⟩, ⟨13, .guard⟩], guard := some (13, false) },
  { dst := some 84, op := .move (.tmp 8), type := 74, pos := "own.go:64", after := #[⟨13, .guard⟩], guard := some (13, false) },
  { dst := some 85, op := .move (.tmp 10), type := 3, pos := "own.go:64", after := #[⟨13, .guard⟩], guard := some (13, false) },
  { dst := some 86, op := .indexAddr 74 (.tmp 84) (.tmp 85), type := 0, pos := "own.go:64", after := #[⟨20, .data⟩, ⟨21, .data⟩, ⟨13, .guard⟩], guard := some (13, false) },
  { dst := some 87, op := .fieldAddr 95 (.tmp 86) 1, type := 0, pos := "own.go:64", after := #[⟨22, .data⟩, ⟨13, .guard⟩], guard := some (13, false) },
  { dst := some 88, op := .load 3 (.tmp 87), type := 3, pos := "own.go:64", after := #[⟨23, .data⟩, ⟨13, .guard⟩], guard := some (13, false) },
  { dst := some 89, op := .call { callee := .value (.func 37), args := #[.tmp 78, .tmp 83, .tmp 88], argTypes := #[70, 3, 3] }, type := 4, pos := "own.go:64", after := #[⟨14, .data⟩, ⟨19, .data⟩, ⟨24, .data⟩, ⟨13, .chain⟩, ⟨13, .guard⟩], guard := some (13, false) },
  { dst := some 90, op := .unOp .not 4 (.tmp 89), type := 4, pos := "own.go:64", after := #[⟨25, .data⟩, ⟨13, .guard⟩], guard := some (13, false) },
  { dst := some 91, op := .pick (.tmp 77) (.const (.bool true)) (.tmp 90), type := 4, pos := "own.go:64", after := #[⟨13, .data⟩, ⟨26, .data⟩], guard := none }]
abbrev gp13_tab : List (Option Nat) := [none, none, none, none, none, none, none, none, none, none, none, none, none, none, none, none, none, none, none, none, none, none, none, none, none, none, none, none, none, none, none, none, none, none, none, none, none, none, none, none, none, none, none, none, none, none, none, none, none, none, none, none, none, none, none, none, none, none, none, none, none, none, none, none, some 0, some 1, some 2, some 3, some 4, some 5, some 6, some 7, some 8, some 9, some 10, some 11, some 12, some 13, some 14, some 15, some 16, some 17, some 18, some 19, some 20, some 21, some 22, some 23, some 24, some 25, some 26, some 27, none, none, none, none, none, none, none, none, none, none, none, none, none, none, none, none, none, none, none, none, none, none, none, none, none, none, none]
structure JG (g : Nat) (l l2 : List S95) (w : World) (L : Nat → Bool) (W : World) : Prop where
  only : Only g w W
  old : L 25 = false → SetAt W g l
  new : L 25 = true → SetAt W g l2
section
variable {g : Nat} {l l2 : List S95} {w W W' : World} {L : Nat → Bool}
theorem JG.skip (h : JG g l l2 w L W) {j : Nat} (hj : 25 ≠ j) : JG g l l2 w (updL L j) W := ⟨h.only, by rw [upd_ne hj]; exact h.old, by rw [upd_ne hj]; exact h.new⟩
theorem JG.call (h : JG g l l2 w L W) (hs : SetAt W' g l) (ho : Only g W W') (hn : L 25 = false) : JG g l l2 w (updL L 11) W' := ⟨h.only.trans ho, fun _ => hs, fun e => by rw [upd_ne (by decide), hn] at e; cases e⟩
theorem JG.add (h : JG g l l2 w L W) (hs : SetAt W' g l2) (ho : Only g W W') : JG g l l2 w (updL L 25) W' := ⟨h.only.trans ho, (fun e => by rw [upd_self] at e; cases e), fun _ => hs⟩
end
def gp13_val (g b0 o0 m c0 i : Nat) (f t : Int) : Nat → Value → World → Prop := fun j v _ => match j with
  | 0 => v = .pointer (some ⟨g, 0, none⟩)
  | 1 => v = .slice (some ⟨b0, o0, none⟩) m c0
  | 2 => v = .int .i64 (i : Int)
  | 3 => v = .pointer (some ⟨b0, o0 + i * 2, none⟩)
  | 4 => v = .pointer (some ⟨b0, o0 + i * 2, none⟩)
  | 5 => v = .int .i64 f
  | 6 => v = .slice (some ⟨b0, o0, none⟩) m c0
  | 7 => v = .int .i64 (i : Int)
  | 8 => v = .pointer (some ⟨b0, o0 + i * 2, none⟩)
  | 9 => v = .pointer (some ⟨b0, o0 + i * 2 + 1, none⟩)
  | 10 => v = .int .i64 t
  | 11 => v = .int .i64 0
  | 12 => v = .bool false
  | 13 => v = .bool false
  | 14 => v = .pointer (some ⟨g, 0, none⟩)
  | 15 => v = .slice (some ⟨b0, o0, none⟩) m c0
  | 16 => v = .int .i64 (i : Int)
  | 17 => v = .pointer (some ⟨b0, o0 + i * 2, none⟩)
  | 18 => v = .pointer (some ⟨b0, o0 + i * 2, none⟩)
  | 19 => v = .int .i64 f
  | 20 => v = .slice (some ⟨b0, o0, none⟩) m c0
  | 21 => v = .int .i64 (i : Int)
  | 22 => v = .pointer (some ⟨b0, o0 + i * 2, none⟩)
  | 23 => v = .pointer (some ⟨b0, o0 + i * 2 + 1, none⟩)
  | 24 => v = .int .i64 t
  | 25 => v = .bool true
  | 26 => v = .bool false
  | 27 => v = .bool false
  | _ => True
set_option maxRecDepth 100000 in
set_option maxHeartbeats 4000000 in
theorem Gaps_r13 (g b0 o0 m c0 i : Nat) (f t : Int) (l : List S95) (t0 : List Value) (d0 : List Deferred) (w : World) (Q : Exit → Act → World → Prop) (hl : t0.length = gp13_tab.length)
    (t9_ : t0[9]? = some (.pointer (some ⟨g, 0, none⟩))) (t8_ : t0[8]? = some (.slice (some ⟨b0, o0, none⟩) m c0)) (t10_ : t0[10]? = some (.int .i64 (i : Int))) (hi : i < m)
    (k0 : w.cell? ⟨b0, o0 + i * 2, none⟩ = some (.int .i64 f)) (k1 : w.cell? ⟨b0, o0 + i * 2 + 1, none⟩ = some (.int .i64 t)) (hne : b0 ≠ g)
    (hS : SetAt w g l) (hw : wf 0 l) (hP : remL f t l = l ∧ addL f t l = ins f t l ∧ wf 0 (ins f t l) ∧ decide (cntF l < cntF (addL f t l)) = true ∧ wrap64 (cntF l - cntF (remL f t l)) = 0)
    (hQ : ∀ σ W, Only g w W → SetAt W g (ins f t l) → σ 27 = .bool false → Q .normal (lazyA (fun _ => true) σ t0 gp13_tab d0) W) :
    (Code.region 13 gp13_ops.toArray true).wp Try.prog Q { tmps := t0.toArray, defers := d0 } w := by
  refine wp_region_valsL (by kernel_rfl) gp13_tab (by kernel_rfl) hl (fun W W' => Only g W W') (JG g l (ins f t l) w) (gp13_val g b0 o0 m c0 i f t) ⟨Only.of_below (below_drew (Below.refl _ _)), fun _ => hS.below (below_drew (Below.refl _ _)), (fun e => by cases e)⟩ ?hst ⟨(fun j b h => by cases h), (fun j b h => by cases h), (fun j b h => by cases h), (fun j b h => by cases h), (fun j b h => by cases h), (fun j b h => by cases h), (fun j b h => by cases h), (fun j b h => by cases h), (fun j b h => by cases h), (fun j b h => by cases h), (fun j b h => by cases h), (fun j b h => by cases h), (fun j b h => by cases h), (fun j b h => by cases h), (fun j b h v W hv => by cases h; exact hv), (fun j b h v W hv => by cases h; exact hv), (fun j b h v W hv => by cases h; exact hv), (fun j b h v W hv => by cases h; exact hv), (fun j b h v W hv => by cases h; exact hv), (fun j b h v W hv => by cases h; exact hv), (fun j b h v W hv => by cases h; exact hv), (fun j b h v W hv => by cases h; exact hv), (fun j b h v W hv => by cases h; exact hv), (fun j b h v W hv => by cases h; exact hv), (fun j b h v W hv => by cases h; exact hv), (fun j b h v W hv => by cases h; exact hv), (fun j b h v W hv => by cases h; exact hv), (fun j b h => by cases h), trivial⟩ ⟨?s0, ?s1, ?s2, ?s3, ?s4, ?s5, ?s6, ?s7, ?s8, ?s9, ?s10, ?s11, ?s12, ?s13, ?s14, ?s15, ?s16, ?s17, ?s18, ?s19, ?s20, ?s21, ?s22, ?s23, ?s24, ?s25, ?s26, ?s27, trivial⟩ ?hdone
  case hst =>
    intro j v W W' hR h
    exact h
  case s0 =>
    intro L ρ W hLi hcl hJ hT
    have q9 := hT.2.1 9 _ t9_ rfl
    refine Op1.of_run (v := .pointer (some ⟨g, 0, none⟩)) (W' := W) (by clear hT hJ hcl; go_simp) ⟨Only.refl _ _, hJ.skip (by decide), rfl⟩
  case s1 =>
    intro L ρ W hLi hcl hJ hT
    have q8 := hT.2.1 8 _ t8_ rfl
    refine Op1.of_run (v := .slice (some ⟨b0, o0, none⟩) m c0) (W' := W) (by clear hT hJ hcl; go_simp) ⟨Only.refl _ _, hJ.skip (by decide), rfl⟩
  case s2 =>
    intro L ρ W hLi hcl hJ hT
    have q10 := hT.2.1 10 _ t10_ rfl
    refine Op1.of_run (v := .int .i64 (i : Int)) (W' := W) (by clear hT hJ hcl; go_simp) ⟨Only.refl _ _, hJ.skip (by decide), rfl⟩
  case s3 =>
    intro L ρ W hLi hcl hJ hT
    have q65 : ρ (.tmp 65) = .slice (some ⟨b0, o0, none⟩) m c0 := hT.1 65 1 rfl rfl
    have q66 : ρ (.tmp 66) = .int .i64 (i : Int) := hT.1 66 2 rfl rfl
    have i1 : (i : Int) < (m : Int) := by omega
    refine Op1.of_run (v := .pointer (some ⟨b0, o0 + i * 2, none⟩)) (W' := W) (by clear hT hJ hcl; go_simp) ⟨Only.refl _ _, hJ.skip (by decide), rfl⟩
  case s4 =>
    intro L ρ W hLi hcl hJ hT
    have q67 : ρ (.tmp 67) = .pointer (some ⟨b0, o0 + i * 2, none⟩) := hT.1 67 3 rfl rfl
    refine Op1.of_run (v := .pointer (some ⟨b0, o0 + i * 2, none⟩)) (W' := W) (by clear hT hJ hcl; go_simp) ⟨Only.refl _ _, hJ.skip (by decide), rfl⟩
  case s5 =>
    intro L ρ W hLi hcl hJ hT
    have q68 : ρ (.tmp 68) = .pointer (some ⟨b0, o0 + i * 2, none⟩) := hT.1 68 4 rfl rfl
    have cc := hJ.only.cell (p := ⟨b0, o0 + i * 2, none⟩) hne k0
    refine Op1.of_run (v := .int .i64 f) (W' := W) (by clear hT hJ hcl; go_simp) ⟨Only.refl _ _, hJ.skip (by decide), rfl⟩
  case s6 =>
    intro L ρ W hLi hcl hJ hT
    have q8 := hT.2.1 8 _ t8_ rfl
    refine Op1.of_run (v := .slice (some ⟨b0, o0, none⟩) m c0) (W' := W) (by clear hT hJ hcl; go_simp) ⟨Only.refl _ _, hJ.skip (by decide), rfl⟩
  case s7 =>
    intro L ρ W hLi hcl hJ hT
    have q10 := hT.2.1 10 _ t10_ rfl
    refine Op1.of_run (v := .int .i64 (i : Int)) (W' := W) (by clear hT hJ hcl; go_simp) ⟨Only.refl _ _, hJ.skip (by decide), rfl⟩
  case s8 =>
    intro L ρ W hLi hcl hJ hT
    have q70 : ρ (.tmp 70) = .slice (some ⟨b0, o0, none⟩) m c0 := hT.1 70 6 rfl rfl
    have q71 : ρ (.tmp 71) = .int .i64 (i : Int) := hT.1 71 7 rfl rfl
    have i1 : (i : Int) < (m : Int) := by omega
    refine Op1.of_run (v := .pointer (some ⟨b0, o0 + i * 2, none⟩)) (W' := W) (by clear hT hJ hcl; go_simp) ⟨Only.refl _ _, hJ.skip (by decide), rfl⟩
  case s9 =>
    intro L ρ W hLi hcl hJ hT
    have q72 : ρ (.tmp 72) = .pointer (some ⟨b0, o0 + i * 2, none⟩) := hT.1 72 8 rfl rfl
    refine Op1.of_run (v := .pointer (some ⟨b0, o0 + i * 2 + 1, none⟩)) (W' := W) (by clear hT hJ hcl; go_simp) ⟨Only.refl _ _, hJ.skip (by decide), rfl⟩
  case s10 =>
    intro L ρ W hLi hcl hJ hT
    have q73 : ρ (.tmp 73) = .pointer (some ⟨b0, o0 + i * 2 + 1, none⟩) := hT.1 73 9 rfl rfl
    have cc := hJ.only.cell (p := ⟨b0, o0 + i * 2 + 1, none⟩) hne k1
    refine Op1.of_run (v := .int .i64 t) (W' := W) (by clear hT hJ hcl; go_simp) ⟨Only.refl _ _, hJ.skip (by decide), rfl⟩
  case s11 =>
    intro L ρ W hLi hcl hJ hT
    have q64 : ρ (.tmp 64) = .pointer (some ⟨g, 0, none⟩) := hT.1 64 0 rfl rfl
    have q69 : ρ (.tmp 69) = .int .i64 f := hT.1 69 5 rfl rfl
    have q74 : ρ (.tmp 74) = .int .i64 t := hT.1 74 10 rfl rfl
    have n25 : L 25 = false := Bool.eq_false_iff.2 fun e => by rw [hcl 13 12 (by rfl) (hcl 25 13 (by rfl) e) |> hcl 12 11 (by rfl)] at hLi; cases hLi
    have qf := hT.2.2.2 48
    refine Op1.of_call (f := 48) (args := #[.pointer (some ⟨g, 0, none⟩), .int .i64 f, .int .i64 t]) (W' := W) (by clear hT hJ hcl; go_simp) ?_
    refine (Rem_calls g f t l W (hJ.old n25) hw).mono ?_
    rintro e W2 ⟨rfl, h1, h2, _⟩
    rw [hP.1] at h1
    exact ⟨_, rfl, h2, hJ.call h1 h2 n25, by show _ = _; rw [hP.2.2.2.2]⟩
  case s12 =>
    intro L ρ W hLi hcl hJ hT
    have q75 : ρ (.tmp 75) = .int .i64 0 := hT.1 75 11 rfl rfl
    have qc := hT.2.2.1 (Go.Value.int Go.IntKind.i64 0)
    refine Op1.of_run (v := .bool false) (W' := W) (by clear hT hJ hcl; go_simp) ⟨Only.refl _ _, hJ.skip (by decide), rfl⟩
  case s13 =>
    intro L ρ W hLi hcl hJ hT
    have q76 : ρ (.tmp 76) = .bool false := hT.1 76 12 rfl rfl
    refine Op1.of_run (v := .bool false) (W' := W) (by clear hT hJ hcl; go_simp) ⟨Only.refl _ _, hJ.skip (by decide), rfl⟩
  case s14 =>
    intro L ρ W hLi hcl hJ hT
    have q9 := hT.2.1 9 _ t9_ rfl
    refine Op1.of_run (v := .pointer (some ⟨g, 0, none⟩)) (W' := W) (by clear hT hJ hcl; go_simp) ⟨Only.refl _ _, hJ.skip (by decide), rfl⟩
  case s15 =>
    intro L ρ W hLi hcl hJ hT
    have q8 := hT.2.1 8 _ t8_ rfl
    refine Op1.of_run (v := .slice (some ⟨b0, o0, none⟩) m c0) (W' := W) (by clear hT hJ hcl; go_simp) ⟨Only.refl _ _, hJ.skip (by decide), rfl⟩
  case s16 =>
    intro L ρ W hLi hcl hJ hT
    have q10 := hT.2.1 10 _ t10_ rfl
    refine Op1.of_run (v := .int .i64 (i : Int)) (W' := W) (by clear hT hJ hcl; go_simp) ⟨Only.refl _ _, hJ.skip (by decide), rfl⟩
  case s17 =>
    intro L ρ W hLi hcl hJ hT
    have q79 : ρ (.tmp 79) = .slice (some ⟨b0, o0, none⟩) m c0 := hT.1 79 15 rfl rfl
    have q80 : ρ (.tmp 80) = .int .i64 (i : Int) := hT.1 80 16 rfl rfl
    have i1 : (i : Int) < (m : Int) := by omega
    refine Op1.of_run (v := .pointer (some ⟨b0, o0 + i * 2, none⟩)) (W' := W) (by clear hT hJ hcl; go_simp) ⟨Only.refl _ _, hJ.skip (by decide), rfl⟩
  case s18 =>
    intro L ρ W hLi hcl hJ hT
    have q81 : ρ (.tmp 81) = .pointer (some ⟨b0, o0 + i * 2, none⟩) := hT.1 81 17 rfl rfl
    refine Op1.of_run (v := .pointer (some ⟨b0, o0 + i * 2, none⟩)) (W' := W) (by clear hT hJ hcl; go_simp) ⟨Only.refl _ _, hJ.skip (by decide), rfl⟩
  case s19 =>
    intro L ρ W hLi hcl hJ hT
    have q82 : ρ (.tmp 82) = .pointer (some ⟨b0, o0 + i * 2, none⟩) := hT.1 82 18 rfl rfl
    have cc := hJ.only.cell (p := ⟨b0, o0 + i * 2, none⟩) hne k0
    refine Op1.of_run (v := .int .i64 f) (W' := W) (by clear hT hJ hcl; go_simp) ⟨Only.refl _ _, hJ.skip (by decide), rfl⟩
  case s20 =>
    intro L ρ W hLi hcl hJ hT
    have q8 := hT.2.1 8 _ t8_ rfl
    refine Op1.of_run (v := .slice (some ⟨b0, o0, none⟩) m c0) (W' := W) (by clear hT hJ hcl; go_simp) ⟨Only.refl _ _, hJ.skip (by decide), rfl⟩
  case s21 =>
    intro L ρ W hLi hcl hJ hT
    have q10 := hT.2.1 10 _ t10_ rfl
    refine Op1.of_run (v := .int .i64 (i : Int)) (W' := W) (by clear hT hJ hcl; go_simp) ⟨Only.refl _ _, hJ.skip (by decide), rfl⟩
  case s22 =>
    intro L ρ W hLi hcl hJ hT
    have q84 : ρ (.tmp 84) = .slice (some ⟨b0, o0, none⟩) m c0 := hT.1 84 20 rfl rfl
    have q85 : ρ (.tmp 85) = .int .i64 (i : Int) := hT.1 85 21 rfl rfl
    have i1 : (i : Int) < (m : Int) := by omega
    refine Op1.of_run (v := .pointer (some ⟨b0, o0 + i * 2, none⟩)) (W' := W) (by clear hT hJ hcl; go_simp) ⟨Only.refl _ _, hJ.skip (by decide), rfl⟩
  case s23 =>
    intro L ρ W hLi hcl hJ hT
    have q86 : ρ (.tmp 86) = .pointer (some ⟨b0, o0 + i * 2, none⟩) := hT.1 86 22 rfl rfl
    refine Op1.of_run (v := .pointer (some ⟨b0, o0 + i * 2 + 1, none⟩)) (W' := W) (by clear hT hJ hcl; go_simp) ⟨Only.refl _ _, hJ.skip (by decide), rfl⟩
  case s24 =>
    intro L ρ W hLi hcl hJ hT
    have q87 : ρ (.tmp 87) = .pointer (some ⟨b0, o0 + i * 2 + 1, none⟩) := hT.1 87 23 rfl rfl
    have cc := hJ.only.cell (p := ⟨b0, o0 + i * 2 + 1, none⟩) hne k1
    refine Op1.of_run (v := .int .i64 t) (W' := W) (by clear hT hJ hcl; go_simp) ⟨Only.refl _ _, hJ.skip (by decide), rfl⟩
  case s25 =>
    intro L ρ W hLi hcl hJ hT
    have q78 : ρ (.tmp 78) = .pointer (some ⟨g, 0, none⟩) := hT.1 78 14 rfl rfl
    have q83 : ρ (.tmp 83) = .int .i64 f := hT.1 83 19 rfl rfl
    have q88 : ρ (.tmp 88) = .int .i64 t := hT.1 88 24 rfl rfl
    have qf := hT.2.2.2 37
    refine Op1.of_call (f := 37) (args := #[.pointer (some ⟨g, 0, none⟩), .int .i64 f, .int .i64 t]) (W' := W) (by clear hT hJ hcl; go_simp) ?_
    refine (Add_calls g f t l W (hJ.old hLi) hw).mono ?_
    rintro e W2 ⟨rfl, h1, h2, _⟩
    rw [hP.2.1] at h1
    exact ⟨_, rfl, h2, hJ.add h1 h2, by show _ = _; rw [hP.2.2.2.1]⟩
  case s26 =>
    intro L ρ W hLi hcl hJ hT
    have q89 : ρ (.tmp 89) = .bool true := hT.1 89 25 rfl rfl
    refine Op1.of_run (v := .bool false) (W' := W) (by clear hT hJ hcl; go_simp) ⟨Only.refl _ _, hJ.skip (by decide), rfl⟩
  case s27 =>
    intro L ρ W hLi hcl hJ hT
    have q77 : ρ (.tmp 77) = .bool false := hT.1 77 13 rfl rfl
    have q90 : ρ (.tmp 90) = .bool false := hT.1 90 26 rfl rfl
    have qc := hT.2.2.1 (Go.Value.bool true)
    refine Op1.of_run (v := .bool false) (W' := W) (by clear hT hJ hcl; go_simp) ⟨Only.refl _ _, hJ.skip (by decide), rfl⟩
  case hdone =>
    intro σ L W hL hJ hV
    exact hQ σ W hJ.only (hJ.new (hL 25 (by decide))) (hV 27 (by decide))
end Go.Proofs.Ytiladcdogbeomaa.QRangesPlays

namespace Go.Proofs.Ytiladcdogbeomaa.QRangesPlays
open Go.RowKit Go.Shelf Go.Proofs.YtiladcdogbeomaaW.PrintWords Go.Proofs.YtiladcdogbeomaaW.PrintLast Go.Proofs.YtiladcdogbeomaaW.PrintMore Go.Proofs.Ytiladcdogbeomaa.RowLaws Go.Proofs.Ytiladcdogbeomaa.Lazy
attribute [local go_sem] Oper.semAt_some
/-- The box of the act that is asked for, at X. -/
def ActBox (X : Nat) (k f t : Int) (W : World) : Prop := W.heap[X]? = some (.cells #[.int .u8 k, .int .i64 f, .int .i64 t] 84 (0, 0))
theorem ActBox.cells {X : Nat} {k f t : Int} {W : World} (h : ActBox X k f t W) : W.cell? ⟨X, 1, none⟩ = some (.int .i64 f) ∧ W.cell? ⟨X, 2, none⟩ = some (.int .i64 t) := by
  unfold ActBox at h
  refine ⟨?_, ?_⟩ <;> (unfold World.cell?; rw [h]; rfl)
set_option maxRecDepth 100000 in
set_option maxHeartbeats 4000000 in
theorem Gaps_no (A : Option Addr) (c n : Nat) (k f t : Int) (w : World) (hno : 60 < n ∨ f < 0 ∨ t < f ∨ 1099511627776 < t) :
    Calls Try.prog 9 #[.slice A n c, .agg #[.int .u8 k, .int .i64 f, .int .i64 t]] w fun e w' => e = .returned (.bool true) ∧ Below w.heap.size w w' := by
  have HB := Aside0.mk (below_alloc (Below.refl w.heap.size w) (.cells #[.int .u8 k, .int .i64 f, .int .i64 t] 84))
  by_cases h1 : 60 < n
  · have e1 : (60 : Int) < (n : Int) := by omega
    go_enter Try.func9, Try.ntmps9
    go_wp2_with (go_at_call 35; refine (Awake_calls _).mono ?_; rintro e w2 ⟨rfl, hb⟩; have HB2 := Aside0.mk hb; clear hb)
    go_ret
    exact ⟨rfl, below_step HB.out HB2.out⟩
  · have e1 : ¬ (60 : Int) < (n : Int) := by omega
    by_cases h2 : f < 0
    · clear hno
      go_enter Try.func9, Try.ntmps9
      go_wp2_with (go_at_call 35; refine (Awake_calls _).mono ?_; rintro e w2 ⟨rfl, hb⟩; have HB2 := Aside0.mk hb; clear hb)
      go_ret
      exact ⟨rfl, below_step HB.out HB2.out⟩
    · by_cases h3 : t < f
      · clear hno
        go_enter Try.func9, Try.ntmps9
        go_wp2_with (go_at_call 35; refine (Awake_calls _).mono ?_; rintro e w2 ⟨rfl, hb⟩; have HB2 := Aside0.mk hb; clear hb)
        go_ret
        exact ⟨rfl, below_step HB.out HB2.out⟩
      · have h4 : 1099511627776 < t := by omega
        clear hno
        go_enter Try.func9, Try.ntmps9
        go_wp2_with (go_at_call 35; refine (Awake_calls _).mono ?_; rintro e w2 ⟨rfl, hb⟩; have HB2 := Aside0.mk hb; clear hb)
        go_ret
        exact ⟨rfl, below_step HB.out HB2.out⟩
set_option maxRecDepth 100000 in
set_option maxHeartbeats 4000000 in
theorem Gaps_go (A : Option Addr) (c : Nat) (xs : List (Int × Int × Int)) (k f t : Int) (w : World) (hA : ActRow w A xs) (hx : ActsOk xs) (hc : xs.length ≤ c) (h60 : xs.length ≤ 60) (hf : 0 ≤ f) (hft : f ≤ t) (ht : t ≤ 1099511627776) :
    Calls Try.prog 9 #[.slice A xs.length c, .agg #[.int .u8 k, .int .i64 f, .int .i64 t]] w fun e w' => e = .returned (.bool true) ∧ Below w.heap.size w w' := by
  have HA := Aside0.mk hA
  have HX := Aside0.mk hx
  obtain ⟨n, hn⟩ : ∃ n, xs.length = n := ⟨_, rfl⟩
  rw [hn] at hc h60 ⊢
  have e1 : ¬ (60 : Int) < (n : Int) := by omega
  have e2 : ¬ f < 0 := by omega
  have e3 : ¬ t < f := by omega
  have e4 : ¬ 1099511627776 < t := by omega
  clear hA hx
  go_enter Try.func9, Try.ntmps9
  go_wp2_with (go_at_call 36; refine (New_calls _).mono ?_; rintro e w2 ⟨g, rfl, hs, hb, hg⟩; have HS := Aside0.mk hs; have HB := Aside0.mk hb; have HG := Aside0.mk hg; clear hs hb hg)
  obtain ⟨X, hX⟩ : ∃ X, w.heap.size = X := ⟨_, rfl⟩
  have hb0 := below_alloc (Below.refl w.heap.size w) (.cells #[.int .u8 k, .int .i64 f, .int .i64 t] 84)
  have hgw : g = X + 1 := by have := HG.out; rw [World.size_alloc, hX] at this; exact this
  have hbx : Below w.heap.size w (w2.alloc (.cells #[.slice none 0 0] 80)) := below_step (below_step hb0 HB.out) (below_alloc (Below.refl _ w2) _)
  have hax : ActBox X k f t (w2.alloc (.cells #[.slice none 0 0] 80)) := by
    have h1 : (w.alloc (.cells #[.int .u8 k, .int .i64 f, .int .i64 t] 84)).heap[X]? = some (.cells #[.int .u8 k, .int .i64 f, .int .i64 t] 84 (0, 0)) := by rw [← hX]; exact heap_alloc_new w _
    exact blk_alloc ((HB.out.block X (by rw [World.size_alloc, hX]; omega)).trans h1) _
  have HST := Aside0.mk (show StW g w2.heap.size w (w2.alloc (.cells #[.slice none 0 0] 80)) [] ∧ ActBox X k f t (w2.alloc (.cells #[.slice none 0 0] 80)) from ⟨⟨HS.out.below (below_alloc (Below.refl _ w2) _), ⟨none, 0, heap_alloc_new w2 _, Nat.le_refl _, Kd.C_nil _ _⟩, hbx, trivial, by omega, Nat.le_trans hb0.size HB.out.size⟩, hax⟩)
  obtain ⟨b, hb⟩ : ∃ b, w2.heap.size = b := ⟨_, rfl⟩
  have HXB := Aside0.mk (show X < g ∧ g < b from ⟨by omega, by rw [← hb]; exact HS.out.lt⟩)
  rw [hb] at HST ⊢
  rw [hX]
  have HXW := Aside0.mk hX
  clear hgw hb HS HB HG hb0 hbx hax hX
  go_loopw [7] (fun i wr => ∃ j : Nat, j ≤ n ∧ i = .int .i64 j ∧ Aside0 ((∃ l, StW g b w wr l) ∧ ActBox X k f t wr)) (fun i _ => n - (intOf i).toNat)
  case atStart => exact ⟨0, Nat.zero_le _, rfl, ⟨⟨[], HST.out.1⟩, HST.out.2⟩⟩
  case round =>
    obtain ⟨j, hj, rfl, HL⟩ := hrel
    obtain ⟨⟨l, hl⟩, hact⟩ := HL.out
    have HACT := Aside0.mk hact
    by_cases hlt : j < n
    · have hlt2 : ((j : Nat) : Int) < (n : Int) := by omega
      obtain ⟨b0, o0, rfl, r0, r1, r2⟩ := HA.out j (by omega)
      have hok := HX.out xs[j] (List.getElem_mem _)
      have hbl : b0 < w.heap.size := World.block_lt_of_cell? _ _ r0
      obtain ⟨A6, c6, hF1, hF2, hF3⟩ := hl.hF
      have HLW := Aside0.mk hl
      have c0 := (hl.hb.cell (p := ⟨b0, o0 + j * 3, none⟩) hbl).trans r0
      have c1 := (hl.hb.cell (p := ⟨b0, o0 + j * 3 + 1, none⟩) hbl).trans r1
      have c2 := (hl.hb.cell (p := ⟨b0, o0 + j * 3 + 2, none⟩) hbl).trans r2
      clear hact
      go_wp2
      refine Gaps_r7 g b b0 o0 n c j xs[j].1 xs[j].2.1 xs[j].2.2 A6 c6 l _ _ _ _ (by rfl) (by rfl) (by rfl) (by rfl) (by rfl) hlt (by omega) ⟨Two.refl _ _ _, c0, c1, c2, fun _ => hl.hS, (fun e => by cases e), fun _ => ⟨hF1, hF3⟩, (fun e => by cases e), ⟨_, _, _, hF1⟩⟩ hl.hw hF2 hok.2.2 hok.1 hok.2.1 hl.ne (by have := hl.hg; omega) (by have := hl.hB; omega) ?_
      intro σ W6 h2 hS6 hF6
      have HL6 := Aside0.mk (HLW.out.two h2 hS6 hF6 (wf_step HLW.out.hw))
      have HACT6 := Aside0.mk (show ActBox X k f t W6 from (h2.block X (lt_of_block HACT.out) (by have := HXB.out; omega) (by have := HXB.out; omega)).trans HACT.out)
      simp only [lazyA, lazyT, gp7_tab, List.zipWith_cons_cons, List.zipWith_nil_left, cond_true]
      clear hl hF1 hF2 hF3 c0 c1 c2 h2 hS6 hF6
      rename_i K0 hK0
      refine hK0 _ _ ?_
      go_wp2
      go_roundw
      case rel => exact ⟨j + 1, by omega, by simp, ⟨⟨_, HL6.out⟩, HACT6.out⟩⟩
      case measure => simp [intOf]; omega
    · have hj2 : j = n := by omega
      subst hj2
      have hll : l.length < 8796093022208 := by have := wf_len hl.hw (by omega); omega
      have HLL := Aside0.mk hll
      have HLW := Aside0.mk hl
      have HGP := Aside0.mk (gps_all hf hft ht hl.hw)
      have hmay : may f t = true := by unfold may; simp [hf, hft, ht]
      have HGL := Aside0.mk (show gapsL f t l = gps f t f l by unfold gapsL; rw [if_pos hmay])
      obtain ⟨x1, x2⟩ := hact.cells
      clear HL hl hact hll hmay
      go_wp2_with (first
        | (go_at_call 46; refine (Gaps_calls g f t l _ HLW.out.hS HLW.out.hw).mono ?_; rintro e w5 ⟨v, rfl, ho, hb⟩; obtain ⟨A8, c8, rfl, hc8, hC8⟩ := ho.reads; have HO := Aside0.mk ho; have HC8 := Aside0.mk (And.intro hc8 hC8); have HL5 := Aside0.mk (HLW.out.below hb); have HACT5 := Aside0.mk (show ActBox X k f t w5 from (hb.block X (lt_of_block HACT.out)).trans HACT.out); clear ho hb hc8 hC8)
        | (go_at_call 47; refine (Fork_calls g l _ HL5.out.hS HLL.out).mono ?_; rintro e w6 ⟨g2, rfl, hs2, hb2, hg2⟩; have HS6 := Aside0.mk hs2; have HL6 := Aside0.mk (HL5.out.below hb2); have HC6 := Aside0.mk (Kd.C_below HC8.out.2 hb2); have HG2 := Aside0.mk hg2; have HACT6 := Aside0.mk (show ActBox X k f t w6 from (hb2.block X (lt_of_block HACT5.out)).trans HACT5.out); clear hs2 hb2 hg2))
      obtain ⟨gs, hgs⟩ : ∃ gs, gapsL f t l = gs := ⟨_, rfl⟩
      have HGS := Aside0.mk (show wf f gs ∧ ∀ n, (has gs n ↔ (f ≤ n ∧ n ≤ t) ∧ ¬ has l n) from by have h1 := HGL.out; have h2 := HGP.out; rw [hgs] at h1; rw [← h1] at h2; exact h2)
      rw [hgs] at HC8 HC6 ⊢
      obtain ⟨m, hm⟩ : ∃ m, gs.length = m := ⟨_, rfl⟩
      have HM := Aside0.mk hm
      rw [hm] at HC8 HC6 ⊢
      have hmb : (m : Int) ≤ 1000000000000 := by have := wf_len HGS.out.1 (by omega); have := HM.out; omega
      have HX2 := Aside0.mk (show X < g2 from by have h1 := lt_of_block HACT5.out; have h2 := HG2.out; omega)
      clear hgs hm HO HL5 HACT5 HGP HGL
      go_loopw [10] (fun i wr => ∃ q : Nat, q ≤ m ∧ i = .int .i64 q ∧ Aside0 (∃ lx, SetAt wr g2 lx ∧ wf 0 lx ∧ (∀ n, has lx n ↔ has l n ∨ has (gs.take q) n) ∧ Only g2 w6 wr)) (fun i _ => m - (intOf i).toNat)
      case atStart => exact ⟨0, Nat.zero_le _, rfl, ⟨l, HS6.out, HLW.out.hw, fun n => by simp [has], Only.refl _ _⟩⟩
      case round =>
        obtain ⟨q, hq, rfl, HQ⟩ := hrel
        obtain ⟨lx, hs, hw, hh, ho⟩ := HQ.out
        by_cases hlt : q < m
        · have hlt2 : ((q : Nat) : Int) < (m : Int) := by omega
          have hql : q < gs.length := by have := HM.out; omega
          obtain ⟨b0, o0, rfl, y0, y1⟩ := row_at HC8.out.2 q hql
          obtain ⟨b1, o1, hA1, z0, z1⟩ := row_at HC6.out q hql
          cases hA1
          have hb0 : b0 ≠ g2 := by have h1 : b0 < w5.heap.size := World.block_lt_of_cell? _ _ y0; have := HG2.out; omega
          have v0 := ho.cell (p := ⟨b0, o0 + q * 2, none⟩) hb0 z0
          have v1 := ho.cell (p := ⟨b0, o0 + q * 2 + 1, none⟩) hb0 z1
          have hx := wf_mem HGS.out.1 gs[q] (List.getElem_mem _)
          have hpg := put_gap (f := gs[q].f0) (t := gs[q].f1) (l := lx) (by omega) hx.2.1 hx.2.2 hw (fun n h1 h2 h3 => by
            rcases (hh n).1 h3 with h4 | h4
            · exact ((HGS.out.2 n).1 ⟨gs[q], List.getElem_mem _, h1, h2⟩).2 h4
            · have := take_lt HGS.out.1 q hql n h4; omega)
          have HW := Aside0.mk (And.intro hw (And.intro hh ho))
          have HTK := Aside0.mk (show ∀ n, has (gs.take (q + 1)) n ↔ has (gs.take q) n ∨ (gs[q].f0 ≤ n ∧ n ≤ gs[q].f1) from fun n => by
            rw [List.take_succ_eq_append_getElem hql]
            simp only [has, List.mem_append, List.mem_singleton]
            constructor
            · rintro ⟨x, h1 | rfl, h2⟩
              · exact .inl ⟨x, h1, h2⟩
              · exact .inr h2
            · rintro (⟨x, h1, h2⟩ | h2)
              · exact ⟨x, .inl h1, h2⟩
              · exact ⟨_, .inr rfl, h2⟩)
          have hwq : IntKind.i64.wrap ((q : Int) + 1) = (q : Int) + 1 := IntWalk.i64_in _ (by omega)
          clear HQ y0 y1 z0 z1 hh
          go_wp2
          refine Gaps_r13 g2 b0 o0 m c8 q gs[q].f0 gs[q].f1 lx _ _ _ _ (by rfl) (by rfl) (by rfl) (by rfl) hlt v0 v1 hb0 hs hw hpg ?_
          intro σ W7 ho7 hs7 hσ
          have HN := Aside0.mk (And.intro hpg.2.2.1 (And.intro hs7 ho7))
          have HHX := Aside0.mk (fun n => has_ins (l := lx) n hw hx.2.1)
          simp only [lazyA, lazyT, gp13_tab, List.zipWith_cons_cons, List.zipWith_nil_left, cond_true]
          clear v0 v1 hs hw hpg ho7 hs7 hx ho
          rename_i K1 hK1
          refine hK1 _ _ ?_
          rw [hσ]
          go_wp2
          go_roundw
          case rel => exact ⟨q + 1, by omega, by simp, ⟨_, HN.out.2.1, HN.out.1, fun n => by rw [HHX.out n, HW.out.2.1 n, HTK.out n]; constructor <;> (intro h; rcases h with h | h | h) <;> simp [h], HW.out.2.2.trans HN.out.2.2⟩⟩
          case measure => simp [intOf]; omega
        · have hq2 : q = m := by omega
          subst hq2
          have hall : ∀ n, f ≤ n → n ≤ t → has lx n := fun n h1 h2 => by
            rw [hh n, List.take_of_length_le (Nat.le_of_eq HM.out), HGS.out.2 n]
            by_cases h3 : has l n
            · exact .inl h3
            · exact .inr ⟨⟨h1, h2⟩, h3⟩
          have hlx : lx.length * 16 ≤ 140737488351232 := by have := wf_len hw (by omega); omega
          have HNIL := Aside0.mk (gapsL_nil hf hft ht hw hall)
          have HSX := Aside0.mk (And.intro hs (And.intro hw hlx))
          have HF1 := Aside0.mk (any_has.2 (hall f (Int.le_refl _) hft))
          have HF2 := Aside0.mk (any_has.2 (hall t hft (Int.le_refl _)))
          have HOW := Aside0.mk ho
          have HACTR := Aside0.mk (show ActBox X k f t wr from (ho.block X (lt_of_block HACT6.out) (by intro e; injection e; have := HX2.out; omega)).trans HACT6.out)
          obtain ⟨x1, x2⟩ := HACTR.out.cells
          have HC := Aside0.mk (Below.refl wr.heap.size wr)
          have HMK : Mk_ 0 := rfl
          clear HQ hs hw hh ho hall hlx
          go_wp2_with (first
            | (go_at_call 46; refine (Gaps_calls g2 f t lx _ HSX.out.1 HSX.out.2.1).mono ?_; rintro e w7 ⟨v, rfl, ho, hb⟩; have ho := (HNIL.out ▸ ho : OwnS _ _ _ []); obtain ⟨A9, c9, rfl, hc9, hC9⟩ := ho.reads; have x1' := (hb.cell (World.block_lt_of_cell? _ _ x1)).trans x1; have x2' := (hb.cell (World.block_lt_of_cell? _ _ x2)).trans x2; have HC' := Aside0.mk (below_step HC.out hb); clear x1 x2 HC; have x1 := x1'; have x2 := x2'; have HC := HC'; clear x1' x2' HC'; clear ho hc9 hC9 hb)
            | (have hm_ := (HMK : Mk_ 0); clear hm_ HMK; have HMK : Mk_ 1 := rfl; go_at_call 40; refine (Has_at g2 f lx _ (HSX.out.1.below HC.out) HSX.out.2.2).mono ?_; rintro e w8 ⟨rfl, hb⟩; rw [HF1.out]; have x1' := (hb.cell (World.block_lt_of_cell? _ _ x1)).trans x1; have x2' := (hb.cell (World.block_lt_of_cell? _ _ x2)).trans x2; have HC' := Aside0.mk (below_step HC.out hb); clear x1 x2 HC; have x1 := x1'; have x2 := x2'; have HC := HC'; clear x1' x2' HC'; clear hb)
            | (have hm_ := (HMK : Mk_ 1); clear hm_ HMK; have HMK : Mk_ 2 := rfl; go_at_call 40; refine (Has_at g2 t lx _ (HSX.out.1.below HC.out) HSX.out.2.2).mono ?_; rintro e w8 ⟨rfl, hb⟩; rw [HF2.out]; have x1' := (hb.cell (World.block_lt_of_cell? _ _ x1)).trans x1; have x2' := (hb.cell (World.block_lt_of_cell? _ _ x2)).trans x2; have HC' := Aside0.mk (below_step HC.out hb); clear x1 x2 HC; have x1 := x1'; have x2 := x2'; have HC := HC'; clear x1' x2' HC'; clear hb)
            | (go_at_call 35; refine (Awake_calls _).mono ?_; rintro e w9 ⟨rfl, hb⟩; have x1' := (hb.cell (World.block_lt_of_cell? _ _ x1)).trans x1; have x2' := (hb.cell (World.block_lt_of_cell? _ _ x2)).trans x2; have HC' := Aside0.mk (below_step HC.out hb); clear x1 x2 HC; have x1 := x1'; have x2 := x2'; have HC := HC'; clear x1' x2' HC'; clear hb))
          go_ret
          refine ⟨rfl, ?_⟩
          exact below_step (Only.belowN HL6.out.hb HOW.out (by have h1 := HX2.out; have h2 := HXW.out; omega) HL6.out.hb.size) HC.out
theorem Gaps_walk (A : Option Addr) (c : Nat) (xs : List (Int × Int × Int)) (k f t : Int) (w : World) (hA : ActRow w A xs) (hx : ActsOk xs) (hc : xs.length ≤ c) :
    Calls Try.prog 9 #[.slice A xs.length c, .agg #[.int .u8 k, .int .i64 f, .int .i64 t]] w fun e w' => e = .returned (.bool true) ∧ Below w.heap.size w w' := by
  by_cases h : 60 < xs.length ∨ f < 0 ∨ t < f ∨ 1099511627776 < t
  · exact Gaps_no A c xs.length k f t w h
  · exact Gaps_go A c xs k f t w hA hx hc (by omega) (by omega) (by omega) (by omega)
end Go.Proofs.Ytiladcdogbeomaa.QRangesPlays
