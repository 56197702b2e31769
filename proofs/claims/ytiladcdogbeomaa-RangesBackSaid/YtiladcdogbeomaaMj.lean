/- Law 17 (ranges): contracts of functions that its statements reach, and plain laws behind them (part 10 of 12). No condition. -/
import Derived.Test.YtiladcdogbeomaaMd
import Derived.Test.YtiladcdogbeomaaMi
import Derived.Lib.AppendZerosOnto
namespace Go.Proofs.Ytiladcdogbeomaa.QRangesPlays
open Go.RowKit Go.Proofs.YtiladcdogbeomaaW.PrintWords Go.Proofs.YtiladcdogbeomaaW.PrintLast Go.Proofs.YtiladcdogbeomaaW.PrintMore
attribute [local go_sem] max2_int min2_int max_two min_two   -- for this text's walks alone
set_option linter.unusedVariables false
set_option linter.unusedSimpArgs false

attribute [local go_sem high] eqA95
/-! ### varint_Len: function 102 -/
/-- The least width of a number. -/
def varint_Len.f (a0 : Int) : Option Int := if a0 < 9223372036854775808 then some (if a0 < 0 then 0 else if a0 < 64 then 1 else if a0 < 16384 then 2 else if a0 < 1073741824 then 4 else if a0 < 4611686018427387904 then 8 else 0) else none
theorem fits_w (a0 w b : Int) (r : Bool) (hw : wrap64 ((wrap64 (8 * w)) - 2) = b) (h0 : 0 ≤ b) (hn : a0 < 9223372036854775808) (hs : shl .u64 1 b = 2 ^ b.toNat) (hr : r = (decide (0 ≤ a0) && decide (a0 < 2 ^ b.toNat))) : varint_fits.f a0 w = some r := by
  subst hr
  unfold varint_fits.f
  rw [hw]
  by_cases h : a0 ≥ 0
  · rw [if_pos h, if_pos h0, hs]
    have e : IntKind.u64.wrap a0 = a0 := by
      simp only [IntKind.wrap, IntKind.bits, IntKind.signed]
      simp
      omega
    rw [e]
    have h' : (0 ≤ a0) = True := eq_true h
    simp [h']
  · rw [if_neg h]
    have h' : (0 ≤ a0) = False := eq_false h
    simp [h']
theorem w64v {x : Int} (h : -9223372036854775808 ≤ x ∧ x < 9223372036854775808) : wrap64 x = x := by unfold wrap64; omega
theorem fits1 (a0 : Int) (hn : a0 < 9223372036854775808) : varint_fits.f a0 1 = some (decide (0 ≤ a0) && decide (a0 < 64)) :=
  fits_w a0 1 6 _ (by rw [w64v (x := 8 * 1) (by decide)]; exact w64v (by decide)) (by decide) hn (by decide) rfl
theorem fits2 (a0 : Int) (hn : a0 < 9223372036854775808) : varint_fits.f a0 2 = some (decide (0 ≤ a0) && decide (a0 < 16384)) :=
  fits_w a0 2 14 _ (by rw [w64v (x := 8 * 2) (by decide)]; exact w64v (by decide)) (by decide) hn (by decide) rfl
theorem fits4 (a0 : Int) (hn : a0 < 9223372036854775808) : varint_fits.f a0 4 = some (decide (0 ≤ a0) && decide (a0 < 1073741824)) :=
  fits_w a0 4 30 _ (by rw [w64v (x := 8 * 4) (by decide)]; exact w64v (by decide)) (by decide) hn (by decide) rfl
theorem fits8 (a0 : Int) (hn : a0 < 9223372036854775808) : varint_fits.f a0 8 = some (decide (0 ≤ a0) && decide (a0 < 4611686018427387904)) :=
  fits_w a0 8 62 _ (by rw [w64v (x := 8 * 8) (by decide)]; exact w64v (by decide)) (by decide) hn (by decide) rfl
theorem idxV_0 (w : World) (a b c d : Value) : (Instr.index 152 (.agg #[a, b, c, d]) (.int .i64 0)).run Try.prog w = .ok a w := by kernel_rfl
theorem idxV_1 (w : World) (a b c d : Value) : (Instr.index 152 (.agg #[a, b, c, d]) (.int .i64 1)).run Try.prog w = .ok b w := by kernel_rfl
theorem idxV_2 (w : World) (a b c d : Value) : (Instr.index 152 (.agg #[a, b, c, d]) (.int .i64 2)).run Try.prog w = .ok c w := by kernel_rfl
theorem idxV_3 (w : World) (a b c d : Value) : (Instr.index 152 (.agg #[a, b, c, d]) (.int .i64 3)).run Try.prog w = .ok d w := by kernel_rfl
set_option maxHeartbeats 4000000 in
set_option maxRecDepth 100000 in
theorem varint_Len.calls (a0 : Int) (r : Int) (w : World) (h : varint_Len.f a0 = some r) :
    Calls Try.prog 102 #[.int .i64 a0] w fun e w' => e = .returned (.int .i64 r) ∧ Below w.heap.size w w' := by
  by_cases hn : ¬ a0 < 9223372036854775808
  · unfold varint_Len.f at h
    rw [if_neg hn] at h
    cases h
  replace hn : a0 < 9223372036854775808 := by omega
  by_cases h1 : 0 ≤ a0 ∧ a0 < 64
  · have hr : r = 1 := by
      have e : varint_Len.f a0 = some 1 := by
        unfold varint_Len.f
        rw [if_pos hn]
        congr 1
        rw [if_neg (by omega), if_pos (by omega)]
      exact Option.some.inj (h.symm.trans e)
    subst hr
    clear h
    have F1 := Aside0.mk ((fits1 a0 hn).trans (congrArg some (show (decide (0 ≤ a0) && decide (a0 < 64)) = true by simp; omega)))
    go_enter Try.func102, Try.ntmps102
    go_wp2_with (first
      | (go_at_call 105; refine (varint_widths.calls 1 2 4 8 _ rfl).mono ?_; rintro e w1 ⟨rfl, hb⟩; have HB := Aside0.mk hb; clear hb))
    have x0 := fun (W : World) => idxV_0 W (.int .i64 1) (.int .i64 2) (.int .i64 4) (.int .i64 8)
    have x1 := fun (W : World) => idxV_1 W (.int .i64 1) (.int .i64 2) (.int .i64 4) (.int .i64 8)
    have x2 := fun (W : World) => idxV_2 W (.int .i64 1) (.int .i64 2) (.int .i64 4) (.int .i64 8)
    have x3 := fun (W : World) => idxV_3 W (.int .i64 1) (.int .i64 2) (.int .i64 4) (.int .i64 8)
    refine wp_loop_rounds 6 ?_
    rw [rounds_succ]
    go_wp2_with (first
      | (go_at_call 106; (with_reducible refine (varint_fits.calls a0 1 _ _ F1.out).mono ?_); rintro e w2 ⟨rfl, ⟨nd, rfl⟩⟩))
    go_ret
    exact ⟨rfl, by repeat (first | (with_reducible first | exact HB.out | apply below_alloc | apply pw_below_drewN | apply below_drew1) | exact HB.out)⟩
  by_cases h2 : 0 ≤ a0 ∧ a0 < 16384
  · have hr : r = 2 := by
      have e : varint_Len.f a0 = some 2 := by
        unfold varint_Len.f
        rw [if_pos hn]
        congr 1
        rw [if_neg (by omega), if_neg (by omega), if_pos (by omega)]
      exact Option.some.inj (h.symm.trans e)
    subst hr
    clear h
    have F1 := Aside0.mk ((fits1 a0 hn).trans (congrArg some (show (decide (0 ≤ a0) && decide (a0 < 64)) = false by simp; omega)))
    have F2 := Aside0.mk ((fits2 a0 hn).trans (congrArg some (show (decide (0 ≤ a0) && decide (a0 < 16384)) = true by simp; omega)))
    go_enter Try.func102, Try.ntmps102
    go_wp2_with (first
      | (go_at_call 105; refine (varint_widths.calls 1 2 4 8 _ rfl).mono ?_; rintro e w1 ⟨rfl, hb⟩; have HB := Aside0.mk hb; clear hb))
    have x0 := fun (W : World) => idxV_0 W (.int .i64 1) (.int .i64 2) (.int .i64 4) (.int .i64 8)
    have x1 := fun (W : World) => idxV_1 W (.int .i64 1) (.int .i64 2) (.int .i64 4) (.int .i64 8)
    have x2 := fun (W : World) => idxV_2 W (.int .i64 1) (.int .i64 2) (.int .i64 4) (.int .i64 8)
    have x3 := fun (W : World) => idxV_3 W (.int .i64 1) (.int .i64 2) (.int .i64 4) (.int .i64 8)
    refine wp_loop_rounds 6 ?_
    rw [rounds_succ]
    go_wp2_with (first
      | (go_at_call 106; (with_reducible refine (varint_fits.calls a0 1 _ _ F1.out).mono ?_); rintro e w2 ⟨rfl, ⟨nd, rfl⟩⟩)
      | (go_at_call 106; (with_reducible refine (varint_fits.calls a0 2 _ _ F2.out).mono ?_); rintro e w2 ⟨rfl, ⟨nd, rfl⟩⟩))
    rw [rounds_succ]
    go_wp2_with (first
      | (go_at_call 106; (with_reducible refine (varint_fits.calls a0 1 _ _ F1.out).mono ?_); rintro e w2 ⟨rfl, ⟨nd, rfl⟩⟩)
      | (go_at_call 106; (with_reducible refine (varint_fits.calls a0 2 _ _ F2.out).mono ?_); rintro e w2 ⟨rfl, ⟨nd, rfl⟩⟩))
    go_ret
    exact ⟨rfl, by repeat (first | (with_reducible first | exact HB.out | apply below_alloc | apply pw_below_drewN | apply below_drew1) | exact HB.out)⟩
  by_cases h4 : 0 ≤ a0 ∧ a0 < 1073741824
  · have hr : r = 4 := by
      have e : varint_Len.f a0 = some 4 := by
        unfold varint_Len.f
        rw [if_pos hn]
        congr 1
        rw [if_neg (by omega), if_neg (by omega), if_neg (by omega), if_pos (by omega)]
      exact Option.some.inj (h.symm.trans e)
    subst hr
    clear h
    have F1 := Aside0.mk ((fits1 a0 hn).trans (congrArg some (show (decide (0 ≤ a0) && decide (a0 < 64)) = false by simp; omega)))
    have F2 := Aside0.mk ((fits2 a0 hn).trans (congrArg some (show (decide (0 ≤ a0) && decide (a0 < 16384)) = false by simp; omega)))
    have F4 := Aside0.mk ((fits4 a0 hn).trans (congrArg some (show (decide (0 ≤ a0) && decide (a0 < 1073741824)) = true by simp; omega)))
    go_enter Try.func102, Try.ntmps102
    go_wp2_with (first
      | (go_at_call 105; refine (varint_widths.calls 1 2 4 8 _ rfl).mono ?_; rintro e w1 ⟨rfl, hb⟩; have HB := Aside0.mk hb; clear hb))
    have x0 := fun (W : World) => idxV_0 W (.int .i64 1) (.int .i64 2) (.int .i64 4) (.int .i64 8)
    have x1 := fun (W : World) => idxV_1 W (.int .i64 1) (.int .i64 2) (.int .i64 4) (.int .i64 8)
    have x2 := fun (W : World) => idxV_2 W (.int .i64 1) (.int .i64 2) (.int .i64 4) (.int .i64 8)
    have x3 := fun (W : World) => idxV_3 W (.int .i64 1) (.int .i64 2) (.int .i64 4) (.int .i64 8)
    refine wp_loop_rounds 6 ?_
    rw [rounds_succ]
    go_wp2_with (first
      | (go_at_call 106; (with_reducible refine (varint_fits.calls a0 1 _ _ F1.out).mono ?_); rintro e w2 ⟨rfl, ⟨nd, rfl⟩⟩)
      | (go_at_call 106; (with_reducible refine (varint_fits.calls a0 2 _ _ F2.out).mono ?_); rintro e w2 ⟨rfl, ⟨nd, rfl⟩⟩)
      | (go_at_call 106; (with_reducible refine (varint_fits.calls a0 4 _ _ F4.out).mono ?_); rintro e w2 ⟨rfl, ⟨nd, rfl⟩⟩))
    rw [rounds_succ]
    go_wp2_with (first
      | (go_at_call 106; (with_reducible refine (varint_fits.calls a0 1 _ _ F1.out).mono ?_); rintro e w2 ⟨rfl, ⟨nd, rfl⟩⟩)
      | (go_at_call 106; (with_reducible refine (varint_fits.calls a0 2 _ _ F2.out).mono ?_); rintro e w2 ⟨rfl, ⟨nd, rfl⟩⟩)
      | (go_at_call 106; (with_reducible refine (varint_fits.calls a0 4 _ _ F4.out).mono ?_); rintro e w2 ⟨rfl, ⟨nd, rfl⟩⟩))
    rw [rounds_succ]
    go_wp2_with (first
      | (go_at_call 106; (with_reducible refine (varint_fits.calls a0 1 _ _ F1.out).mono ?_); rintro e w2 ⟨rfl, ⟨nd, rfl⟩⟩)
      | (go_at_call 106; (with_reducible refine (varint_fits.calls a0 2 _ _ F2.out).mono ?_); rintro e w2 ⟨rfl, ⟨nd, rfl⟩⟩)
      | (go_at_call 106; (with_reducible refine (varint_fits.calls a0 4 _ _ F4.out).mono ?_); rintro e w2 ⟨rfl, ⟨nd, rfl⟩⟩))
    go_ret
    exact ⟨rfl, by repeat (first | (with_reducible first | exact HB.out | apply below_alloc | apply pw_below_drewN | apply below_drew1) | exact HB.out)⟩
  by_cases h8 : 0 ≤ a0 ∧ a0 < 4611686018427387904
  · have hr : r = 8 := by
      have e : varint_Len.f a0 = some 8 := by
        unfold varint_Len.f
        rw [if_pos hn]
        congr 1
        rw [if_neg (by omega), if_neg (by omega), if_neg (by omega), if_neg (by omega), if_pos (by omega)]
      exact Option.some.inj (h.symm.trans e)
    subst hr
    clear h
    have F1 := Aside0.mk ((fits1 a0 hn).trans (congrArg some (show (decide (0 ≤ a0) && decide (a0 < 64)) = false by simp; omega)))
    have F2 := Aside0.mk ((fits2 a0 hn).trans (congrArg some (show (decide (0 ≤ a0) && decide (a0 < 16384)) = false by simp; omega)))
    have F4 := Aside0.mk ((fits4 a0 hn).trans (congrArg some (show (decide (0 ≤ a0) && decide (a0 < 1073741824)) = false by simp; omega)))
    have F8 := Aside0.mk ((fits8 a0 hn).trans (congrArg some (show (decide (0 ≤ a0) && decide (a0 < 4611686018427387904)) = true by simp; omega)))
    go_enter Try.func102, Try.ntmps102
    go_wp2_with (first
      | (go_at_call 105; refine (varint_widths.calls 1 2 4 8 _ rfl).mono ?_; rintro e w1 ⟨rfl, hb⟩; have HB := Aside0.mk hb; clear hb))
    have x0 := fun (W : World) => idxV_0 W (.int .i64 1) (.int .i64 2) (.int .i64 4) (.int .i64 8)
    have x1 := fun (W : World) => idxV_1 W (.int .i64 1) (.int .i64 2) (.int .i64 4) (.int .i64 8)
    have x2 := fun (W : World) => idxV_2 W (.int .i64 1) (.int .i64 2) (.int .i64 4) (.int .i64 8)
    have x3 := fun (W : World) => idxV_3 W (.int .i64 1) (.int .i64 2) (.int .i64 4) (.int .i64 8)
    refine wp_loop_rounds 6 ?_
    rw [rounds_succ]
    go_wp2_with (first
      | (go_at_call 106; (with_reducible refine (varint_fits.calls a0 1 _ _ F1.out).mono ?_); rintro e w2 ⟨rfl, ⟨nd, rfl⟩⟩)
      | (go_at_call 106; (with_reducible refine (varint_fits.calls a0 2 _ _ F2.out).mono ?_); rintro e w2 ⟨rfl, ⟨nd, rfl⟩⟩)
      | (go_at_call 106; (with_reducible refine (varint_fits.calls a0 4 _ _ F4.out).mono ?_); rintro e w2 ⟨rfl, ⟨nd, rfl⟩⟩)
      | (go_at_call 106; (with_reducible refine (varint_fits.calls a0 8 _ _ F8.out).mono ?_); rintro e w2 ⟨rfl, ⟨nd, rfl⟩⟩))
    rw [rounds_succ]
    go_wp2_with (first
      | (go_at_call 106; (with_reducible refine (varint_fits.calls a0 1 _ _ F1.out).mono ?_); rintro e w2 ⟨rfl, ⟨nd, rfl⟩⟩)
      | (go_at_call 106; (with_reducible refine (varint_fits.calls a0 2 _ _ F2.out).mono ?_); rintro e w2 ⟨rfl, ⟨nd, rfl⟩⟩)
      | (go_at_call 106; (with_reducible refine (varint_fits.calls a0 4 _ _ F4.out).mono ?_); rintro e w2 ⟨rfl, ⟨nd, rfl⟩⟩)
      | (go_at_call 106; (with_reducible refine (varint_fits.calls a0 8 _ _ F8.out).mono ?_); rintro e w2 ⟨rfl, ⟨nd, rfl⟩⟩))
    rw [rounds_succ]
    go_wp2_with (first
      | (go_at_call 106; (with_reducible refine (varint_fits.calls a0 1 _ _ F1.out).mono ?_); rintro e w2 ⟨rfl, ⟨nd, rfl⟩⟩)
      | (go_at_call 106; (with_reducible refine (varint_fits.calls a0 2 _ _ F2.out).mono ?_); rintro e w2 ⟨rfl, ⟨nd, rfl⟩⟩)
      | (go_at_call 106; (with_reducible refine (varint_fits.calls a0 4 _ _ F4.out).mono ?_); rintro e w2 ⟨rfl, ⟨nd, rfl⟩⟩)
      | (go_at_call 106; (with_reducible refine (varint_fits.calls a0 8 _ _ F8.out).mono ?_); rintro e w2 ⟨rfl, ⟨nd, rfl⟩⟩))
    rw [rounds_succ]
    go_wp2_with (first
      | (go_at_call 106; (with_reducible refine (varint_fits.calls a0 1 _ _ F1.out).mono ?_); rintro e w2 ⟨rfl, ⟨nd, rfl⟩⟩)
      | (go_at_call 106; (with_reducible refine (varint_fits.calls a0 2 _ _ F2.out).mono ?_); rintro e w2 ⟨rfl, ⟨nd, rfl⟩⟩)
      | (go_at_call 106; (with_reducible refine (varint_fits.calls a0 4 _ _ F4.out).mono ?_); rintro e w2 ⟨rfl, ⟨nd, rfl⟩⟩)
      | (go_at_call 106; (with_reducible refine (varint_fits.calls a0 8 _ _ F8.out).mono ?_); rintro e w2 ⟨rfl, ⟨nd, rfl⟩⟩))
    go_ret
    exact ⟨rfl, by repeat (first | (with_reducible first | exact HB.out | apply below_alloc | apply pw_below_drewN | apply below_drew1) | exact HB.out)⟩
  have h0 : a0 < 0 ∨ 4611686018427387904 ≤ a0 := by omega
  have hr : r = 0 := by
    have e : varint_Len.f a0 = some 0 := by
      unfold varint_Len.f
      rw [if_pos hn]
      congr 1
      rcases h0 with h0 | h0
      · rw [if_pos h0]
      · rw [if_neg (by omega), if_neg (by omega), if_neg (by omega), if_neg (by omega), if_neg (by omega)]
    exact Option.some.inj (h.symm.trans e)
  subst hr
  clear h
  have F1 := Aside0.mk ((fits1 a0 hn).trans (congrArg some (show (decide (0 ≤ a0) && decide (a0 < 64)) = false by simp; omega)))
  have F2 := Aside0.mk ((fits2 a0 hn).trans (congrArg some (show (decide (0 ≤ a0) && decide (a0 < 16384)) = false by simp; omega)))
  have F4 := Aside0.mk ((fits4 a0 hn).trans (congrArg some (show (decide (0 ≤ a0) && decide (a0 < 1073741824)) = false by simp; omega)))
  have F8 := Aside0.mk ((fits8 a0 hn).trans (congrArg some (show (decide (0 ≤ a0) && decide (a0 < 4611686018427387904)) = false by simp; omega)))
  go_enter Try.func102, Try.ntmps102
  go_wp2_with (first
    | (go_at_call 105; refine (varint_widths.calls 1 2 4 8 _ rfl).mono ?_; rintro e w1 ⟨rfl, hb⟩; have HB := Aside0.mk hb; clear hb))
  have x0 := fun (W : World) => idxV_0 W (.int .i64 1) (.int .i64 2) (.int .i64 4) (.int .i64 8)
  have x1 := fun (W : World) => idxV_1 W (.int .i64 1) (.int .i64 2) (.int .i64 4) (.int .i64 8)
  have x2 := fun (W : World) => idxV_2 W (.int .i64 1) (.int .i64 2) (.int .i64 4) (.int .i64 8)
  have x3 := fun (W : World) => idxV_3 W (.int .i64 1) (.int .i64 2) (.int .i64 4) (.int .i64 8)
  refine wp_loop_rounds 6 ?_
  rw [rounds_succ]
  go_wp2_with (first
    | (go_at_call 106; (with_reducible refine (varint_fits.calls a0 1 _ _ F1.out).mono ?_); rintro e w2 ⟨rfl, ⟨nd, rfl⟩⟩)
    | (go_at_call 106; (with_reducible refine (varint_fits.calls a0 2 _ _ F2.out).mono ?_); rintro e w2 ⟨rfl, ⟨nd, rfl⟩⟩)
    | (go_at_call 106; (with_reducible refine (varint_fits.calls a0 4 _ _ F4.out).mono ?_); rintro e w2 ⟨rfl, ⟨nd, rfl⟩⟩)
    | (go_at_call 106; (with_reducible refine (varint_fits.calls a0 8 _ _ F8.out).mono ?_); rintro e w2 ⟨rfl, ⟨nd, rfl⟩⟩))
  rw [rounds_succ]
  go_wp2_with (first
    | (go_at_call 106; (with_reducible refine (varint_fits.calls a0 1 _ _ F1.out).mono ?_); rintro e w2 ⟨rfl, ⟨nd, rfl⟩⟩)
    | (go_at_call 106; (with_reducible refine (varint_fits.calls a0 2 _ _ F2.out).mono ?_); rintro e w2 ⟨rfl, ⟨nd, rfl⟩⟩)
    | (go_at_call 106; (with_reducible refine (varint_fits.calls a0 4 _ _ F4.out).mono ?_); rintro e w2 ⟨rfl, ⟨nd, rfl⟩⟩)
    | (go_at_call 106; (with_reducible refine (varint_fits.calls a0 8 _ _ F8.out).mono ?_); rintro e w2 ⟨rfl, ⟨nd, rfl⟩⟩))
  rw [rounds_succ]
  go_wp2_with (first
    | (go_at_call 106; (with_reducible refine (varint_fits.calls a0 1 _ _ F1.out).mono ?_); rintro e w2 ⟨rfl, ⟨nd, rfl⟩⟩)
    | (go_at_call 106; (with_reducible refine (varint_fits.calls a0 2 _ _ F2.out).mono ?_); rintro e w2 ⟨rfl, ⟨nd, rfl⟩⟩)
    | (go_at_call 106; (with_reducible refine (varint_fits.calls a0 4 _ _ F4.out).mono ?_); rintro e w2 ⟨rfl, ⟨nd, rfl⟩⟩)
    | (go_at_call 106; (with_reducible refine (varint_fits.calls a0 8 _ _ F8.out).mono ?_); rintro e w2 ⟨rfl, ⟨nd, rfl⟩⟩))
  rw [rounds_succ]
  go_wp2_with (first
    | (go_at_call 106; (with_reducible refine (varint_fits.calls a0 1 _ _ F1.out).mono ?_); rintro e w2 ⟨rfl, ⟨nd, rfl⟩⟩)
    | (go_at_call 106; (with_reducible refine (varint_fits.calls a0 2 _ _ F2.out).mono ?_); rintro e w2 ⟨rfl, ⟨nd, rfl⟩⟩)
    | (go_at_call 106; (with_reducible refine (varint_fits.calls a0 4 _ _ F4.out).mono ?_); rintro e w2 ⟨rfl, ⟨nd, rfl⟩⟩)
    | (go_at_call 106; (with_reducible refine (varint_fits.calls a0 8 _ _ F8.out).mono ?_); rintro e w2 ⟨rfl, ⟨nd, rfl⟩⟩))
  rw [rounds_succ]
  go_wp2_with (first
    | (go_at_call 106; (with_reducible refine (varint_fits.calls a0 1 _ _ F1.out).mono ?_); rintro e w2 ⟨rfl, ⟨nd, rfl⟩⟩)
    | (go_at_call 106; (with_reducible refine (varint_fits.calls a0 2 _ _ F2.out).mono ?_); rintro e w2 ⟨rfl, ⟨nd, rfl⟩⟩)
    | (go_at_call 106; (with_reducible refine (varint_fits.calls a0 4 _ _ F4.out).mono ?_); rintro e w2 ⟨rfl, ⟨nd, rfl⟩⟩)
    | (go_at_call 106; (with_reducible refine (varint_fits.calls a0 8 _ _ F8.out).mono ?_); rintro e w2 ⟨rfl, ⟨nd, rfl⟩⟩))
  go_ret
  exact ⟨rfl, by repeat (first | (with_reducible first | exact HB.out | apply below_alloc | apply pw_below_drewN | apply below_drew1) | exact HB.out)⟩



/-! ### varint_tell: function 107 -/
theorem idxT_0 (w : World) (a b c d : Value) : (Instr.index 152 (.agg #[a, b, c, d]) (.int .i64 0)).run Try.prog w = .ok a w := by kernel_rfl
theorem idxT_1 (w : World) (a b c d : Value) : (Instr.index 152 (.agg #[a, b, c, d]) (.int .i64 1)).run Try.prog w = .ok b w := by kernel_rfl
theorem idxT_2 (w : World) (a b c d : Value) : (Instr.index 152 (.agg #[a, b, c, d]) (.int .i64 2)).run Try.prog w = .ok c w := by kernel_rfl
theorem idxT_3 (w : World) (a b c d : Value) : (Instr.index 152 (.agg #[a, b, c, d]) (.int .i64 3)).run Try.prog w = .ok d w := by kernel_rfl
def varint_tell.f (a0 : Int) : Option Int := some (if a0 = 1 then 0 else if a0 = 2 then 1 else if a0 = 4 then 2 else if a0 = 8 then 3 else -1)
set_option maxHeartbeats 4000000 in
set_option maxRecDepth 100000 in
theorem varint_tell.calls (a0 : Int) (r : Int) (w : World) (h : varint_tell.f a0 = some r) :
    Calls Try.prog 107 #[.int .i64 a0] w fun e w' => e = .returned (.int .i64 r) ∧ Below w.heap.size w w' := by
  by_cases h1 : a0 = 1
  · have hr : r = 0 := by
      have e : varint_tell.f a0 = some (0) := by
        unfold varint_tell.f
        congr 1
        rw [if_pos (by omega)]
      exact Option.some.inj (h.symm.trans e)
    subst hr
    clear h
    obtain rfl : a0 = 1 := h1
    go_enter Try.func107, Try.ntmps107
    go_wp2_with (first
    | (go_at_call 105; refine (varint_widths.calls 1 2 4 8 _ rfl).mono ?_; rintro e w1 ⟨rfl, hb⟩; have HB := Aside0.mk hb; clear hb))
    have x0 := fun (W : World) => idxT_0 W (.int .i64 1) (.int .i64 2) (.int .i64 4) (.int .i64 8)
    have x1 := fun (W : World) => idxT_1 W (.int .i64 1) (.int .i64 2) (.int .i64 4) (.int .i64 8)
    have x2 := fun (W : World) => idxT_2 W (.int .i64 1) (.int .i64 2) (.int .i64 4) (.int .i64 8)
    have x3 := fun (W : World) => idxT_3 W (.int .i64 1) (.int .i64 2) (.int .i64 4) (.int .i64 8)
    refine wp_loop_rounds 6 ?_
    rw [rounds_succ]
    go_wp2
    go_ret
    exact ⟨rfl, by repeat (first | (with_reducible first | exact HB.out | apply below_alloc | apply pw_below_drewN | apply below_drew1) | exact HB.out)⟩
  by_cases h2 : a0 = 2
  · have hr : r = 1 := by
      have e : varint_tell.f a0 = some (1) := by
        unfold varint_tell.f
        congr 1
        rw [if_neg (by omega), if_pos (by omega)]
      exact Option.some.inj (h.symm.trans e)
    subst hr
    clear h
    obtain rfl : a0 = 2 := h2
    go_enter Try.func107, Try.ntmps107
    go_wp2_with (first
    | (go_at_call 105; refine (varint_widths.calls 1 2 4 8 _ rfl).mono ?_; rintro e w1 ⟨rfl, hb⟩; have HB := Aside0.mk hb; clear hb))
    have x0 := fun (W : World) => idxT_0 W (.int .i64 1) (.int .i64 2) (.int .i64 4) (.int .i64 8)
    have x1 := fun (W : World) => idxT_1 W (.int .i64 1) (.int .i64 2) (.int .i64 4) (.int .i64 8)
    have x2 := fun (W : World) => idxT_2 W (.int .i64 1) (.int .i64 2) (.int .i64 4) (.int .i64 8)
    have x3 := fun (W : World) => idxT_3 W (.int .i64 1) (.int .i64 2) (.int .i64 4) (.int .i64 8)
    refine wp_loop_rounds 6 ?_
    rw [rounds_succ]
    go_wp2
    rw [rounds_succ]
    go_wp2
    go_ret
    exact ⟨rfl, by repeat (first | (with_reducible first | exact HB.out | apply below_alloc | apply pw_below_drewN | apply below_drew1) | exact HB.out)⟩
  by_cases h4 : a0 = 4
  · have hr : r = 2 := by
      have e : varint_tell.f a0 = some (2) := by
        unfold varint_tell.f
        congr 1
        rw [if_neg (by omega), if_neg (by omega), if_pos (by omega)]
      exact Option.some.inj (h.symm.trans e)
    subst hr
    clear h
    obtain rfl : a0 = 4 := h4
    go_enter Try.func107, Try.ntmps107
    go_wp2_with (first
    | (go_at_call 105; refine (varint_widths.calls 1 2 4 8 _ rfl).mono ?_; rintro e w1 ⟨rfl, hb⟩; have HB := Aside0.mk hb; clear hb))
    have x0 := fun (W : World) => idxT_0 W (.int .i64 1) (.int .i64 2) (.int .i64 4) (.int .i64 8)
    have x1 := fun (W : World) => idxT_1 W (.int .i64 1) (.int .i64 2) (.int .i64 4) (.int .i64 8)
    have x2 := fun (W : World) => idxT_2 W (.int .i64 1) (.int .i64 2) (.int .i64 4) (.int .i64 8)
    have x3 := fun (W : World) => idxT_3 W (.int .i64 1) (.int .i64 2) (.int .i64 4) (.int .i64 8)
    refine wp_loop_rounds 6 ?_
    rw [rounds_succ]
    go_wp2
    rw [rounds_succ]
    go_wp2
    rw [rounds_succ]
    go_wp2
    go_ret
    exact ⟨rfl, by repeat (first | (with_reducible first | exact HB.out | apply below_alloc | apply pw_below_drewN | apply below_drew1) | exact HB.out)⟩
  by_cases h8 : a0 = 8
  · have hr : r = 3 := by
      have e : varint_tell.f a0 = some (3) := by
        unfold varint_tell.f
        congr 1
        rw [if_neg (by omega), if_neg (by omega), if_neg (by omega), if_pos (by omega)]
      exact Option.some.inj (h.symm.trans e)
    subst hr
    clear h
    obtain rfl : a0 = 8 := h8
    go_enter Try.func107, Try.ntmps107
    go_wp2_with (first
    | (go_at_call 105; refine (varint_widths.calls 1 2 4 8 _ rfl).mono ?_; rintro e w1 ⟨rfl, hb⟩; have HB := Aside0.mk hb; clear hb))
    have x0 := fun (W : World) => idxT_0 W (.int .i64 1) (.int .i64 2) (.int .i64 4) (.int .i64 8)
    have x1 := fun (W : World) => idxT_1 W (.int .i64 1) (.int .i64 2) (.int .i64 4) (.int .i64 8)
    have x2 := fun (W : World) => idxT_2 W (.int .i64 1) (.int .i64 2) (.int .i64 4) (.int .i64 8)
    have x3 := fun (W : World) => idxT_3 W (.int .i64 1) (.int .i64 2) (.int .i64 4) (.int .i64 8)
    refine wp_loop_rounds 6 ?_
    rw [rounds_succ]
    go_wp2
    rw [rounds_succ]
    go_wp2
    rw [rounds_succ]
    go_wp2
    rw [rounds_succ]
    go_wp2
    go_ret
    exact ⟨rfl, by repeat (first | (with_reducible first | exact HB.out | apply below_alloc | apply pw_below_drewN | apply below_drew1) | exact HB.out)⟩
  have hr : r = -1 := by
    have e : varint_tell.f a0 = some (-1) := by
      unfold varint_tell.f
      congr 1
      rw [if_neg (by omega), if_neg (by omega), if_neg (by omega), if_neg (by omega)]
    exact Option.some.inj (h.symm.trans e)
  subst hr
  clear h
  have e1 : ((1 : Int) == a0) = false := by simp; omega
  have e2 : ((2 : Int) == a0) = false := by simp; omega
  have e4 : ((4 : Int) == a0) = false := by simp; omega
  have e8 : ((8 : Int) == a0) = false := by simp; omega
  go_enter Try.func107, Try.ntmps107
  go_wp2_with (first
    | (go_at_call 105; refine (varint_widths.calls 1 2 4 8 _ rfl).mono ?_; rintro e w1 ⟨rfl, hb⟩; have HB := Aside0.mk hb; clear hb))
  have x0 := fun (W : World) => idxT_0 W (.int .i64 1) (.int .i64 2) (.int .i64 4) (.int .i64 8)
  have x1 := fun (W : World) => idxT_1 W (.int .i64 1) (.int .i64 2) (.int .i64 4) (.int .i64 8)
  have x2 := fun (W : World) => idxT_2 W (.int .i64 1) (.int .i64 2) (.int .i64 4) (.int .i64 8)
  have x3 := fun (W : World) => idxT_3 W (.int .i64 1) (.int .i64 2) (.int .i64 4) (.int .i64 8)
  refine wp_loop_rounds 6 ?_
  rw [rounds_succ]
  go_wp2
  rw [rounds_succ]
  go_wp2
  rw [rounds_succ]
  go_wp2
  rw [rounds_succ]
  go_wp2
  rw [rounds_succ]
  go_wp2
  go_ret
  exact ⟨rfl, by repeat (first | (with_reducible first | exact HB.out | apply below_alloc | apply pw_below_drewN | apply below_drew1) | exact HB.out)⟩



/-! ### varint_PutIn: function 103 -/
def varint_PutIn.l0 : Nat → Int → Int → List Int → Int → Option (List Int × Int)
  | 0, _, _, _, _ => none
  | k + 1, x0, x6, x7, x8 => if x8 ≥ 0 then (if 0 ≤ x8 then (if x8 < (x7.length : Int) then (varint_PutIn.l0 k (x0 / 256) x6 (x7.set (x8 : Int).toNat ((x0) % 256)) (wrap64 (x8 - 1))) else (none)) else (none)) else (if 0 < (x7.length : Int) then (some ((x7.set (0 : Int).toNat (Go.bits .or .u8 (rd x7 0) ((wrap64 (x6 * 64)) % 256))), 0)) else (none))
def varint_PutIn.f (k : Nat) (a0 : Int) (a1 : Int) : Option (List Int × Int) := (varint_tell.f a1).bind fun t130 => (if t130 < 0 then (some (([] : List Int), 2)) else ((varint_fits.f a0 a1).bind fun t131 => (if t131 = true then (if 0 ≤ a1 then (if (a1 : Int).toNat ≤ 281474976710656 then (varint_PutIn.l0 k a0 t130 (List.replicate (a1 : Int).toNat 0) (wrap64 (a1 - 1))) else (none)) else (none)) else (some (([] : List Int), 13)))))
theorem varint_PutIn.mono_l : ∀ k, (∀ y0 y1 y2 y3, LeO (varint_PutIn.l0 k y0 y1 y2 y3) (varint_PutIn.l0 (k + 1) y0 y1 y2 y3))
  | 0 => fun _ _ _ _ r h => by simp [varint_PutIn.l0] at h
  | k + 1 => by
    have ih0 := varint_PutIn.mono_l k
    · intro y0 y1 y2 y3
      unfold varint_PutIn.l0
      repeat' first
      | (with_reducible exact ih0 _ _ _ _)
      | (with_reducible exact LeO.refl _)
      | (with_reducible exact LeO.none _)
      | (with_reducible refine LeO.ite ?_ ?_)
      | (with_reducible refine LeO.bind ?_ (fun _ => ?_))
      | exact ih0 _ _ _ _
      | exact LeO.none _
      | refine LeO.ite ?_ ?_
      | refine LeO.bind ?_ (fun _ => ?_)
theorem varint_PutIn.mono : ∀ a0 a1 k, LeO (varint_PutIn.f k a0 a1) (varint_PutIn.f (k + 1) a0 a1) := by
  intro a0 a1 k
  have ih0 := varint_PutIn.mono_l k
  unfold varint_PutIn.f
  repeat' first
      | (with_reducible exact ih0 _ _ _ _)
      | (with_reducible exact LeO.refl _)
      | (with_reducible exact LeO.none _)
      | (with_reducible refine LeO.ite ?_ ?_)
      | (with_reducible refine LeO.bind ?_ (fun _ => ?_))
      | exact ih0 _ _ _ _
      | exact LeO.none _
      | refine LeO.ite ?_ ?_
      | refine LeO.bind ?_ (fun _ => ?_)
set_option maxHeartbeats 8000000 in
set_option maxRecDepth 100000 in
theorem varint_PutIn.calls (k : Nat) (a0 : Int) (a1 : Int) (r1 : List Int) (r2 : Int) (w : World) (h : varint_PutIn.f k a0 a1 = some (r1, r2)) :
    Calls Try.prog 103 #[.int .i64 a0, .int .i64 a1] w fun e w' => ∃ v0_ : Value, e = .returned (.tuple #[v0_, .int .i64 r2]) ∧ Kd.R (Kd.int .u8) 5 w' w.heap.size (fun _ => True) v0_ r1 ∧ Below w.heap.size w w' := by
  have HB := Aside0.mk (Below.refl w.heap.size w)
  have H : ((varint_tell.f a1).bind fun t130 => (if t130 < 0 then (some (([] : List Int), 2)) else ((varint_fits.f a0 a1).bind fun t131 => (if t131 = true then (if 0 ≤ a1 then (if (a1 : Int).toNat ≤ 281474976710656 then (varint_PutIn.l0 k a0 t130 (List.replicate (a1 : Int).toNat 0) (wrap64 (a1 - 1))) else (none)) else (none)) else (some (([] : List Int), 13)))))) = some (r1, r2) := h
  clear h
  replace H := Option.bind_eq_some_iff.mp H
  obtain ⟨t130, A30, H⟩ := H
  replace H : (if t130 < 0 then (some (([] : List Int), 2)) else ((varint_fits.f a0 a1).bind fun t131 => (if t131 = true then (if 0 ≤ a1 then (if (a1 : Int).toNat ≤ 281474976710656 then (varint_PutIn.l0 k a0 t130 (List.replicate (a1 : Int).toNat 0) (wrap64 (a1 - 1))) else (none)) else (none)) else (some (([] : List Int), 13))))) = some (r1, r2) := H
  have A3 := Aside0.mk A30
  clear A30
  by_cases c4 : t130 < 0
  · rw [if_pos c4] at H
    have c4b0 : decide (t130 < 0) = true := decide_eq_true c4
    clear c4
    simp only [Option.some.injEq, Prod.mk.injEq] at H
    obtain ⟨rfl, rfl⟩ := H
    go_enter Try.func103, Try.ntmps103
    go_wp2_with (first | ((with_reducible refine gate_callee (f := 107) rfl ?_); refine goesL_ (some 10) rfl rfl Try.func107 (by kernel_rfl) rfl #[.int .i64 a1] rfl (by (try simp only [List.map_toArray, List.map_cons, List.map_nil]); first | done | rfl | (simp only [List.length_drop, List.length_take]; rfl)) ?_; (with_reducible refine (varint_tell.calls a1 t130 _ A3.out).mono ?_); rintro e w5 ⟨rfl, hb⟩; refine ⟨_, rfl, ?_⟩; have n0_ := Aside0.mk (below_step (by repeat (first | (with_reducible first | exact HB.out | apply below_alloc | apply pw_below_drewN | apply below_drew1) | exact HB.out)) hb); clear HB; have HB := n0_; clear n0_; (try clear hb); (try clear hb2); (try clear hk); (try clear hi)))
    go_ret2
    exact ⟨_, by first | rfl | (simp [errW_none, errW_some] <;> rfl) | (simp [*, errW_none, errW_some] <;> rfl) | (simp_all; done) | (exfalso; simp_all; done) | (exfalso; simp_all [bne]; done), by first | exact Kd.R_nil _ _ _ _ _ | exact Kd.N_nil _ _ _ _ _ | exact Kd.V_nil _ _ _ _ _ | exact Kd.Q_nil _ _ _ _ _ | exact Kd.S_nil _ _ _ _ _, by repeat (first | (with_reducible first | exact HB.out | apply below_alloc | apply pw_below_drewN | apply below_drew1) | exact HB.out)⟩
  · rw [if_neg c4] at H
    have c4b0 : decide (t130 < 0) = false := decide_eq_false c4
    clear c4
    replace H := Option.bind_eq_some_iff.mp H
    obtain ⟨t131, A60, H⟩ := H
    replace H : (if t131 = true then (if 0 ≤ a1 then (if (a1 : Int).toNat ≤ 281474976710656 then (varint_PutIn.l0 k a0 t130 (List.replicate (a1 : Int).toNat 0) (wrap64 (a1 - 1))) else (none)) else (none)) else (some (([] : List Int), 13))) = some (r1, r2) := H
    have A6 := Aside0.mk A60
    clear A60
    by_cases c7 : t131 = true
    · subst c7
      have H1 : (if 0 ≤ a1 then (if (a1 : Int).toNat ≤ 281474976710656 then (varint_PutIn.l0 k a0 t130 (List.replicate (a1 : Int).toNat 0) (wrap64 (a1 - 1))) else (none)) else (none)) = some (r1, r2) := by rw [if_pos rfl] at H; exact H
      clear H
      have H := H1
      clear H1
      by_cases c8 : 0 ≤ a1
      · rw [if_pos c8] at H
        have c8b0 := eq_true c8
        have c8b1 : decide (0 ≤ a1) = true := decide_eq_true c8
        clear c8
        by_cases c9 : (a1 : Int).toNat ≤ 281474976710656
        · rw [if_pos c9] at H
          have c9b0 := eq_true c9
          have c9b1 : decide ((a1 : Int).toNat ≤ 281474976710656) = true := decide_eq_true c9
          clear c9
          obtain ⟨y132, hy132⟩ : ∃ y_ : List Int, y_ = (List.replicate (a1 : Int).toNat 0) := ⟨_, rfl⟩
          replace H : (varint_PutIn.l0 k a0 t130 y132 (wrap64 (a1 - 1))) = some (r1, r2) := by first | (rw [hy132]; with_reducible exact H) | (have H2_ := (Option.bind_some _ _).symm.trans H; rw [hy132]; with_reducible exact H2_) | (have H2_ := (Option.bind_some _ _).symm.trans H; with_reducible exact H2_) | with_reducible exact H | (rw [hy132]; exact H) | exact H
          have Ny132 := Aside0.mk hy132
          clear hy132
          have H' := Aside0.mk H
          clear H
          go_enter Try.func103, Try.ntmps103
          go_wp2_with (first | ((with_reducible refine gate_callee (f := 107) rfl ?_); refine goesL_ (some 10) rfl rfl Try.func107 (by kernel_rfl) rfl #[.int .i64 a1] rfl (by (try simp only [List.map_toArray, List.map_cons, List.map_nil]); first | done | rfl | (simp only [List.length_drop, List.length_take]; rfl)) ?_; (with_reducible refine (varint_tell.calls a1 t130 _ A3.out).mono ?_); rintro e w10 ⟨rfl, hb⟩; refine ⟨_, rfl, ?_⟩; have n0_ := Aside0.mk (below_step (by repeat (first | (with_reducible first | exact HB.out | apply below_alloc | apply pw_below_drewN | apply below_drew1) | exact HB.out)) hb); clear HB; have HB := n0_; clear n0_; (try clear hb); (try clear hb2); (try clear hk); (try clear hi)) | ((with_reducible refine gate_callee (f := 106) rfl ?_); refine goesL_ (some 17) rfl rfl Try.func106 (by kernel_rfl) rfl #[.int .i64 a0, .int .i64 a1] rfl (by (try simp only [List.map_toArray, List.map_cons, List.map_nil]); first | done | rfl | (simp only [List.length_drop, List.length_take]; rfl)) ?_; (with_reducible refine (varint_fits.calls a0 a1 true _ A6.out).mono ?_); rintro e w' ⟨rfl, ⟨nd, rfl⟩⟩; refine ⟨_, rfl, ?_⟩) | ((with_reducible refine gate_dst (N := 20) rfl ?_); refine Kd.R_make (Kd.int .u8) _ 5 rfl (N := 20) rfl 23 _ _ rfl a1 rfl rfl Try.underlying23 (.int .u8 0) 1 info5 rfl (by decide) (by omega) 0 (ok := fun _ => True) (okp := fun _ => True) rfl (fun _ hk => hk) trivial (of_decide_eq_true (by first | (with_reducible assumption) | assumption)) (Nat.le_trans (Nat.mul_le_mul_right _ (of_decide_eq_true (by first | (with_reducible assumption) | assumption) : a1.toNat ≤ 281474976710656)) (by omega)) (Below.refl _ _) (Nat.le_refl _) ?_; intro v133 w11 ho12 hb hg_ hnew_; clear hg_ hnew_; (first | rw [← Ny132.out] at ho12 | (simp only [Int.reduceToNat] at ho12; rw [← Ny132.out] at ho12)); have n0_ := Aside0.mk (Kd.R_lower ho12 (below_size (by repeat (first | (with_reducible first | exact HB.out | apply below_alloc | apply pw_below_drewN | apply below_drew1) | exact HB.out)))); have n1_ := Aside0.mk (below_step (by repeat (first | (with_reducible first | exact HB.out | apply below_alloc | apply pw_below_drewN | apply below_drew1) | exact HB.out)) hb); clear HB; have HO134 := n0_; have HB := n1_; clear n0_ n1_; clear hb ho12))
          go_loopg [0, 8] k (fun kq v0 v8 w' => ∃ (x0_1 : Int) (x7_1 : List Int) (x8_1 : Int), v0 = .int .i64 x0_1 ∧ v8 = .int .i64 x8_1 ∧ Aside0 (varint_PutIn.l0 kq x0_1 t130 x7_1 x8_1 = some (r1, r2)) ∧ Aside0 (kq ≤ k) ∧ Aside0 (Kd.R (Kd.int .u8) 5 w' w.heap.size (fun _ => True) v133 x7_1) ∧ Aside0 (Below w.heap.size w w'))
          case atStart => exact ⟨(a0), (y132), (wrap64 (a1 - 1)), (by first | rfl | (simp; done) | (simp [*]; done) | (simp [*, bne]; done) | (simp_all; done) | (exfalso; simp_all; done) | (exfalso; simp_all [bne]; done)), (by first | rfl | (simp; done) | (simp [*]; done) | (simp [*, bne]; done) | (simp_all; done) | (exfalso; simp_all; done) | (exfalso; simp_all [bne]; done)), H', ⟨Nat.le_refl _⟩, ⟨by (with_reducible repeat (first | apply Kd.R_alloc | apply Kd.R_drewN | apply Kd.R_drew)); exact HO134.out⟩, ⟨by repeat (first | (with_reducible first | exact HB.out | apply below_alloc | apply pw_below_drewN | apply below_drew1) | exact HB.out)⟩⟩
          case round =>
            clear H'
            try clear c1
            try clear p2
            try clear c4
            try clear c4b0
            try clear p6
            try clear c7
            try clear c8
            try clear c8b0
            try clear c8b1
            try clear c9
            try clear c9b0
            try clear c9b1
            try clear c10
            obtain ⟨x0_1, x7_1, x8_1, rfl, rfl, HA, HK1, HO_7, HB⟩ := hrel
            cases gk with
            | zero => exact absurd HA.out (by simp [varint_PutIn.l0])
            | succ k1 =>
              have H := HA.out
              clear HA
              simp only [varint_PutIn.l0] at H
              by_cases c13 : x8_1 ≥ 0
              · rw [if_pos c13] at H
                have c13b0 : decide (0 ≤ x8_1) = true := decide_eq_true c13
                clear c13
                by_cases c14 : 0 ≤ x8_1
                · rw [if_pos c14] at H
                  have c14b0 : decide (0 ≤ x8_1) = true := decide_eq_true c14
                  clear c14
                  by_cases c15 : x8_1 < (x7_1.length : Int)
                  · rw [if_pos c15] at H
                    have c15b0 : decide (x8_1 < (x7_1.length : Int)) = true := decide_eq_true c15
                    clear c15
                    obtain ⟨y135, hy135⟩ : ∃ y_ : List Int, y_ = (x7_1.set (x8_1 : Int).toNat ((x0_1) % 256)) := ⟨_, rfl⟩
                    replace H : (varint_PutIn.l0 k1 (x0_1 / 256) t130 y135 (wrap64 (x8_1 - 1))) = some (r1, r2) := by first | (rw [hy135]; with_reducible exact H) | (have H2_ := (Option.bind_some _ _).symm.trans H; rw [hy135]; with_reducible exact H2_) | (have H2_ := (Option.bind_some _ _).symm.trans H; with_reducible exact H2_) | with_reducible exact H | (rw [hy135]; exact H) | exact H
                    have Ny135 := Aside0.mk hy135
                    clear hy135
                    have H' := Aside0.mk H
                    clear H
                    have p16 : 0 ≤ (x8_1 : Int) := of_decide_eq_true (by first | (with_reducible assumption) | assumption)
                    have q16 : (x8_1 : Int) < ((x7_1.length : Int) : Int) := of_decide_eq_true (by first | (with_reducible assumption) | assumption)
                    obtain ⟨go16, co16, eo16, gb16, gl16, cl16, HG16⟩ := Kd.R_form HO_7.out (by omega)
                    (first | cases eo16 | (injection eo16 with ea_ en_ ec_; (first | subst ea_ | (injection ea_ with ea_; subst ea_)); subst ec_; clear en_))
                    have GB16 := Aside0.mk gb16
                    have GG16 := Aside0.mk HG16
                    clear gb16 gl16 HG16
                    obtain ⟨hx16_0, hf16_0⟩ := Kd.R_celln 0 HO_7.out (x8_1 : Int) p16 q16
                    replace p16 := eq_true p16
                    replace q16 := eq_true q16
                    have HP17 := Kd.R_putg HO_7.out (x8_1 : Int) ((x0_1) % 256)
                    go_wp2_with (first | ((with_reducible refine gate_store (t := 5) (p := 31) rfl ?_); refine store_event (t := 5) (p := 31) (v := ?vo_w18) (w1 := (wr.setCell ⟨go16, (x8_1 : Int).toNat, none⟩ (.int .u8 ((x0_1) % 256)))) ?hg ?ho ?hn ?hr ?_; (case ho => rfl); (case hg => rfl); (case hn => rfl); (case hr => first | (go_simp; done) | (go_simp; rfl)); intro w18 hw; have hg : wr.grownBy w18 (some go16) := (by rw [hw]; exact HP17.2); have hp_ : Kd.R (Kd.int .u8) 5 w18 w.heap.size (fun _ => True) (.slice (some ⟨go16, 0, none⟩) x7_1.length co16) y135 := (by rw [hw, Ny135.out]; exact HP17.1); clear HP17; have n0_ := Aside0.mk (hp_); have n1_ := Aside0.mk ((by rw [hw]; exact below_set (HB.out) GB16.out : Below w.heap.size w w18)); clear HO_7; clear HB; have HO_7 := n0_; have HB := n1_; clear n0_ n1_; clear hg hw hp_))
                    go_roundg k1
                    case measure => have := HK1.out; omega
                    case rel => exact ⟨(x0_1 / 256), (y135), (wrap64 (x8_1 - 1)), (by first | rfl | (simp; done) | (simp [*]; done) | (simp [*, bne]; done) | (simp_all; done) | (exfalso; simp_all; done) | (exfalso; simp_all [bne]; done)), (by first | rfl | (simp; done) | (simp [*]; done) | (simp [*, bne]; done) | (simp_all; done) | (exfalso; simp_all; done) | (exfalso; simp_all [bne]; done)), H', ⟨by have := HK1.out; omega⟩, ⟨by (with_reducible repeat (first | apply Kd.R_alloc | apply Kd.R_drewN | apply Kd.R_drew)); exact HO_7.out⟩, ⟨by repeat (first | (with_reducible first | exact HB.out | apply below_alloc | apply pw_below_drewN | apply below_drew1) | exact HB.out)⟩⟩
                  · rw [if_neg c15] at H
                    exact absurd H (by simp)
                · rw [if_neg c14] at H
                  exact absurd H (by simp)
              · rw [if_neg c13] at H
                have c13b0 : decide (0 ≤ x8_1) = false := decide_eq_false c13
                clear c13
                by_cases c19 : 0 < (x7_1.length : Int)
                · rw [if_pos c19] at H
                  have c19b0 : decide (0 < (x7_1.length : Int)) = true := decide_eq_true c19
                  have c19b1 : decide (0 < x7_1.length) = true := decide_eq_true (by omega)
                  clear c19
                  obtain ⟨y137, hy137⟩ : ∃ y_ : List Int, y_ = (x7_1.set (0 : Int).toNat (Go.bits .or .u8 (rd x7_1 0) ((wrap64 (t130 * 64)) % 256))) := ⟨_, rfl⟩
                  replace H : (some (y137, 0)) = some (r1, r2) := by first | (rw [hy137]; with_reducible exact H) | (have H2_ := (Option.bind_some _ _).symm.trans H; rw [hy137]; with_reducible exact H2_) | (have H2_ := (Option.bind_some _ _).symm.trans H; with_reducible exact H2_) | with_reducible exact H | (rw [hy137]; exact H) | exact H
                  have Ny137 := Aside0.mk hy137
                  clear hy137
                  simp only [Option.some.injEq, Prod.mk.injEq] at H
                  obtain ⟨rfl, rfl⟩ := H
                  obtain ⟨Ao21, co21, eo21⟩ := Kd.R_slice HO_7.out
                  subst eo21
                  have p136 : 0 ≤ (0 : Int) := (by omega)
                  have q136 : 0 < (x7_1.length : Int) := of_decide_eq_true (by first | (with_reducible assumption) | assumption)
                  obtain ⟨ad136, e136, hx136_0⟩ := Kd.at_int (Kd.R_reads' HO_7.out).2.2 0 p136 q136
                  cases e136
                  have qi136 : (0 < x7_1.length) = True := eq_true (by omega)
                  (try rw [show ((0 : Int)).toNat = 0 from rfl] at hx136_0)
                  (try rw [Addr.add_zero'] at hx136_0)
                  replace p136 := eq_true p136
                  replace q136 := eq_true q136
                  have p20 : 0 ≤ (0 : Int) := (by omega)
                  have q20 : (0 : Int) < ((x7_1.length : Int) : Int) := of_decide_eq_true (by first | (with_reducible assumption) | assumption)
                  have qi20 : (0 < x7_1.length) = True := eq_true (by omega)
                  obtain ⟨go20, co20, eo20, gb20, gl20, cl20, HG20⟩ := Kd.R_form HO_7.out (by omega)
                  (first | cases eo20 | (injection eo20 with ea_ en_ ec_; (first | subst ea_ | (injection ea_ with ea_; subst ea_)); subst ec_; clear en_))
                  have GB20 := Aside0.mk gb20
                  have GG20 := Aside0.mk HG20
                  clear gb20 gl20 HG20
                  (first | simp only [add_plain] at hx136_0 | skip)
                  obtain ⟨hx20_0, hf20_0⟩ := Kd.R_celln 0 HO_7.out (0 : Int) p20 q20
                  (try rw [show ((0 : Int)).toNat = 0 from rfl] at hx20_0)
                  (try simp only [Nat.reduceMul, Nat.zero_mul, Nat.zero_add, Nat.reduceAdd] at hx20_0)
                  (try rw [show ((0 : Int)).toNat = 0 from rfl] at hf20_0)
                  (try simp only [Nat.reduceMul, Nat.zero_mul, Nat.zero_add, Nat.reduceAdd] at hf20_0)
                  replace p20 := eq_true p20
                  replace q20 := eq_true q20
                  have HP22 := Kd.R_putg HO_7.out (0 : Int) (Go.bits .or .u8 (rd x7_1 0) ((wrap64 (t130 * 64)) % 256))
                  go_wp2_with (first | ((with_reducible refine gate_store (t := 5) (p := 41) rfl ?_); refine store_event (t := 5) (p := 41) (v := ?vo_w23) (w1 := (wr.setCell ⟨go20, (0 : Int).toNat, none⟩ (.int .u8 (Go.bits .or .u8 (rd x7_1 0) ((wrap64 (t130 * 64)) % 256))))) ?hg ?ho ?hn ?hr ?_; (case ho => rfl); (case hg => rfl); (case hn => rfl); (case hr => first | (go_simp; done) | (go_simp; rfl)); intro w23 hw; have hg : wr.grownBy w23 (some go20) := (by rw [hw]; exact HP22.2); have hp_ : Kd.R (Kd.int .u8) 5 w23 w.heap.size (fun _ => True) (.slice (some ⟨go20, 0, none⟩) x7_1.length co21) y137 := (by rw [hw, Ny137.out]; exact HP22.1); clear HP22; have n0_ := Aside0.mk (hp_); have n1_ := Aside0.mk ((by rw [hw]; exact below_set (HB.out) GB20.out : Below w.heap.size w w23)); clear HO_7; clear HB; have HO_7 := n0_; have HB := n1_; clear n0_ n1_; clear hg hw hp_))
                  go_ret2
                  exact ⟨_, by first | rfl | (simp [errW_none, errW_some] <;> rfl) | (simp [*, errW_none, errW_some] <;> rfl) | (simp_all; done) | (exfalso; simp_all; done) | (exfalso; simp_all [bne]; done), by (with_reducible repeat (first | apply Kd.R_alloc | apply Kd.R_drewN | apply Kd.R_drew)); exact HO_7.out, by repeat (first | (with_reducible first | exact HB.out | apply below_alloc | apply pw_below_drewN | apply below_drew1) | exact HB.out)⟩
                · rw [if_neg c19] at H
                  exact absurd H (by simp)
        · rw [if_neg c9] at H
          exact absurd H (by simp)
      · rw [if_neg c8] at H
        exact absurd H (by simp)
    · replace c7 := Bool.eq_false_iff.mpr c7
      subst c7
      have H1 : (some (([] : List Int), 13)) = some (r1, r2) := by rw [if_neg (show ¬ (false = true) by decide)] at H; exact H
      clear H
      have H := H1
      clear H1
      simp only [Option.some.injEq, Prod.mk.injEq] at H
      obtain ⟨rfl, rfl⟩ := H
      go_enter Try.func103, Try.ntmps103
      go_wp2_with (first | ((with_reducible refine gate_callee (f := 107) rfl ?_); refine goesL_ (some 10) rfl rfl Try.func107 (by kernel_rfl) rfl #[.int .i64 a1] rfl (by (try simp only [List.map_toArray, List.map_cons, List.map_nil]); first | done | rfl | (simp only [List.length_drop, List.length_take]; rfl)) ?_; (with_reducible refine (varint_tell.calls a1 t130 _ A3.out).mono ?_); rintro e w24 ⟨rfl, hb⟩; refine ⟨_, rfl, ?_⟩; have n0_ := Aside0.mk (below_step (by repeat (first | (with_reducible first | exact HB.out | apply below_alloc | apply pw_below_drewN | apply below_drew1) | exact HB.out)) hb); clear HB; have HB := n0_; clear n0_; (try clear hb); (try clear hb2); (try clear hk); (try clear hi)) | ((with_reducible refine gate_callee (f := 106) rfl ?_); refine goesL_ (some 17) rfl rfl Try.func106 (by kernel_rfl) rfl #[.int .i64 a0, .int .i64 a1] rfl (by (try simp only [List.map_toArray, List.map_cons, List.map_nil]); first | done | rfl | (simp only [List.length_drop, List.length_take]; rfl)) ?_; (with_reducible refine (varint_fits.calls a0 a1 false _ A6.out).mono ?_); rintro e w' ⟨rfl, ⟨nd, rfl⟩⟩; refine ⟨_, rfl, ?_⟩))
      go_ret2
      exact ⟨_, by first | rfl | (simp [errW_none, errW_some] <;> rfl) | (simp [*, errW_none, errW_some] <;> rfl) | (simp_all; done) | (exfalso; simp_all; done) | (exfalso; simp_all [bne]; done), by first | exact Kd.R_nil _ _ _ _ _ | exact Kd.N_nil _ _ _ _ _ | exact Kd.V_nil _ _ _ _ _ | exact Kd.Q_nil _ _ _ _ _ | exact Kd.S_nil _ _ _ _ _, by repeat (first | (with_reducible first | exact HB.out | apply below_alloc | apply pw_below_drewN | apply below_drew1) | exact HB.out)⟩


/-! ### varint_Put: function 97 -/
def varint_Put.f (k : Nat) (a0 : Int) : Option (List Int × Int) := (varint_Len.f a0).bind fun t138 => (if t138 = 0 then (some (([] : List Int), 13)) else ((varint_PutIn.f k a0 t138).bind fun bt139 => (some (bt139.1, bt139.2))))
theorem varint_Put.mono : ∀ a0 k, LeO (varint_Put.f k a0) (varint_Put.f (k + 1) a0) := by
  intro a0 k
  unfold varint_Put.f
  repeat' first
      | (with_reducible exact varint_PutIn.mono _ _ _)
      | (with_reducible exact LeO.refl _)
      | (with_reducible exact LeO.none _)
      | (with_reducible refine LeO.ite ?_ ?_)
      | (with_reducible refine LeO.bind ?_ (fun _ => ?_))
      | exact varint_PutIn.mono _ _ _
      | exact LeO.none _
      | refine LeO.ite ?_ ?_
      | refine LeO.bind ?_ (fun _ => ?_)
set_option maxHeartbeats 8000000 in
set_option maxRecDepth 100000 in
theorem varint_Put.calls (k : Nat) (a0 : Int) (r1 : List Int) (r2 : Int) (w : World) (h : varint_Put.f k a0 = some (r1, r2)) :
    Calls Try.prog 97 #[.int .i64 a0] w fun e w' => ∃ v0_ : Value, e = .returned (.tuple #[v0_, .int .i64 r2]) ∧ Kd.R (Kd.int .u8) 5 w' w.heap.size (fun _ => True) v0_ r1 ∧ Below w.heap.size w w' := by
  have HB := Aside0.mk (Below.refl w.heap.size w)
  have H : ((varint_Len.f a0).bind fun t138 => (if t138 = 0 then (some (([] : List Int), 13)) else ((varint_PutIn.f k a0 t138).bind fun bt139 => (some (bt139.1, bt139.2))))) = some (r1, r2) := h
  clear h
  replace H := Option.bind_eq_some_iff.mp H
  obtain ⟨t138, A20, H⟩ := H
  replace H : (if t138 = 0 then (some (([] : List Int), 13)) else ((varint_PutIn.f k a0 t138).bind fun bt139 => (some (bt139.1, bt139.2)))) = some (r1, r2) := H
  have A2 := Aside0.mk A20
  clear A20
  by_cases c3 : t138 = 0
  · rw [if_pos c3] at H
    have c3b0 : (t138 == 0) = true := beq_iff_eq.mpr c3
    have c3b1 : (t138 != 0) = false := bne_eq_false_iff_eq.mpr c3
    clear c3
    simp only [Option.some.injEq, Prod.mk.injEq] at H
    obtain ⟨rfl, rfl⟩ := H
    go_enter Try.func97, Try.ntmps97
    go_wp2_with (first | ((with_reducible refine gate_callee (f := 102) rfl ?_); refine goesL_ (some 6) rfl rfl Try.func102 (by kernel_rfl) rfl #[.int .i64 a0] rfl (by (try simp only [List.map_toArray, List.map_cons, List.map_nil]); first | done | rfl | (simp only [List.length_drop, List.length_take]; rfl)) ?_; (with_reducible refine (varint_Len.calls a0 t138 _ A2.out).mono ?_); rintro e w4 ⟨rfl, hb⟩; refine ⟨_, rfl, ?_⟩; have n0_ := Aside0.mk (below_step (by repeat (first | (with_reducible first | exact HB.out | apply below_alloc | apply pw_below_drewN | apply below_drew1) | exact HB.out)) hb); clear HB; have HB := n0_; clear n0_; (try clear hb); (try clear hb2); (try clear hk); (try clear hi)))
    go_ret2
    exact ⟨_, by first | rfl | (simp [errW_none, errW_some] <;> rfl) | (simp [*, errW_none, errW_some] <;> rfl) | (simp_all; done) | (exfalso; simp_all; done) | (exfalso; simp_all [bne]; done), by first | exact Kd.R_nil _ _ _ _ _ | exact Kd.N_nil _ _ _ _ _ | exact Kd.V_nil _ _ _ _ _ | exact Kd.Q_nil _ _ _ _ _ | exact Kd.S_nil _ _ _ _ _, by repeat (first | (with_reducible first | exact HB.out | apply below_alloc | apply pw_below_drewN | apply below_drew1) | exact HB.out)⟩
  · rw [if_neg c3] at H
    have c3b0 : (t138 == 0) = false := beq_eq_false_iff_ne.mpr c3
    have c3b1 : (t138 != 0) = true := bne_iff_ne.mpr c3
    replace H := Option.bind_eq_some_iff.mp H
    obtain ⟨⟨t139, t140⟩, A50, H⟩ := H
    replace H : (some (t139, t140)) = some (r1, r2) := H
    have A5 := Aside0.mk A50
    clear A50
    simp only [Option.some.injEq, Prod.mk.injEq] at H
    obtain ⟨rfl, rfl⟩ := H
    go_enter Try.func97, Try.ntmps97
    go_wp2_with (first | ((with_reducible refine gate_callee (f := 102) rfl ?_); refine goesL_ (some 6) rfl rfl Try.func102 (by kernel_rfl) rfl #[.int .i64 a0] rfl (by (try simp only [List.map_toArray, List.map_cons, List.map_nil]); first | done | rfl | (simp only [List.length_drop, List.length_take]; rfl)) ?_; (with_reducible refine (varint_Len.calls a0 t138 _ A2.out).mono ?_); rintro e w6 ⟨rfl, hb⟩; refine ⟨_, rfl, ?_⟩; have n0_ := Aside0.mk (below_step (by repeat (first | (with_reducible first | exact HB.out | apply below_alloc | apply pw_below_drewN | apply below_drew1) | exact HB.out)) hb); clear HB; have HB := n0_; clear n0_; (try clear hb); (try clear hb2); (try clear hk); (try clear hi)) | ((with_reducible refine gate_callee (f := 103) rfl ?_); refine goesL_ (some 11) rfl rfl Try.func103 (by kernel_rfl) rfl #[.int .i64 a0, .int .i64 t138] rfl (by (try simp only [List.map_toArray, List.map_cons, List.map_nil]); first | done | rfl | (simp only [List.length_drop, List.length_take]; rfl)) ?_; (with_reducible refine (varint_PutIn.calls k a0 t138 t139 t140 _ A5.out).mono ?_); rintro e w7 ⟨v141, rfl, ho0, hb⟩; refine ⟨_, rfl, ?_⟩; have n0_ := Aside0.mk (Kd.R_lower ho0 (below_size (by repeat (first | (with_reducible first | exact HB.out | apply below_alloc | apply pw_below_drewN | apply below_drew1) | exact HB.out)))); have n1_ := Aside0.mk (below_step (by repeat (first | (with_reducible first | exact HB.out | apply below_alloc | apply pw_below_drewN | apply below_drew1) | exact HB.out)) hb); clear HB; have HO142 := n0_; have HB := n1_; clear n0_ n1_; (try clear hb); (try clear hb2); (try clear hk); (try clear hi); (try clear ho0)))
    go_ret2
    exact ⟨_, by first | rfl | (simp [errW_none, errW_some] <;> rfl) | (simp [*, errW_none, errW_some] <;> rfl) | (simp_all; done) | (exfalso; simp_all; done) | (exfalso; simp_all [bne]; done), by (with_reducible repeat (first | apply Kd.R_alloc | apply Kd.R_drewN | apply Kd.R_drew)); exact HO142.out, by repeat (first | (with_reducible first | exact HB.out | apply below_alloc | apply pw_below_drewN | apply below_drew1) | exact HB.out)⟩


/-! ### field_Num: function 82 -/
def field_Num.f (k : Nat) (a0 : Int) : Option (List Int) := (varint_Put.f k a0).bind fun bt143 => (if bt143.2 = 0 then (some bt143.1) else (some ([] : List Int)))
theorem field_Num.mono : ∀ a0 k, LeO (field_Num.f k a0) (field_Num.f (k + 1) a0) := by
  intro a0 k
  unfold field_Num.f
  repeat' first
      | (with_reducible exact varint_Put.mono _ _)
      | (with_reducible exact LeO.refl _)
      | (with_reducible exact LeO.none _)
      | (with_reducible refine LeO.ite ?_ ?_)
      | (with_reducible refine LeO.bind ?_ (fun _ => ?_))
      | exact varint_Put.mono _ _
      | exact LeO.none _
      | refine LeO.ite ?_ ?_
      | refine LeO.bind ?_ (fun _ => ?_)
set_option maxHeartbeats 8000000 in
set_option maxRecDepth 100000 in
theorem field_Num.calls (k : Nat) (a0 : Int) (r : List Int) (w : World) (h : field_Num.f k a0 = some r) :
    Calls Try.prog 82 #[.int .i64 a0] w fun e w' => ∃ v0_ : Value, e = .returned (v0_) ∧ Kd.R (Kd.int .u8) 5 w' w.heap.size (fun _ => True) v0_ r ∧ Below w.heap.size w w' := by
  have HB := Aside0.mk (Below.refl w.heap.size w)
  have H : ((varint_Put.f k a0).bind fun bt143 => (if bt143.2 = 0 then (some bt143.1) else (some ([] : List Int)))) = some r := h
  clear h
  replace H := Option.bind_eq_some_iff.mp H
  obtain ⟨⟨t143, t144⟩, A20, H⟩ := H
  replace H : (if t144 = 0 then (some t143) else (some ([] : List Int))) = some r := H
  have A2 := Aside0.mk A20
  clear A20
  by_cases c3 : t144 = 0
  · rw [if_pos c3] at H
    have c3b0 : (t144 == 0) = true := beq_iff_eq.mpr c3
    have c3b1 : (t144 != 0) = false := bne_eq_false_iff_eq.mpr c3
    clear c3
    obtain rfl := Option.some.inj H
    go_enter Try.func82, Try.ntmps82
    go_wp2_with (first | ((with_reducible refine gate_callee (f := 97) rfl ?_); refine goesL_ (some 7) rfl rfl Try.func97 (by kernel_rfl) rfl #[.int .i64 a0] rfl (by (try simp only [List.map_toArray, List.map_cons, List.map_nil]); first | done | rfl | (simp only [List.length_drop, List.length_take]; rfl)) ?_; (with_reducible refine (varint_Put.calls k a0 t143 t144 _ A2.out).mono ?_); rintro e w4 ⟨v145, rfl, ho0, hb⟩; refine ⟨_, rfl, ?_⟩; have n0_ := Aside0.mk (Kd.R_lower ho0 (below_size (by repeat (first | (with_reducible first | exact HB.out | apply below_alloc | apply pw_below_drewN | apply below_drew1) | exact HB.out)))); have n1_ := Aside0.mk (below_step (by repeat (first | (with_reducible first | exact HB.out | apply below_alloc | apply pw_below_drewN | apply below_drew1) | exact HB.out)) hb); clear HB; have HO146 := n0_; have HB := n1_; clear n0_ n1_; (try clear hb); (try clear hb2); (try clear hk); (try clear hi); (try clear ho0)))
    go_ret
    exact ⟨_, by first | rfl | (simp [errW_none, errW_some] <;> rfl) | (simp [*, errW_none, errW_some] <;> rfl) | (simp_all; done) | (exfalso; simp_all; done) | (exfalso; simp_all [bne]; done), by (with_reducible repeat (first | apply Kd.R_alloc | apply Kd.R_drewN | apply Kd.R_drew)); exact HO146.out, by repeat (first | (with_reducible first | exact HB.out | apply below_alloc | apply pw_below_drewN | apply below_drew1) | exact HB.out)⟩
  · rw [if_neg c3] at H
    have c3b0 : (t144 == 0) = false := beq_eq_false_iff_ne.mpr c3
    have c3b1 : (t144 != 0) = true := bne_iff_ne.mpr c3
    obtain rfl := Option.some.inj H
    go_enter Try.func82, Try.ntmps82
    go_wp2_with (first | ((with_reducible refine gate_callee (f := 97) rfl ?_); refine goesL_ (some 7) rfl rfl Try.func97 (by kernel_rfl) rfl #[.int .i64 a0] rfl (by (try simp only [List.map_toArray, List.map_cons, List.map_nil]); first | done | rfl | (simp only [List.length_drop, List.length_take]; rfl)) ?_; (with_reducible refine (varint_Put.calls k a0 t143 t144 _ A2.out).mono ?_); rintro e w5 ⟨v145, rfl, ho0, hb⟩; refine ⟨_, rfl, ?_⟩; have n0_ := Aside0.mk (Kd.R_lower ho0 (below_size (by repeat (first | (with_reducible first | exact HB.out | apply below_alloc | apply pw_below_drewN | apply below_drew1) | exact HB.out)))); have n1_ := Aside0.mk (below_step (by repeat (first | (with_reducible first | exact HB.out | apply below_alloc | apply pw_below_drewN | apply below_drew1) | exact HB.out)) hb); clear HB; have HO146 := n0_; have HB := n1_; clear n0_ n1_; (try clear hb); (try clear hb2); (try clear hk); (try clear hi); (try clear ho0)))
    go_ret
    exact ⟨_, by first | rfl | (simp [errW_none, errW_some] <;> rfl) | (simp [*, errW_none, errW_some] <;> rfl) | (simp_all; done) | (exfalso; simp_all; done) | (exfalso; simp_all [bne]; done), by first | exact Kd.R_nil _ _ _ _ _ | exact Kd.N_nil _ _ _ _ _ | exact Kd.V_nil _ _ _ _ _ | exact Kd.Q_nil _ _ _ _ _ | exact Kd.S_nil _ _ _ _ _, by repeat (first | (with_reducible first | exact HB.out | apply below_alloc | apply pw_below_drewN | apply below_drew1) | exact HB.out)⟩


end Go.Proofs.Ytiladcdogbeomaa.QRangesPlays

namespace Go.Proofs.Ytiladcdogbeomaa.QRangesPlays
open Go.RowKit Go.Proofs.YtiladcdogbeomaaW.PrintWords Go.Proofs.YtiladcdogbeomaaW.PrintLast Go.Proofs.YtiladcdogbeomaaW.PrintMore
/-- A number's bytes in its least width. -/
def numL (x : Int) : List Int :=
  if x < 64 then [x]
  else if x < 16384 then [64 + x / 256, x % 256]
  else if x < 1073741824 then [128 + x / 16777216, x / 65536 % 256, x / 256 % 256, x % 256]
  else [192 + x / 72057594037927936, x / 281474976710656 % 256, x / 1099511627776 % 256, x / 4294967296 % 256, x / 16777216 % 256, x / 65536 % 256, x / 256 % 256, x % 256]
theorem or_all : ∀ a : Fin 64, ∀ t : Fin 4, Go.bits .or .u8 (a.val : Int) ((t.val * 64 : Nat) : Int) = ((a.val + t.val * 64 : Nat) : Int) := by decide +kernel
theorem or_tag (a t : Int) (h0 : 0 ≤ a) (h1 : a < 64) (t0 : 0 ≤ t) (t1 : t < 4) : Go.bits .or .u8 a (t * 64) = a + t * 64 := by
  have := or_all ⟨a.toNat, by omega⟩ ⟨t.toNat, by omega⟩
  have e1 : ((a.toNat : Nat) : Int) = a := by omega
  have e2 : ((t.toNat * 64 : Nat) : Int) = t * 64 := by omega
  have e3 : ((a.toNat + t.toNat * 64 : Nat) : Int) = a + t * 64 := by omega
  simpa only [e1, e2, e3] using this
theorem numL_1 (x : Int) (h0 : 0 ≤ x) (h1 : x < 64) : field_Num.f 10 x = some [x] := by
  have hf := fits1 x (by omega)
  have ho := or_tag (x % 256) 0 (by omega) (by omega) (by omega) (by omega)
  simp only [Int.zero_mul, Int.add_zero] at ho
  simp only [field_Num.f, varint_Put.f, varint_Len.f, varint_PutIn.f, varint_tell.f, hf, if_pos (show x < 9223372036854775808 by omega), if_neg (show ¬ x < 0 by omega), if_pos h1, Option.bind_some]
  simp [varint_PutIn.l0, wrap64, rd, h0, h1]
  rw [ho]; omega
theorem numL_2 (x : Int) (h0 : 64 ≤ x) (h1 : x < 16384) : field_Num.f 10 x = some [64 + x / 256, x % 256] := by
  have hf := fits2 x (by omega)
  have ho := or_tag (x / 256 % 256) 1 (by omega) (by omega) (by omega) (by omega)
  simp only [Int.one_mul] at ho
  simp only [field_Num.f, varint_Put.f, varint_Len.f, varint_PutIn.f, varint_tell.f, hf, if_pos (show x < 9223372036854775808 by omega), if_neg (show ¬ x < 0 by omega), if_neg (show ¬ x < 64 by omega), if_pos h1, Option.bind_some]
  simp [varint_PutIn.l0, wrap64, rd, h1, show (0 : Int) ≤ x by omega, List.replicate]
  rw [ho]; omega
theorem numL_4 (x : Int) (h0 : 16384 ≤ x) (h1 : x < 1073741824) : field_Num.f 10 x = some [128 + x / 16777216, x / 65536 % 256, x / 256 % 256, x % 256] := by
  have hf := fits4 x (by omega)
  have ho := or_tag (x / 256 / 256 / 256 % 256) 2 (by omega) (by omega) (by omega) (by omega)
  simp only [show (2 : Int) * 64 = 128 from rfl] at ho
  simp only [field_Num.f, varint_Put.f, varint_Len.f, varint_PutIn.f, varint_tell.f, hf, if_pos (show x < 9223372036854775808 by omega), if_neg (show ¬ x < 0 by omega), if_neg (show ¬ x < 64 by omega), if_neg (show ¬ x < 16384 by omega), if_pos h1, Option.bind_some]
  simp [varint_PutIn.l0, wrap64, rd, h1, show (0 : Int) ≤ x by omega, List.replicate]
  rw [ho]; omega
theorem numL_8 (x : Int) (h0 : 1073741824 ≤ x) (h1 : x < 4611686018427387904) : field_Num.f 10 x = some [192 + x / 72057594037927936, x / 281474976710656 % 256, x / 1099511627776 % 256, x / 4294967296 % 256, x / 16777216 % 256, x / 65536 % 256, x / 256 % 256, x % 256] := by
  have hf := fits8 x (by omega)
  have ho := or_tag (x / 256 / 256 / 256 / 256 / 256 / 256 / 256 % 256) 3 (by omega) (by omega) (by omega) (by omega)
  simp only [show (3 : Int) * 64 = 192 from rfl] at ho
  simp only [field_Num.f, varint_Put.f, varint_Len.f, varint_PutIn.f, varint_tell.f, hf, if_pos (show x < 9223372036854775808 by omega), if_neg (show ¬ x < 0 by omega), if_neg (show ¬ x < 64 by omega), if_neg (show ¬ x < 16384 by omega), if_neg (show ¬ x < 1073741824 by omega), if_pos h1, Option.bind_some]
  simp [varint_PutIn.l0, wrap64, rd, h1, show (0 : Int) ≤ x by omega, List.replicate]
  rw [ho]; omega
theorem numL_all (x : Int) (h : 0 ≤ x ∧ x ≤ 1099511627776) : field_Num.f 10 x = some (numL x) ∧ (numL x).length ≤ 8 := by
  unfold numL
  by_cases h1 : x < 64
  · rw [if_pos h1]; exact ⟨numL_1 x h.1 h1, by simp⟩
  · rw [if_neg h1]
    by_cases h2 : x < 16384
    · rw [if_pos h2]; exact ⟨numL_2 x (by omega) h2, by simp⟩
    · rw [if_neg h2]
      by_cases h3 : x < 1073741824
      · rw [if_pos h3]; exact ⟨numL_4 x (by omega) h3, by simp⟩
      · rw [if_neg h3]; exact ⟨numL_8 x (by omega) (by omega), by simp⟩
end Go.Proofs.Ytiladcdogbeomaa.QRangesPlays

namespace Go.Proofs.Ytiladcdogbeomaa.QRangesPlays
open Go.RowKit Go.Proofs.YtiladcdogbeomaaW.PrintWords Go.Proofs.YtiladcdogbeomaaW.PrintLast Go.Proofs.YtiladcdogbeomaaW.PrintMore
attribute [local go_sem] max2_int min2_int max_two min_two   -- for this text's walks alone
set_option linter.unusedVariables false
set_option linter.unusedSimpArgs false

attribute [local go_sem high] eqA95
/-! ### varint_Get: function 104 -/
def varint_Get.l0 : Nat → Int → Int → List Int → Int → Int → Option (Int × Int × Int)
  | 0, _, _, _, _, _ => none
  | k + 1, x2, x5, x27, x28, x29 => if x29 < x28 then (if 0 ≤ x29 then (if x29 < (x27.length : Int) then (varint_Get.l0 k (Go.bits .or .i64 (wrap64 (x2 * 256)) (wrap64 (rd x27 x29))) x5 x27 x28 (wrap64 (x29 + 1))) else (none)) else (none)) else (some (x2, x5, 0))
def varint_Get.f (k : Nat) (l0 : List Int) : Option (Int × Int × Int) := if (l0.length : Int) = 0 then (some (0, 0, 3)) else (if 0 < (l0.length : Int) then (if 0 ≤ ((rd l0 0) / 64) then (if (l0.length : Int) < (shl .i64 1 ((rd l0 0) / 64)) then (some (0, 0, 3)) else (if 1 ≤ (shl .i64 1 ((rd l0 0) / 64)) then (if (shl .i64 1 ((rd l0 0) / 64)) ≤ (l0.length : Int) then (varint_Get.l0 k (wrap64 (Go.bits .and .u8 (rd l0 0) 63)) (shl .i64 1 ((rd l0 0) / 64)) ((l0.take ((shl .i64 1 ((rd l0 0) / 64)) : Int).toNat).drop 1) (((l0.take ((shl .i64 1 ((rd l0 0) / 64)) : Int).toNat).drop 1).length : Int) 0) else (none)) else (none))) else (none)) else (none))
theorem varint_Get.mono_l : ∀ k, (∀ y0 y1 y2 y3 y4, LeO (varint_Get.l0 k y0 y1 y2 y3 y4) (varint_Get.l0 (k + 1) y0 y1 y2 y3 y4))
  | 0 => fun _ _ _ _ _ r h => by simp [varint_Get.l0] at h
  | k + 1 => by
    have ih0 := varint_Get.mono_l k
    · intro y0 y1 y2 y3 y4
      unfold varint_Get.l0
      repeat' first
      | (with_reducible exact ih0 _ _ _ _ _)
      | (with_reducible exact LeO.refl _)
      | (with_reducible exact LeO.none _)
      | (with_reducible refine LeO.ite ?_ ?_)
      | (with_reducible refine LeO.bind ?_ (fun _ => ?_))
      | exact ih0 _ _ _ _ _
      | exact LeO.none _
      | refine LeO.ite ?_ ?_
      | refine LeO.bind ?_ (fun _ => ?_)
theorem varint_Get.mono : ∀ a0 k, LeO (varint_Get.f k a0) (varint_Get.f (k + 1) a0) := by
  intro a0 k
  have ih0 := varint_Get.mono_l k
  unfold varint_Get.f
  repeat' first
      | (with_reducible exact ih0 _ _ _ _ _)
      | (with_reducible exact LeO.refl _)
      | (with_reducible exact LeO.none _)
      | (with_reducible refine LeO.ite ?_ ?_)
      | (with_reducible refine LeO.bind ?_ (fun _ => ?_))
      | exact ih0 _ _ _ _ _
      | exact LeO.none _
      | refine LeO.ite ?_ ?_
      | refine LeO.bind ?_ (fun _ => ?_)
set_option maxHeartbeats 8000000 in
set_option maxRecDepth 100000 in
theorem varint_Get.calls (k : Nat) (A0 : Option Addr) (c0 : Nat) (l0 : List Int) (r1 : Int) (r2 : Int) (r3 : Int) (w : World) (hr0 : Kd.C (Kd.int .u8) w A0 l0.length l0) (hc0 : l0.length ≤ c0) (h : varint_Get.f k l0 = some (r1, r2, r3)) :
    Calls Try.prog 104 #[.slice A0 l0.length c0] w fun e w' => e = .returned (.tuple #[.int .i64 r1, .int .i64 r2, .int .i64 r3]) ∧ Drawn0 w w' := by
  have HR0 := Aside0.mk hr0
  have HC0 := Aside0.mk hc0
  clear hr0 hc0
  have H : (if (l0.length : Int) = 0 then (some (0, 0, 3)) else (if 0 < (l0.length : Int) then (if 0 ≤ ((rd l0 0) / 64) then (if (l0.length : Int) < (shl .i64 1 ((rd l0 0) / 64)) then (some (0, 0, 3)) else (if 1 ≤ (shl .i64 1 ((rd l0 0) / 64)) then (if (shl .i64 1 ((rd l0 0) / 64)) ≤ (l0.length : Int) then (varint_Get.l0 k (wrap64 (Go.bits .and .u8 (rd l0 0) 63)) (shl .i64 1 ((rd l0 0) / 64)) ((l0.take ((shl .i64 1 ((rd l0 0) / 64)) : Int).toNat).drop 1) (((l0.take ((shl .i64 1 ((rd l0 0) / 64)) : Int).toNat).drop 1).length : Int) 0) else (none)) else (none))) else (none)) else (none))) = some (r1, r2, r3) := h
  clear h
  by_cases c2 : (l0.length : Int) = 0
  · rw [if_pos c2] at H
    have c2b0 : ((l0.length : Int) == 0) = true := beq_iff_eq.mpr c2
    have c2b1 : ((l0.length : Int) != 0) = false := bne_eq_false_iff_eq.mpr c2
    clear c2
    simp only [Option.some.injEq, Prod.mk.injEq] at H
    obtain ⟨rfl, rfl, rfl⟩ := H
    go_enter Try.func104, Try.ntmps104
    go_wp2
    go_ret3
    exact ⟨by first | rfl | (simp; done) | (simp [*]; done) | (simp [*, bne]; done) | (simp_all; done) | (exfalso; simp_all; done) | (exfalso; simp_all [bne]; done), by repeat (first | exact Drawn0.refl _ | apply Drawn0.step)⟩
  · rw [if_neg c2] at H
    have c2b0 : ((l0.length : Int) == 0) = false := beq_eq_false_iff_ne.mpr c2
    have c2b1 : ((l0.length : Int) != 0) = true := bne_iff_ne.mpr c2
    have c2b2 : ¬ (l0 = []) := fun h_ => c2 (by rw [h_]; rfl)
    by_cases c3 : 0 < (l0.length : Int)
    · rw [if_pos c3] at H
      have c3b0 : decide (0 < (l0.length : Int)) = true := decide_eq_true c3
      have c3b1 : decide (0 < l0.length) = true := decide_eq_true (by omega)
      clear c3
      obtain ⟨ji4, hji4⟩ : ∃ j_ : Int, ((rd l0 0) / 64) = j_ := ⟨_, rfl⟩
      replace H : (if 0 ≤ (ji4) then (if (l0.length : Int) < (shl .i64 1 (ji4)) then (some (0, 0, 3)) else (if 1 ≤ (shl .i64 1 (ji4)) then (if (shl .i64 1 (ji4)) ≤ (l0.length : Int) then (varint_Get.l0 k (wrap64 (Go.bits .and .u8 (rd l0 0) 63)) (shl .i64 1 (ji4)) ((l0.take ((shl .i64 1 (ji4)) : Int).toNat).drop 1) (((l0.take ((shl .i64 1 (ji4)) : Int).toNat).drop 1).length : Int) 0) else (none)) else (none))) else (none)) = some (r1, r2, r3) := by first | (rw [hji4] at H; exact H) | (simp only [hji4] at H ⊢; exact H)
      by_cases c5 : 0 ≤ (ji4)
      · rw [if_pos c5] at H
        have c5b0 := eq_true c5
        have c5b1 : decide (0 ≤ (ji4)) = true := decide_eq_true c5
        clear c5
        obtain ⟨ji6, hji6⟩ : ∃ j_ : Int, (shl .i64 1 (ji4)) = j_ := ⟨_, rfl⟩
        replace H : (if (l0.length : Int) < (ji6) then (some (0, 0, 3)) else (if 1 ≤ (ji6) then (if (ji6) ≤ (l0.length : Int) then (varint_Get.l0 k (wrap64 (Go.bits .and .u8 (rd l0 0) 63)) ji6 ((l0.take ((ji6) : Int).toNat).drop 1) (((l0.take ((ji6) : Int).toNat).drop 1).length : Int) 0) else (none)) else (none))) = some (r1, r2, r3) := by first | (rw [hji6] at H; exact H) | (simp only [hji6] at H ⊢; exact H)
        have hji6_ : (IntKind.i64.wrap (1 * 2 ^ min (ji4).toNat 64)) = ji6 := hji6
        have hji6z : (ji4) ≤ 64 → (IntKind.i64.wrap (1 * 2 ^ (ji4).toNat)) = ji6 := shl_small hji6
        have hji6u : (IntKind.i64.wrap (2 ^ min (ji4).toNat 64)) = ji6 := by have h_ := hji6_; rw [Int.one_mul] at h_; exact h_
        have hji6v : (ji4) ≤ 64 → (IntKind.i64.wrap (2 ^ (ji4).toNat)) = ji6 := fun hle_ => by have h_ := hji6z hle_; rw [Int.one_mul] at h_; exact h_
        have hji6y : (wrap64 (1 * 2 ^ min (ji4).toNat 64)) = ji6 := (i64_w _).symm.trans hji6_
        have hji6x : (ji4) ≤ 64 → (wrap64 (1 * 2 ^ (ji4).toNat)) = ji6 := fun h_ => (i64_w _).symm.trans (hji6z h_)
        by_cases c7 : (l0.length : Int) < (ji6)
        · rw [if_pos c7] at H
          have c7b0 : decide ((l0.length : Int) < (ji6)) = true := decide_eq_true c7
          clear c7
          simp only [Option.some.injEq, Prod.mk.injEq] at H
          obtain ⟨rfl, rfl, rfl⟩ := H
          have p162 : 0 ≤ (0 : Int) := (by omega)
          have q162 : 0 < (l0.length : Int) := of_decide_eq_true (by first | (with_reducible assumption) | assumption)
          obtain ⟨ad162, e162, hx162_0⟩ := Kd.at_int HR0.out 0 p162 q162
          cases e162
          have qi162 : (0 < l0.length) = True := eq_true (by omega)
          (try rw [show ((0 : Int)).toNat = 0 from rfl] at hx162_0)
          (try rw [Addr.add_zero'] at hx162_0)
          replace p162 := eq_true p162
          replace q162 := eq_true q162
          go_enter Try.func104, Try.ntmps104
          go_wp2
          go_ret3
          exact ⟨by first | rfl | (simp; done) | (simp only [← hji4, ← hji6] <;> (first | rfl | simp)) | (simp [*]; done) | (simp [*, bne]; done) | (simp_all; done) | (exfalso; simp_all; done) | (exfalso; simp_all [bne]; done), by repeat (first | exact Drawn0.refl _ | apply Drawn0.step)⟩
        · rw [if_neg c7] at H
          have c7b0 : decide ((l0.length : Int) < (ji6)) = false := decide_eq_false c7
          clear c7
          by_cases c8 : 1 ≤ (ji6)
          · rw [if_pos c8] at H
            have c8b0 := eq_true c8
            have c8b1 : decide (1 ≤ (ji6)) = true := decide_eq_true c8
            clear c8
            by_cases c9 : (ji6) ≤ (l0.length : Int)
            · rw [if_pos c9] at H
              have c9b0 := eq_true c9
              have c9b1 : decide ((ji6) ≤ (l0.length : Int)) = true := decide_eq_true c9
              have EL := Aside0.mk (show ((l0.take ((ji6) : Int).toNat).drop 1).length = ((ji6) : Int).toNat - 1 by rw [List.length_drop, List.length_take]; omega)
              clear c9
              have H' := Aside0.mk H
              clear H
              have p162 : 0 ≤ (0 : Int) := (by omega)
              have q162 : 0 < (l0.length : Int) := of_decide_eq_true (by first | (with_reducible assumption) | assumption)
              obtain ⟨ad162, e162, hx162_0⟩ := Kd.at_int HR0.out 0 p162 q162
              cases e162
              have qi162 : (0 < l0.length) = True := eq_true (by omega)
              (try rw [show ((0 : Int)).toNat = 0 from rfl] at hx162_0)
              (try rw [Addr.add_zero'] at hx162_0)
              replace p162 := eq_true p162
              replace q162 := eq_true q162
              have p163 : 0 ≤ (0 : Int) := (by omega)
              have q163 : 0 < (l0.length : Int) := of_decide_eq_true (by first | (with_reducible assumption) | assumption)
              obtain ⟨ad163, e163, hx163_0⟩ := Kd.at_int HR0.out 0 p163 q163
              obtain rfl : ad162 = ad163 := (by injection e163)
              have qi163 : (0 < l0.length) = True := eq_true (by omega)
              (try rw [show ((0 : Int)).toNat = 0 from rfl] at hx163_0)
              (try rw [Addr.add_zero'] at hx163_0)
              replace p163 := eq_true p163
              replace q163 := eq_true q163
              obtain ⟨i010, hi010, _, hsz10, _⟩ := info_parts info5
              obtain ⟨A10, hcut10, hA10, hC10⟩ := print_mid_of (P := Try.prog) (Value.int .u8) 0 23 5 .i64 .i64 Try.underlying23 hi010 hsz10 (some ad162) c0 l0 1 (ji6) (by omega) (by first | omega | exact of_decide_eq_true (by first | (with_reducible assumption) | assumption)) (of_decide_eq_true (by first | (with_reducible assumption) | assumption)) HC0.out
              have HR164 := Aside0.mk (Kd.C_of_reads (h1 := fun _ => rfl) (hA10 _ (Kd.reads_of_C HR0.out)))
              have HC164 := Aside0.mk hC10
              clear hA10 hC10 hi010 hsz10
              go_enter Try.func104, Try.ntmps104
              go_wp2
              go_loopg [2, 29] k (fun kq v2 v29 w' => ∃ (x2_1 : Int) (x29_1 : Int), v2 = .int .i64 x2_1 ∧ v29 = .int .i64 x29_1 ∧ Aside0 (varint_Get.l0 kq x2_1 ji6 ((l0.take ((ji6) : Int).toNat).drop 1) (((l0.take ((ji6) : Int).toNat).drop 1).length : Int) x29_1 = some (r1, r2, r3)) ∧ Aside0 (kq ≤ k) ∧ Drawn0 w w')
              case atStart => exact ⟨(wrap64 (Go.bits .and .u8 (rd l0 0) 63)), (0), (by first | rfl | (simp; done) | (simp [*]; done) | (simp [*, bne]; done) | (simp_all; done) | (exfalso; simp_all; done) | (exfalso; simp_all [bne]; done)), (by first | rfl | (simp; done) | (simp [*]; done) | (simp [*, bne]; done) | (simp_all; done) | (exfalso; simp_all; done) | (exfalso; simp_all [bne]; done)), H', ⟨Nat.le_refl _⟩, by repeat (first | exact Drawn0.refl _ | apply Drawn0.step)⟩
              case round =>
                clear H'
                try clear c1
                try clear p1
                try clear q1
                try clear hx1
                try clear qi1
                try clear c2
                try clear c2b0
                try clear c2b1
                try clear c2b2
                try clear p2
                try clear c3
                try clear c3b0
                try clear c3b1
                try clear c5
                try clear c5b0
                try clear c5b1
                try clear p6
                try clear c7
                try clear c7b0
                try clear c8
                try clear c8b0
                try clear c8b1
                try clear c9
                try clear c9b0
                try clear c9b1
                try clear c10
                try clear hx162_0
                try clear hx163_0
                try clear p162
                try clear p163
                try clear q162
                try clear q163
                obtain ⟨x2_1, x29_1, rfl, rfl, HA, HK1, ⟨m1, rfl⟩⟩ := hrel
                cases gk with
                | zero => exact absurd HA.out (by simp [varint_Get.l0])
                | succ k1 =>
                  have H := HA.out
                  clear HA
                  simp only [varint_Get.l0] at H
                  by_cases c11 : x29_1 < (((l0.take ((ji6) : Int).toNat).drop 1).length : Int)
                  · rw [if_pos c11] at H
                    have c11b0 : decide (x29_1 < (((l0.take ((ji6) : Int).toNat).drop 1).length : Int)) = true := decide_eq_true c11
                    have c11e : x29_1 < (((ji6 : Int).toNat - 1 : Nat) : Int) := by rw [← EL.out]; exact c11
                    clear c11
                    by_cases c12 : 0 ≤ x29_1
                    · rw [if_pos c12] at H
                      have c12b0 : decide (0 ≤ x29_1) = true := decide_eq_true c12
                      clear c12
                      by_cases c13 : x29_1 < (((l0.take ((ji6) : Int).toNat).drop 1).length : Int)
                      · rw [if_pos c13] at H
                        have c13b0 : decide (x29_1 < (((l0.take ((ji6) : Int).toNat).drop 1).length : Int)) = true := decide_eq_true c13
                        clear c13
                        have H' := Aside0.mk H
                        clear H
                        have p165 : 0 ≤ (x29_1 : Int) := of_decide_eq_true (by first | (with_reducible assumption) | assumption)
                        have q165 : x29_1 < (((l0.take ((ji6) : Int).toNat).drop 1).length : Int) := of_decide_eq_true (by first | (with_reducible assumption) | assumption)
                        obtain ⟨ad165, e165, hx165_0⟩ := Kd.at_int HR164.out x29_1 p165 q165
                        cases e165
                        replace p165 := eq_true p165
                        replace q165 := eq_true q165
                        go_wp2
                        go_roundg k1
                        case measure => have := HK1.out; omega
                        case rel => exact ⟨(Go.bits .or .i64 (wrap64 (x2_1 * 256)) (wrap64 (rd ((l0.take ((ji6) : Int).toNat).drop 1) x29_1))), (wrap64 (x29_1 + 1)), (by first | rfl | (simp; done) | (simp only [← hji6] <;> (first | rfl | simp)) | (simp [*]; done) | (simp [*, bne]; done) | (simp_all; done) | (exfalso; simp_all; done) | (exfalso; simp_all [bne]; done)), (by first | rfl | (simp; done) | (simp [*]; done) | (simp [*, bne]; done) | (simp_all; done) | (exfalso; simp_all; done) | (exfalso; simp_all [bne]; done)), H', ⟨by have := HK1.out; omega⟩, by repeat (first | exact Drawn0.refl _ | apply Drawn0.step)⟩
                      · rw [if_neg c13] at H
                        exact absurd H (by simp)
                    · rw [if_neg c12] at H
                      exact absurd H (by simp)
                  · rw [if_neg c11] at H
                    have c11b0 : decide (x29_1 < (((l0.take ((ji6) : Int).toNat).drop 1).length : Int)) = false := decide_eq_false c11
                    have c11e : ¬ (x29_1 < (((ji6 : Int).toNat - 1 : Nat) : Int)) := by rw [← EL.out]; exact c11
                    clear c11
                    simp only [Option.some.injEq, Prod.mk.injEq] at H
                    obtain ⟨rfl, rfl, rfl⟩ := H
                    go_wp2
                    go_ret3
                    exact ⟨by first | rfl | (simp; done) | (simp only [← hji4, ← hji6] <;> (first | rfl | simp)) | (simp [*]; done) | (simp [*, bne]; done) | (simp_all; done) | (exfalso; simp_all; done) | (exfalso; simp_all [bne]; done), by repeat (first | exact Drawn0.refl _ | apply Drawn0.step)⟩
            · rw [if_neg c9] at H
              exact absurd H (by simp)
          · rw [if_neg c8] at H
            exact absurd H (by simp)
      · rw [if_neg c5] at H
        exact absurd H (by simp)
    · rw [if_neg c3] at H
      exact absurd H (by simp)


/-! ### varint_Shortest: function 98 -/
def varint_Shortest.f (k : Nat) (l0 : List Int) : Option (Int × Int × Int) := (varint_Get.f k l0).bind fun bt166 => (if bt166.2.2 = 0 then ((varint_Len.f bt166.1).bind fun t169 => (if t169 < bt166.2.1 then (some (0, 0, 4)) else (some (bt166.1, bt166.2.1, bt166.2.2)))) else (some (bt166.1, bt166.2.1, bt166.2.2)))
theorem varint_Shortest.mono : ∀ a0 k, LeO (varint_Shortest.f k a0) (varint_Shortest.f (k + 1) a0) := by
  intro a0 k
  unfold varint_Shortest.f
  repeat' first
      | (with_reducible exact varint_Get.mono _ _)
      | (with_reducible exact LeO.refl _)
      | (with_reducible exact LeO.none _)
      | (with_reducible refine LeO.ite ?_ ?_)
      | (with_reducible refine LeO.bind ?_ (fun _ => ?_))
      | exact varint_Get.mono _ _
      | exact LeO.none _
      | refine LeO.ite ?_ ?_
      | refine LeO.bind ?_ (fun _ => ?_)
set_option maxHeartbeats 8000000 in
set_option maxRecDepth 100000 in
theorem varint_Shortest.calls (k : Nat) (A0 : Option Addr) (c0 : Nat) (l0 : List Int) (r1 : Int) (r2 : Int) (r3 : Int) (w : World) (hr0 : Kd.C (Kd.int .u8) w A0 l0.length l0) (hc0 : l0.length ≤ c0) (h : varint_Shortest.f k l0 = some (r1, r2, r3)) :
    Calls Try.prog 98 #[.slice A0 l0.length c0] w fun e w' => e = .returned (.tuple #[.int .i64 r1, .int .i64 r2, .int .i64 r3]) ∧ Below w.heap.size w w' := by
  have HR0 := Aside0.mk hr0
  have HC0 := Aside0.mk hc0
  clear hr0 hc0
  have HB := Aside0.mk (Below.refl w.heap.size w)
  have H : ((varint_Get.f k l0).bind fun bt166 => (if bt166.2.2 = 0 then ((varint_Len.f bt166.1).bind fun t169 => (if t169 < bt166.2.1 then (some (0, 0, 4)) else (some (bt166.1, bt166.2.1, bt166.2.2)))) else (some (bt166.1, bt166.2.1, bt166.2.2)))) = some (r1, r2, r3) := h
  clear h
  replace H := Option.bind_eq_some_iff.mp H
  obtain ⟨⟨t166, t167, t168⟩, A20, H⟩ := H
  replace H : (if t168 = 0 then ((varint_Len.f t166).bind fun t169 => (if t169 < t167 then (some (0, 0, 4)) else (some (t166, t167, t168)))) else (some (t166, t167, t168))) = some (r1, r2, r3) := H
  have A2 := Aside0.mk A20
  clear A20
  by_cases c3 : t168 = 0
  · rw [if_pos c3] at H
    have c3b0 : (t168 == 0) = true := beq_iff_eq.mpr c3
    have c3b1 : (t168 != 0) = false := bne_eq_false_iff_eq.mpr c3
    clear c3
    replace H := Option.bind_eq_some_iff.mp H
    obtain ⟨t169, A40, H⟩ := H
    replace H : (if t169 < t167 then (some (0, 0, 4)) else (some (t166, t167, t168))) = some (r1, r2, r3) := H
    have A4 := Aside0.mk A40
    clear A40
    by_cases c5 : t169 < t167
    · rw [if_pos c5] at H
      have c5b0 : decide (t169 < t167) = true := decide_eq_true c5
      clear c5
      simp only [Option.some.injEq, Prod.mk.injEq] at H
      obtain ⟨rfl, rfl, rfl⟩ := H
      go_enter Try.func98, Try.ntmps98
      go_wp2_with (first | ((with_reducible refine gate_callee (f := 104) rfl ?_); refine goesL_ (some 7) rfl rfl Try.func104 (by kernel_rfl) rfl #[.slice A0 l0.length c0] rfl (by (try simp only [List.map_toArray, List.map_cons, List.map_nil]); first | done | rfl | (simp only [List.length_drop, List.length_take]; rfl)) ?_; (with_reducible refine (varint_Get.calls k _ _ l0 t166 t167 t168 _ ?side1 ?side2 A2.out).mono ?_); (case side1 => repeat (first | exact HR0.out | (with_reducible refine Kd.C_alloc ?_ _) | (with_reducible refine Kd.C_drewN ?_ _) | (with_reducible refine Kd.C_drew ?_))); (case side2 => exact HC0.out); rintro e w' ⟨rfl, ⟨nd, rfl⟩⟩; refine ⟨_, rfl, ?_⟩) | (go_at_call 102; (with_reducible refine (varint_Len.calls t166 t169 _ A4.out).mono ?_); rintro e w6 ⟨rfl, hb⟩; have n0_ := Aside0.mk (below_step (by repeat (first | (with_reducible first | exact HB.out | apply below_alloc | apply pw_below_drewN | apply below_drew1) | exact HB.out)) hb); clear HB; have HB := n0_; clear n0_; (try clear hb); (try clear hb2); (try clear hk); (try clear hi)))
      go_ret3
      exact ⟨by first | rfl | (simp [errW_none, errW_some] <;> rfl) | (simp [*, errW_none, errW_some] <;> rfl) | (simp_all; done) | (exfalso; simp_all; done) | (exfalso; simp_all [bne]; done), by repeat (first | (with_reducible first | exact HB.out | apply below_alloc | apply pw_below_drewN | apply below_drew1) | exact HB.out)⟩
    · rw [if_neg c5] at H
      have c5b0 : decide (t169 < t167) = false := decide_eq_false c5
      clear c5
      simp only [Option.some.injEq, Prod.mk.injEq] at H
      obtain ⟨rfl, rfl, rfl⟩ := H
      go_enter Try.func98, Try.ntmps98
      go_wp2_with (first | ((with_reducible refine gate_callee (f := 104) rfl ?_); refine goesL_ (some 7) rfl rfl Try.func104 (by kernel_rfl) rfl #[.slice A0 l0.length c0] rfl (by (try simp only [List.map_toArray, List.map_cons, List.map_nil]); first | done | rfl | (simp only [List.length_drop, List.length_take]; rfl)) ?_; (with_reducible refine (varint_Get.calls k _ _ l0 t166 t167 t168 _ ?side1 ?side2 A2.out).mono ?_); (case side1 => repeat (first | exact HR0.out | (with_reducible refine Kd.C_alloc ?_ _) | (with_reducible refine Kd.C_drewN ?_ _) | (with_reducible refine Kd.C_drew ?_))); (case side2 => exact HC0.out); rintro e w' ⟨rfl, ⟨nd, rfl⟩⟩; refine ⟨_, rfl, ?_⟩) | (go_at_call 102; (with_reducible refine (varint_Len.calls t166 t169 _ A4.out).mono ?_); rintro e w7 ⟨rfl, hb⟩; have n0_ := Aside0.mk (below_step (by repeat (first | (with_reducible first | exact HB.out | apply below_alloc | apply pw_below_drewN | apply below_drew1) | exact HB.out)) hb); clear HB; have HB := n0_; clear n0_; (try clear hb); (try clear hb2); (try clear hk); (try clear hi)))
      go_ret3
      exact ⟨by first | rfl | (simp [errW_none, errW_some] <;> rfl) | (simp [*, errW_none, errW_some] <;> rfl) | (simp_all; done) | (exfalso; simp_all; done) | (exfalso; simp_all [bne]; done), by repeat (first | (with_reducible first | exact HB.out | apply below_alloc | apply pw_below_drewN | apply below_drew1) | exact HB.out)⟩
  · rw [if_neg c3] at H
    have c3b0 : (t168 == 0) = false := beq_eq_false_iff_ne.mpr c3
    have c3b1 : (t168 != 0) = true := bne_iff_ne.mpr c3
    simp only [Option.some.injEq, Prod.mk.injEq] at H
    obtain ⟨rfl, rfl, rfl⟩ := H
    go_enter Try.func98, Try.ntmps98
    go_wp2_with (first | ((with_reducible refine gate_callee (f := 104) rfl ?_); refine goesL_ (some 7) rfl rfl Try.func104 (by kernel_rfl) rfl #[.slice A0 l0.length c0] rfl (by (try simp only [List.map_toArray, List.map_cons, List.map_nil]); first | done | rfl | (simp only [List.length_drop, List.length_take]; rfl)) ?_; (with_reducible refine (varint_Get.calls k _ _ l0 t166 t167 t168 _ ?side1 ?side2 A2.out).mono ?_); (case side1 => repeat (first | exact HR0.out | (with_reducible refine Kd.C_alloc ?_ _) | (with_reducible refine Kd.C_drewN ?_ _) | (with_reducible refine Kd.C_drew ?_))); (case side2 => exact HC0.out); rintro e w' ⟨rfl, ⟨nd, rfl⟩⟩; refine ⟨_, rfl, ?_⟩))
    go_ret3
    exact ⟨by first | rfl | (simp [errW_none, errW_some] <;> rfl) | (simp [*, errW_none, errW_some] <;> rfl) | (simp_all; done) | (exfalso; simp_all; done) | (exfalso; simp_all [bne]; done), by repeat (first | (with_reducible first | exact HB.out | apply below_alloc | apply pw_below_drewN | apply below_drew1) | exact HB.out)⟩


end Go.Proofs.Ytiladcdogbeomaa.QRangesPlays

namespace Go.Proofs.Ytiladcdogbeomaa.QRangesPlays
open Go.RowKit Go.Proofs.YtiladcdogbeomaaW.PrintWords Go.Proofs.YtiladcdogbeomaaW.PrintLast Go.Proofs.YtiladcdogbeomaaW.PrintMore
theorem num9 : field_Num.f 4 9 = some [9] := by kernel_rfl
theorem num1 : field_Num.f 4 1 = some [1] := by kernel_rfl
theorem num2 : field_Num.f 4 2 = some [2] := by kernel_rfl
theorem chk : ranges_Check.f 4 [⟨2, 3⟩, ⟨7, 9⟩] = some 0 := by kernel_rfl
end Go.Proofs.Ytiladcdogbeomaa.QRangesPlays

namespace Go.Proofs.Ytiladcdogbeomaa.QRangesPlays
open Go.RowKit Go.Shelf Go.Proofs.YtiladcdogbeomaaW.PrintWords Go.Proofs.YtiladcdogbeomaaW.PrintLast Go.Proofs.YtiladcdogbeomaaW.PrintMore Go.Proofs.Ytiladcdogbeomaa.RowLaws
attribute [local go_sem] Oper.semAt_some
theorem wpList_zeros_nil {P : Program} {Q : Exit → Act → World → Prop} {a : Act} {w : World} {ops : Array Oper} {rest : List Oper} {o : Oper} (hgd : o.guard = none) (s x : Operand) (t tn : TypeId)
    (ho : o.op = .call { callee := .builtin .append, args := #[s, x], argTypes := #[t, tn] }) (e : TypeId) (i : TypeInfo) (z : Value) (sz : Nat) (kn : IntKind) (ht : P.underlying t = some (.slice e)) (htn : P.underlying tn = some (.int kn)) (hi : P.info? e = some i) (hz : i.zero = some z) (hsz : i.size = sz) (hzs : z.cells.size = sz)
    (hs : a.eval s = .slice none 0 0) (kq : IntKind) (k : Nat) (hx : a.eval x = .int kq k) (h0 : 0 < k) (hs0 : 0 < sz) (h63 : ((0 + k : Nat) : Int) ≤ 9223372036854775807) (h48 : k * i.bytes ≤ 281474976710656) (hfit : Builtin.nextslicecap (0 + k) 0 * i.bytes ≤ 281474976710656)
    (h : ∀ cap cur, k ≤ cap → cap ≤ maxLen → cur.size = cap * sz → wpList P ops Q rest (a.put o.dst (.slice (some ⟨w.heap.size, 0, none⟩) k cap)) (w.drew.alloc (.cells cur e))) :
    wpList P ops Q (o :: rest) a w := by
  refine wpList_plain hgd fun K hK => ?_
  have hf : (Builtin.firstCells i.size 0 (.slice none 0 0)).run P w.drew = .ok ([] : List Value).toArray w.drew := by simp [Builtin.firstCells]
  have hrun := Lib.run_append_grow_zeros (P := P) w t tn o.type e i z kq kn ht htn hi hz none 0 0 [] hf k h0 (by omega) (by omega) h63 h48 hfit
  unfold Oper.wp
  simp [execOp, ho, resolve, invoke, builtin, hs, hx, hrun, Result.andThen]
  have hge := grownCap_ge w (0 + k) 0 e
  have hle := grownCap_le_maxLen w (0 + k) 0 e (by unfold maxLen; omega)
  have h2 := h (grownCap w (0 + k) 0 e) (Builtin.zeroCells z.cells k ++ Builtin.zeroCells z.cells (grownCap w (0 + k) 0 e - (0 + k))) (by omega) hle (by
    simp only [Array.size_append, size_zeroCells, hzs, ← Nat.add_mul]
    congr 1; omega)
  refine hK _ _ ?_
  simpa using h2
theorem info5g : (Try.prog.info? 5).map (fun i => (i.zero, i.size, i.bytes)) = some (some (.int .u8 0), 1, 1) := by kernel_rfl
set_option maxRecDepth 100000 in
set_option maxHeartbeats 4000000 in
theorem Grow_nil (n : Nat) (hn : n ≤ 1000000) (w : World) :
    Calls Try.prog 101 #[.slice none 0 0, .int .i64 (n : Int)] w fun e w' => ∃ v, e = .returned v ∧ w'.ownsRow w.heap.size 5 1 v 0 [] ∧ Below w.heap.size w w' := by
  have e0 : (0 : Int) ≤ (n : Int) := by omega
  have e1 : IntKind.i64.wrap (n : Int) = (n : Int) := IntWalk.i64_in _ (by omega)
  obtain ⟨i0, hi0, hz0, hz1, hz2⟩ := info_parts info5g
  by_cases h0 : 0 < n
  · have e2 : (0 : Int) < (n : Int) := by omega
    go_enter Try.func101, Try.ntmps101
    go_wp2_with ((with_reducible refine gate_builtin (b := .append) (xs := #[.tmp 20, .tmp 21]) rfl ?_); refine wpList_zeros_nil rfl (.tmp 20) (.tmp 21) 23 3 rfl 5 i0 (.int .u8 0) 1 .i64 Try.underlying23 under3 hi0 hz0 hz1 rfl rfl .i64 n rfl h0 (by decide) (by omega) (by rw [hz2]; omega) (by rw [hz2]; exact growslice_fits (by omega) (by omega)) ?_; intro cap cur hc1 hc2 hc3)
    go_ret
    exact ⟨_, rfl, (World.ownsRow_made w cur cap (Nat.le_refl _) hc2 hc3).drew, below_drew (below_alloc (Below.refl _ _) _)⟩
  · have hz : n = 0 := by omega
    subst hz
    go_enter Try.func101, Try.ntmps101
    go_wp2
    go_ret
    exact ⟨_, rfl, World.ownsRow_nil _ _ _ _, Below.refl _ _⟩
end Go.Proofs.Ytiladcdogbeomaa.QRangesPlays

namespace Go.Proofs.Ytiladcdogbeomaa.QRangesPlays
open Go.RowKit Go.Shelf Go.Proofs.YtiladcdogbeomaaW.PrintWords Go.Proofs.YtiladcdogbeomaaW.PrintLast Go.Proofs.YtiladcdogbeomaaW.PrintMore Go.Proofs.Ytiladcdogbeomaa.RowLaws
attribute [local go_sem] Oper.semAt_some
def RowsAt (W : World) (p : Nat) (rows : List (List Int)) : Prop := ∀ i (h : i < rows.length), ∃ A c, W.cell? ⟨p, i, none⟩ = some (.slice A rows[i].length c) ∧ rows[i].length ≤ c ∧ Kd.C (Kd.int .u8) W A rows[i].length rows[i]
def total : List (List Int) → Nat
  | [] => 0
  | x :: r => x.length + total r
theorem total_append : ∀ (a b : List (List Int)), total (a ++ b) = total a + total b
  | [], b => by simp [total]
  | x :: r, b => by simp [total, total_append r b]; omega
theorem total_take (rows : List (List Int)) (k : Nat) (h : k < rows.length) : total (rows.take (k + 1)) = total (rows.take k) + rows[k].length := by
  rw [List.take_succ_eq_append_getElem h, total_append]; simp [total]
theorem total_le (rows : List (List Int)) (k : Nat) : total (rows.take k) ≤ total rows := by
  conv => rhs; rw [← List.take_append_drop k rows, total_append]
  omega
theorem total_flat : ∀ (rows : List (List Int)), rows.flatten.length = total rows
  | [] => rfl
  | x :: r => by simp only [List.flatten_cons, List.length_append, total, total_flat r]
theorem R_of_empty {W : World} {B : Nat} {v : Value} (h : W.ownsRow B 5 1 v 0 []) : Kd.R (Kd.int .u8) 5 W B (fun _ => True) v [] :=
  ⟨fun _ _ => trivial, ⟨[], h, ⟨rfl, fun i x hx => by simp at hx⟩⟩⟩
set_option maxRecDepth 100000 in
set_option maxHeartbeats 4000000 in
theorem Concat_calls (p m cc : Nat) (rows : List (List Int)) (w : World) (hm : rows.length = m) (hm2 : m ≤ 1000) (hr : RowsAt w p rows) (hs : total rows ≤ 1000000) :
    Calls Try.prog 96 #[.slice (some ⟨p, 0, none⟩) m cc] w fun e w' => ∃ v, e = .returned v ∧ Kd.R (Kd.int .u8) 5 w' w.heap.size (fun _ => True) v rows.flatten ∧ Below w.heap.size w w' := by
  have HR := Aside0.mk hr
  have HS := Aside0.mk hs
  have HM := Aside0.mk hm
  have em : (m : Int) ≤ 1000 := by omega
  clear hr hs
  go_enter Try.func96, Try.ntmps96
  go_wp2
  go_loopw [3, 11] (fun n i wr => ∃ k : Nat, k ≤ m ∧ i = .int .i64 k ∧ n = .int .i64 (total (rows.take k) : Nat) ∧ Aside0 (Below w.heap.size w wr)) (fun _ i _ => m - (intOf i).toNat)
  case atStart => exact ⟨0, Nat.zero_le _, rfl, rfl, ⟨Below.refl _ _⟩⟩
  case round =>
    obtain ⟨k, hk, rfl, rfl, HW⟩ := hrel
    by_cases hlt : k < m
    · obtain ⟨A, c, h1, h2, h3⟩ := HR.out k (by omega)
      have hc := (HW.out.cell (World.block_lt_of_cell? _ _ h1)).trans h1
      have h4 := total_take rows k (by omega)
      have h5 := total_le rows (k + 1)
      obtain ⟨S, hS⟩ : ∃ S, total (rows.take k) = S := ⟨_, rfl⟩
      obtain ⟨L, hL⟩ : ∃ L, rows[k].length = L := ⟨_, rfl⟩
      rw [hS]
      rw [hL] at hc
      rw [hS, hL] at h4
      have hS5 : S + L ≤ 1000000 := by have := HS.out; omega
      have hw1 : IntKind.i64.wrap ((S : Int) + (L : Int)) = (S : Int) + (L : Int) := IntWalk.i64_in _ (by omega)
      have H4 := Aside0.mk h4
      clear h1 h2 h3 h4 h5 hS hL
      go_wp2
      go_roundw
      case rel => exact ⟨k + 1, by omega, by simp, by rw [H4.out]; simp, HW⟩
      case measure => simp [intOf]; omega
    · have hk2 : k = m := by omega
      subst hk2
      have HT := Aside0.mk (show rows.take k = rows from List.take_of_length_le (by omega))
      rw [HT.out]
      go_wp2_with (go_at_call 101; refine (Grow_nil (total rows) HS.out wr).mono ?_; rintro e w2 ⟨v, rfl, ho, hb⟩; have HO := Aside0.mk (Kd.R_lower (R_of_empty ho) HW.out.size); have HB := Aside0.mk (below_step HW.out hb); clear ho hb)
      go_loopw [6, 27] (fun v i wr => ∃ j : Nat, j ≤ k ∧ i = .int .i64 j ∧ Aside0 (Kd.R (Kd.int .u8) 5 wr w.heap.size (fun _ => True) v (rows.take j).flatten) ∧ Aside0 (Below w.heap.size w wr)) (fun _ i _ => k - (intOf i).toNat)
      case atStart => exact ⟨0, Nat.zero_le _, rfl, HO, HB⟩
      case round =>
        obtain ⟨j, hj, rfl, HO2, HW2⟩ := hrel
        by_cases hlt2 : j < k
        · obtain ⟨A, c, h1, h2, h3⟩ := HR.out j (by omega)
          have hc := (HW2.out.cell (World.block_lt_of_cell? _ _ h1)).trans h1
          have H3 := Aside0.mk (Kd.C_below h3 HW2.out)
          have h4 := total_take rows j (by omega)
          have h5 := total_le rows (j + 1)
          have h6 := total_flat (rows.take j)
          have HFL := Aside0.mk (show (rows.take j).flatten.length + rows[j].length ≤ 1000000 by have := HS.out; omega)
          have HFT := Aside0.mk (show (rows.take (j + 1)).flatten = (rows.take j).flatten ++ rows[j] by rw [List.take_succ_eq_append_getElem (show j < rows.length by omega), List.flatten_append, List.flatten_cons, List.flatten_nil, List.append_nil])
          clear h1 h2 h3 h4 h5 h6
          go_wp2_with ((with_reducible refine gate_builtin (b := .append) (xs := #[.tmp 31, .tmp 32]) rfl ?_); at_builtin; refine Kd.R_append_rows (Kd.int .u8) (w0 := w) w.heap.size rfl (.tmp 31) (.tmp 32) 23 5 (.int .u8 0) 1 rfl Try.underlying23 info5 rfl (by decide) (by omega) _ (rows.take j).flatten rows[j] _ _ _ (fun _ => True) (fun _ => False) rfl rfl ?aO ?aR (fun _ _ h => h) (fun _ h => h.elim) ?aF ?aB ?aS ?aL ?_; (case aR => exact H3.out); (case aB => exact HW2.out); (case aF => exact (fun _ _ => trivial)); (case aO => exact HO2.out); (case aS => exact HW2.out.size); (case aL => have := HFL.out; omega); intro v3 w3 ho hb hg hat; have HB3 := Aside0.mk hb; have HO3 := Aside0.mk ho; clear ho hb hg hat)
          go_roundw
          case rel => exact ⟨j + 1, by omega, by simp, ⟨by rw [HFT.out]; exact HO3.out⟩, HB3⟩
          case measure => simp [intOf]; omega
        · have hj2 : j = k := by omega
          subst hj2
          rw [HT.out] at HO2
          go_wp2
          go_ret
          exact ⟨_, rfl, HO2.out, HW2.out⟩
theorem Join_calls (p m cc : Nat) (rows : List (List Int)) (w : World) (hm : rows.length = m) (hm2 : m ≤ 1000) (hr : RowsAt w p rows) (hs : total rows ≤ 1000000) :
    Calls Try.prog 81 #[.slice (some ⟨p, 0, none⟩) m cc] w fun e w' => ∃ v, e = .returned v ∧ Kd.R (Kd.int .u8) 5 w' w.heap.size (fun _ => True) v rows.flatten ∧ Below w.heap.size w w' := by
  have HC := Aside0.mk (Concat_calls p m cc rows w hm hm2 hr hs)
  go_enter Try.func81, Try.ntmps81
  go_wp2_with (go_at_call 96; refine HC.out.mono ?_; rintro e w2 ⟨v, rfl, ho, hb⟩; have HO := Aside0.mk ho; have HB := Aside0.mk hb; clear ho hb)
  go_ret
  exact ⟨_, rfl, HO.out, HB.out⟩
end Go.Proofs.Ytiladcdogbeomaa.QRangesPlays
