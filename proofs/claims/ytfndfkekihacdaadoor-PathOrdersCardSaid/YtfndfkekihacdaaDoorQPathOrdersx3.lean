/- Contracts of the functions that a statement of the given program reaches, written by a program of this session over the kit's print. No condition. -/
import Derived.Test.YtfndfkekihacdaaDoorQPathOrdersx0
import Derived.Test.YtfndfkekihacdaaDoorQPathOrdersx1
import Derived.Test.YtfndfkekihacdaaDoorQPathOrdersx2
namespace Go.Proofs.YtfndfkekihacdaaDoor.QPathOrders
open Go.RowKit Go.Proofs.YtfndfkekihacdaaDoorW.PrintWords Go.Proofs.YtfndfkekihacdaaDoorW.PrintLast Go.Proofs.YtfndfkekihacdaaDoorW.PrintMore
attribute [local go_sem] max2_int min2_int max_two min_two max_three min_three max_four min_four   -- for this text's walks alone
set_option linter.unusedVariables false
set_option linter.unusedSimpArgs false

/-! ### sumpterlaw07_PathOrders: function 3 -/
def sumpterlaw07_PathOrders.j0 : Nat → ByteArray → ByteArray → Bool → Option (Bool)
  | 0, _, _, _ => none
  | k + 1, x0, x1, x12 => if x12 = true then ((sumpterlaw07_awake.f k).bind fun t148 => (some t148)) else ((path_Under.f x0 x1).bind fun t149 => ((sumpterref07_Under.f x0 x1).bind fun t150 => (if (t149 == t150) = true then ((path_Less.f k x0 x1).bind fun t151 => ((sumpterref07_Less.f k x0 x1).bind fun t152 => (if (t151 == t152) = true then ((sumpterlaw07_awake.f k).bind fun t153 => (some t153)) else (none)))) else (none))))
def sumpterlaw07_PathOrders.f (k : Nat) (a0 : ByteArray) (a1 : ByteArray) : Option (Bool) := if (a0.size : Int) > 1000 then (sumpterlaw07_PathOrders.j0 k a0 a1 true) else (sumpterlaw07_PathOrders.j0 k a0 a1 (decide ((a1.size : Int) > 1000)))
theorem sumpterlaw07_PathOrders.mono_l : ∀ k, (∀ y0 y1 y2, LeO (sumpterlaw07_PathOrders.j0 k y0 y1 y2) (sumpterlaw07_PathOrders.j0 (k + 1) y0 y1 y2))
  | 0 => fun _ _ _ r h => by simp [sumpterlaw07_PathOrders.j0] at h
  | k + 1 => by
    have ih0 := sumpterlaw07_PathOrders.mono_l k
    · intro y0 y1 y2
      unfold sumpterlaw07_PathOrders.j0
      repeat' first
      | (with_reducible exact ih0 _ _ _)
      | (with_reducible exact path_Less.mono _ _ _)
      | (with_reducible exact sumpterlaw07_awake.mono _)
      | (with_reducible exact sumpterref07_Less.mono _ _ _)
      | (with_reducible exact LeO.refl _)
      | (with_reducible exact LeO.none _)
      | (with_reducible refine LeO.ite ?_ ?_)
      | (with_reducible refine LeO.bind ?_ (fun _ => ?_))
      | exact ih0 _ _ _
      | exact path_Less.mono _ _ _
      | exact sumpterlaw07_awake.mono _
      | exact sumpterref07_Less.mono _ _ _
      | exact LeO.none _
      | refine LeO.ite ?_ ?_
      | refine LeO.bind ?_ (fun _ => ?_)
theorem sumpterlaw07_PathOrders.mono : ∀ a0 a1 k, LeO (sumpterlaw07_PathOrders.f k a0 a1) (sumpterlaw07_PathOrders.f (k + 1) a0 a1) := by
  intro a0 a1 k
  have ih0 := sumpterlaw07_PathOrders.mono_l k
  unfold sumpterlaw07_PathOrders.f
  repeat' first
      | (with_reducible exact ih0 _ _ _)
      | (with_reducible exact path_Less.mono _ _ _)
      | (with_reducible exact sumpterlaw07_awake.mono _)
      | (with_reducible exact sumpterref07_Less.mono _ _ _)
      | (with_reducible exact LeO.refl _)
      | (with_reducible exact LeO.none _)
      | (with_reducible refine LeO.ite ?_ ?_)
      | (with_reducible refine LeO.bind ?_ (fun _ => ?_))
      | exact ih0 _ _ _
      | exact path_Less.mono _ _ _
      | exact sumpterlaw07_awake.mono _
      | exact sumpterref07_Less.mono _ _ _
      | exact LeO.none _
      | refine LeO.ite ?_ ?_
      | refine LeO.bind ?_ (fun _ => ?_)
set_option maxHeartbeats 8000000 in
set_option maxRecDepth 100000 in
theorem sumpterlaw07_PathOrders.calls (k : Nat) (a0 : ByteArray) (a1 : ByteArray) (r : Bool) (w : World) (hT : TabOK w) (h : sumpterlaw07_PathOrders.f k a0 a1 = some r) :
    Calls Tryd.prog 3 #[.string a0, .string a1] w fun e w' => e = .returned (.bool r) ∧ Below w.heap.size w w' := by
  have HB := Aside0.mk (Below.refl w.heap.size w)
  have HT := Aside0.mk hT
  clear hT
  have H : (if (a0.size : Int) > 1000 then (sumpterlaw07_PathOrders.j0 k a0 a1 true) else (sumpterlaw07_PathOrders.j0 k a0 a1 (decide ((a1.size : Int) > 1000)))) = some r := h
  clear h
  have HC3 := Aside0.mk H
  clear H
  go_enter Tryd.func3, Tryd.ntmps3
  go_upto_region 1 with (fail)
  go_cut [12] (fun v12 wc => ∃ (kq : Nat) (x12_2 : Bool), v12 = .bool x12_2 ∧ Aside0 (sumpterlaw07_PathOrders.j0 kq a0 a1 x12_2 = some r) ∧ Aside0 (kq ≤ k) ∧ Aside0 (Below w.heap.size w wc))
  case first =>
    have H := HC3.out
    clear HC3
    by_cases c4 : (a0.size : Int) > 1000
    · rw [if_pos c4] at H
      have c4b0 : decide (1000 < (a0.size : Int)) = true := decide_eq_true c4
      have c4b1 : decide (1000 < a0.size) = true := decide_eq_true (by omega)
      clear c4
      (first | rw [c4b0] | (simp only [i64_w, i32_w]; rw [c4b0]) | skip)
      have H' := Aside0.mk H
      clear H
      go_wp2
      go_meet
      case rel => exact ⟨_, (true), (by first | rfl | (simp; done) | (simp [*]; done) | (simp [*, bne]; done) | (simp_all; done) | (exfalso; simp_all; done)), H', ⟨by first | omega | exact Nat.le_refl _⟩, ⟨by repeat (first | (with_reducible first | exact HB.out | apply below_alloc | apply pw_below_drewN | apply below_drew1) | exact HB.out)⟩⟩
    · rw [if_neg c4] at H
      have c4b0 : decide (1000 < (a0.size : Int)) = false := decide_eq_false c4
      have c4b1 : decide (1000 < a0.size) = false := decide_eq_false (by omega)
      clear c4
      (first | rw [c4b0] | (simp only [i64_w, i32_w]; rw [c4b0]) | skip)
      have H' := Aside0.mk H
      clear H
      go_wp2
      go_meet
      case rel => exact ⟨_, (decide ((a1.size : Int) > 1000)), (by first | rfl | (simp; done) | (simp [*]; done) | (simp [*, bne]; done) | (simp_all; done) | (exfalso; simp_all; done)), H', ⟨by first | omega | exact Nat.le_refl _⟩, ⟨by repeat (first | (with_reducible first | exact HB.out | apply below_alloc | apply pw_below_drewN | apply below_drew1) | exact HB.out)⟩⟩
  case rest =>
    clear HC3
    try clear p2
    try clear c3
    try clear c4
    try clear c4b0
    try clear c4b1
    obtain ⟨kq, x12_2, rfl, HA, HJ2, HB⟩ := hcut
    cases kq with
    | zero => exact absurd HA.out (by simp [sumpterlaw07_PathOrders.j0])
    | succ kj2 =>
      have H := HA.out
      clear HA
      simp only [sumpterlaw07_PathOrders.j0] at H
      by_cases c5 : x12_2 = true
      · subst c5
        have H1 : ((sumpterlaw07_awake.f kj2).bind fun t148 => (some t148)) = some r := by rw [if_pos rfl] at H; exact H
        clear H
        have H := H1
        clear H1
        replace H := Option.bind_eq_some_iff.mp H
        obtain ⟨t148, A60, H⟩ := H
        replace H : (some t148) = some r := H
        have A6 := Aside0.mk A60
        clear A60
        obtain rfl := Option.some.inj H
        go_wp2_with (first | ((with_reducible refine gate_callee (f := 9) rfl ?_); refine goesL_ (some 13) rfl rfl Tryd.func9 (by kernel_rfl) rfl #[] rfl (by (try simp only [List.map_toArray, List.map_cons, List.map_nil]); first | done | rfl | (simp only [List.length_drop, List.length_take]; rfl)) ?_; (with_reducible refine (sumpterlaw07_awake.calls kj2  t148 _ ?side1 A6.out).mono ?_); (case side1 => exact TabOK.below HT.out (by repeat (first | (with_reducible first | exact HB.out | apply below_alloc | apply pw_below_drewN | apply below_drew1) | exact HB.out))); rintro e w7 ⟨rfl, hb⟩; refine ⟨_, rfl, ?_⟩; have n0_ := Aside0.mk (below_step (by repeat (first | (with_reducible first | exact HB.out | apply below_alloc | apply pw_below_drewN | apply below_drew1) | exact HB.out)) hb); clear HB; have HB := n0_; clear n0_; (try clear hb); (try clear hb2); (try clear hk); (try clear hi)))
        any_goals go_ret
        any_goals exact ⟨by first | rfl | (simp [errW_none, errW_some] <;> rfl) | (simp [*, errW_none, errW_some] <;> rfl) | (simp_all; done) | (exfalso; simp_all; done), by repeat (first | (with_reducible first | exact HB.out | apply below_alloc | apply pw_below_drewN | apply below_drew1) | exact HB.out)⟩
      · replace c5 := Bool.eq_false_iff.mpr c5
        subst c5
        have H1 : ((path_Under.f a0 a1).bind fun t149 => ((sumpterref07_Under.f a0 a1).bind fun t150 => (if (t149 == t150) = true then ((path_Less.f kj2 a0 a1).bind fun t151 => ((sumpterref07_Less.f kj2 a0 a1).bind fun t152 => (if (t151 == t152) = true then ((sumpterlaw07_awake.f kj2).bind fun t153 => (some t153)) else (none)))) else (none)))) = some r := by rw [if_neg (show ¬ (false = true) by decide)] at H; exact H
        clear H
        have H := H1
        clear H1
        replace H := Option.bind_eq_some_iff.mp H
        obtain ⟨t149, A80, H⟩ := H
        replace H : ((sumpterref07_Under.f a0 a1).bind fun t150 => (if (t149 == t150) = true then ((path_Less.f kj2 a0 a1).bind fun t151 => ((sumpterref07_Less.f kj2 a0 a1).bind fun t152 => (if (t151 == t152) = true then ((sumpterlaw07_awake.f kj2).bind fun t153 => (some t153)) else (none)))) else (none))) = some r := H
        have A8 := Aside0.mk A80
        clear A80
        replace H := Option.bind_eq_some_iff.mp H
        obtain ⟨t150, A90, H⟩ := H
        replace H : (if (t149 == t150) = true then ((path_Less.f kj2 a0 a1).bind fun t151 => ((sumpterref07_Less.f kj2 a0 a1).bind fun t152 => (if (t151 == t152) = true then ((sumpterlaw07_awake.f kj2).bind fun t153 => (some t153)) else (none)))) else (none)) = some r := H
        have A9 := Aside0.mk A90
        clear A90
        by_cases c10 : (t149 == t150) = true
        · rw [if_pos c10] at H
          have c10b0 : (t149 == t150) = true := c10
          (try (have c10b1 : decide (t149 = t150) = true := by simpa using c10))
          (try (have c10b2 : (t149 == t150) = true := by simpa using c10))
          clear c10
          replace H := Option.bind_eq_some_iff.mp H
          obtain ⟨t151, A110, H⟩ := H
          replace H : ((sumpterref07_Less.f kj2 a0 a1).bind fun t152 => (if (t151 == t152) = true then ((sumpterlaw07_awake.f kj2).bind fun t153 => (some t153)) else (none))) = some r := H
          have A11 := Aside0.mk A110
          clear A110
          replace H := Option.bind_eq_some_iff.mp H
          obtain ⟨t152, A120, H⟩ := H
          replace H : (if (t151 == t152) = true then ((sumpterlaw07_awake.f kj2).bind fun t153 => (some t153)) else (none)) = some r := H
          have A12 := Aside0.mk A120
          clear A120
          by_cases c13 : (t151 == t152) = true
          · rw [if_pos c13] at H
            have c13b0 : (t151 == t152) = true := c13
            (try (have c13b1 : decide (t151 = t152) = true := by simpa using c13))
            (try (have c13b2 : (t151 == t152) = true := by simpa using c13))
            clear c13
            replace H := Option.bind_eq_some_iff.mp H
            obtain ⟨t153, A140, H⟩ := H
            replace H : (some t153) = some r := H
            have A14 := Aside0.mk A140
            clear A140
            obtain rfl := Option.some.inj H
            go_wp2_with (first | ((with_reducible refine gate_callee (f := 10) rfl ?_); refine goesL_ (some 16) rfl rfl Tryd.func10 (by kernel_rfl) rfl #[.string a0, .string a1] rfl (by (try simp only [List.map_toArray, List.map_cons, List.map_nil]); first | done | rfl | (simp only [List.length_drop, List.length_take]; rfl)) ?_; (with_reducible refine (path_Under.calls a0 a1 t149 _ A8.out).mono ?_); rintro e w' ⟨rfl, ⟨nd, rfl⟩⟩; refine ⟨_, rfl, ?_⟩) | ((with_reducible refine gate_callee (f := 11) rfl ?_); refine goesL_ (some 19) rfl rfl Tryd.func11 (by kernel_rfl) rfl #[.string a0, .string a1] rfl (by (try simp only [List.map_toArray, List.map_cons, List.map_nil]); first | done | rfl | (simp only [List.length_drop, List.length_take]; rfl)) ?_; (with_reducible refine (sumpterref07_Under.calls a0 a1 t150 _ A9.out).mono ?_); rintro e w' ⟨rfl, ⟨nd, rfl⟩⟩; refine ⟨_, rfl, ?_⟩) | (go_at_call 12; (with_reducible refine (path_Less.calls kj2 a0 a1 t151 _ ?side1 A11.out).mono ?_); (case side1 => exact TabOK.below HT.out (by repeat (first | (with_reducible first | exact HB.out | apply below_alloc | apply pw_below_drewN | apply below_drew1) | exact HB.out))); rintro e w15 ⟨rfl, hb⟩; have n0_ := Aside0.mk (below_step (by repeat (first | (with_reducible first | exact HB.out | apply below_alloc | apply pw_below_drewN | apply below_drew1) | exact HB.out)) hb); clear HB; have HB := n0_; clear n0_; (try clear hb); (try clear hb2); (try clear hk); (try clear hi)) | (go_at_call 13; (with_reducible refine (sumpterref07_Less.calls kj2 a0 a1 t152 _ A12.out).mono ?_); rintro e w16 ⟨rfl, hb⟩; have n0_ := Aside0.mk (below_step (by repeat (first | (with_reducible first | exact HB.out | apply below_alloc | apply pw_below_drewN | apply below_drew1) | exact HB.out)) hb); clear HB; have HB := n0_; clear n0_; (try clear hb); (try clear hb2); (try clear hk); (try clear hi)) | (go_at_call 9; (with_reducible refine (sumpterlaw07_awake.calls kj2  t153 _ ?side1 A14.out).mono ?_); (case side1 => exact TabOK.below HT.out (by repeat (first | (with_reducible first | exact HB.out | apply below_alloc | apply pw_below_drewN | apply below_drew1) | exact HB.out))); rintro e w17 ⟨rfl, hb⟩; have n0_ := Aside0.mk (below_step (by repeat (first | (with_reducible first | exact HB.out | apply below_alloc | apply pw_below_drewN | apply below_drew1) | exact HB.out)) hb); clear HB; have HB := n0_; clear n0_; (try clear hb); (try clear hb2); (try clear hk); (try clear hi)))
            any_goals go_ret
            any_goals exact ⟨by first | rfl | (simp [errW_none, errW_some] <;> rfl) | (simp [*, errW_none, errW_some] <;> rfl) | (simp_all; done) | (exfalso; simp_all; done), by repeat (first | (with_reducible first | exact HB.out | apply below_alloc | apply pw_below_drewN | apply below_drew1) | exact HB.out)⟩
          · rw [if_neg c13] at H
            exact absurd H (by simp)
        · rw [if_neg c10] at H
          exact absurd H (by simp)

end Go.Proofs.YtfndfkekihacdaaDoor.QPathOrders
