-- PRINTED BY print.sh 35421559b90ae4d0a3588c463048766b98c2df88dd9212a6774a882060cdf62d: not written by this session
import Derived.Test.YtifidkeohcbdlaaPStateEndsx0
import Derived.Test.YtifidkeohcbdlaaPStateEndsx1
import Derived.Test.YtifidkeohcbdlaaPStateEndsx2
namespace Go.Proofs.Ytifidkeohcbdlaa.PStateEnds
open Go.RowKit Go.Proofs.YtifidkeohcbdlaaW.PrintWords Go.Proofs.YtifidkeohcbdlaaW.PrintLast Go.Proofs.YtifidkeohcbdlaaW.PrintMore
attribute [local go_sem] max2_int min2_int max_two min_two max_three min_three max_four min_four   -- for this text's walks alone
set_option linter.unusedVariables false
set_option linter.unusedSimpArgs false

/-! ### sumpterlaw25_StateEnds: function 11 -/
mutual
def sumpterlaw25_StateEnds.l0 : Nat → List Int → Int → Int → Int → Int → Int → Option (Bool)
  | 0, _, _, _, _, _, _ => none
  | k + 1, x0, x3, x4, x5, x6, x7 => if x7 < (x0.length : Int) then (if 0 ≤ x7 then ((state_Sends.f k x3 (Int.tmod (rd x0 x7) 6)).bind fun bt123 => ((state_Receives.f k x4 (Int.tmod (rd x0 x7) 6)).bind fun bt126 => (if bt123.2 = true then (sumpterlaw25_StateEnds.j1 k x0 x3 x4 x5 x6 x7 bt123.1 bt123.2 bt126.1 bt126.2 ((Int.tmod (rd x0 x7) 6) != 0)) else (sumpterlaw25_StateEnds.j1 k x0 x3 x4 x5 x6 x7 bt123.1 bt123.2 bt126.1 bt126.2 false)))) else (none)) else (if x5 ≤ 3 then (if x6 ≤ 3 then ((sumpterlaw25_awake.f k).bind fun t121 => (some t121)) else (some false)) else (some false))
def sumpterlaw25_StateEnds.j1 : Nat → List Int → Int → Int → Int → Int → Int → Int → Bool → Int → Bool → Bool → Option (Bool)
  | 0, _, _, _, _, _, _, _, _, _, _, _ => none
  | k + 1, x0, x3, x4, x5, x6, x7, x8, x9, x10, x11, x50 => if x50 = true then (sumpterlaw25_StateEnds.j2 k x0 x3 x4 (wrap64 (x5 + 1)) x6 x7 x8 x9 x10 x11) else (sumpterlaw25_StateEnds.j2 k x0 x3 x4 x5 x6 x7 x8 x9 x10 x11)
def sumpterlaw25_StateEnds.j2 : Nat → List Int → Int → Int → Int → Int → Int → Int → Bool → Int → Bool → Option (Bool)
  | 0, _, _, _, _, _, _, _, _, _, _ => none
  | k + 1, x0, x3, x4, x5, x6, x7, x8, x9, x10, x11 => if x11 = true then (sumpterlaw25_StateEnds.j3 k x0 x3 x4 x5 (wrap64 (x6 + 1)) x7 x8 x9 x10 x11) else (sumpterlaw25_StateEnds.j3 k x0 x3 x4 x5 x6 x7 x8 x9 x10 x11)
def sumpterlaw25_StateEnds.j3 : Nat → List Int → Int → Int → Int → Int → Int → Int → Bool → Int → Bool → Option (Bool)
  | 0, _, _, _, _, _, _, _, _, _, _ => none
  | k + 1, x0, x3, x4, x5, x6, x7, x8, x9, x10, x11 => (state_SendDone.f x3).bind fun t129 => (if t129 = true then (if x9 = true then (some false) else ((state_RecvDone.f x4).bind fun t130 => (if t130 = true then (if x11 = true then (some false) else (if x8 = x3 then (if x10 = x4 then (sumpterlaw25_StateEnds.l0 k x0 x8 x10 x5 x6 (wrap64 (x7 + 1))) else (some false)) else (some false))) else (if x8 = x3 then (if x11 = true then (sumpterlaw25_StateEnds.l0 k x0 x8 x10 x5 x6 (wrap64 (x7 + 1))) else (if x10 = x4 then (sumpterlaw25_StateEnds.l0 k x0 x8 x10 x5 x6 (wrap64 (x7 + 1))) else (some false))) else (some false))))) else ((state_RecvDone.f x4).bind fun t131 => (if t131 = true then (if x11 = true then (some false) else (if x9 = true then (if x10 = x4 then (sumpterlaw25_StateEnds.l0 k x0 x8 x10 x5 x6 (wrap64 (x7 + 1))) else (some false)) else (if x8 = x3 then (if x10 = x4 then (sumpterlaw25_StateEnds.l0 k x0 x8 x10 x5 x6 (wrap64 (x7 + 1))) else (some false)) else (some false)))) else (if x9 = true then (if x11 = true then (sumpterlaw25_StateEnds.l0 k x0 x8 x10 x5 x6 (wrap64 (x7 + 1))) else (if x10 = x4 then (sumpterlaw25_StateEnds.l0 k x0 x8 x10 x5 x6 (wrap64 (x7 + 1))) else (some false))) else (if x8 = x3 then (if x11 = true then (sumpterlaw25_StateEnds.l0 k x0 x8 x10 x5 x6 (wrap64 (x7 + 1))) else (if x10 = x4 then (sumpterlaw25_StateEnds.l0 k x0 x8 x10 x5 x6 (wrap64 (x7 + 1))) else (some false))) else (some false))))))
end
def sumpterlaw25_StateEnds.f (k : Nat) (l0 : List Int) : Option (Bool) := if (l0.length : Int) > 200 then ((sumpterlaw25_awake.f k).bind fun t120 => (some t120)) else (sumpterlaw25_StateEnds.l0 k l0 0 0 0 0 0)
theorem sumpterlaw25_StateEnds.mono_l : ∀ k, (∀ y0 y1 y2 y3 y4 y5, LeO (sumpterlaw25_StateEnds.l0 k y0 y1 y2 y3 y4 y5) (sumpterlaw25_StateEnds.l0 (k + 1) y0 y1 y2 y3 y4 y5)) ∧ (∀ y0 y1 y2 y3 y4 y5 y6 y7 y8 y9 y10, LeO (sumpterlaw25_StateEnds.j1 k y0 y1 y2 y3 y4 y5 y6 y7 y8 y9 y10) (sumpterlaw25_StateEnds.j1 (k + 1) y0 y1 y2 y3 y4 y5 y6 y7 y8 y9 y10)) ∧ (∀ y0 y1 y2 y3 y4 y5 y6 y7 y8 y9, LeO (sumpterlaw25_StateEnds.j2 k y0 y1 y2 y3 y4 y5 y6 y7 y8 y9) (sumpterlaw25_StateEnds.j2 (k + 1) y0 y1 y2 y3 y4 y5 y6 y7 y8 y9)) ∧ (∀ y0 y1 y2 y3 y4 y5 y6 y7 y8 y9, LeO (sumpterlaw25_StateEnds.j3 k y0 y1 y2 y3 y4 y5 y6 y7 y8 y9) (sumpterlaw25_StateEnds.j3 (k + 1) y0 y1 y2 y3 y4 y5 y6 y7 y8 y9))
  | 0 => ⟨fun _ _ _ _ _ _ r h => by simp [sumpterlaw25_StateEnds.l0] at h, fun _ _ _ _ _ _ _ _ _ _ _ r h => by simp [sumpterlaw25_StateEnds.j1] at h, fun _ _ _ _ _ _ _ _ _ _ r h => by simp [sumpterlaw25_StateEnds.j2] at h, fun _ _ _ _ _ _ _ _ _ _ r h => by simp [sumpterlaw25_StateEnds.j3] at h⟩
  | k + 1 => by
    obtain ⟨ih0, ih1, ih2, ih3⟩ := sumpterlaw25_StateEnds.mono_l k
    refine ⟨?_, ?_, ?_, ?_⟩
    · intro y0 y1 y2 y3 y4 y5
      unfold sumpterlaw25_StateEnds.l0
      repeat' first
      | (with_reducible exact ih0 _ _ _ _ _ _)
      | (with_reducible exact ih1 _ _ _ _ _ _ _ _ _ _ _)
      | (with_reducible exact ih2 _ _ _ _ _ _ _ _ _ _)
      | (with_reducible exact ih3 _ _ _ _ _ _ _ _ _ _)
      | (with_reducible exact state_Receives.mono _ _ _)
      | (with_reducible exact state_Sends.mono _ _ _)
      | (with_reducible exact sumpterlaw25_awake.mono _)
      | (with_reducible exact LeO.refl _)
      | (with_reducible exact LeO.none _)
      | (with_reducible refine LeO.ite ?_ ?_)
      | (with_reducible refine LeO.bind ?_ (fun _ => ?_))
      | exact ih0 _ _ _ _ _ _
      | exact ih1 _ _ _ _ _ _ _ _ _ _ _
      | exact ih2 _ _ _ _ _ _ _ _ _ _
      | exact ih3 _ _ _ _ _ _ _ _ _ _
      | exact state_Receives.mono _ _ _
      | exact state_Sends.mono _ _ _
      | exact sumpterlaw25_awake.mono _
      | exact LeO.none _
      | refine LeO.ite ?_ ?_
      | refine LeO.bind ?_ (fun _ => ?_)
    · intro y0 y1 y2 y3 y4 y5 y6 y7 y8 y9 y10
      unfold sumpterlaw25_StateEnds.j1
      repeat' first
      | (with_reducible exact ih0 _ _ _ _ _ _)
      | (with_reducible exact ih1 _ _ _ _ _ _ _ _ _ _ _)
      | (with_reducible exact ih2 _ _ _ _ _ _ _ _ _ _)
      | (with_reducible exact ih3 _ _ _ _ _ _ _ _ _ _)
      | (with_reducible exact state_Receives.mono _ _ _)
      | (with_reducible exact state_Sends.mono _ _ _)
      | (with_reducible exact sumpterlaw25_awake.mono _)
      | (with_reducible exact LeO.refl _)
      | (with_reducible exact LeO.none _)
      | (with_reducible refine LeO.ite ?_ ?_)
      | (with_reducible refine LeO.bind ?_ (fun _ => ?_))
      | exact ih0 _ _ _ _ _ _
      | exact ih1 _ _ _ _ _ _ _ _ _ _ _
      | exact ih2 _ _ _ _ _ _ _ _ _ _
      | exact ih3 _ _ _ _ _ _ _ _ _ _
      | exact state_Receives.mono _ _ _
      | exact state_Sends.mono _ _ _
      | exact sumpterlaw25_awake.mono _
      | exact LeO.none _
      | refine LeO.ite ?_ ?_
      | refine LeO.bind ?_ (fun _ => ?_)
    · intro y0 y1 y2 y3 y4 y5 y6 y7 y8 y9
      unfold sumpterlaw25_StateEnds.j2
      repeat' first
      | (with_reducible exact ih0 _ _ _ _ _ _)
      | (with_reducible exact ih1 _ _ _ _ _ _ _ _ _ _ _)
      | (with_reducible exact ih2 _ _ _ _ _ _ _ _ _ _)
      | (with_reducible exact ih3 _ _ _ _ _ _ _ _ _ _)
      | (with_reducible exact state_Receives.mono _ _ _)
      | (with_reducible exact state_Sends.mono _ _ _)
      | (with_reducible exact sumpterlaw25_awake.mono _)
      | (with_reducible exact LeO.refl _)
      | (with_reducible exact LeO.none _)
      | (with_reducible refine LeO.ite ?_ ?_)
      | (with_reducible refine LeO.bind ?_ (fun _ => ?_))
      | exact ih0 _ _ _ _ _ _
      | exact ih1 _ _ _ _ _ _ _ _ _ _ _
      | exact ih2 _ _ _ _ _ _ _ _ _ _
      | exact ih3 _ _ _ _ _ _ _ _ _ _
      | exact state_Receives.mono _ _ _
      | exact state_Sends.mono _ _ _
      | exact sumpterlaw25_awake.mono _
      | exact LeO.none _
      | refine LeO.ite ?_ ?_
      | refine LeO.bind ?_ (fun _ => ?_)
    · intro y0 y1 y2 y3 y4 y5 y6 y7 y8 y9
      unfold sumpterlaw25_StateEnds.j3
      repeat' first
      | (with_reducible exact ih0 _ _ _ _ _ _)
      | (with_reducible exact ih1 _ _ _ _ _ _ _ _ _ _ _)
      | (with_reducible exact ih2 _ _ _ _ _ _ _ _ _ _)
      | (with_reducible exact ih3 _ _ _ _ _ _ _ _ _ _)
      | (with_reducible exact state_Receives.mono _ _ _)
      | (with_reducible exact state_Sends.mono _ _ _)
      | (with_reducible exact sumpterlaw25_awake.mono _)
      | (with_reducible exact LeO.refl _)
      | (with_reducible exact LeO.none _)
      | (with_reducible refine LeO.ite ?_ ?_)
      | (with_reducible refine LeO.bind ?_ (fun _ => ?_))
      | exact ih0 _ _ _ _ _ _
      | exact ih1 _ _ _ _ _ _ _ _ _ _ _
      | exact ih2 _ _ _ _ _ _ _ _ _ _
      | exact ih3 _ _ _ _ _ _ _ _ _ _
      | exact state_Receives.mono _ _ _
      | exact state_Sends.mono _ _ _
      | exact sumpterlaw25_awake.mono _
      | exact LeO.none _
      | refine LeO.ite ?_ ?_
      | refine LeO.bind ?_ (fun _ => ?_)
theorem sumpterlaw25_StateEnds.mono : ∀ a0 k, LeO (sumpterlaw25_StateEnds.f k a0) (sumpterlaw25_StateEnds.f (k + 1) a0) := by
  intro a0 k
  obtain ⟨ih0, ih1, ih2, ih3⟩ := sumpterlaw25_StateEnds.mono_l k
  unfold sumpterlaw25_StateEnds.f
  repeat' first
      | (with_reducible exact ih0 _ _ _ _ _ _)
      | (with_reducible exact ih1 _ _ _ _ _ _ _ _ _ _ _)
      | (with_reducible exact ih2 _ _ _ _ _ _ _ _ _ _)
      | (with_reducible exact ih3 _ _ _ _ _ _ _ _ _ _)
      | (with_reducible exact state_Receives.mono _ _ _)
      | (with_reducible exact state_Sends.mono _ _ _)
      | (with_reducible exact sumpterlaw25_awake.mono _)
      | (with_reducible exact LeO.refl _)
      | (with_reducible exact LeO.none _)
      | (with_reducible refine LeO.ite ?_ ?_)
      | (with_reducible refine LeO.bind ?_ (fun _ => ?_))
      | exact ih0 _ _ _ _ _ _
      | exact ih1 _ _ _ _ _ _ _ _ _ _ _
      | exact ih2 _ _ _ _ _ _ _ _ _ _
      | exact ih3 _ _ _ _ _ _ _ _ _ _
      | exact state_Receives.mono _ _ _
      | exact state_Sends.mono _ _ _
      | exact sumpterlaw25_awake.mono _
      | exact LeO.none _
      | refine LeO.ite ?_ ?_
      | refine LeO.bind ?_ (fun _ => ?_)
set_option maxHeartbeats 8000000 in
set_option maxRecDepth 100000 in
theorem sumpterlaw25_StateEnds.calls (k : Nat) (A0 : Option Addr) (c0 : Nat) (l0 : List Int) (r : Bool) (w : World) (hr0 : Kd.C (Kd.int .u8) w A0 l0.length l0) (hc0 : l0.length ≤ c0) (h : sumpterlaw25_StateEnds.f k l0 = some r) :
    Calls Try.prog 11 #[.slice A0 l0.length c0] w fun e w' => e = .returned (.bool r) ∧ Below w.heap.size w w' := by
  have HR0 := Aside0.mk hr0
  have HC0 := Aside0.mk hc0
  clear hr0 hc0
  have HB := Aside0.mk (Below.refl w.heap.size w)
  have H : (if (l0.length : Int) > 200 then ((sumpterlaw25_awake.f k).bind fun t120 => (some t120)) else (sumpterlaw25_StateEnds.l0 k l0 0 0 0 0 0)) = some r := h
  clear h
  by_cases c2 : (l0.length : Int) > 200
  · rw [if_pos c2] at H
    have c2b0 : decide (200 < (l0.length : Int)) = true := decide_eq_true c2
    have c2b1 : decide (200 < l0.length) = true := decide_eq_true (by omega)
    clear c2
    replace H := Option.bind_eq_some_iff.mp H
    obtain ⟨t120, A30, H⟩ := H
    replace H : (some t120) = some r := H
    have A3 := Aside0.mk A30
    clear A30
    obtain rfl := Option.some.inj H
    go_enter Try.func11, Try.ntmps11
    go_wp2_with (first | ((with_reducible refine gate_callee (f := 29) rfl ?_); refine goesL_ (some 15) rfl rfl Try.func29 (by kernel_rfl) rfl #[] rfl (by (try simp only [List.map_toArray, List.map_cons, List.map_nil]); first | done | rfl | (simp only [List.length_drop, List.length_take]; rfl)) ?_; (with_reducible refine (sumpterlaw25_awake.calls k  t120 _ A3.out).mono ?_); rintro e w4 ⟨rfl, hb⟩; refine ⟨_, rfl, ?_⟩; have n0_ := Aside0.mk (below_step (by repeat (first | (with_reducible first | exact HB.out | apply below_alloc | apply pw_below_drewN | apply below_drew1) | exact HB.out)) hb); clear HB; have HB := n0_; clear n0_; (try clear hb); (try clear hb2); (try clear hk); (try clear hi)))
    go_ret
    exact ⟨by first | rfl | (simp [errW_none, errW_some] <;> rfl) | (simp [*, errW_none, errW_some] <;> rfl), by repeat (first | (with_reducible first | exact HB.out | apply below_alloc | apply pw_below_drewN | apply below_drew1) | exact HB.out)⟩
  · rw [if_neg c2] at H
    have c2b0 : decide (200 < (l0.length : Int)) = false := decide_eq_false c2
    have c2b1 : decide (200 < l0.length) = false := decide_eq_false (by omega)
    clear c2
    have H' := Aside0.mk H
    clear H
    go_enter Try.func11, Try.ntmps11
    go_wp2
    go_loopg [3, 4, 5, 6, 7] k (fun kq v3 v4 v5 v6 v7 w' => ∃ (x3_1 : Int) (x4_1 : Int) (x5_1 : Int) (x6_1 : Int) (x7_1 : Int), v3 = .int .u8 x3_1 ∧ v4 = .int .u8 x4_1 ∧ v5 = .int .i64 x5_1 ∧ v6 = .int .i64 x6_1 ∧ v7 = .int .i64 x7_1 ∧ Aside0 (sumpterlaw25_StateEnds.l0 kq l0 x3_1 x4_1 x5_1 x6_1 x7_1 = some r) ∧ Aside0 (kq ≤ k) ∧ Aside0 (Below w.heap.size w w'))
    case atStart => exact ⟨(0), (0), (0), (0), (0), (by first | rfl | (simp; done) | (simp [*]; done)), (by first | rfl | (simp; done) | (simp [*]; done)), (by first | rfl | (simp; done) | (simp [*]; done)), (by first | rfl | (simp; done) | (simp [*]; done)), (by first | rfl | (simp; done) | (simp [*]; done)), H', ⟨Nat.le_refl _⟩, ⟨by repeat (first | (with_reducible first | exact HB.out | apply below_alloc | apply pw_below_drewN | apply below_drew1) | exact HB.out)⟩⟩
    case round =>
      clear H'
      try clear c1
      try clear c2
      try clear c2b0
      try clear c2b1
      try clear p2
      obtain ⟨x3_1, x4_1, x5_1, x6_1, x7_1, rfl, rfl, rfl, rfl, rfl, HA, HK1, HB⟩ := hrel
      cases gk with
      | zero => exact absurd HA.out (by simp [sumpterlaw25_StateEnds.l0])
      | succ k1 =>
        have H := HA.out
        clear HA
        simp only [sumpterlaw25_StateEnds.l0] at H
        by_cases c5 : x7_1 < (l0.length : Int)
        · rw [if_pos c5] at H
          have c5b0 : decide (x7_1 < (l0.length : Int)) = true := decide_eq_true c5
          clear c5
          by_cases c6 : 0 ≤ x7_1
          · rw [if_pos c6] at H
            have c6b0 : decide (0 ≤ x7_1) = true := decide_eq_true c6
            clear c6
            replace H := Option.bind_eq_some_iff.mp H
            obtain ⟨⟨t123, t124⟩, A70, H⟩ := H
            replace H : ((state_Receives.f k1 x4_1 (Int.tmod (rd l0 x7_1) 6)).bind fun bt126 => (if t124 = true then (sumpterlaw25_StateEnds.j1 k1 l0 x3_1 x4_1 x5_1 x6_1 x7_1 t123 t124 bt126.1 bt126.2 ((Int.tmod (rd l0 x7_1) 6) != 0)) else (sumpterlaw25_StateEnds.j1 k1 l0 x3_1 x4_1 x5_1 x6_1 x7_1 t123 t124 bt126.1 bt126.2 false))) = some r := H
            have A7 := Aside0.mk A70
            clear A70
            replace H := Option.bind_eq_some_iff.mp H
            obtain ⟨⟨t126, t127⟩, A80, H⟩ := H
            replace H : (if t124 = true then (sumpterlaw25_StateEnds.j1 k1 l0 x3_1 x4_1 x5_1 x6_1 x7_1 t123 t124 t126 t127 ((Int.tmod (rd l0 x7_1) 6) != 0)) else (sumpterlaw25_StateEnds.j1 k1 l0 x3_1 x4_1 x5_1 x6_1 x7_1 t123 t124 t126 t127 false)) = some r := H
            have A8 := Aside0.mk A80
            clear A80
            have HC9 := Aside0.mk H
            clear H
            have p122 : 0 ≤ (x7_1 : Int) := of_decide_eq_true (by first | (with_reducible assumption) | assumption)
            have q122 : x7_1 < (l0.length : Int) := of_decide_eq_true (by first | (with_reducible assumption) | assumption)
            obtain ⟨ad122, e122, hx122_0⟩ := Kd.at_int HR0.out x7_1 p122 q122
            cases e122
            replace hx122_0 := (HB.out.cell (World.block_lt_of_cell? w _ hx122_0)).trans hx122_0
            replace p122 := eq_true p122
            replace q122 := eq_true q122
            go_upto_region 10 with (first | ((with_reducible refine gate_callee (f := 26) rfl ?_); refine goesL_ (some 29) rfl rfl Try.func26 (by kernel_rfl) rfl #[.int .u8 x3_1, .int .u8 (Int.tmod (rd l0 x7_1) 6)] rfl (by (try simp only [List.map_toArray, List.map_cons, List.map_nil]); first | done | rfl | (simp only [List.length_drop, List.length_take]; rfl)) ?_; (with_reducible refine (state_Sends.calls k1 x3_1 (Int.tmod (rd l0 x7_1) 6) t123 t124 _ A7.out).mono ?_); rintro e w' ⟨rfl, ⟨nd, rfl⟩⟩; refine ⟨_, rfl, ?_⟩; have p125 : 0 ≤ (x7_1 : Int) := of_decide_eq_true (by first | (with_reducible assumption) | assumption); have q125 : x7_1 < (l0.length : Int) := of_decide_eq_true (by first | (with_reducible assumption) | assumption); obtain ⟨ad125, e125, hx125_0⟩ := Kd.at_int HR0.out x7_1 p125 q125; obtain rfl : ad122 = ad125 := (by injection e125); replace hx125_0 := (HB.out.cell (World.block_lt_of_cell? w _ hx125_0)).trans hx125_0; replace p125 := eq_true p125; replace q125 := eq_true q125) | ((with_reducible refine gate_callee (f := 30) rfl ?_); refine goesL_ (some 39) rfl rfl Try.func30 (by kernel_rfl) rfl #[.int .u8 x4_1, .int .u8 (Int.tmod (rd l0 x7_1) 6)] rfl (by (try simp only [List.map_toArray, List.map_cons, List.map_nil]); first | done | rfl | (simp only [List.length_drop, List.length_take]; rfl)) ?_; (with_reducible refine (state_Receives.calls k1 x4_1 (Int.tmod (rd l0 x7_1) 6) t126 t127 _ A8.out).mono ?_); rintro e w' ⟨rfl, ⟨nd, rfl⟩⟩; refine ⟨_, rfl, ?_⟩))
            (try simp only [Act.put, List.setIfInBounds_toArray, List.set_cons_zero, List.set_cons_succ])
            go_cut [50] (fun v50 wc => ∃ (kq : Nat) (x50_8 : Bool), v50 = .bool x50_8 ∧ Aside0 (sumpterlaw25_StateEnds.j1 kq l0 x3_1 x4_1 x5_1 x6_1 x7_1 t123 t124 t126 t127 x50_8 = some r) ∧ Aside0 (kq ≤ k1) ∧ Aside0 (Below w.heap.size w wc))
            case first =>
              have H := HC9.out
              clear HC9
              by_cases c10 : t124 = true
              · subst c10
                have H1 : (sumpterlaw25_StateEnds.j1 k1 l0 x3_1 x4_1 x5_1 x6_1 x7_1 t123 true t126 t127 ((Int.tmod (rd l0 x7_1) 6) != 0)) = some r := by rw [if_pos rfl] at H; exact H
                clear H
                have H := H1
                clear H1
                have H' := Aside0.mk H
                clear H
                have p128 : 0 ≤ (x7_1 : Int) := of_decide_eq_true (by first | (with_reducible assumption) | assumption)
                have q128 : x7_1 < (l0.length : Int) := of_decide_eq_true (by first | (with_reducible assumption) | assumption)
                obtain ⟨ad128, e128, hx128_0⟩ := Kd.at_int HR0.out x7_1 p128 q128
                obtain rfl : ad122 = ad128 := (by injection e128)
                replace hx128_0 := (HB.out.cell (World.block_lt_of_cell? w _ hx128_0)).trans hx128_0
                replace p128 := eq_true p128
                replace q128 := eq_true q128
                go_wp2
                go_meet
                case rel => exact ⟨_, (((Int.tmod (rd l0 x7_1) 6) != 0)), (by first | rfl | (simp; done) | (simp [*]; done)), H', ⟨by have := HK1.out; first | omega | exact Nat.le_refl _⟩, ⟨by repeat (first | (with_reducible first | exact HB.out | apply below_alloc | apply pw_below_drewN | apply below_drew1) | exact HB.out)⟩⟩
              · replace c10 := Bool.eq_false_iff.mpr c10
                subst c10
                have H1 : (sumpterlaw25_StateEnds.j1 k1 l0 x3_1 x4_1 x5_1 x6_1 x7_1 t123 false t126 t127 false) = some r := by rw [if_neg (show ¬ (false = true) by decide)] at H; exact H
                clear H
                have H := H1
                clear H1
                have H' := Aside0.mk H
                clear H
                go_wp2
                go_meet
                case rel => exact ⟨_, (false), (by first | rfl | (simp; done) | (simp [*]; done)), H', ⟨by have := HK1.out; first | omega | exact Nat.le_refl _⟩, ⟨by repeat (first | (with_reducible first | exact HB.out | apply below_alloc | apply pw_below_drewN | apply below_drew1) | exact HB.out)⟩⟩
            case rest =>
              clear HC9
              try clear c1
              try clear p1
              try clear q1
              try clear hx1
              try clear c2
              try clear c2b0
              try clear c2b1
              try clear p2
              try clear c3
              try clear c5
              try clear c5b0
              try clear c6
              try clear c6b0
              try clear c10
              try clear hx122_0
              try clear hx125_0
              try clear hx128_0
              try clear p122
              try clear p125
              try clear p128
              try clear p2
              try clear q122
              try clear q125
              try clear q128
              obtain ⟨kq, x50_8, rfl, HA, HJ8, HB⟩ := hcut
              cases kq with
              | zero => exact absurd HA.out (by simp [sumpterlaw25_StateEnds.j1])
              | succ kj8 =>
                have H := HA.out
                clear HA
                simp only [sumpterlaw25_StateEnds.j1] at H
                have HC11 := Aside0.mk H
                clear H
                go_upto_if 50 with (fail)
                go_cut [5] (fun v5 wc => ∃ (kq : Nat) (x5_10 : Int), v5 = .int .i64 x5_10 ∧ Aside0 (sumpterlaw25_StateEnds.j2 kq l0 x3_1 x4_1 x5_10 x6_1 x7_1 t123 t124 t126 t127 = some r) ∧ Aside0 (kq ≤ kj8) ∧ Aside0 (Below w.heap.size w wc))
                case first =>
                  have H := HC11.out
                  clear HC11
                  by_cases c12 : x50_8 = true
                  · subst c12
                    have H1 : (sumpterlaw25_StateEnds.j2 kj8 l0 x3_1 x4_1 (wrap64 (x5_1 + 1)) x6_1 x7_1 t123 t124 t126 t127) = some r := by rw [if_pos rfl] at H; exact H
                    clear H
                    have H := H1
                    clear H1
                    have H' := Aside0.mk H
                    clear H
                    go_wp2
                    go_meet
                    case rel => exact ⟨_, (wrap64 (x5_1 + 1)), (by first | rfl | (simp; done) | (simp [*]; done)), H', ⟨by have := HK1.out; have := HJ8.out; first | omega | exact Nat.le_refl _⟩, ⟨by repeat (first | (with_reducible first | exact HB.out | apply below_alloc | apply pw_below_drewN | apply below_drew1) | exact HB.out)⟩⟩
                  · replace c12 := Bool.eq_false_iff.mpr c12
                    subst c12
                    have H1 : (sumpterlaw25_StateEnds.j2 kj8 l0 x3_1 x4_1 x5_1 x6_1 x7_1 t123 t124 t126 t127) = some r := by rw [if_neg (show ¬ (false = true) by decide)] at H; exact H
                    clear H
                    have H := H1
                    clear H1
                    have H' := Aside0.mk H
                    clear H
                    go_wp2
                    go_meet
                    case rel => exact ⟨_, (x5_1), (by first | rfl | (simp; done) | (simp [*]; done)), H', ⟨by have := HK1.out; have := HJ8.out; first | omega | exact Nat.le_refl _⟩, ⟨by repeat (first | (with_reducible first | exact HB.out | apply below_alloc | apply pw_below_drewN | apply below_drew1) | exact HB.out)⟩⟩
                case rest =>
                  clear HC11
                  try clear c1
                  try clear p1
                  try clear q1
                  try clear hx1
                  try clear c2
                  try clear c2b0
                  try clear c2b1
                  try clear p2
                  try clear c3
                  try clear c5
                  try clear c5b0
                  try clear c6
                  try clear c6b0
                  try clear p6
                  try clear c10
                  try clear c11
                  try clear c12
                  try clear p12
                  try clear q12
                  try clear hx12
                  try clear hx122_0
                  try clear hx125_0
                  try clear hx128_0
                  try clear p1
                  try clear p122
                  try clear p125
                  try clear p128
                  try clear p2
                  try clear q1
                  try clear q122
                  try clear q125
                  try clear q128
                  obtain ⟨kq, x5_10, rfl, HA, HJ10, HB⟩ := hcut
                  cases kq with
                  | zero => exact absurd HA.out (by simp [sumpterlaw25_StateEnds.j2])
                  | succ kj10 =>
                    have H := HA.out
                    clear HA
                    simp only [sumpterlaw25_StateEnds.j2] at H
                    have HC13 := Aside0.mk H
                    clear H
                    go_upto_if 53 with (fail)
                    go_cut [6] (fun v6 wc => ∃ (kq : Nat) (x6_12 : Int), v6 = .int .i64 x6_12 ∧ Aside0 (sumpterlaw25_StateEnds.j3 kq l0 x3_1 x4_1 x5_10 x6_12 x7_1 t123 t124 t126 t127 = some r) ∧ Aside0 (kq ≤ kj10) ∧ Aside0 (Below w.heap.size w wc))
                    case first =>
                      have H := HC13.out
                      clear HC13
                      by_cases c14 : t127 = true
                      · subst c14
                        have H1 : (sumpterlaw25_StateEnds.j3 kj10 l0 x3_1 x4_1 x5_10 (wrap64 (x6_1 + 1)) x7_1 t123 t124 t126 true) = some r := by rw [if_pos rfl] at H; exact H
                        clear H
                        have H := H1
                        clear H1
                        have H' := Aside0.mk H
                        clear H
                        go_wp2
                        go_meet
                        case rel => exact ⟨_, (wrap64 (x6_1 + 1)), (by first | rfl | (simp; done) | (simp [*]; done)), H', ⟨by have := HK1.out; have := HJ8.out; have := HJ10.out; first | omega | exact Nat.le_refl _⟩, ⟨by repeat (first | (with_reducible first | exact HB.out | apply below_alloc | apply pw_below_drewN | apply below_drew1) | exact HB.out)⟩⟩
                      · replace c14 := Bool.eq_false_iff.mpr c14
                        subst c14
                        have H1 : (sumpterlaw25_StateEnds.j3 kj10 l0 x3_1 x4_1 x5_10 x6_1 x7_1 t123 t124 t126 false) = some r := by rw [if_neg (show ¬ (false = true) by decide)] at H; exact H
                        clear H
                        have H := H1
                        clear H1
                        have H' := Aside0.mk H
                        clear H
                        go_wp2
                        go_meet
                        case rel => exact ⟨_, (x6_1), (by first | rfl | (simp; done) | (simp [*]; done)), H', ⟨by have := HK1.out; have := HJ8.out; have := HJ10.out; first | omega | exact Nat.le_refl _⟩, ⟨by repeat (first | (with_reducible first | exact HB.out | apply below_alloc | apply pw_below_drewN | apply below_drew1) | exact HB.out)⟩⟩
                    case rest =>
                      clear HC13
                      try clear c1
                      try clear p1
                      try clear q1
                      try clear hx1
                      try clear c2
                      try clear c2b0
                      try clear c2b1
                      try clear p2
                      try clear c3
                      try clear c5
                      try clear c5b0
                      try clear c6
                      try clear c6b0
                      try clear p6
                      try clear c10
                      try clear c11
                      try clear c12
                      try clear p12
                      try clear q12
                      try clear hx12
                      try clear c14
                      try clear hx122_0
                      try clear hx125_0
                      try clear hx128_0
                      try clear p1
                      try clear p12
                      try clear p122
                      try clear p125
                      try clear p128
                      try clear p2
                      try clear p6
                      try clear q1
                      try clear q12
                      try clear q122
                      try clear q125
                      try clear q128
                      obtain ⟨kq, x6_12, rfl, HA, HJ12, HB⟩ := hcut
                      cases kq with
                      | zero => exact absurd HA.out (by simp [sumpterlaw25_StateEnds.j3])
                      | succ kj12 =>
                        have H := HA.out
                        clear HA
                        simp only [sumpterlaw25_StateEnds.j3] at H
                        replace H := Option.bind_eq_some_iff.mp H
                        obtain ⟨t129, A150, H⟩ := H
                        replace H : (if t129 = true then (if t124 = true then (some false) else ((state_RecvDone.f x4_1).bind fun t130 => (if t130 = true then (if t127 = true then (some false) else (if t123 = x3_1 then (if t126 = x4_1 then (sumpterlaw25_StateEnds.l0 kj12 l0 t123 t126 x5_10 x6_12 (wrap64 (x7_1 + 1))) else (some false)) else (some false))) else (if t123 = x3_1 then (if t127 = true then (sumpterlaw25_StateEnds.l0 kj12 l0 t123 t126 x5_10 x6_12 (wrap64 (x7_1 + 1))) else (if t126 = x4_1 then (sumpterlaw25_StateEnds.l0 kj12 l0 t123 t126 x5_10 x6_12 (wrap64 (x7_1 + 1))) else (some false))) else (some false))))) else ((state_RecvDone.f x4_1).bind fun t131 => (if t131 = true then (if t127 = true then (some false) else (if t124 = true then (if t126 = x4_1 then (sumpterlaw25_StateEnds.l0 kj12 l0 t123 t126 x5_10 x6_12 (wrap64 (x7_1 + 1))) else (some false)) else (if t123 = x3_1 then (if t126 = x4_1 then (sumpterlaw25_StateEnds.l0 kj12 l0 t123 t126 x5_10 x6_12 (wrap64 (x7_1 + 1))) else (some false)) else (some false)))) else (if t124 = true then (if t127 = true then (sumpterlaw25_StateEnds.l0 kj12 l0 t123 t126 x5_10 x6_12 (wrap64 (x7_1 + 1))) else (if t126 = x4_1 then (sumpterlaw25_StateEnds.l0 kj12 l0 t123 t126 x5_10 x6_12 (wrap64 (x7_1 + 1))) else (some false))) else (if t123 = x3_1 then (if t127 = true then (sumpterlaw25_StateEnds.l0 kj12 l0 t123 t126 x5_10 x6_12 (wrap64 (x7_1 + 1))) else (if t126 = x4_1 then (sumpterlaw25_StateEnds.l0 kj12 l0 t123 t126 x5_10 x6_12 (wrap64 (x7_1 + 1))) else (some false))) else (some false)))))) = some r := H
                        have A15 := Aside0.mk A150
                        clear A150
                        by_cases c16 : t129 = true
                        · subst c16
                          have H1 : (if t124 = true then (some false) else ((state_RecvDone.f x4_1).bind fun t130 => (if t130 = true then (if t127 = true then (some false) else (if t123 = x3_1 then (if t126 = x4_1 then (sumpterlaw25_StateEnds.l0 kj12 l0 t123 t126 x5_10 x6_12 (wrap64 (x7_1 + 1))) else (some false)) else (some false))) else (if t123 = x3_1 then (if t127 = true then (sumpterlaw25_StateEnds.l0 kj12 l0 t123 t126 x5_10 x6_12 (wrap64 (x7_1 + 1))) else (if t126 = x4_1 then (sumpterlaw25_StateEnds.l0 kj12 l0 t123 t126 x5_10 x6_12 (wrap64 (x7_1 + 1))) else (some false))) else (some false))))) = some r := by rw [if_pos rfl] at H; exact H
                          clear H
                          have H := H1
                          clear H1
                          by_cases c17 : t124 = true
                          · subst c17
                            have H1 : (some false) = some r := by rw [if_pos rfl] at H; exact H
                            clear H
                            have H := H1
                            clear H1
                            obtain rfl := Option.some.inj H
                            go_wp2_with (first | ((with_reducible refine gate_callee (f := 32) rfl ?_); refine goesL_ (some 57) rfl rfl Try.func32 (by kernel_rfl) rfl #[.int .u8 x3_1] rfl (by (try simp only [List.map_toArray, List.map_cons, List.map_nil]); first | done | rfl | (simp only [List.length_drop, List.length_take]; rfl)) ?_; (with_reducible refine (state_SendDone.calls x3_1 true _ A15.out).mono ?_); rintro e w' ⟨rfl, ⟨nd, rfl⟩⟩; refine ⟨_, rfl, ?_⟩))
                            go_ret
                            exact ⟨by first | rfl | (simp [errW_none, errW_some] <;> rfl) | (simp [*, errW_none, errW_some] <;> rfl), by repeat (first | (with_reducible first | exact HB.out | apply below_alloc | apply pw_below_drewN | apply below_drew1) | exact HB.out)⟩
                          · replace c17 := Bool.eq_false_iff.mpr c17
                            subst c17
                            have H1 : ((state_RecvDone.f x4_1).bind fun t130 => (if t130 = true then (if t127 = true then (some false) else (if t123 = x3_1 then (if t126 = x4_1 then (sumpterlaw25_StateEnds.l0 kj12 l0 t123 t126 x5_10 x6_12 (wrap64 (x7_1 + 1))) else (some false)) else (some false))) else (if t123 = x3_1 then (if t127 = true then (sumpterlaw25_StateEnds.l0 kj12 l0 t123 t126 x5_10 x6_12 (wrap64 (x7_1 + 1))) else (if t126 = x4_1 then (sumpterlaw25_StateEnds.l0 kj12 l0 t123 t126 x5_10 x6_12 (wrap64 (x7_1 + 1))) else (some false))) else (some false)))) = some r := by rw [if_neg (show ¬ (false = true) by decide)] at H; exact H
                            clear H
                            have H := H1
                            clear H1
                            replace H := Option.bind_eq_some_iff.mp H
                            obtain ⟨t130, A180, H⟩ := H
                            replace H : (if t130 = true then (if t127 = true then (some false) else (if t123 = x3_1 then (if t126 = x4_1 then (sumpterlaw25_StateEnds.l0 kj12 l0 t123 t126 x5_10 x6_12 (wrap64 (x7_1 + 1))) else (some false)) else (some false))) else (if t123 = x3_1 then (if t127 = true then (sumpterlaw25_StateEnds.l0 kj12 l0 t123 t126 x5_10 x6_12 (wrap64 (x7_1 + 1))) else (if t126 = x4_1 then (sumpterlaw25_StateEnds.l0 kj12 l0 t123 t126 x5_10 x6_12 (wrap64 (x7_1 + 1))) else (some false))) else (some false))) = some r := H
                            have A18 := Aside0.mk A180
                            clear A180
                            by_cases c19 : t130 = true
                            · subst c19
                              have H1 : (if t127 = true then (some false) else (if t123 = x3_1 then (if t126 = x4_1 then (sumpterlaw25_StateEnds.l0 kj12 l0 t123 t126 x5_10 x6_12 (wrap64 (x7_1 + 1))) else (some false)) else (some false))) = some r := by rw [if_pos rfl] at H; exact H
                              clear H
                              have H := H1
                              clear H1
                              by_cases c20 : t127 = true
                              · subst c20
                                have H1 : (some false) = some r := by rw [if_pos rfl] at H; exact H
                                clear H
                                have H := H1
                                clear H1
                                obtain rfl := Option.some.inj H
                                go_wp2_with (first | ((with_reducible refine gate_callee (f := 32) rfl ?_); refine goesL_ (some 57) rfl rfl Try.func32 (by kernel_rfl) rfl #[.int .u8 x3_1] rfl (by (try simp only [List.map_toArray, List.map_cons, List.map_nil]); first | done | rfl | (simp only [List.length_drop, List.length_take]; rfl)) ?_; (with_reducible refine (state_SendDone.calls x3_1 true _ A15.out).mono ?_); rintro e w' ⟨rfl, ⟨nd, rfl⟩⟩; refine ⟨_, rfl, ?_⟩) | (go_at_call 33; (with_reducible refine (state_RecvDone.calls x4_1 true _ A18.out).mono ?_); rintro e w' ⟨rfl, ⟨nd, rfl⟩⟩))
                                go_ret
                                exact ⟨by first | rfl | (simp [errW_none, errW_some] <;> rfl) | (simp [*, errW_none, errW_some] <;> rfl), by repeat (first | (with_reducible first | exact HB.out | apply below_alloc | apply pw_below_drewN | apply below_drew1) | exact HB.out)⟩
                              · replace c20 := Bool.eq_false_iff.mpr c20
                                subst c20
                                have H1 : (if t123 = x3_1 then (if t126 = x4_1 then (sumpterlaw25_StateEnds.l0 kj12 l0 t123 t126 x5_10 x6_12 (wrap64 (x7_1 + 1))) else (some false)) else (some false)) = some r := by rw [if_neg (show ¬ (false = true) by decide)] at H; exact H
                                clear H
                                have H := H1
                                clear H1
                                by_cases c21 : t123 = x3_1
                                · rw [if_pos c21] at H
                                  have c21b0 : (t123 == x3_1) = true := beq_iff_eq.mpr c21
                                  have c21b1 : (t123 != x3_1) = false := bne_eq_false_iff_eq.mpr c21
                                  clear c21
                                  by_cases c22 : t126 = x4_1
                                  · rw [if_pos c22] at H
                                    have c22b0 : (t126 == x4_1) = true := beq_iff_eq.mpr c22
                                    have c22b1 : (t126 != x4_1) = false := bne_eq_false_iff_eq.mpr c22
                                    clear c22
                                    have H' := Aside0.mk H
                                    clear H
                                    go_wp2_with (first | ((with_reducible refine gate_callee (f := 32) rfl ?_); refine goesL_ (some 57) rfl rfl Try.func32 (by kernel_rfl) rfl #[.int .u8 x3_1] rfl (by (try simp only [List.map_toArray, List.map_cons, List.map_nil]); first | done | rfl | (simp only [List.length_drop, List.length_take]; rfl)) ?_; (with_reducible refine (state_SendDone.calls x3_1 true _ A15.out).mono ?_); rintro e w' ⟨rfl, ⟨nd, rfl⟩⟩; refine ⟨_, rfl, ?_⟩) | (go_at_call 33; (with_reducible refine (state_RecvDone.calls x4_1 true _ A18.out).mono ?_); rintro e w' ⟨rfl, ⟨nd, rfl⟩⟩))
                                    go_roundg kj12
                                    case measure => have := HK1.out; have := HJ8.out; have := HJ10.out; have := HJ12.out; omega
                                    case rel => exact ⟨(t123), (t126), (x5_10), (x6_12), (wrap64 (x7_1 + 1)), (by first | rfl | (simp; done) | (simp [*]; done)), (by first | rfl | (simp; done) | (simp [*]; done)), (by first | rfl | (simp; done) | (simp [*]; done)), (by first | rfl | (simp; done) | (simp [*]; done)), (by first | rfl | (simp; done) | (simp [*]; done)), H', ⟨by have := HK1.out; have := HJ8.out; have := HJ10.out; have := HJ12.out; omega⟩, ⟨by repeat (first | (with_reducible first | exact HB.out | apply below_alloc | apply pw_below_drewN | apply below_drew1) | exact HB.out)⟩⟩
                                  · rw [if_neg c22] at H
                                    have c22b0 : (t126 == x4_1) = false := beq_eq_false_iff_ne.mpr c22
                                    have c22b1 : (t126 != x4_1) = true := bne_iff_ne.mpr c22
                                    obtain rfl := Option.some.inj H
                                    go_wp2_with (first | ((with_reducible refine gate_callee (f := 32) rfl ?_); refine goesL_ (some 57) rfl rfl Try.func32 (by kernel_rfl) rfl #[.int .u8 x3_1] rfl (by (try simp only [List.map_toArray, List.map_cons, List.map_nil]); first | done | rfl | (simp only [List.length_drop, List.length_take]; rfl)) ?_; (with_reducible refine (state_SendDone.calls x3_1 true _ A15.out).mono ?_); rintro e w' ⟨rfl, ⟨nd, rfl⟩⟩; refine ⟨_, rfl, ?_⟩) | (go_at_call 33; (with_reducible refine (state_RecvDone.calls x4_1 true _ A18.out).mono ?_); rintro e w' ⟨rfl, ⟨nd, rfl⟩⟩))
                                    go_ret
                                    exact ⟨by first | rfl | (simp [errW_none, errW_some] <;> rfl) | (simp [*, errW_none, errW_some] <;> rfl), by repeat (first | (with_reducible first | exact HB.out | apply below_alloc | apply pw_below_drewN | apply below_drew1) | exact HB.out)⟩
                                · rw [if_neg c21] at H
                                  have c21b0 : (t123 == x3_1) = false := beq_eq_false_iff_ne.mpr c21
                                  have c21b1 : (t123 != x3_1) = true := bne_iff_ne.mpr c21
                                  obtain rfl := Option.some.inj H
                                  go_wp2_with (first | ((with_reducible refine gate_callee (f := 32) rfl ?_); refine goesL_ (some 57) rfl rfl Try.func32 (by kernel_rfl) rfl #[.int .u8 x3_1] rfl (by (try simp only [List.map_toArray, List.map_cons, List.map_nil]); first | done | rfl | (simp only [List.length_drop, List.length_take]; rfl)) ?_; (with_reducible refine (state_SendDone.calls x3_1 true _ A15.out).mono ?_); rintro e w' ⟨rfl, ⟨nd, rfl⟩⟩; refine ⟨_, rfl, ?_⟩) | (go_at_call 33; (with_reducible refine (state_RecvDone.calls x4_1 true _ A18.out).mono ?_); rintro e w' ⟨rfl, ⟨nd, rfl⟩⟩))
                                  go_ret
                                  exact ⟨by first | rfl | (simp [errW_none, errW_some] <;> rfl) | (simp [*, errW_none, errW_some] <;> rfl), by repeat (first | (with_reducible first | exact HB.out | apply below_alloc | apply pw_below_drewN | apply below_drew1) | exact HB.out)⟩
                            · replace c19 := Bool.eq_false_iff.mpr c19
                              subst c19
                              have H1 : (if t123 = x3_1 then (if t127 = true then (sumpterlaw25_StateEnds.l0 kj12 l0 t123 t126 x5_10 x6_12 (wrap64 (x7_1 + 1))) else (if t126 = x4_1 then (sumpterlaw25_StateEnds.l0 kj12 l0 t123 t126 x5_10 x6_12 (wrap64 (x7_1 + 1))) else (some false))) else (some false)) = some r := by rw [if_neg (show ¬ (false = true) by decide)] at H; exact H
                              clear H
                              have H := H1
                              clear H1
                              by_cases c23 : t123 = x3_1
                              · rw [if_pos c23] at H
                                have c23b0 : (t123 == x3_1) = true := beq_iff_eq.mpr c23
                                have c23b1 : (t123 != x3_1) = false := bne_eq_false_iff_eq.mpr c23
                                clear c23
                                by_cases c24 : t127 = true
                                · subst c24
                                  have H1 : (sumpterlaw25_StateEnds.l0 kj12 l0 t123 t126 x5_10 x6_12 (wrap64 (x7_1 + 1))) = some r := by rw [if_pos rfl] at H; exact H
                                  clear H
                                  have H := H1
                                  clear H1
                                  have H' := Aside0.mk H
                                  clear H
                                  go_wp2_with (first | ((with_reducible refine gate_callee (f := 32) rfl ?_); refine goesL_ (some 57) rfl rfl Try.func32 (by kernel_rfl) rfl #[.int .u8 x3_1] rfl (by (try simp only [List.map_toArray, List.map_cons, List.map_nil]); first | done | rfl | (simp only [List.length_drop, List.length_take]; rfl)) ?_; (with_reducible refine (state_SendDone.calls x3_1 true _ A15.out).mono ?_); rintro e w' ⟨rfl, ⟨nd, rfl⟩⟩; refine ⟨_, rfl, ?_⟩) | (go_at_call 33; (with_reducible refine (state_RecvDone.calls x4_1 false _ A18.out).mono ?_); rintro e w' ⟨rfl, ⟨nd, rfl⟩⟩))
                                  go_roundg kj12
                                  case measure => have := HK1.out; have := HJ8.out; have := HJ10.out; have := HJ12.out; omega
                                  case rel => exact ⟨(t123), (t126), (x5_10), (x6_12), (wrap64 (x7_1 + 1)), (by first | rfl | (simp; done) | (simp [*]; done)), (by first | rfl | (simp; done) | (simp [*]; done)), (by first | rfl | (simp; done) | (simp [*]; done)), (by first | rfl | (simp; done) | (simp [*]; done)), (by first | rfl | (simp; done) | (simp [*]; done)), H', ⟨by have := HK1.out; have := HJ8.out; have := HJ10.out; have := HJ12.out; omega⟩, ⟨by repeat (first | (with_reducible first | exact HB.out | apply below_alloc | apply pw_below_drewN | apply below_drew1) | exact HB.out)⟩⟩
                                · replace c24 := Bool.eq_false_iff.mpr c24
                                  subst c24
                                  have H1 : (if t126 = x4_1 then (sumpterlaw25_StateEnds.l0 kj12 l0 t123 t126 x5_10 x6_12 (wrap64 (x7_1 + 1))) else (some false)) = some r := by rw [if_neg (show ¬ (false = true) by decide)] at H; exact H
                                  clear H
                                  have H := H1
                                  clear H1
                                  by_cases c25 : t126 = x4_1
                                  · rw [if_pos c25] at H
                                    have c25b0 : (t126 == x4_1) = true := beq_iff_eq.mpr c25
                                    have c25b1 : (t126 != x4_1) = false := bne_eq_false_iff_eq.mpr c25
                                    clear c25
                                    have H' := Aside0.mk H
                                    clear H
                                    go_wp2_with (first | ((with_reducible refine gate_callee (f := 32) rfl ?_); refine goesL_ (some 57) rfl rfl Try.func32 (by kernel_rfl) rfl #[.int .u8 x3_1] rfl (by (try simp only [List.map_toArray, List.map_cons, List.map_nil]); first | done | rfl | (simp only [List.length_drop, List.length_take]; rfl)) ?_; (with_reducible refine (state_SendDone.calls x3_1 true _ A15.out).mono ?_); rintro e w' ⟨rfl, ⟨nd, rfl⟩⟩; refine ⟨_, rfl, ?_⟩) | (go_at_call 33; (with_reducible refine (state_RecvDone.calls x4_1 false _ A18.out).mono ?_); rintro e w' ⟨rfl, ⟨nd, rfl⟩⟩))
                                    go_roundg kj12
                                    case measure => have := HK1.out; have := HJ8.out; have := HJ10.out; have := HJ12.out; omega
                                    case rel => exact ⟨(t123), (t126), (x5_10), (x6_12), (wrap64 (x7_1 + 1)), (by first | rfl | (simp; done) | (simp [*]; done)), (by first | rfl | (simp; done) | (simp [*]; done)), (by first | rfl | (simp; done) | (simp [*]; done)), (by first | rfl | (simp; done) | (simp [*]; done)), (by first | rfl | (simp; done) | (simp [*]; done)), H', ⟨by have := HK1.out; have := HJ8.out; have := HJ10.out; have := HJ12.out; omega⟩, ⟨by repeat (first | (with_reducible first | exact HB.out | apply below_alloc | apply pw_below_drewN | apply below_drew1) | exact HB.out)⟩⟩
                                  · rw [if_neg c25] at H
                                    have c25b0 : (t126 == x4_1) = false := beq_eq_false_iff_ne.mpr c25
                                    have c25b1 : (t126 != x4_1) = true := bne_iff_ne.mpr c25
                                    obtain rfl := Option.some.inj H
                                    go_wp2_with (first | ((with_reducible refine gate_callee (f := 32) rfl ?_); refine goesL_ (some 57) rfl rfl Try.func32 (by kernel_rfl) rfl #[.int .u8 x3_1] rfl (by (try simp only [List.map_toArray, List.map_cons, List.map_nil]); first | done | rfl | (simp only [List.length_drop, List.length_take]; rfl)) ?_; (with_reducible refine (state_SendDone.calls x3_1 true _ A15.out).mono ?_); rintro e w' ⟨rfl, ⟨nd, rfl⟩⟩; refine ⟨_, rfl, ?_⟩) | (go_at_call 33; (with_reducible refine (state_RecvDone.calls x4_1 false _ A18.out).mono ?_); rintro e w' ⟨rfl, ⟨nd, rfl⟩⟩))
                                    go_ret
                                    exact ⟨by first | rfl | (simp [errW_none, errW_some] <;> rfl) | (simp [*, errW_none, errW_some] <;> rfl), by repeat (first | (with_reducible first | exact HB.out | apply below_alloc | apply pw_below_drewN | apply below_drew1) | exact HB.out)⟩
                              · rw [if_neg c23] at H
                                have c23b0 : (t123 == x3_1) = false := beq_eq_false_iff_ne.mpr c23
                                have c23b1 : (t123 != x3_1) = true := bne_iff_ne.mpr c23
                                obtain rfl := Option.some.inj H
                                go_wp2_with (first | ((with_reducible refine gate_callee (f := 32) rfl ?_); refine goesL_ (some 57) rfl rfl Try.func32 (by kernel_rfl) rfl #[.int .u8 x3_1] rfl (by (try simp only [List.map_toArray, List.map_cons, List.map_nil]); first | done | rfl | (simp only [List.length_drop, List.length_take]; rfl)) ?_; (with_reducible refine (state_SendDone.calls x3_1 true _ A15.out).mono ?_); rintro e w' ⟨rfl, ⟨nd, rfl⟩⟩; refine ⟨_, rfl, ?_⟩) | (go_at_call 33; (with_reducible refine (state_RecvDone.calls x4_1 false _ A18.out).mono ?_); rintro e w' ⟨rfl, ⟨nd, rfl⟩⟩))
                                go_ret
                                exact ⟨by first | rfl | (simp [errW_none, errW_some] <;> rfl) | (simp [*, errW_none, errW_some] <;> rfl), by repeat (first | (with_reducible first | exact HB.out | apply below_alloc | apply pw_below_drewN | apply below_drew1) | exact HB.out)⟩
                        · replace c16 := Bool.eq_false_iff.mpr c16
                          subst c16
                          have H1 : ((state_RecvDone.f x4_1).bind fun t131 => (if t131 = true then (if t127 = true then (some false) else (if t124 = true then (if t126 = x4_1 then (sumpterlaw25_StateEnds.l0 kj12 l0 t123 t126 x5_10 x6_12 (wrap64 (x7_1 + 1))) else (some false)) else (if t123 = x3_1 then (if t126 = x4_1 then (sumpterlaw25_StateEnds.l0 kj12 l0 t123 t126 x5_10 x6_12 (wrap64 (x7_1 + 1))) else (some false)) else (some false)))) else (if t124 = true then (if t127 = true then (sumpterlaw25_StateEnds.l0 kj12 l0 t123 t126 x5_10 x6_12 (wrap64 (x7_1 + 1))) else (if t126 = x4_1 then (sumpterlaw25_StateEnds.l0 kj12 l0 t123 t126 x5_10 x6_12 (wrap64 (x7_1 + 1))) else (some false))) else (if t123 = x3_1 then (if t127 = true then (sumpterlaw25_StateEnds.l0 kj12 l0 t123 t126 x5_10 x6_12 (wrap64 (x7_1 + 1))) else (if t126 = x4_1 then (sumpterlaw25_StateEnds.l0 kj12 l0 t123 t126 x5_10 x6_12 (wrap64 (x7_1 + 1))) else (some false))) else (some false))))) = some r := by rw [if_neg (show ¬ (false = true) by decide)] at H; exact H
                          clear H
                          have H := H1
                          clear H1
                          replace H := Option.bind_eq_some_iff.mp H
                          obtain ⟨t131, A260, H⟩ := H
                          replace H : (if t131 = true then (if t127 = true then (some false) else (if t124 = true then (if t126 = x4_1 then (sumpterlaw25_StateEnds.l0 kj12 l0 t123 t126 x5_10 x6_12 (wrap64 (x7_1 + 1))) else (some false)) else (if t123 = x3_1 then (if t126 = x4_1 then (sumpterlaw25_StateEnds.l0 kj12 l0 t123 t126 x5_10 x6_12 (wrap64 (x7_1 + 1))) else (some false)) else (some false)))) else (if t124 = true then (if t127 = true then (sumpterlaw25_StateEnds.l0 kj12 l0 t123 t126 x5_10 x6_12 (wrap64 (x7_1 + 1))) else (if t126 = x4_1 then (sumpterlaw25_StateEnds.l0 kj12 l0 t123 t126 x5_10 x6_12 (wrap64 (x7_1 + 1))) else (some false))) else (if t123 = x3_1 then (if t127 = true then (sumpterlaw25_StateEnds.l0 kj12 l0 t123 t126 x5_10 x6_12 (wrap64 (x7_1 + 1))) else (if t126 = x4_1 then (sumpterlaw25_StateEnds.l0 kj12 l0 t123 t126 x5_10 x6_12 (wrap64 (x7_1 + 1))) else (some false))) else (some false)))) = some r := H
                          have A26 := Aside0.mk A260
                          clear A260
                          by_cases c27 : t131 = true
                          · subst c27
                            have H1 : (if t127 = true then (some false) else (if t124 = true then (if t126 = x4_1 then (sumpterlaw25_StateEnds.l0 kj12 l0 t123 t126 x5_10 x6_12 (wrap64 (x7_1 + 1))) else (some false)) else (if t123 = x3_1 then (if t126 = x4_1 then (sumpterlaw25_StateEnds.l0 kj12 l0 t123 t126 x5_10 x6_12 (wrap64 (x7_1 + 1))) else (some false)) else (some false)))) = some r := by rw [if_pos rfl] at H; exact H
                            clear H
                            have H := H1
                            clear H1
                            by_cases c28 : t127 = true
                            · subst c28
                              have H1 : (some false) = some r := by rw [if_pos rfl] at H; exact H
                              clear H
                              have H := H1
                              clear H1
                              obtain rfl := Option.some.inj H
                              go_wp2_with (first | ((with_reducible refine gate_callee (f := 32) rfl ?_); refine goesL_ (some 57) rfl rfl Try.func32 (by kernel_rfl) rfl #[.int .u8 x3_1] rfl (by (try simp only [List.map_toArray, List.map_cons, List.map_nil]); first | done | rfl | (simp only [List.length_drop, List.length_take]; rfl)) ?_; (with_reducible refine (state_SendDone.calls x3_1 false _ A15.out).mono ?_); rintro e w' ⟨rfl, ⟨nd, rfl⟩⟩; refine ⟨_, rfl, ?_⟩) | (go_at_call 33; (with_reducible refine (state_RecvDone.calls x4_1 true _ A26.out).mono ?_); rintro e w' ⟨rfl, ⟨nd, rfl⟩⟩))
                              go_ret
                              exact ⟨by first | rfl | (simp [errW_none, errW_some] <;> rfl) | (simp [*, errW_none, errW_some] <;> rfl), by repeat (first | (with_reducible first | exact HB.out | apply below_alloc | apply pw_below_drewN | apply below_drew1) | exact HB.out)⟩
                            · replace c28 := Bool.eq_false_iff.mpr c28
                              subst c28
                              have H1 : (if t124 = true then (if t126 = x4_1 then (sumpterlaw25_StateEnds.l0 kj12 l0 t123 t126 x5_10 x6_12 (wrap64 (x7_1 + 1))) else (some false)) else (if t123 = x3_1 then (if t126 = x4_1 then (sumpterlaw25_StateEnds.l0 kj12 l0 t123 t126 x5_10 x6_12 (wrap64 (x7_1 + 1))) else (some false)) else (some false))) = some r := by rw [if_neg (show ¬ (false = true) by decide)] at H; exact H
                              clear H
                              have H := H1
                              clear H1
                              by_cases c29 : t124 = true
                              · subst c29
                                have H1 : (if t126 = x4_1 then (sumpterlaw25_StateEnds.l0 kj12 l0 t123 t126 x5_10 x6_12 (wrap64 (x7_1 + 1))) else (some false)) = some r := by rw [if_pos rfl] at H; exact H
                                clear H
                                have H := H1
                                clear H1
                                by_cases c30 : t126 = x4_1
                                · rw [if_pos c30] at H
                                  have c30b0 : (t126 == x4_1) = true := beq_iff_eq.mpr c30
                                  have c30b1 : (t126 != x4_1) = false := bne_eq_false_iff_eq.mpr c30
                                  clear c30
                                  have H' := Aside0.mk H
                                  clear H
                                  go_wp2_with (first | ((with_reducible refine gate_callee (f := 32) rfl ?_); refine goesL_ (some 57) rfl rfl Try.func32 (by kernel_rfl) rfl #[.int .u8 x3_1] rfl (by (try simp only [List.map_toArray, List.map_cons, List.map_nil]); first | done | rfl | (simp only [List.length_drop, List.length_take]; rfl)) ?_; (with_reducible refine (state_SendDone.calls x3_1 false _ A15.out).mono ?_); rintro e w' ⟨rfl, ⟨nd, rfl⟩⟩; refine ⟨_, rfl, ?_⟩) | (go_at_call 33; (with_reducible refine (state_RecvDone.calls x4_1 true _ A26.out).mono ?_); rintro e w' ⟨rfl, ⟨nd, rfl⟩⟩))
                                  go_roundg kj12
                                  case measure => have := HK1.out; have := HJ8.out; have := HJ10.out; have := HJ12.out; omega
                                  case rel => exact ⟨(t123), (t126), (x5_10), (x6_12), (wrap64 (x7_1 + 1)), (by first | rfl | (simp; done) | (simp [*]; done)), (by first | rfl | (simp; done) | (simp [*]; done)), (by first | rfl | (simp; done) | (simp [*]; done)), (by first | rfl | (simp; done) | (simp [*]; done)), (by first | rfl | (simp; done) | (simp [*]; done)), H', ⟨by have := HK1.out; have := HJ8.out; have := HJ10.out; have := HJ12.out; omega⟩, ⟨by repeat (first | (with_reducible first | exact HB.out | apply below_alloc | apply pw_below_drewN | apply below_drew1) | exact HB.out)⟩⟩
                                · rw [if_neg c30] at H
                                  have c30b0 : (t126 == x4_1) = false := beq_eq_false_iff_ne.mpr c30
                                  have c30b1 : (t126 != x4_1) = true := bne_iff_ne.mpr c30
                                  obtain rfl := Option.some.inj H
                                  go_wp2_with (first | ((with_reducible refine gate_callee (f := 32) rfl ?_); refine goesL_ (some 57) rfl rfl Try.func32 (by kernel_rfl) rfl #[.int .u8 x3_1] rfl (by (try simp only [List.map_toArray, List.map_cons, List.map_nil]); first | done | rfl | (simp only [List.length_drop, List.length_take]; rfl)) ?_; (with_reducible refine (state_SendDone.calls x3_1 false _ A15.out).mono ?_); rintro e w' ⟨rfl, ⟨nd, rfl⟩⟩; refine ⟨_, rfl, ?_⟩) | (go_at_call 33; (with_reducible refine (state_RecvDone.calls x4_1 true _ A26.out).mono ?_); rintro e w' ⟨rfl, ⟨nd, rfl⟩⟩))
                                  go_ret
                                  exact ⟨by first | rfl | (simp [errW_none, errW_some] <;> rfl) | (simp [*, errW_none, errW_some] <;> rfl), by repeat (first | (with_reducible first | exact HB.out | apply below_alloc | apply pw_below_drewN | apply below_drew1) | exact HB.out)⟩
                              · replace c29 := Bool.eq_false_iff.mpr c29
                                subst c29
                                have H1 : (if t123 = x3_1 then (if t126 = x4_1 then (sumpterlaw25_StateEnds.l0 kj12 l0 t123 t126 x5_10 x6_12 (wrap64 (x7_1 + 1))) else (some false)) else (some false)) = some r := by rw [if_neg (show ¬ (false = true) by decide)] at H; exact H
                                clear H
                                have H := H1
                                clear H1
                                by_cases c31 : t123 = x3_1
                                · rw [if_pos c31] at H
                                  have c31b0 : (t123 == x3_1) = true := beq_iff_eq.mpr c31
                                  have c31b1 : (t123 != x3_1) = false := bne_eq_false_iff_eq.mpr c31
                                  clear c31
                                  by_cases c32 : t126 = x4_1
                                  · rw [if_pos c32] at H
                                    have c32b0 : (t126 == x4_1) = true := beq_iff_eq.mpr c32
                                    have c32b1 : (t126 != x4_1) = false := bne_eq_false_iff_eq.mpr c32
                                    clear c32
                                    have H' := Aside0.mk H
                                    clear H
                                    go_wp2_with (first | ((with_reducible refine gate_callee (f := 32) rfl ?_); refine goesL_ (some 57) rfl rfl Try.func32 (by kernel_rfl) rfl #[.int .u8 x3_1] rfl (by (try simp only [List.map_toArray, List.map_cons, List.map_nil]); first | done | rfl | (simp only [List.length_drop, List.length_take]; rfl)) ?_; (with_reducible refine (state_SendDone.calls x3_1 false _ A15.out).mono ?_); rintro e w' ⟨rfl, ⟨nd, rfl⟩⟩; refine ⟨_, rfl, ?_⟩) | (go_at_call 33; (with_reducible refine (state_RecvDone.calls x4_1 true _ A26.out).mono ?_); rintro e w' ⟨rfl, ⟨nd, rfl⟩⟩))
                                    go_roundg kj12
                                    case measure => have := HK1.out; have := HJ8.out; have := HJ10.out; have := HJ12.out; omega
                                    case rel => exact ⟨(t123), (t126), (x5_10), (x6_12), (wrap64 (x7_1 + 1)), (by first | rfl | (simp; done) | (simp [*]; done)), (by first | rfl | (simp; done) | (simp [*]; done)), (by first | rfl | (simp; done) | (simp [*]; done)), (by first | rfl | (simp; done) | (simp [*]; done)), (by first | rfl | (simp; done) | (simp [*]; done)), H', ⟨by have := HK1.out; have := HJ8.out; have := HJ10.out; have := HJ12.out; omega⟩, ⟨by repeat (first | (with_reducible first | exact HB.out | apply below_alloc | apply pw_below_drewN | apply below_drew1) | exact HB.out)⟩⟩
                                  · rw [if_neg c32] at H
                                    have c32b0 : (t126 == x4_1) = false := beq_eq_false_iff_ne.mpr c32
                                    have c32b1 : (t126 != x4_1) = true := bne_iff_ne.mpr c32
                                    obtain rfl := Option.some.inj H
                                    go_wp2_with (first | ((with_reducible refine gate_callee (f := 32) rfl ?_); refine goesL_ (some 57) rfl rfl Try.func32 (by kernel_rfl) rfl #[.int .u8 x3_1] rfl (by (try simp only [List.map_toArray, List.map_cons, List.map_nil]); first | done | rfl | (simp only [List.length_drop, List.length_take]; rfl)) ?_; (with_reducible refine (state_SendDone.calls x3_1 false _ A15.out).mono ?_); rintro e w' ⟨rfl, ⟨nd, rfl⟩⟩; refine ⟨_, rfl, ?_⟩) | (go_at_call 33; (with_reducible refine (state_RecvDone.calls x4_1 true _ A26.out).mono ?_); rintro e w' ⟨rfl, ⟨nd, rfl⟩⟩))
                                    go_ret
                                    exact ⟨by first | rfl | (simp [errW_none, errW_some] <;> rfl) | (simp [*, errW_none, errW_some] <;> rfl), by repeat (first | (with_reducible first | exact HB.out | apply below_alloc | apply pw_below_drewN | apply below_drew1) | exact HB.out)⟩
                                · rw [if_neg c31] at H
                                  have c31b0 : (t123 == x3_1) = false := beq_eq_false_iff_ne.mpr c31
                                  have c31b1 : (t123 != x3_1) = true := bne_iff_ne.mpr c31
                                  obtain rfl := Option.some.inj H
                                  go_wp2_with (first | ((with_reducible refine gate_callee (f := 32) rfl ?_); refine goesL_ (some 57) rfl rfl Try.func32 (by kernel_rfl) rfl #[.int .u8 x3_1] rfl (by (try simp only [List.map_toArray, List.map_cons, List.map_nil]); first | done | rfl | (simp only [List.length_drop, List.length_take]; rfl)) ?_; (with_reducible refine (state_SendDone.calls x3_1 false _ A15.out).mono ?_); rintro e w' ⟨rfl, ⟨nd, rfl⟩⟩; refine ⟨_, rfl, ?_⟩) | (go_at_call 33; (with_reducible refine (state_RecvDone.calls x4_1 true _ A26.out).mono ?_); rintro e w' ⟨rfl, ⟨nd, rfl⟩⟩))
                                  go_ret
                                  exact ⟨by first | rfl | (simp [errW_none, errW_some] <;> rfl) | (simp [*, errW_none, errW_some] <;> rfl), by repeat (first | (with_reducible first | exact HB.out | apply below_alloc | apply pw_below_drewN | apply below_drew1) | exact HB.out)⟩
                          · replace c27 := Bool.eq_false_iff.mpr c27
                            subst c27
                            have H1 : (if t124 = true then (if t127 = true then (sumpterlaw25_StateEnds.l0 kj12 l0 t123 t126 x5_10 x6_12 (wrap64 (x7_1 + 1))) else (if t126 = x4_1 then (sumpterlaw25_StateEnds.l0 kj12 l0 t123 t126 x5_10 x6_12 (wrap64 (x7_1 + 1))) else (some false))) else (if t123 = x3_1 then (if t127 = true then (sumpterlaw25_StateEnds.l0 kj12 l0 t123 t126 x5_10 x6_12 (wrap64 (x7_1 + 1))) else (if t126 = x4_1 then (sumpterlaw25_StateEnds.l0 kj12 l0 t123 t126 x5_10 x6_12 (wrap64 (x7_1 + 1))) else (some false))) else (some false))) = some r := by rw [if_neg (show ¬ (false = true) by decide)] at H; exact H
                            clear H
                            have H := H1
                            clear H1
                            by_cases c33 : t124 = true
                            · subst c33
                              have H1 : (if t127 = true then (sumpterlaw25_StateEnds.l0 kj12 l0 t123 t126 x5_10 x6_12 (wrap64 (x7_1 + 1))) else (if t126 = x4_1 then (sumpterlaw25_StateEnds.l0 kj12 l0 t123 t126 x5_10 x6_12 (wrap64 (x7_1 + 1))) else (some false))) = some r := by rw [if_pos rfl] at H; exact H
                              clear H
                              have H := H1
                              clear H1
                              by_cases c34 : t127 = true
                              · subst c34
                                have H1 : (sumpterlaw25_StateEnds.l0 kj12 l0 t123 t126 x5_10 x6_12 (wrap64 (x7_1 + 1))) = some r := by rw [if_pos rfl] at H; exact H
                                clear H
                                have H := H1
                                clear H1
                                have H' := Aside0.mk H
                                clear H
                                go_wp2_with (first | ((with_reducible refine gate_callee (f := 32) rfl ?_); refine goesL_ (some 57) rfl rfl Try.func32 (by kernel_rfl) rfl #[.int .u8 x3_1] rfl (by (try simp only [List.map_toArray, List.map_cons, List.map_nil]); first | done | rfl | (simp only [List.length_drop, List.length_take]; rfl)) ?_; (with_reducible refine (state_SendDone.calls x3_1 false _ A15.out).mono ?_); rintro e w' ⟨rfl, ⟨nd, rfl⟩⟩; refine ⟨_, rfl, ?_⟩) | (go_at_call 33; (with_reducible refine (state_RecvDone.calls x4_1 false _ A26.out).mono ?_); rintro e w' ⟨rfl, ⟨nd, rfl⟩⟩))
                                go_roundg kj12
                                case measure => have := HK1.out; have := HJ8.out; have := HJ10.out; have := HJ12.out; omega
                                case rel => exact ⟨(t123), (t126), (x5_10), (x6_12), (wrap64 (x7_1 + 1)), (by first | rfl | (simp; done) | (simp [*]; done)), (by first | rfl | (simp; done) | (simp [*]; done)), (by first | rfl | (simp; done) | (simp [*]; done)), (by first | rfl | (simp; done) | (simp [*]; done)), (by first | rfl | (simp; done) | (simp [*]; done)), H', ⟨by have := HK1.out; have := HJ8.out; have := HJ10.out; have := HJ12.out; omega⟩, ⟨by repeat (first | (with_reducible first | exact HB.out | apply below_alloc | apply pw_below_drewN | apply below_drew1) | exact HB.out)⟩⟩
                              · replace c34 := Bool.eq_false_iff.mpr c34
                                subst c34
                                have H1 : (if t126 = x4_1 then (sumpterlaw25_StateEnds.l0 kj12 l0 t123 t126 x5_10 x6_12 (wrap64 (x7_1 + 1))) else (some false)) = some r := by rw [if_neg (show ¬ (false = true) by decide)] at H; exact H
                                clear H
                                have H := H1
                                clear H1
                                by_cases c35 : t126 = x4_1
                                · rw [if_pos c35] at H
                                  have c35b0 : (t126 == x4_1) = true := beq_iff_eq.mpr c35
                                  have c35b1 : (t126 != x4_1) = false := bne_eq_false_iff_eq.mpr c35
                                  clear c35
                                  have H' := Aside0.mk H
                                  clear H
                                  go_wp2_with (first | ((with_reducible refine gate_callee (f := 32) rfl ?_); refine goesL_ (some 57) rfl rfl Try.func32 (by kernel_rfl) rfl #[.int .u8 x3_1] rfl (by (try simp only [List.map_toArray, List.map_cons, List.map_nil]); first | done | rfl | (simp only [List.length_drop, List.length_take]; rfl)) ?_; (with_reducible refine (state_SendDone.calls x3_1 false _ A15.out).mono ?_); rintro e w' ⟨rfl, ⟨nd, rfl⟩⟩; refine ⟨_, rfl, ?_⟩) | (go_at_call 33; (with_reducible refine (state_RecvDone.calls x4_1 false _ A26.out).mono ?_); rintro e w' ⟨rfl, ⟨nd, rfl⟩⟩))
                                  go_roundg kj12
                                  case measure => have := HK1.out; have := HJ8.out; have := HJ10.out; have := HJ12.out; omega
                                  case rel => exact ⟨(t123), (t126), (x5_10), (x6_12), (wrap64 (x7_1 + 1)), (by first | rfl | (simp; done) | (simp [*]; done)), (by first | rfl | (simp; done) | (simp [*]; done)), (by first | rfl | (simp; done) | (simp [*]; done)), (by first | rfl | (simp; done) | (simp [*]; done)), (by first | rfl | (simp; done) | (simp [*]; done)), H', ⟨by have := HK1.out; have := HJ8.out; have := HJ10.out; have := HJ12.out; omega⟩, ⟨by repeat (first | (with_reducible first | exact HB.out | apply below_alloc | apply pw_below_drewN | apply below_drew1) | exact HB.out)⟩⟩
                                · rw [if_neg c35] at H
                                  have c35b0 : (t126 == x4_1) = false := beq_eq_false_iff_ne.mpr c35
                                  have c35b1 : (t126 != x4_1) = true := bne_iff_ne.mpr c35
                                  obtain rfl := Option.some.inj H
                                  go_wp2_with (first | ((with_reducible refine gate_callee (f := 32) rfl ?_); refine goesL_ (some 57) rfl rfl Try.func32 (by kernel_rfl) rfl #[.int .u8 x3_1] rfl (by (try simp only [List.map_toArray, List.map_cons, List.map_nil]); first | done | rfl | (simp only [List.length_drop, List.length_take]; rfl)) ?_; (with_reducible refine (state_SendDone.calls x3_1 false _ A15.out).mono ?_); rintro e w' ⟨rfl, ⟨nd, rfl⟩⟩; refine ⟨_, rfl, ?_⟩) | (go_at_call 33; (with_reducible refine (state_RecvDone.calls x4_1 false _ A26.out).mono ?_); rintro e w' ⟨rfl, ⟨nd, rfl⟩⟩))
                                  go_ret
                                  exact ⟨by first | rfl | (simp [errW_none, errW_some] <;> rfl) | (simp [*, errW_none, errW_some] <;> rfl), by repeat (first | (with_reducible first | exact HB.out | apply below_alloc | apply pw_below_drewN | apply below_drew1) | exact HB.out)⟩
                            · replace c33 := Bool.eq_false_iff.mpr c33
                              subst c33
                              have H1 : (if t123 = x3_1 then (if t127 = true then (sumpterlaw25_StateEnds.l0 kj12 l0 t123 t126 x5_10 x6_12 (wrap64 (x7_1 + 1))) else (if t126 = x4_1 then (sumpterlaw25_StateEnds.l0 kj12 l0 t123 t126 x5_10 x6_12 (wrap64 (x7_1 + 1))) else (some false))) else (some false)) = some r := by rw [if_neg (show ¬ (false = true) by decide)] at H; exact H
                              clear H
                              have H := H1
                              clear H1
                              by_cases c36 : t123 = x3_1
                              · rw [if_pos c36] at H
                                have c36b0 : (t123 == x3_1) = true := beq_iff_eq.mpr c36
                                have c36b1 : (t123 != x3_1) = false := bne_eq_false_iff_eq.mpr c36
                                clear c36
                                by_cases c37 : t127 = true
                                · subst c37
                                  have H1 : (sumpterlaw25_StateEnds.l0 kj12 l0 t123 t126 x5_10 x6_12 (wrap64 (x7_1 + 1))) = some r := by rw [if_pos rfl] at H; exact H
                                  clear H
                                  have H := H1
                                  clear H1
                                  have H' := Aside0.mk H
                                  clear H
                                  go_wp2_with (first | ((with_reducible refine gate_callee (f := 32) rfl ?_); refine goesL_ (some 57) rfl rfl Try.func32 (by kernel_rfl) rfl #[.int .u8 x3_1] rfl (by (try simp only [List.map_toArray, List.map_cons, List.map_nil]); first | done | rfl | (simp only [List.length_drop, List.length_take]; rfl)) ?_; (with_reducible refine (state_SendDone.calls x3_1 false _ A15.out).mono ?_); rintro e w' ⟨rfl, ⟨nd, rfl⟩⟩; refine ⟨_, rfl, ?_⟩) | (go_at_call 33; (with_reducible refine (state_RecvDone.calls x4_1 false _ A26.out).mono ?_); rintro e w' ⟨rfl, ⟨nd, rfl⟩⟩))
                                  go_roundg kj12
                                  case measure => have := HK1.out; have := HJ8.out; have := HJ10.out; have := HJ12.out; omega
                                  case rel => exact ⟨(t123), (t126), (x5_10), (x6_12), (wrap64 (x7_1 + 1)), (by first | rfl | (simp; done) | (simp [*]; done)), (by first | rfl | (simp; done) | (simp [*]; done)), (by first | rfl | (simp; done) | (simp [*]; done)), (by first | rfl | (simp; done) | (simp [*]; done)), (by first | rfl | (simp; done) | (simp [*]; done)), H', ⟨by have := HK1.out; have := HJ8.out; have := HJ10.out; have := HJ12.out; omega⟩, ⟨by repeat (first | (with_reducible first | exact HB.out | apply below_alloc | apply pw_below_drewN | apply below_drew1) | exact HB.out)⟩⟩
                                · replace c37 := Bool.eq_false_iff.mpr c37
                                  subst c37
                                  have H1 : (if t126 = x4_1 then (sumpterlaw25_StateEnds.l0 kj12 l0 t123 t126 x5_10 x6_12 (wrap64 (x7_1 + 1))) else (some false)) = some r := by rw [if_neg (show ¬ (false = true) by decide)] at H; exact H
                                  clear H
                                  have H := H1
                                  clear H1
                                  by_cases c38 : t126 = x4_1
                                  · rw [if_pos c38] at H
                                    have c38b0 : (t126 == x4_1) = true := beq_iff_eq.mpr c38
                                    have c38b1 : (t126 != x4_1) = false := bne_eq_false_iff_eq.mpr c38
                                    clear c38
                                    have H' := Aside0.mk H
                                    clear H
                                    go_wp2_with (first | ((with_reducible refine gate_callee (f := 32) rfl ?_); refine goesL_ (some 57) rfl rfl Try.func32 (by kernel_rfl) rfl #[.int .u8 x3_1] rfl (by (try simp only [List.map_toArray, List.map_cons, List.map_nil]); first | done | rfl | (simp only [List.length_drop, List.length_take]; rfl)) ?_; (with_reducible refine (state_SendDone.calls x3_1 false _ A15.out).mono ?_); rintro e w' ⟨rfl, ⟨nd, rfl⟩⟩; refine ⟨_, rfl, ?_⟩) | (go_at_call 33; (with_reducible refine (state_RecvDone.calls x4_1 false _ A26.out).mono ?_); rintro e w' ⟨rfl, ⟨nd, rfl⟩⟩))
                                    go_roundg kj12
                                    case measure => have := HK1.out; have := HJ8.out; have := HJ10.out; have := HJ12.out; omega
                                    case rel => exact ⟨(t123), (t126), (x5_10), (x6_12), (wrap64 (x7_1 + 1)), (by first | rfl | (simp; done) | (simp [*]; done)), (by first | rfl | (simp; done) | (simp [*]; done)), (by first | rfl | (simp; done) | (simp [*]; done)), (by first | rfl | (simp; done) | (simp [*]; done)), (by first | rfl | (simp; done) | (simp [*]; done)), H', ⟨by have := HK1.out; have := HJ8.out; have := HJ10.out; have := HJ12.out; omega⟩, ⟨by repeat (first | (with_reducible first | exact HB.out | apply below_alloc | apply pw_below_drewN | apply below_drew1) | exact HB.out)⟩⟩
                                  · rw [if_neg c38] at H
                                    have c38b0 : (t126 == x4_1) = false := beq_eq_false_iff_ne.mpr c38
                                    have c38b1 : (t126 != x4_1) = true := bne_iff_ne.mpr c38
                                    obtain rfl := Option.some.inj H
                                    go_wp2_with (first | ((with_reducible refine gate_callee (f := 32) rfl ?_); refine goesL_ (some 57) rfl rfl Try.func32 (by kernel_rfl) rfl #[.int .u8 x3_1] rfl (by (try simp only [List.map_toArray, List.map_cons, List.map_nil]); first | done | rfl | (simp only [List.length_drop, List.length_take]; rfl)) ?_; (with_reducible refine (state_SendDone.calls x3_1 false _ A15.out).mono ?_); rintro e w' ⟨rfl, ⟨nd, rfl⟩⟩; refine ⟨_, rfl, ?_⟩) | (go_at_call 33; (with_reducible refine (state_RecvDone.calls x4_1 false _ A26.out).mono ?_); rintro e w' ⟨rfl, ⟨nd, rfl⟩⟩))
                                    go_ret
                                    exact ⟨by first | rfl | (simp [errW_none, errW_some] <;> rfl) | (simp [*, errW_none, errW_some] <;> rfl), by repeat (first | (with_reducible first | exact HB.out | apply below_alloc | apply pw_below_drewN | apply below_drew1) | exact HB.out)⟩
                              · rw [if_neg c36] at H
                                have c36b0 : (t123 == x3_1) = false := beq_eq_false_iff_ne.mpr c36
                                have c36b1 : (t123 != x3_1) = true := bne_iff_ne.mpr c36
                                obtain rfl := Option.some.inj H
                                go_wp2_with (first | ((with_reducible refine gate_callee (f := 32) rfl ?_); refine goesL_ (some 57) rfl rfl Try.func32 (by kernel_rfl) rfl #[.int .u8 x3_1] rfl (by (try simp only [List.map_toArray, List.map_cons, List.map_nil]); first | done | rfl | (simp only [List.length_drop, List.length_take]; rfl)) ?_; (with_reducible refine (state_SendDone.calls x3_1 false _ A15.out).mono ?_); rintro e w' ⟨rfl, ⟨nd, rfl⟩⟩; refine ⟨_, rfl, ?_⟩) | (go_at_call 33; (with_reducible refine (state_RecvDone.calls x4_1 false _ A26.out).mono ?_); rintro e w' ⟨rfl, ⟨nd, rfl⟩⟩))
                                go_ret
                                exact ⟨by first | rfl | (simp [errW_none, errW_some] <;> rfl) | (simp [*, errW_none, errW_some] <;> rfl), by repeat (first | (with_reducible first | exact HB.out | apply below_alloc | apply pw_below_drewN | apply below_drew1) | exact HB.out)⟩
          · rw [if_neg c6] at H
            exact absurd H (by simp)
        · rw [if_neg c5] at H
          have c5b0 : decide (x7_1 < (l0.length : Int)) = false := decide_eq_false c5
          clear c5
          by_cases c39 : x5_1 ≤ 3
          · rw [if_pos c39] at H
            have c39b0 : decide (x5_1 ≤ 3) = true := decide_eq_true c39
            clear c39
            by_cases c40 : x6_1 ≤ 3
            · rw [if_pos c40] at H
              have c40b0 : decide (x6_1 ≤ 3) = true := decide_eq_true c40
              clear c40
              replace H := Option.bind_eq_some_iff.mp H
              obtain ⟨t121, A410, H⟩ := H
              replace H : (some t121) = some r := H
              have A41 := Aside0.mk A410
              clear A410
              obtain rfl := Option.some.inj H
              go_wp2_with (first | (go_at_call 29; (with_reducible refine (sumpterlaw25_awake.calls k1  t121 _ A41.out).mono ?_); rintro e w42 ⟨rfl, hb⟩; have n0_ := Aside0.mk (below_step (by repeat (first | (with_reducible first | exact HB.out | apply below_alloc | apply pw_below_drewN | apply below_drew1) | exact HB.out)) hb); clear HB; have HB := n0_; clear n0_; (try clear hb); (try clear hb2); (try clear hk); (try clear hi)))
              go_ret
              exact ⟨by first | rfl | (simp [errW_none, errW_some] <;> rfl) | (simp [*, errW_none, errW_some] <;> rfl), by repeat (first | (with_reducible first | exact HB.out | apply below_alloc | apply pw_below_drewN | apply below_drew1) | exact HB.out)⟩
            · rw [if_neg c40] at H
              have c40b0 : decide (x6_1 ≤ 3) = false := decide_eq_false c40
              clear c40
              obtain rfl := Option.some.inj H
              go_wp2
              go_ret
              exact ⟨by first | rfl | (simp [errW_none, errW_some] <;> rfl) | (simp [*, errW_none, errW_some] <;> rfl), by repeat (first | (with_reducible first | exact HB.out | apply below_alloc | apply pw_below_drewN | apply below_drew1) | exact HB.out)⟩
          · rw [if_neg c39] at H
            have c39b0 : decide (x5_1 ≤ 3) = false := decide_eq_false c39
            clear c39
            obtain rfl := Option.some.inj H
            go_wp2
            go_ret
            exact ⟨by first | rfl | (simp [errW_none, errW_some] <;> rfl) | (simp [*, errW_none, errW_some] <;> rfl), by repeat (first | (with_reducible first | exact HB.out | apply below_alloc | apply pw_below_drewN | apply below_drew1) | exact HB.out)⟩

/-- THE ONE PURE STATEMENT of sumpterlaw25_StateEnds: yours. -/
def sumpterlaw25_StateEnds.Pure : Prop := ∀ (l0 : List Int), l0.length ≤ maxLen → l0.length * 1 ≤ 140737488351232 → (∀ x ∈ l0, (Lit.int .u8 x).wf = true) → ∃ k, sumpterlaw25_StateEnds.f k l0 = some true
theorem sumpterlaw25_StateEnds.walk (P : sumpterlaw25_StateEnds.Pure) (a0 : Option Addr) (len0 cap0 : Nat) (z0 : List Int) (w : World) (w0 : (a0 = none ∧ len0 = 0 ∧ cap0 = 0 ∧ z0 = []) ∨ ∃ x, a0 = some x ∧ len0 ≤ cap0 ∧ cap0 ≤ maxLen ∧ z0.length = cap0 ∧ (∀ i, i < z0.length → w.cell? (x.add i) = some (.int .u8 (z0.getD i 0))) ∧ ∀ n ∈ z0, (Lit.int .u8 n).wf = true) (y0 : len0 * 1 ≤ 140737488351232) :
    Calls Try.prog 11 #[.slice a0 len0 cap0] w fun e w' => e = .returned (.bool true) ∧ Below w.heap.size w w' := by
  obtain ⟨l0, rfl, hr0, hm0, hw0, hc0⟩ := ReadsInt.ofRowC w0
  obtain ⟨k, h⟩ := P l0 hm0 y0 hw0
  refine (sumpterlaw25_StateEnds.calls k _ _ l0 true w (Kd.C_of_reads (d := (0 : Int)) (h1 := fun _ => rfl) hr0) hc0 h).mono ?_
  rintro e w' ⟨rfl, hd⟩
  exact ⟨rfl, hd⟩

end Go.Proofs.Ytifidkeohcbdlaa.PStateEnds
