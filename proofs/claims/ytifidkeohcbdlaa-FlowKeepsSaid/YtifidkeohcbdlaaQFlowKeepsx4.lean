/- Contracts of the functions that a statement of the given program reaches, written by a program of this session over the kit's print. No condition. -/
import Derived.Test.YtifidkeohcbdlaaQFlowKeepsx0
import Derived.Test.YtifidkeohcbdlaaQFlowKeepsx2
import Derived.Test.YtifidkeohcbdlaaQFlowKeepsx3
namespace Go.Proofs.Ytifidkeohcbdlaa.QFlowKeeps
open Go.RowKit Go.Proofs.YtifidkeohcbdlaaW.PrintWords Go.Proofs.YtifidkeohcbdlaaW.PrintLast Go.Proofs.YtifidkeohcbdlaaW.PrintMore
attribute [local go_sem] max2_int min2_int max_two min_two max_three min_three max_four min_four   -- for this text's walks alone
set_option linter.unusedVariables false
set_option linter.unusedSimpArgs false

/-! ### sumpterlaw26_FlowKeeps: function 14 -/
mutual
def sumpterlaw26_FlowKeeps.j0 : Nat → Int → List (S27) → Bool → Option (Bool)
  | 0, _, _, _ => none
  | k + 1, x0, x1, x22 => if x22 = true then ((sumpterlaw26_awake.f k).bind fun t172 => (some t172)) else ((flow_NewGive.f (wrap64 (x0))).bind fun bt173 => ((flow_NewUse.f k (wrap64 (x0))).bind fun bt179 => (if bt173.2.2.2.2 = 0 then (sumpterlaw26_FlowKeeps.j1 k x1 bt173.2.2.2.2 bt179.2.2 (bt179.2.2 != 0) bt173.1 bt173.2.1 bt173.2.2.1 bt173.2.2.2.1 bt179.1 bt179.2.1) else (sumpterlaw26_FlowKeeps.j1 k x1 bt173.2.2.2.2 bt179.2.2 true bt173.1 bt173.2.1 bt173.2.2.1 bt173.2.2.2.1 bt179.1 bt179.2.1))))
def sumpterlaw26_FlowKeeps.j1 : Nat → List (S27) → Int → Int → Bool → Int → Int → Int → Int → Int → Int → Option (Bool)
  | 0, _, _, _, _, _, _, _, _, _, _ => none
  | k + 1, x1, x6, x8, x41, x179000, x179001, x179002, x179003, x183000, x183001 => if x41 = true then (none) else (sumpterlaw26_FlowKeeps.l0 k x1 x6 x8 0 x179000 x179001 x179002 x179003 x183000 x183001)
def sumpterlaw26_FlowKeeps.l0 : Nat → List (S27) → Int → Int → Int → Int → Int → Int → Int → Int → Int → Option (Bool)
  | 0, _, _, _, _, _, _, _, _, _, _ => none
  | k + 1, x1, x6, x8, x9, x179000, x179001, x179002, x179003, x183000, x183001 => if x9 < (x1.length : Int) then (if 0 ≤ x9 then (if (Int.tmod ((rd_T27 x1 x9).f0) 3) = 0 then ((flow_Left.f k x183000 x183001).bind fun t185 => ((flow_Spend.f k x183000 x183001 (mn (wrap64 ((rd_T27 x1 x9).f1)) t185)).bind fun bt186 => ((flow_Take.f k x179000 x179001 x179002 x179003 (mn (wrap64 ((rd_T27 x1 x9).f1)) t185)).bind fun bt189 => (sumpterlaw26_FlowKeeps.j3 k x1 bt186.2.2 bt189.2.2.2.2 x9 x179001 bt189.1 bt189.2.1 bt189.2.2.1 bt189.2.2.2.1 bt186.1 bt186.2.1)))) else (if (Int.tmod ((rd_T27 x1 x9).f0) 3) = 1 then ((flow_Consume.f k x179000 x179001 x179002 x179003 (mn (wrap64 ((rd_T27 x1 x9).f1)) (wrap64 (x179002 - x179003)))).bind fun bt194 => (sumpterlaw26_FlowKeeps.j3 k x1 x6 bt194.2.2.2.2 x9 x179001 bt194.1 bt194.2.1 bt194.2.2.1 bt194.2.2.2.1 x183000 x183001)) else ((flow_Update.f k x179000 x179001 x179002 x179003).bind fun bt199 => (if bt199.2.2.2.2 = true then ((flow_Raise.f x183000 x183001 bt199.2.1).bind fun bt205 => (sumpterlaw26_FlowKeeps.j3 k x1 x6 x8 x9 x179001 bt199.1 bt199.2.1 bt199.2.2.1 bt199.2.2.2.1 bt205.1 bt205.2.1)) else (sumpterlaw26_FlowKeeps.j3 k x1 x6 x8 x9 x179001 bt199.1 bt199.2.1 bt199.2.2.1 bt199.2.2.2.1 x183000 x183001))))) else (none)) else ((flow_Consume.f k x179000 x179001 x179002 x179003 (wrap64 (x179002 - x179003))).bind fun bt210 => ((flow_Update.f k bt210.1 bt210.2.1 bt210.2.2.1 bt210.2.2.2.1).bind fun bt215 => (if bt215.2.2.2.2 = true then ((flow_Raise.f x183000 x183001 bt215.2.1).bind fun bt221 => ((flow_Left.f k bt221.1 bt221.2.1).bind fun t224 => (if t224 > 0 then ((sumpterlaw26_awake.f k).bind fun t225 => (some t225)) else (if bt221.1 < bt210.2.1 then ((sumpterlaw26_awake.f k).bind fun t226 => (some t226)) else (none))))) else ((flow_Left.f k x183000 x183001).bind fun t227 => (if t227 > 0 then ((sumpterlaw26_awake.f k).bind fun t228 => (some t228)) else (if x183000 < bt210.2.1 then ((sumpterlaw26_awake.f k).bind fun t229 => (some t229)) else (none)))))))
def sumpterlaw26_FlowKeeps.j3 : Nat → List (S27) → Int → Int → Int → Int → Int → Int → Int → Int → Int → Int → Option (Bool)
  | 0, _, _, _, _, _, _, _, _, _, _, _ => none
  | k + 1, x1, x6, x8, x9, x10, x179000, x179001, x179002, x179003, x183000, x183001 => if x6 = 0 then (if x8 = 0 then (if x179001 < x10 then (none) else (if x183000 > x179001 then (none) else (if x183001 = x179002 then ((flow_CheckGive.f k x179000 x179001 x179002 x179003).bind fun t208 => (if t208 = true then ((flow_CheckUse.f k x183000 x183001).bind fun t209 => (if t209 = true then (sumpterlaw26_FlowKeeps.l0 k x1 x6 x8 (wrap64 (x9 + 1)) x179000 x179001 x179002 x179003 x183000 x183001) else (none))) else (none))) else (none)))) else (none)) else (none)
end
def sumpterlaw26_FlowKeeps.f (k : Nat) (a0 : Int) (l1 : List (S27)) : Option (Bool) := if (l1.length : Int) > 200 then (sumpterlaw26_FlowKeeps.j0 k a0 l1 true) else (sumpterlaw26_FlowKeeps.j0 k a0 l1 (a0 == 0))
theorem sumpterlaw26_FlowKeeps.mono_l : ∀ k, (∀ y0 y1 y2, LeO (sumpterlaw26_FlowKeeps.j0 k y0 y1 y2) (sumpterlaw26_FlowKeeps.j0 (k + 1) y0 y1 y2)) ∧ (∀ y0 y1 y2 y3 y4 y5 y6 y7 y8 y9, LeO (sumpterlaw26_FlowKeeps.j1 k y0 y1 y2 y3 y4 y5 y6 y7 y8 y9) (sumpterlaw26_FlowKeeps.j1 (k + 1) y0 y1 y2 y3 y4 y5 y6 y7 y8 y9)) ∧ (∀ y0 y1 y2 y3 y4 y5 y6 y7 y8 y9, LeO (sumpterlaw26_FlowKeeps.l0 k y0 y1 y2 y3 y4 y5 y6 y7 y8 y9) (sumpterlaw26_FlowKeeps.l0 (k + 1) y0 y1 y2 y3 y4 y5 y6 y7 y8 y9)) ∧ (∀ y0 y1 y2 y3 y4 y5 y6 y7 y8 y9 y10, LeO (sumpterlaw26_FlowKeeps.j3 k y0 y1 y2 y3 y4 y5 y6 y7 y8 y9 y10) (sumpterlaw26_FlowKeeps.j3 (k + 1) y0 y1 y2 y3 y4 y5 y6 y7 y8 y9 y10))
  | 0 => ⟨fun _ _ _ r h => by simp [sumpterlaw26_FlowKeeps.j0] at h, fun _ _ _ _ _ _ _ _ _ _ r h => by simp [sumpterlaw26_FlowKeeps.j1] at h, fun _ _ _ _ _ _ _ _ _ _ r h => by simp [sumpterlaw26_FlowKeeps.l0] at h, fun _ _ _ _ _ _ _ _ _ _ _ r h => by simp [sumpterlaw26_FlowKeeps.j3] at h⟩
  | k + 1 => by
    obtain ⟨ih0, ih1, ih2, ih3⟩ := sumpterlaw26_FlowKeeps.mono_l k
    refine ⟨?_, ?_, ?_, ?_⟩
    · intro y0 y1 y2
      unfold sumpterlaw26_FlowKeeps.j0
      repeat' first
      | (with_reducible exact ih0 _ _ _)
      | (with_reducible exact ih1 _ _ _ _ _ _ _ _ _ _)
      | (with_reducible exact ih2 _ _ _ _ _ _ _ _ _ _)
      | (with_reducible exact ih3 _ _ _ _ _ _ _ _ _ _ _)
      | (with_reducible exact flow_CheckGive.mono _ _ _ _ _)
      | (with_reducible exact flow_CheckUse.mono _ _ _)
      | (with_reducible exact flow_Consume.mono _ _ _ _ _ _)
      | (with_reducible exact flow_Left.mono _ _ _)
      | (with_reducible exact flow_NewUse.mono _ _)
      | (with_reducible exact flow_Spend.mono _ _ _ _)
      | (with_reducible exact flow_Take.mono _ _ _ _ _ _)
      | (with_reducible exact flow_Update.mono _ _ _ _ _)
      | (with_reducible exact sumpterlaw26_awake.mono _)
      | (with_reducible exact LeO.refl _)
      | (with_reducible exact LeO.none _)
      | (with_reducible refine LeO.ite ?_ ?_)
      | (with_reducible refine LeO.bind ?_ (fun _ => ?_))
      | exact ih0 _ _ _
      | exact ih1 _ _ _ _ _ _ _ _ _ _
      | exact ih2 _ _ _ _ _ _ _ _ _ _
      | exact ih3 _ _ _ _ _ _ _ _ _ _ _
      | exact flow_CheckGive.mono _ _ _ _ _
      | exact flow_CheckUse.mono _ _ _
      | exact flow_Consume.mono _ _ _ _ _ _
      | exact flow_Left.mono _ _ _
      | exact flow_NewUse.mono _ _
      | exact flow_Spend.mono _ _ _ _
      | exact flow_Take.mono _ _ _ _ _ _
      | exact flow_Update.mono _ _ _ _ _
      | exact sumpterlaw26_awake.mono _
      | exact LeO.none _
      | refine LeO.ite ?_ ?_
      | refine LeO.bind ?_ (fun _ => ?_)
    · intro y0 y1 y2 y3 y4 y5 y6 y7 y8 y9
      unfold sumpterlaw26_FlowKeeps.j1
      repeat' first
      | (with_reducible exact ih0 _ _ _)
      | (with_reducible exact ih1 _ _ _ _ _ _ _ _ _ _)
      | (with_reducible exact ih2 _ _ _ _ _ _ _ _ _ _)
      | (with_reducible exact ih3 _ _ _ _ _ _ _ _ _ _ _)
      | (with_reducible exact flow_CheckGive.mono _ _ _ _ _)
      | (with_reducible exact flow_CheckUse.mono _ _ _)
      | (with_reducible exact flow_Consume.mono _ _ _ _ _ _)
      | (with_reducible exact flow_Left.mono _ _ _)
      | (with_reducible exact flow_NewUse.mono _ _)
      | (with_reducible exact flow_Spend.mono _ _ _ _)
      | (with_reducible exact flow_Take.mono _ _ _ _ _ _)
      | (with_reducible exact flow_Update.mono _ _ _ _ _)
      | (with_reducible exact sumpterlaw26_awake.mono _)
      | (with_reducible exact LeO.refl _)
      | (with_reducible exact LeO.none _)
      | (with_reducible refine LeO.ite ?_ ?_)
      | (with_reducible refine LeO.bind ?_ (fun _ => ?_))
      | exact ih0 _ _ _
      | exact ih1 _ _ _ _ _ _ _ _ _ _
      | exact ih2 _ _ _ _ _ _ _ _ _ _
      | exact ih3 _ _ _ _ _ _ _ _ _ _ _
      | exact flow_CheckGive.mono _ _ _ _ _
      | exact flow_CheckUse.mono _ _ _
      | exact flow_Consume.mono _ _ _ _ _ _
      | exact flow_Left.mono _ _ _
      | exact flow_NewUse.mono _ _
      | exact flow_Spend.mono _ _ _ _
      | exact flow_Take.mono _ _ _ _ _ _
      | exact flow_Update.mono _ _ _ _ _
      | exact sumpterlaw26_awake.mono _
      | exact LeO.none _
      | refine LeO.ite ?_ ?_
      | refine LeO.bind ?_ (fun _ => ?_)
    · intro y0 y1 y2 y3 y4 y5 y6 y7 y8 y9
      unfold sumpterlaw26_FlowKeeps.l0
      repeat' first
      | (with_reducible exact ih0 _ _ _)
      | (with_reducible exact ih1 _ _ _ _ _ _ _ _ _ _)
      | (with_reducible exact ih2 _ _ _ _ _ _ _ _ _ _)
      | (with_reducible exact ih3 _ _ _ _ _ _ _ _ _ _ _)
      | (with_reducible exact flow_CheckGive.mono _ _ _ _ _)
      | (with_reducible exact flow_CheckUse.mono _ _ _)
      | (with_reducible exact flow_Consume.mono _ _ _ _ _ _)
      | (with_reducible exact flow_Left.mono _ _ _)
      | (with_reducible exact flow_NewUse.mono _ _)
      | (with_reducible exact flow_Spend.mono _ _ _ _)
      | (with_reducible exact flow_Take.mono _ _ _ _ _ _)
      | (with_reducible exact flow_Update.mono _ _ _ _ _)
      | (with_reducible exact sumpterlaw26_awake.mono _)
      | (with_reducible exact LeO.refl _)
      | (with_reducible exact LeO.none _)
      | (with_reducible refine LeO.ite ?_ ?_)
      | (with_reducible refine LeO.bind ?_ (fun _ => ?_))
      | exact ih0 _ _ _
      | exact ih1 _ _ _ _ _ _ _ _ _ _
      | exact ih2 _ _ _ _ _ _ _ _ _ _
      | exact ih3 _ _ _ _ _ _ _ _ _ _ _
      | exact flow_CheckGive.mono _ _ _ _ _
      | exact flow_CheckUse.mono _ _ _
      | exact flow_Consume.mono _ _ _ _ _ _
      | exact flow_Left.mono _ _ _
      | exact flow_NewUse.mono _ _
      | exact flow_Spend.mono _ _ _ _
      | exact flow_Take.mono _ _ _ _ _ _
      | exact flow_Update.mono _ _ _ _ _
      | exact sumpterlaw26_awake.mono _
      | exact LeO.none _
      | refine LeO.ite ?_ ?_
      | refine LeO.bind ?_ (fun _ => ?_)
    · intro y0 y1 y2 y3 y4 y5 y6 y7 y8 y9 y10
      unfold sumpterlaw26_FlowKeeps.j3
      repeat' first
      | (with_reducible exact ih0 _ _ _)
      | (with_reducible exact ih1 _ _ _ _ _ _ _ _ _ _)
      | (with_reducible exact ih2 _ _ _ _ _ _ _ _ _ _)
      | (with_reducible exact ih3 _ _ _ _ _ _ _ _ _ _ _)
      | (with_reducible exact flow_CheckGive.mono _ _ _ _ _)
      | (with_reducible exact flow_CheckUse.mono _ _ _)
      | (with_reducible exact flow_Consume.mono _ _ _ _ _ _)
      | (with_reducible exact flow_Left.mono _ _ _)
      | (with_reducible exact flow_NewUse.mono _ _)
      | (with_reducible exact flow_Spend.mono _ _ _ _)
      | (with_reducible exact flow_Take.mono _ _ _ _ _ _)
      | (with_reducible exact flow_Update.mono _ _ _ _ _)
      | (with_reducible exact sumpterlaw26_awake.mono _)
      | (with_reducible exact LeO.refl _)
      | (with_reducible exact LeO.none _)
      | (with_reducible refine LeO.ite ?_ ?_)
      | (with_reducible refine LeO.bind ?_ (fun _ => ?_))
      | exact ih0 _ _ _
      | exact ih1 _ _ _ _ _ _ _ _ _ _
      | exact ih2 _ _ _ _ _ _ _ _ _ _
      | exact ih3 _ _ _ _ _ _ _ _ _ _ _
      | exact flow_CheckGive.mono _ _ _ _ _
      | exact flow_CheckUse.mono _ _ _
      | exact flow_Consume.mono _ _ _ _ _ _
      | exact flow_Left.mono _ _ _
      | exact flow_NewUse.mono _ _
      | exact flow_Spend.mono _ _ _ _
      | exact flow_Take.mono _ _ _ _ _ _
      | exact flow_Update.mono _ _ _ _ _
      | exact sumpterlaw26_awake.mono _
      | exact LeO.none _
      | refine LeO.ite ?_ ?_
      | refine LeO.bind ?_ (fun _ => ?_)
theorem sumpterlaw26_FlowKeeps.mono : ∀ a0 a1 k, LeO (sumpterlaw26_FlowKeeps.f k a0 a1) (sumpterlaw26_FlowKeeps.f (k + 1) a0 a1) := by
  intro a0 a1 k
  obtain ⟨ih0, ih1, ih2, ih3⟩ := sumpterlaw26_FlowKeeps.mono_l k
  unfold sumpterlaw26_FlowKeeps.f
  repeat' first
      | (with_reducible exact ih0 _ _ _)
      | (with_reducible exact ih1 _ _ _ _ _ _ _ _ _ _)
      | (with_reducible exact ih2 _ _ _ _ _ _ _ _ _ _)
      | (with_reducible exact ih3 _ _ _ _ _ _ _ _ _ _ _)
      | (with_reducible exact flow_CheckGive.mono _ _ _ _ _)
      | (with_reducible exact flow_CheckUse.mono _ _ _)
      | (with_reducible exact flow_Consume.mono _ _ _ _ _ _)
      | (with_reducible exact flow_Left.mono _ _ _)
      | (with_reducible exact flow_NewUse.mono _ _)
      | (with_reducible exact flow_Spend.mono _ _ _ _)
      | (with_reducible exact flow_Take.mono _ _ _ _ _ _)
      | (with_reducible exact flow_Update.mono _ _ _ _ _)
      | (with_reducible exact sumpterlaw26_awake.mono _)
      | (with_reducible exact LeO.refl _)
      | (with_reducible exact LeO.none _)
      | (with_reducible refine LeO.ite ?_ ?_)
      | (with_reducible refine LeO.bind ?_ (fun _ => ?_))
      | exact ih0 _ _ _
      | exact ih1 _ _ _ _ _ _ _ _ _ _
      | exact ih2 _ _ _ _ _ _ _ _ _ _
      | exact ih3 _ _ _ _ _ _ _ _ _ _ _
      | exact flow_CheckGive.mono _ _ _ _ _
      | exact flow_CheckUse.mono _ _ _
      | exact flow_Consume.mono _ _ _ _ _ _
      | exact flow_Left.mono _ _ _
      | exact flow_NewUse.mono _ _
      | exact flow_Spend.mono _ _ _ _
      | exact flow_Take.mono _ _ _ _ _ _
      | exact flow_Update.mono _ _ _ _ _
      | exact sumpterlaw26_awake.mono _
      | exact LeO.none _
      | refine LeO.ite ?_ ?_
      | refine LeO.bind ?_ (fun _ => ?_)
set_option maxHeartbeats 8000000 in
set_option maxRecDepth 100000 in
theorem sumpterlaw26_FlowKeeps.calls (k : Nat) (a0 : Int) (A1 : Option Addr) (c1 : Nat) (l1 : List (S27)) (r : Bool) (w : World) (hr1 : Kd.C k27 w A1 l1.length l1) (hc1 : l1.length ≤ c1) (h : sumpterlaw26_FlowKeeps.f k a0 l1 = some r) :
    Calls Try.prog 14 #[.int .u16 a0, .slice A1 l1.length c1] w fun e w' => e = .returned (.bool r) ∧ Below w.heap.size w w' := by
  have hu74 := Try.underlying74
  have hu79 := Try.underlying79
  have HR1 := Aside0.mk hr1
  have HC1 := Aside0.mk hc1
  clear hr1 hc1
  have HB := Aside0.mk (Below.refl w.heap.size w)
  have H : (if (l1.length : Int) > 200 then (sumpterlaw26_FlowKeeps.j0 k a0 l1 true) else (sumpterlaw26_FlowKeeps.j0 k a0 l1 (a0 == 0))) = some r := h
  clear h
  have HC3 := Aside0.mk H
  clear H
  go_enter Try.func14, Try.ntmps14
  go_upto_region 1 with (fail)
  go_cut [22] (fun v22 wc => ∃ (kq : Nat) (x22_2 : Bool), v22 = .bool x22_2 ∧ Aside0 (sumpterlaw26_FlowKeeps.j0 kq a0 l1 x22_2 = some r) ∧ Aside0 (kq ≤ k) ∧ Aside0 (Below w.heap.size w wc))
  case first =>
    have H := HC3.out
    clear HC3
    by_cases c4 : (l1.length : Int) > 200
    · rw [if_pos c4] at H
      have c4b0 : decide (200 < (l1.length : Int)) = true := decide_eq_true c4
      have c4b1 : decide (200 < l1.length) = true := decide_eq_true (by omega)
      clear c4
      (first | rw [c4b0] | (simp only [i64_w, i32_w]; rw [c4b0]) | skip)
      have H' := Aside0.mk H
      clear H
      go_wp2
      go_meet
      case rel => exact ⟨_, (true), (by first | rfl | (simp; done) | (simp [*]; done)), H', ⟨by first | omega | exact Nat.le_refl _⟩, ⟨by repeat (first | (with_reducible first | exact HB.out | apply below_alloc | apply pw_below_drewN | apply below_drew1) | exact HB.out)⟩⟩
    · rw [if_neg c4] at H
      have c4b0 : decide (200 < (l1.length : Int)) = false := decide_eq_false c4
      have c4b1 : decide (200 < l1.length) = false := decide_eq_false (by omega)
      clear c4
      (first | rw [c4b0] | (simp only [i64_w, i32_w]; rw [c4b0]) | skip)
      have H' := Aside0.mk H
      clear H
      go_wp2
      go_meet
      case rel => exact ⟨_, ((a0 == 0)), (by first | rfl | (simp; done) | (simp [*]; done)), H', ⟨by first | omega | exact Nat.le_refl _⟩, ⟨by repeat (first | (with_reducible first | exact HB.out | apply below_alloc | apply pw_below_drewN | apply below_drew1) | exact HB.out)⟩⟩
  case rest =>
    clear HC3
    try clear c1
    try clear p2
    try clear c4
    try clear c4b0
    try clear c4b1
    obtain ⟨kq, x22_2, rfl, HA, HJ2, HB⟩ := hcut
    cases kq with
    | zero => exact absurd HA.out (by simp [sumpterlaw26_FlowKeeps.j0])
    | succ kj2 =>
      have H := HA.out
      clear HA
      simp only [sumpterlaw26_FlowKeeps.j0] at H
      by_cases c5 : x22_2 = true
      · subst c5
        have H1 : ((sumpterlaw26_awake.f kj2).bind fun t172 => (some t172)) = some r := by rw [if_pos rfl] at H; exact H
        clear H
        have H := H1
        clear H1
        replace H := Option.bind_eq_some_iff.mp H
        obtain ⟨t172, A60, H⟩ := H
        replace H : (some t172) = some r := H
        have A6 := Aside0.mk A60
        clear A60
        obtain rfl := Option.some.inj H
        go_wp2_with (first | ((with_reducible refine gate_callee (f := 43) rfl ?_); refine goesL_ (some 23) rfl rfl Try.func43 (by kernel_rfl) rfl #[] rfl (by (try simp only [List.map_toArray, List.map_cons, List.map_nil]); first | done | rfl | (simp only [List.length_drop, List.length_take]; rfl)) ?_; (with_reducible refine (sumpterlaw26_awake.calls kj2  t172 _ A6.out).mono ?_); rintro e w7 ⟨rfl, hb⟩; refine ⟨_, rfl, ?_⟩; have n0_ := Aside0.mk (below_step (by repeat (first | (with_reducible first | exact HB.out | apply below_alloc | apply pw_below_drewN | apply below_drew1) | exact HB.out)) hb); clear HB; have HB := n0_; clear n0_; (try clear hb); (try clear hb2); (try clear hk); (try clear hi)))
        go_ret
        exact ⟨by first | rfl | (simp [errW_none, errW_some] <;> rfl) | (simp [*, errW_none, errW_some] <;> rfl), by repeat (first | (with_reducible first | exact HB.out | apply below_alloc | apply pw_below_drewN | apply below_drew1) | exact HB.out)⟩
      · replace c5 := Bool.eq_false_iff.mpr c5
        subst c5
        have H1 : ((flow_NewGive.f (wrap64 (a0))).bind fun bt173 => ((flow_NewUse.f kj2 (wrap64 (a0))).bind fun bt179 => (if bt173.2.2.2.2 = 0 then (sumpterlaw26_FlowKeeps.j1 kj2 l1 bt173.2.2.2.2 bt179.2.2 (bt179.2.2 != 0) bt173.1 bt173.2.1 bt173.2.2.1 bt173.2.2.2.1 bt179.1 bt179.2.1) else (sumpterlaw26_FlowKeeps.j1 kj2 l1 bt173.2.2.2.2 bt179.2.2 true bt173.1 bt173.2.1 bt173.2.2.1 bt173.2.2.2.1 bt179.1 bt179.2.1)))) = some r := by rw [if_neg (show ¬ (false = true) by decide)] at H; exact H
        clear H
        have H := H1
        clear H1
        replace H := Option.bind_eq_some_iff.mp H
        obtain ⟨⟨t173, t174, t175, t176, t177⟩, A80, H⟩ := H
        replace H : ((flow_NewUse.f kj2 (wrap64 (a0))).bind fun bt179 => (if t177 = 0 then (sumpterlaw26_FlowKeeps.j1 kj2 l1 t177 bt179.2.2 (bt179.2.2 != 0) t173 t174 t175 t176 bt179.1 bt179.2.1) else (sumpterlaw26_FlowKeeps.j1 kj2 l1 t177 bt179.2.2 true t173 t174 t175 t176 bt179.1 bt179.2.1))) = some r := H
        have A8 := Aside0.mk A80
        clear A80
        replace H := Option.bind_eq_some_iff.mp H
        obtain ⟨⟨t179, t180, t181⟩, A90, H⟩ := H
        replace H : (if t177 = 0 then (sumpterlaw26_FlowKeeps.j1 kj2 l1 t177 t181 (t181 != 0) t173 t174 t175 t176 t179 t180) else (sumpterlaw26_FlowKeeps.j1 kj2 l1 t177 t181 true t173 t174 t175 t176 t179 t180)) = some r := H
        have A9 := Aside0.mk A90
        clear A90
        have HC10 := Aside0.mk H
        clear H
        go_upto_region 5 with (first | ((with_reducible refine gate_callee (f := 44) rfl ?_); refine goesL_ (some 27) rfl rfl Try.func44 (by kernel_rfl) rfl #[.int .i64 (wrap64 (a0))] rfl (by (try simp only [List.map_toArray, List.map_cons, List.map_nil]); first | done | rfl | (simp only [List.length_drop, List.length_take]; rfl)) ?_; (with_reducible refine (flow_NewGive.calls (wrap64 (a0)) t173 t174 t175 t176 t177 _ A8.out).mono ?_); rintro e w11 ⟨rfl, hb⟩; refine ⟨_, rfl, ?_⟩; have n0_ := Aside0.mk (below_step (by repeat (first | (with_reducible first | exact HB.out | apply below_alloc | apply pw_below_drewN | apply below_drew1) | exact HB.out)) hb); clear HB; have HB := n0_; clear n0_; (try clear hb); (try clear hb2); (try clear hk); (try clear hi)) | ((with_reducible refine gate_dst (N := 5) rfl ?_); refine box_event ?hg (N := 5) ?hd (cs := #[.int .i64 0, .int .i64 0, .int .i64 0, .int .i64 0]) (t := 74) ?hr ?_; (case hd => rfl); (case hg => rfl); (case hr => first | (go_simp; done) | (go_simp; rfl)); intro gb178 hg w12 hbox hb; have n0_ := Aside0.mk (below_step (by repeat (first | (with_reducible first | exact HB.out | apply below_alloc | apply pw_below_drewN | apply below_drew1) | exact HB.out)) hb); have n1_ := Aside0.mk (hbox); have n2_ := Aside0.mk ((by rw [hg]; exact (below_size (by repeat (first | (with_reducible first | exact HB.out | apply below_alloc | apply pw_below_drewN | apply below_drew1) | exact HB.out))) : w.heap.size ≤ gb178)); have n3_ := Aside0.mk ((by rw [hg]; exact (below_size (by repeat (first | (with_reducible first | exact HB.out | apply below_alloc | apply pw_below_drewN | apply below_drew1) | exact HB.out))) : w.heap.size ≤ gb178)); clear HB; have HB := n0_; have BK178 := n1_; have GW178 := n2_; have GE178 := n3_; clear n0_ n1_ n2_ n3_; clear hb hbox hg; have hcz13_0 : w12.cell? ⟨gb178, 0, none⟩ = some (.int .i64 0) := (blk_cell BK178.out 0).trans rfl; have hcz13_1 : w12.cell? ⟨gb178, 1, none⟩ = some (.int .i64 0) := (blk_cell BK178.out 1).trans rfl; have hcz13_2 : w12.cell? ⟨gb178, 2, none⟩ = some (.int .i64 0) := (blk_cell BK178.out 2).trans rfl; have hcz13_3 : w12.cell? ⟨gb178, 3, none⟩ = some (.int .i64 0) := (blk_cell BK178.out 3).trans rfl; have hfz13_0 := blk_frozen BK178.out 0; have hfz13_1 := blk_frozen BK178.out 1; have hfz13_2 := blk_frozen BK178.out 2; have hfz13_3 := blk_frozen BK178.out 3) | ((with_reducible refine gate_callee (f := 45) rfl ?_); refine goesL_ (some 33) rfl rfl Try.func45 (by kernel_rfl) rfl #[.int .i64 (wrap64 (a0))] rfl (by (try simp only [List.map_toArray, List.map_cons, List.map_nil]); first | done | rfl | (simp only [List.length_drop, List.length_take]; rfl)) ?_; (with_reducible refine (flow_NewUse.calls kj2 (wrap64 (a0)) t179 t180 t181 _ A9.out).mono ?_); rintro e w14 ⟨rfl, hb⟩; refine ⟨_, rfl, ?_⟩; have n0_ := Aside0.mk (blk_below (g := gb178) (o := .cells #[.int .i64 t173, .int .i64 t174, .int .i64 t175, .int .i64 t176] 74 (0, 0)) (by (with_reducible repeat (first | refine blk_drewN ?_ _ | refine blk_drew ?_ | refine blk_alloc ?_ _)); refine blk_put (cs := #[.int .i64 t173, .int .i64 t174, .int .i64 t175, .int .i64 0]) ?_ 3 _ rfl; (with_reducible repeat (first | refine blk_drewN ?_ _ | refine blk_drew ?_ | refine blk_alloc ?_ _)); refine blk_put (cs := #[.int .i64 t173, .int .i64 t174, .int .i64 0, .int .i64 0]) ?_ 2 _ rfl; (with_reducible repeat (first | refine blk_drewN ?_ _ | refine blk_drew ?_ | refine blk_alloc ?_ _)); refine blk_put (cs := #[.int .i64 t173, .int .i64 0, .int .i64 0, .int .i64 0]) ?_ 1 _ rfl; (with_reducible repeat (first | refine blk_drewN ?_ _ | refine blk_drew ?_ | refine blk_alloc ?_ _)); refine blk_put (cs := #[.int .i64 0, .int .i64 0, .int .i64 0, .int .i64 0]) ?_ 0 _ rfl; (with_reducible repeat (first | refine blk_drewN ?_ _ | refine blk_drew ?_ | refine blk_alloc ?_ _)); exact BK178.out) hb); have n1_ := Aside0.mk (below_step (by repeat (first | (with_reducible first | exact HB.out | apply below_alloc | apply pw_below_drewN | apply below_drew1 | refine below_set ?_ GE178.out) | exact HB.out)) hb); clear BK178; clear HB; have BK178 := n0_; have HB := n1_; clear n0_ n1_; (try clear hb); (try clear hb2); (try clear hk); (try clear hi)) | ((with_reducible refine gate_dst (N := 7) rfl ?_); refine box_event ?hg (N := 7) ?hd (cs := #[.int .i64 0, .int .i64 0]) (t := 79) ?hr ?_; (case hd => rfl); (case hg => rfl); (case hr => first | (go_simp; done) | (go_simp; rfl)); intro gb182 hg w15 hbox hb; have n0_ := Aside0.mk (blk_below (g := gb178) (o := .cells #[.int .i64 t173, .int .i64 t174, .int .i64 t175, .int .i64 t176] 74 (0, 0)) (by (with_reducible repeat (first | refine blk_drewN ?_ _ | refine blk_drew ?_ | refine blk_alloc ?_ _)); exact BK178.out) hb); have n1_ := Aside0.mk (below_step (by repeat (first | (with_reducible first | exact HB.out | apply below_alloc | apply pw_below_drewN | apply below_drew1 | refine below_set ?_ GE178.out) | exact HB.out)) hb); have n2_ := Aside0.mk (hbox); have n3_ := Aside0.mk ((by rw [hg]; exact (below_size (by repeat (first | (with_reducible first | exact HB.out | apply below_alloc | apply pw_below_drewN | apply below_drew1 | refine below_set ?_ GE178.out) | exact HB.out))) : w.heap.size ≤ gb182)); have n4_ := Aside0.mk ((by rw [hg]; exact (below_size (by repeat (first | (with_reducible first | exact HB.out | apply below_alloc | apply pw_below_drewN | apply below_drew1 | refine below_set ?_ GE178.out) | exact HB.out))) : w.heap.size ≤ gb182)); have n5_ := Aside0.mk ((by rw [hg]; exact Nat.ne_of_lt (blk_lt (g := gb178) (o := .cells #[.int .i64 t173, .int .i64 t174, .int .i64 t175, .int .i64 t176] 74 (0, 0)) (by (with_reducible repeat (first | refine blk_drewN ?_ _ | refine blk_drew ?_ | refine blk_alloc ?_ _)); exact BK178.out)) : gb178 ≠ gb182)); have n6_ := Aside0.mk ((by rw [hg]; exact Nat.ne_of_gt (blk_lt (g := gb178) (o := .cells #[.int .i64 t173, .int .i64 t174, .int .i64 t175, .int .i64 t176] 74 (0, 0)) (by (with_reducible repeat (first | refine blk_drewN ?_ _ | refine blk_drew ?_ | refine blk_alloc ?_ _)); exact BK178.out)) : gb182 ≠ gb178)); clear BK178; clear HB; have BK178 := n0_; have HB := n1_; have BK182 := n2_; have GW182 := n3_; have GE182 := n4_; have NB178_182 := n5_; have NB182_178 := n6_; clear n0_ n1_ n2_ n3_ n4_ n5_ n6_; clear hb hbox hg; have hnb16 := NB182_178.out; have hnc16 := NB178_182.out; have hcz17_0 : w15.cell? ⟨gb182, 0, none⟩ = some (.int .i64 0) := (blk_cell BK182.out 0).trans rfl; have hcz17_1 : w15.cell? ⟨gb182, 1, none⟩ = some (.int .i64 0) := (blk_cell BK182.out 1).trans rfl; have hfz17_0 := blk_frozen BK182.out 0; have hfz17_1 := blk_frozen BK182.out 1))
        (try simp only [Act.put, List.setIfInBounds_toArray, List.set_cons_zero, List.set_cons_succ])
        go_cut [41] (fun v41 wc => ∃ (kq : Nat) (x41_9 : Bool), v41 = .bool x41_9 ∧ Aside0 (sumpterlaw26_FlowKeeps.j1 kq l1 t177 t181 x41_9 t173 t174 t175 t176 t179 t180 = some r) ∧ Aside0 (kq ≤ kj2) ∧ Aside0 (wc.heap[gb178]? = some (.cells #[.int .i64 t173, .int .i64 t174, .int .i64 t175, .int .i64 t176] 74 (0, 0))) ∧ Aside0 (wc.heap[gb182]? = some (.cells #[.int .i64 t179, .int .i64 t180] 79 (0, 0))) ∧ Aside0 (Below w.heap.size w wc))
        case first =>
          have H := HC10.out
          clear HC10
          by_cases c18 : t177 = 0
          · rw [if_pos c18] at H
            have c18b0 : (t177 == 0) = true := beq_iff_eq.mpr c18
            have c18b1 : (t177 != 0) = false := bne_eq_false_iff_eq.mpr c18
            clear c18
            (first | rw [c18b0] | (simp only [i64_w, i32_w]; rw [c18b0]) | skip)
            have H' := Aside0.mk H
            clear H
            go_wp2
            go_meet
            case rel => exact ⟨_, ((t181 != 0)), (by first | rfl | (simp; done) | (simp [*]; done)), H', ⟨by have := HJ2.out; first | omega | exact Nat.le_refl _⟩, ⟨by (with_reducible repeat (first | refine blk_drewN ?_ _ | refine blk_drew ?_ | refine blk_alloc ?_ _)); refine blk_far ?_ NB178_182.out _; (with_reducible repeat (first | refine blk_drewN ?_ _ | refine blk_drew ?_ | refine blk_alloc ?_ _)); refine blk_far ?_ NB178_182.out _; (with_reducible repeat (first | refine blk_drewN ?_ _ | refine blk_drew ?_ | refine blk_alloc ?_ _)); exact BK178.out⟩, ⟨by (with_reducible repeat (first | refine blk_drewN ?_ _ | refine blk_drew ?_ | refine blk_alloc ?_ _)); refine blk_put (cs := #[.int .i64 t179, .int .i64 0]) ?_ 1 _ rfl; (with_reducible repeat (first | refine blk_drewN ?_ _ | refine blk_drew ?_ | refine blk_alloc ?_ _)); refine blk_put (cs := #[.int .i64 0, .int .i64 0]) ?_ 0 _ rfl; (with_reducible repeat (first | refine blk_drewN ?_ _ | refine blk_drew ?_ | refine blk_alloc ?_ _)); exact BK182.out⟩, ⟨by repeat (first | (with_reducible first | exact HB.out | apply below_alloc | apply pw_below_drewN | apply below_drew1 | refine below_set ?_ GE178.out | refine below_set ?_ GE182.out) | exact HB.out)⟩⟩
          · rw [if_neg c18] at H
            have c18b0 : (t177 == 0) = false := beq_eq_false_iff_ne.mpr c18
            have c18b1 : (t177 != 0) = true := bne_iff_ne.mpr c18
            (first | rw [c18b0] | (simp only [i64_w, i32_w]; rw [c18b0]) | skip)
            have H' := Aside0.mk H
            clear H
            go_wp2
            go_meet
            case rel => exact ⟨_, (true), (by first | rfl | (simp; done) | (simp [*]; done)), H', ⟨by have := HJ2.out; first | omega | exact Nat.le_refl _⟩, ⟨by (with_reducible repeat (first | refine blk_drewN ?_ _ | refine blk_drew ?_ | refine blk_alloc ?_ _)); refine blk_far ?_ NB178_182.out _; (with_reducible repeat (first | refine blk_drewN ?_ _ | refine blk_drew ?_ | refine blk_alloc ?_ _)); refine blk_far ?_ NB178_182.out _; (with_reducible repeat (first | refine blk_drewN ?_ _ | refine blk_drew ?_ | refine blk_alloc ?_ _)); exact BK178.out⟩, ⟨by (with_reducible repeat (first | refine blk_drewN ?_ _ | refine blk_drew ?_ | refine blk_alloc ?_ _)); refine blk_put (cs := #[.int .i64 t179, .int .i64 0]) ?_ 1 _ rfl; (with_reducible repeat (first | refine blk_drewN ?_ _ | refine blk_drew ?_ | refine blk_alloc ?_ _)); refine blk_put (cs := #[.int .i64 0, .int .i64 0]) ?_ 0 _ rfl; (with_reducible repeat (first | refine blk_drewN ?_ _ | refine blk_drew ?_ | refine blk_alloc ?_ _)); exact BK182.out⟩, ⟨by repeat (first | (with_reducible first | exact HB.out | apply below_alloc | apply pw_below_drewN | apply below_drew1 | refine below_set ?_ GE178.out | refine below_set ?_ GE182.out) | exact HB.out)⟩⟩
        case rest =>
          clear HC10
          try clear c1
          try clear p2
          try clear c4
          try clear c4b0
          try clear c4b1
          try clear c5
          try clear p6
          try clear c14
          try clear c16
          try clear c18
          try clear c18b0
          try clear c18b1
          try clear hcz13_0
          try clear hcz13_1
          try clear hcz13_2
          try clear hcz13_3
          try clear hcz17_0
          try clear hcz17_1
          try clear hfz13_0
          try clear hfz13_1
          try clear hfz13_2
          try clear hfz13_3
          try clear hfz17_0
          try clear hfz17_1
          try clear p2
          obtain ⟨kq, x41_9, rfl, HA, HJ9, BK178, BK182, HB⟩ := hcut
          cases kq with
          | zero => exact absurd HA.out (by simp [sumpterlaw26_FlowKeeps.j1])
          | succ kj9 =>
            have H := HA.out
            clear HA
            simp only [sumpterlaw26_FlowKeeps.j1] at H
            by_cases c19 : x41_9 = true
            · subst c19
              have H1 : (none) = some r := by rw [if_pos rfl] at H; exact H
              clear H
              have H := H1
              clear H1
              exact absurd H (by simp)
            · replace c19 := Bool.eq_false_iff.mpr c19
              subst c19
              have H1 : (sumpterlaw26_FlowKeeps.l0 kj9 l1 t177 t181 0 t173 t174 t175 t176 t179 t180) = some r := by rw [if_neg (show ¬ (false = true) by decide)] at H; exact H
              clear H
              have H := H1
              clear H1
              have H' := Aside0.mk H
              clear H
              go_wp2
              go_loopg [6, 8, 9] kj9 (fun kq v6 v8 v9 w' => ∃ (x6_3 : Int) (x8_3 : Int) (x9_3 : Int) (x179000_3 : Int) (x179001_3 : Int) (x179002_3 : Int) (x179003_3 : Int) (x183000_3 : Int) (x183001_3 : Int), v6 = .int .i64 x6_3 ∧ v8 = .int .i64 x8_3 ∧ v9 = .int .i64 x9_3 ∧ Aside0 (sumpterlaw26_FlowKeeps.l0 kq l1 x6_3 x8_3 x9_3 x179000_3 x179001_3 x179002_3 x179003_3 x183000_3 x183001_3 = some r) ∧ Aside0 (kq ≤ kj9) ∧ Aside0 (w'.heap[gb178]? = some (.cells #[.int .i64 x179000_3, .int .i64 x179001_3, .int .i64 x179002_3, .int .i64 x179003_3] 74 (0, 0))) ∧ Aside0 (w'.heap[gb182]? = some (.cells #[.int .i64 x183000_3, .int .i64 x183001_3] 79 (0, 0))) ∧ Aside0 (Below w.heap.size w w'))
              case atStart => exact ⟨(t177), (t181), (0), (t173), (t174), (t175), (t176), (t179), (t180), (by first | rfl | (simp; done) | (simp [*]; done)), (by first | rfl | (simp; done) | (simp [*]; done)), (by first | rfl | (simp; done) | (simp [*]; done)), H', ⟨Nat.le_refl _⟩, ⟨by (with_reducible repeat (first | refine blk_drewN ?_ _ | refine blk_drew ?_ | refine blk_alloc ?_ _)); exact BK178.out⟩, ⟨by (with_reducible repeat (first | refine blk_drewN ?_ _ | refine blk_drew ?_ | refine blk_alloc ?_ _)); exact BK182.out⟩, ⟨by repeat (first | (with_reducible first | exact HB.out | apply below_alloc | apply pw_below_drewN | apply below_drew1 | refine below_set ?_ GE178.out | refine below_set ?_ GE182.out) | exact HB.out)⟩⟩
              case round =>
                clear H'
                try clear c1
                try clear p2
                try clear c4
                try clear c4b0
                try clear c4b1
                try clear c5
                try clear p6
                try clear c14
                try clear c16
                try clear c18
                try clear c18b0
                try clear c18b1
                try clear c19
                try clear hcz13_0
                try clear hcz13_1
                try clear hcz13_2
                try clear hcz13_3
                try clear hcz17_0
                try clear hcz17_1
                try clear hfz13_0
                try clear hfz13_1
                try clear hfz13_2
                try clear hfz13_3
                try clear hfz17_0
                try clear hfz17_1
                try clear p2
                try clear p6
                obtain ⟨x6_3, x8_3, x9_3, x179000_3, x179001_3, x179002_3, x179003_3, x183000_3, x183001_3, rfl, rfl, rfl, HA, HK3, BK178, BK182, HB⟩ := hrel
                cases gk with
                | zero => exact absurd HA.out (by simp [sumpterlaw26_FlowKeeps.l0])
                | succ k3 =>
                  have H := HA.out
                  clear HA
                  simp only [sumpterlaw26_FlowKeeps.l0] at H
                  by_cases c20 : x9_3 < (l1.length : Int)
                  · rw [if_pos c20] at H
                    have c20b0 : decide (x9_3 < (l1.length : Int)) = true := decide_eq_true c20
                    clear c20
                    by_cases c21 : 0 ≤ x9_3
                    · rw [if_pos c21] at H
                      have c21b0 : decide (0 ≤ x9_3) = true := decide_eq_true c21
                      clear c21
                      have HC22 := Aside0.mk H
                      clear H
                      have hnb23 := NB178_182.out
                      have hnc23 := NB182_178.out
                      have hcz24_0 : wr.cell? ⟨gb178, 0, none⟩ = some (.int .i64 x179000_3) := (blk_cell BK178.out 0).trans rfl
                      have hcz24_1 : wr.cell? ⟨gb178, 1, none⟩ = some (.int .i64 x179001_3) := (blk_cell BK178.out 1).trans rfl
                      have hcz24_2 : wr.cell? ⟨gb178, 2, none⟩ = some (.int .i64 x179002_3) := (blk_cell BK178.out 2).trans rfl
                      have hcz24_3 : wr.cell? ⟨gb178, 3, none⟩ = some (.int .i64 x179003_3) := (blk_cell BK178.out 3).trans rfl
                      have hfz24_0 := blk_frozen BK178.out 0
                      have hfz24_1 := blk_frozen BK178.out 1
                      have hfz24_2 := blk_frozen BK178.out 2
                      have hfz24_3 := blk_frozen BK178.out 3
                      have p183 : 0 ≤ (x9_3 : Int) := of_decide_eq_true (by first | (with_reducible assumption) | assumption)
                      have q183 : x9_3 < (l1.length : Int) := of_decide_eq_true (by first | (with_reducible assumption) | assumption)
                      obtain ⟨ad183, e183, hx183_0, hx183_1⟩ := at_T27 HR1.out x9_3 p183 q183
                      cases e183
                      replace hx183_0 := (HB.out.cell (World.block_lt_of_cell? w _ hx183_0)).trans hx183_0
                      replace hx183_1 := (HB.out.cell (World.block_lt_of_cell? w _ hx183_1)).trans hx183_1
                      replace p183 := eq_true p183
                      replace q183 := eq_true q183
                      have p184 : 0 ≤ (x9_3 : Int) := of_decide_eq_true (by first | (with_reducible assumption) | assumption)
                      have q184 : x9_3 < (l1.length : Int) := of_decide_eq_true (by first | (with_reducible assumption) | assumption)
                      obtain ⟨ad184, e184, hx184_0, hx184_1⟩ := at_T27 HR1.out x9_3 p184 q184
                      obtain rfl : ad183 = ad184 := (by injection e184)
                      replace hx184_0 := (HB.out.cell (World.block_lt_of_cell? w _ hx184_0)).trans hx184_0
                      replace hx184_1 := (HB.out.cell (World.block_lt_of_cell? w _ hx184_1)).trans hx184_1
                      replace p184 := eq_true p184
                      replace q184 := eq_true q184
                      go_upto_block 2 with (fail)
                      go_cut [6, 8] (fun v6 v8 wc => ∃ (kq : Nat) (x6_21 : Int) (x8_21 : Int) (x179000_21 : Int) (x179001_21 : Int) (x179002_21 : Int) (x179003_21 : Int) (x183000_21 : Int) (x183001_21 : Int), v6 = .int .i64 x6_21 ∧ v8 = .int .i64 x8_21 ∧ Aside0 (sumpterlaw26_FlowKeeps.j3 kq l1 x6_21 x8_21 x9_3 x179001_3 x179000_21 x179001_21 x179002_21 x179003_21 x183000_21 x183001_21 = some r) ∧ Aside0 (kq ≤ k3) ∧ Aside0 (wc.heap[gb178]? = some (.cells #[.int .i64 x179000_21, .int .i64 x179001_21, .int .i64 x179002_21, .int .i64 x179003_21] 74 (0, 0))) ∧ Aside0 (wc.heap[gb182]? = some (.cells #[.int .i64 x183000_21, .int .i64 x183001_21] 79 (0, 0))) ∧ Aside0 (Below w.heap.size w wc))
                      case first =>
                        have H := HC22.out
                        clear HC22
                        by_cases c25 : (Int.tmod ((rd_T27 l1 x9_3).f0) 3) = 0
                        · rw [if_pos c25] at H
                          have c25b0 : ((Int.tmod ((rd_T27 l1 x9_3).f0) 3) == 0) = true := beq_iff_eq.mpr c25
                          have c25b1 : ((Int.tmod ((rd_T27 l1 x9_3).f0) 3) != 0) = false := bne_eq_false_iff_eq.mpr c25
                          clear c25
                          (first | rw [c25b0] | (simp only [i64_w, i32_w]; rw [c25b0]) | skip)
                          replace H := Option.bind_eq_some_iff.mp H
                          obtain ⟨t185, A260, H⟩ := H
                          replace H : ((flow_Spend.f k3 x183000_3 x183001_3 (mn (wrap64 ((rd_T27 l1 x9_3).f1)) t185)).bind fun bt186 => ((flow_Take.f k3 x179000_3 x179001_3 x179002_3 x179003_3 (mn (wrap64 ((rd_T27 l1 x9_3).f1)) t185)).bind fun bt189 => (sumpterlaw26_FlowKeeps.j3 k3 l1 bt186.2.2 bt189.2.2.2.2 x9_3 x179001_3 bt189.1 bt189.2.1 bt189.2.2.1 bt189.2.2.2.1 bt186.1 bt186.2.1))) = some r := H
                          have A26 := Aside0.mk A260
                          clear A260
                          obtain ⟨ji27, hji27⟩ : ∃ j_ : Int, (mn (wrap64 ((rd_T27 l1 x9_3).f1)) t185) = j_ := ⟨_, rfl⟩
                          replace H : ((flow_Spend.f k3 x183000_3 x183001_3 (ji27)).bind fun bt186 => ((flow_Take.f k3 x179000_3 x179001_3 x179002_3 x179003_3 (ji27)).bind fun bt189 => (sumpterlaw26_FlowKeeps.j3 k3 l1 bt186.2.2 bt189.2.2.2.2 x9_3 x179001_3 bt189.1 bt189.2.1 bt189.2.2.1 bt189.2.2.2.1 bt186.1 bt186.2.1))) = some r := by first | (rw [hji27] at H; exact H) | (simp only [hji27] at H ⊢; exact H)
                          (try rw [hji27] at A26)
                          have hji27_ : (if t185 < (wrap64 ((rd_T27 l1 x9_3).f1)) then t185 else (wrap64 ((rd_T27 l1 x9_3).f1))) = ji27 := hji27
                          replace H := Option.bind_eq_some_iff.mp H
                          obtain ⟨⟨t186, t187, t188⟩, A280, H⟩ := H
                          replace H : ((flow_Take.f k3 x179000_3 x179001_3 x179002_3 x179003_3 (ji27)).bind fun bt189 => (sumpterlaw26_FlowKeeps.j3 k3 l1 t188 bt189.2.2.2.2 x9_3 x179001_3 bt189.1 bt189.2.1 bt189.2.2.1 bt189.2.2.2.1 t186 t187)) = some r := H
                          have A28 := Aside0.mk A280
                          clear A280
                          replace H := Option.bind_eq_some_iff.mp H
                          obtain ⟨⟨t189, t190, t191, t192, t193⟩, A290, H⟩ := H
                          replace H : (sumpterlaw26_FlowKeeps.j3 k3 l1 t188 t193 x9_3 x179001_3 t189 t190 t191 t192 t186 t187) = some r := H
                          have A29 := Aside0.mk A290
                          clear A290
                          have H' := Aside0.mk H
                          clear H
                          have hnb30 := NB182_178.out
                          have hnc30 := NB178_182.out
                          have hcz31_0 : wr.cell? ⟨gb182, 0, none⟩ = some (.int .i64 x183000_3) := (blk_cell BK182.out 0).trans rfl
                          have hcz31_1 : wr.cell? ⟨gb182, 1, none⟩ = some (.int .i64 x183001_3) := (blk_cell BK182.out 1).trans rfl
                          have hfz31_0 := blk_frozen BK182.out 0
                          have hfz31_1 := blk_frozen BK182.out 1
                          go_wp2_with (first | ((with_reducible refine gate_callee (f := 46) rfl ?_); refine goesL_ (some 80) rfl rfl Try.func46 (by kernel_rfl) rfl #[.agg #[.int .i64 x183000_3, .int .i64 x183001_3]] rfl (by (try simp only [List.map_toArray, List.map_cons, List.map_nil]); first | done | rfl | (simp only [List.length_drop, List.length_take]; rfl)) ?_; (with_reducible refine (flow_Left.calls k3 x183000_3 x183001_3 t185 _ A26.out).mono ?_); rintro e w32 ⟨rfl, hb⟩; refine ⟨_, rfl, ?_⟩; have n0_ := Aside0.mk (blk_below (g := gb178) (o := .cells #[.int .i64 x179000_3, .int .i64 x179001_3, .int .i64 x179002_3, .int .i64 x179003_3] 74 (0, 0)) (by (with_reducible repeat (first | refine blk_drewN ?_ _ | refine blk_drew ?_ | refine blk_alloc ?_ _)); exact BK178.out) hb); have n1_ := Aside0.mk (blk_below (g := gb182) (o := .cells #[.int .i64 x183000_3, .int .i64 x183001_3] 79 (0, 0)) (by (with_reducible repeat (first | refine blk_drewN ?_ _ | refine blk_drew ?_ | refine blk_alloc ?_ _)); exact BK182.out) hb); have n2_ := Aside0.mk (below_step (by repeat (first | (with_reducible first | exact HB.out | apply below_alloc | apply pw_below_drewN | apply below_drew1 | refine below_set ?_ GE178.out | refine below_set ?_ GE182.out) | exact HB.out)) hb); clear BK178; clear BK182; clear HB; have BK178 := n0_; have BK182 := n1_; have HB := n2_; clear n0_ n1_ n2_; (try clear hb); (try clear hb2); (try clear hk); (try clear hi); have hcz33_0 : w32.cell? ⟨gb182, 0, none⟩ = some (.int .i64 x183000_3) := (blk_cell BK182.out 0).trans rfl; have hcz33_1 : w32.cell? ⟨gb182, 1, none⟩ = some (.int .i64 x183001_3) := (blk_cell BK182.out 1).trans rfl; have hfz33_0 := blk_frozen BK182.out 0; have hfz33_1 := blk_frozen BK182.out 1) | ((with_reducible refine gate_callee (f := 47) rfl ?_); refine goesL_ (some 85) rfl rfl Try.func47 (by kernel_rfl) rfl #[.agg #[.int .i64 x183000_3, .int .i64 x183001_3], .int .i64 ji27] rfl (by (try simp only [List.map_toArray, List.map_cons, List.map_nil]); first | done | (simp only [hji27]; rfl) | rfl | (simp only [List.length_drop, List.length_take]; rfl)) ?_; (with_reducible refine (flow_Spend.calls k3 x183000_3 x183001_3 ji27 t186 t187 t188 _ A28.out).mono ?_); rintro e w34 ⟨rfl, hb⟩; refine ⟨_, rfl, ?_⟩; have n0_ := Aside0.mk (blk_below (g := gb178) (o := .cells #[.int .i64 x179000_3, .int .i64 x179001_3, .int .i64 x179002_3, .int .i64 x179003_3] 74 (0, 0)) (by (with_reducible repeat (first | refine blk_drewN ?_ _ | refine blk_drew ?_ | refine blk_alloc ?_ _)); exact BK178.out) hb); have n1_ := Aside0.mk (blk_below (g := gb182) (o := .cells #[.int .i64 x183000_3, .int .i64 x183001_3] 79 (0, 0)) (by (with_reducible repeat (first | refine blk_drewN ?_ _ | refine blk_drew ?_ | refine blk_alloc ?_ _)); exact BK182.out) hb); have n2_ := Aside0.mk (below_step (by repeat (first | (with_reducible first | exact HB.out | apply below_alloc | apply pw_below_drewN | apply below_drew1 | refine below_set ?_ GE178.out | refine below_set ?_ GE182.out) | exact HB.out)) hb); clear BK178; clear BK182; clear HB; have BK178 := n0_; have BK182 := n1_; have HB := n2_; clear n0_ n1_ n2_; (try clear hb); (try clear hb2); (try clear hk); (try clear hi); have hcz35_0 : w34.cell? ⟨gb182, 0, none⟩ = some (.int .i64 x183000_3) := (blk_cell BK182.out 0).trans rfl; have hcz35_1 : w34.cell? ⟨gb182, 1, none⟩ = some (.int .i64 x183001_3) := (blk_cell BK182.out 1).trans rfl; have hfz35_0 := blk_frozen BK182.out 0; have hfz35_1 := blk_frozen BK182.out 1; have hcz36_0 : w34.cell? ⟨gb178, 0, none⟩ = some (.int .i64 x179000_3) := (blk_cell BK178.out 0).trans rfl; have hcz36_1 : w34.cell? ⟨gb178, 1, none⟩ = some (.int .i64 x179001_3) := (blk_cell BK178.out 1).trans rfl; have hcz36_2 : w34.cell? ⟨gb178, 2, none⟩ = some (.int .i64 x179002_3) := (blk_cell BK178.out 2).trans rfl; have hcz36_3 : w34.cell? ⟨gb178, 3, none⟩ = some (.int .i64 x179003_3) := (blk_cell BK178.out 3).trans rfl; have hfz36_0 := blk_frozen BK178.out 0; have hfz36_1 := blk_frozen BK178.out 1; have hfz36_2 := blk_frozen BK178.out 2; have hfz36_3 := blk_frozen BK178.out 3) | ((with_reducible refine gate_callee (f := 48) rfl ?_); refine goesL_ (some 91) rfl rfl Try.func48 (by kernel_rfl) rfl #[.agg #[.int .i64 x179000_3, .int .i64 x179001_3, .int .i64 x179002_3, .int .i64 x179003_3], .int .i64 ji27] rfl (by (try simp only [List.map_toArray, List.map_cons, List.map_nil]); first | done | (simp only [hji27]; rfl) | rfl | (simp only [List.length_drop, List.length_take]; rfl)) ?_; (with_reducible refine (flow_Take.calls k3 x179000_3 x179001_3 x179002_3 x179003_3 ji27 t189 t190 t191 t192 t193 _ A29.out).mono ?_); rintro e w37 ⟨rfl, hb⟩; refine ⟨_, rfl, ?_⟩; have n0_ := Aside0.mk (blk_below (g := gb178) (o := .cells #[.int .i64 x179000_3, .int .i64 x179001_3, .int .i64 x179002_3, .int .i64 x179003_3] 74 (0, 0)) (by (with_reducible repeat (first | refine blk_drewN ?_ _ | refine blk_drew ?_ | refine blk_alloc ?_ _)); refine blk_far ?_ NB178_182.out _; (with_reducible repeat (first | refine blk_drewN ?_ _ | refine blk_drew ?_ | refine blk_alloc ?_ _)); refine blk_far ?_ NB178_182.out _; (with_reducible repeat (first | refine blk_drewN ?_ _ | refine blk_drew ?_ | refine blk_alloc ?_ _)); exact BK178.out) hb); have n1_ := Aside0.mk (blk_below (g := gb182) (o := .cells #[.int .i64 t186, .int .i64 t187] 79 (0, 0)) (by (with_reducible repeat (first | refine blk_drewN ?_ _ | refine blk_drew ?_ | refine blk_alloc ?_ _)); refine blk_put (cs := #[.int .i64 t186, .int .i64 x183001_3]) ?_ 1 _ rfl; (with_reducible repeat (first | refine blk_drewN ?_ _ | refine blk_drew ?_ | refine blk_alloc ?_ _)); refine blk_put (cs := #[.int .i64 x183000_3, .int .i64 x183001_3]) ?_ 0 _ rfl; (with_reducible repeat (first | refine blk_drewN ?_ _ | refine blk_drew ?_ | refine blk_alloc ?_ _)); exact BK182.out) hb); have n2_ := Aside0.mk (below_step (by repeat (first | (with_reducible first | exact HB.out | apply below_alloc | apply pw_below_drewN | apply below_drew1 | refine below_set ?_ GE178.out | refine below_set ?_ GE182.out) | exact HB.out)) hb); clear BK178; clear BK182; clear HB; have BK178 := n0_; have BK182 := n1_; have HB := n2_; clear n0_ n1_ n2_; (try clear hb); (try clear hb2); (try clear hk); (try clear hi); have hcz38_0 : w37.cell? ⟨gb178, 0, none⟩ = some (.int .i64 x179000_3) := (blk_cell BK178.out 0).trans rfl; have hcz38_1 : w37.cell? ⟨gb178, 1, none⟩ = some (.int .i64 x179001_3) := (blk_cell BK178.out 1).trans rfl; have hcz38_2 : w37.cell? ⟨gb178, 2, none⟩ = some (.int .i64 x179002_3) := (blk_cell BK178.out 2).trans rfl; have hcz38_3 : w37.cell? ⟨gb178, 3, none⟩ = some (.int .i64 x179003_3) := (blk_cell BK178.out 3).trans rfl; have hfz38_0 := blk_frozen BK178.out 0; have hfz38_1 := blk_frozen BK178.out 1; have hfz38_2 := blk_frozen BK178.out 2; have hfz38_3 := blk_frozen BK178.out 3))
                          go_meet
                          case rel => exact ⟨_, (t188), (t193), (t189), (t190), (t191), (t192), (t186), (t187), (by first | rfl | (simp; done) | (simp [*]; done)), (by first | rfl | (simp; done) | (simp [*]; done)), H', ⟨by have := HJ2.out; have := HJ9.out; have := HK3.out; first | omega | exact Nat.le_refl _⟩, ⟨by (with_reducible repeat (first | refine blk_drewN ?_ _ | refine blk_drew ?_ | refine blk_alloc ?_ _)); refine blk_put (cs := #[.int .i64 t189, .int .i64 t190, .int .i64 t191, .int .i64 x179003_3]) ?_ 3 _ rfl; (with_reducible repeat (first | refine blk_drewN ?_ _ | refine blk_drew ?_ | refine blk_alloc ?_ _)); refine blk_put (cs := #[.int .i64 t189, .int .i64 t190, .int .i64 x179002_3, .int .i64 x179003_3]) ?_ 2 _ rfl; (with_reducible repeat (first | refine blk_drewN ?_ _ | refine blk_drew ?_ | refine blk_alloc ?_ _)); refine blk_put (cs := #[.int .i64 t189, .int .i64 x179001_3, .int .i64 x179002_3, .int .i64 x179003_3]) ?_ 1 _ rfl; (with_reducible repeat (first | refine blk_drewN ?_ _ | refine blk_drew ?_ | refine blk_alloc ?_ _)); refine blk_put (cs := #[.int .i64 x179000_3, .int .i64 x179001_3, .int .i64 x179002_3, .int .i64 x179003_3]) ?_ 0 _ rfl; (with_reducible repeat (first | refine blk_drewN ?_ _ | refine blk_drew ?_ | refine blk_alloc ?_ _)); exact BK178.out⟩, ⟨by (with_reducible repeat (first | refine blk_drewN ?_ _ | refine blk_drew ?_ | refine blk_alloc ?_ _)); refine blk_far ?_ NB182_178.out _; (with_reducible repeat (first | refine blk_drewN ?_ _ | refine blk_drew ?_ | refine blk_alloc ?_ _)); refine blk_far ?_ NB182_178.out _; (with_reducible repeat (first | refine blk_drewN ?_ _ | refine blk_drew ?_ | refine blk_alloc ?_ _)); refine blk_far ?_ NB182_178.out _; (with_reducible repeat (first | refine blk_drewN ?_ _ | refine blk_drew ?_ | refine blk_alloc ?_ _)); refine blk_far ?_ NB182_178.out _; (with_reducible repeat (first | refine blk_drewN ?_ _ | refine blk_drew ?_ | refine blk_alloc ?_ _)); exact BK182.out⟩, ⟨by repeat (first | (with_reducible first | exact HB.out | apply below_alloc | apply pw_below_drewN | apply below_drew1 | refine below_set ?_ GE178.out | refine below_set ?_ GE182.out) | exact HB.out)⟩⟩
                        · rw [if_neg c25] at H
                          have c25b0 : ((Int.tmod ((rd_T27 l1 x9_3).f0) 3) == 0) = false := beq_eq_false_iff_ne.mpr c25
                          have c25b1 : ((Int.tmod ((rd_T27 l1 x9_3).f0) 3) != 0) = true := bne_iff_ne.mpr c25
                          (first | rw [c25b0] | (simp only [i64_w, i32_w]; rw [c25b0]) | skip)
                          by_cases c39 : (Int.tmod ((rd_T27 l1 x9_3).f0) 3) = 1
                          · rw [if_pos c39] at H
                            have c39b0 : ((Int.tmod ((rd_T27 l1 x9_3).f0) 3) == 1) = true := beq_iff_eq.mpr c39
                            have c39b1 : ((Int.tmod ((rd_T27 l1 x9_3).f0) 3) != 1) = false := bne_eq_false_iff_eq.mpr c39
                            clear c39
                            obtain ⟨ji40, hji40⟩ : ∃ j_ : Int, (mn (wrap64 ((rd_T27 l1 x9_3).f1)) (wrap64 (x179002_3 - x179003_3))) = j_ := ⟨_, rfl⟩
                            replace H : ((flow_Consume.f k3 x179000_3 x179001_3 x179002_3 x179003_3 (ji40)).bind fun bt194 => (sumpterlaw26_FlowKeeps.j3 k3 l1 x6_3 bt194.2.2.2.2 x9_3 x179001_3 bt194.1 bt194.2.1 bt194.2.2.1 bt194.2.2.2.1 x183000_3 x183001_3)) = some r := by first | (rw [hji40] at H; exact H) | (simp only [hji40] at H ⊢; exact H)
                            have hji40_ : (if (wrap64 (x179002_3 - x179003_3)) < (wrap64 ((rd_T27 l1 x9_3).f1)) then (wrap64 (x179002_3 - x179003_3)) else (wrap64 ((rd_T27 l1 x9_3).f1))) = ji40 := hji40
                            replace H := Option.bind_eq_some_iff.mp H
                            obtain ⟨⟨t194, t195, t196, t197, t198⟩, A410, H⟩ := H
                            replace H : (sumpterlaw26_FlowKeeps.j3 k3 l1 x6_3 t198 x9_3 x179001_3 t194 t195 t196 t197 x183000_3 x183001_3) = some r := H
                            have A41 := Aside0.mk A410
                            clear A410
                            have H' := Aside0.mk H
                            clear H
                            have hnb42 := NB178_182.out
                            have hnc42 := NB182_178.out
                            have hcz43_0 : wr.cell? ⟨gb178, 0, none⟩ = some (.int .i64 x179000_3) := (blk_cell BK178.out 0).trans rfl
                            have hcz43_1 : wr.cell? ⟨gb178, 1, none⟩ = some (.int .i64 x179001_3) := (blk_cell BK178.out 1).trans rfl
                            have hcz43_2 : wr.cell? ⟨gb178, 2, none⟩ = some (.int .i64 x179002_3) := (blk_cell BK178.out 2).trans rfl
                            have hcz43_3 : wr.cell? ⟨gb178, 3, none⟩ = some (.int .i64 x179003_3) := (blk_cell BK178.out 3).trans rfl
                            have hfz43_0 := blk_frozen BK178.out 0
                            have hfz43_1 := blk_frozen BK178.out 1
                            have hfz43_2 := blk_frozen BK178.out 2
                            have hfz43_3 := blk_frozen BK178.out 3
                            go_wp2_with (first | ((with_reducible refine gate_callee (f := 49) rfl ?_); refine goesL_ (some 105) rfl rfl Try.func49 (by kernel_rfl) rfl #[.agg #[.int .i64 x179000_3, .int .i64 x179001_3, .int .i64 x179002_3, .int .i64 x179003_3], .int .i64 ji40] rfl (by (try simp only [List.map_toArray, List.map_cons, List.map_nil]); first | done | (simp only [hji40]; rfl) | rfl | (simp only [List.length_drop, List.length_take]; rfl)) ?_; (with_reducible refine (flow_Consume.calls k3 x179000_3 x179001_3 x179002_3 x179003_3 ji40 t194 t195 t196 t197 t198 _ A41.out).mono ?_); rintro e w44 ⟨rfl, hb⟩; refine ⟨_, rfl, ?_⟩; have n0_ := Aside0.mk (blk_below (g := gb178) (o := .cells #[.int .i64 x179000_3, .int .i64 x179001_3, .int .i64 x179002_3, .int .i64 x179003_3] 74 (0, 0)) (by (with_reducible repeat (first | refine blk_drewN ?_ _ | refine blk_drew ?_ | refine blk_alloc ?_ _)); exact BK178.out) hb); have n1_ := Aside0.mk (blk_below (g := gb182) (o := .cells #[.int .i64 x183000_3, .int .i64 x183001_3] 79 (0, 0)) (by (with_reducible repeat (first | refine blk_drewN ?_ _ | refine blk_drew ?_ | refine blk_alloc ?_ _)); exact BK182.out) hb); have n2_ := Aside0.mk (below_step (by repeat (first | (with_reducible first | exact HB.out | apply below_alloc | apply pw_below_drewN | apply below_drew1 | refine below_set ?_ GE178.out | refine below_set ?_ GE182.out) | exact HB.out)) hb); clear BK178; clear BK182; clear HB; have BK178 := n0_; have BK182 := n1_; have HB := n2_; clear n0_ n1_ n2_; (try clear hb); (try clear hb2); (try clear hk); (try clear hi); have hcz45_0 : w44.cell? ⟨gb178, 0, none⟩ = some (.int .i64 x179000_3) := (blk_cell BK178.out 0).trans rfl; have hcz45_1 : w44.cell? ⟨gb178, 1, none⟩ = some (.int .i64 x179001_3) := (blk_cell BK178.out 1).trans rfl; have hcz45_2 : w44.cell? ⟨gb178, 2, none⟩ = some (.int .i64 x179002_3) := (blk_cell BK178.out 2).trans rfl; have hcz45_3 : w44.cell? ⟨gb178, 3, none⟩ = some (.int .i64 x179003_3) := (blk_cell BK178.out 3).trans rfl; have hfz45_0 := blk_frozen BK178.out 0; have hfz45_1 := blk_frozen BK178.out 1; have hfz45_2 := blk_frozen BK178.out 2; have hfz45_3 := blk_frozen BK178.out 3))
                            go_meet
                            case rel => exact ⟨_, (x6_3), (t198), (t194), (t195), (t196), (t197), (x183000_3), (x183001_3), (by first | rfl | (simp; done) | (simp [*]; done)), (by first | rfl | (simp; done) | (simp [*]; done)), H', ⟨by have := HJ2.out; have := HJ9.out; have := HK3.out; first | omega | exact Nat.le_refl _⟩, ⟨by (with_reducible repeat (first | refine blk_drewN ?_ _ | refine blk_drew ?_ | refine blk_alloc ?_ _)); refine blk_put (cs := #[.int .i64 t194, .int .i64 t195, .int .i64 t196, .int .i64 x179003_3]) ?_ 3 _ rfl; (with_reducible repeat (first | refine blk_drewN ?_ _ | refine blk_drew ?_ | refine blk_alloc ?_ _)); refine blk_put (cs := #[.int .i64 t194, .int .i64 t195, .int .i64 x179002_3, .int .i64 x179003_3]) ?_ 2 _ rfl; (with_reducible repeat (first | refine blk_drewN ?_ _ | refine blk_drew ?_ | refine blk_alloc ?_ _)); refine blk_put (cs := #[.int .i64 t194, .int .i64 x179001_3, .int .i64 x179002_3, .int .i64 x179003_3]) ?_ 1 _ rfl; (with_reducible repeat (first | refine blk_drewN ?_ _ | refine blk_drew ?_ | refine blk_alloc ?_ _)); refine blk_put (cs := #[.int .i64 x179000_3, .int .i64 x179001_3, .int .i64 x179002_3, .int .i64 x179003_3]) ?_ 0 _ rfl; (with_reducible repeat (first | refine blk_drewN ?_ _ | refine blk_drew ?_ | refine blk_alloc ?_ _)); exact BK178.out⟩, ⟨by (with_reducible repeat (first | refine blk_drewN ?_ _ | refine blk_drew ?_ | refine blk_alloc ?_ _)); refine blk_far ?_ NB182_178.out _; (with_reducible repeat (first | refine blk_drewN ?_ _ | refine blk_drew ?_ | refine blk_alloc ?_ _)); refine blk_far ?_ NB182_178.out _; (with_reducible repeat (first | refine blk_drewN ?_ _ | refine blk_drew ?_ | refine blk_alloc ?_ _)); refine blk_far ?_ NB182_178.out _; (with_reducible repeat (first | refine blk_drewN ?_ _ | refine blk_drew ?_ | refine blk_alloc ?_ _)); refine blk_far ?_ NB182_178.out _; (with_reducible repeat (first | refine blk_drewN ?_ _ | refine blk_drew ?_ | refine blk_alloc ?_ _)); exact BK182.out⟩, ⟨by repeat (first | (with_reducible first | exact HB.out | apply below_alloc | apply pw_below_drewN | apply below_drew1 | refine below_set ?_ GE178.out | refine below_set ?_ GE182.out) | exact HB.out)⟩⟩
                          · rw [if_neg c39] at H
                            have c39b0 : ((Int.tmod ((rd_T27 l1 x9_3).f0) 3) == 1) = false := beq_eq_false_iff_ne.mpr c39
                            have c39b1 : ((Int.tmod ((rd_T27 l1 x9_3).f0) 3) != 1) = true := bne_iff_ne.mpr c39
                            replace H := Option.bind_eq_some_iff.mp H
                            obtain ⟨⟨t199, t200, t201, t202, t203⟩, A460, H⟩ := H
                            replace H : (if t203 = true then ((flow_Raise.f x183000_3 x183001_3 t200).bind fun bt205 => (sumpterlaw26_FlowKeeps.j3 k3 l1 x6_3 x8_3 x9_3 x179001_3 t199 t200 t201 t202 bt205.1 bt205.2.1)) else (sumpterlaw26_FlowKeeps.j3 k3 l1 x6_3 x8_3 x9_3 x179001_3 t199 t200 t201 t202 x183000_3 x183001_3)) = some r := H
                            have A46 := Aside0.mk A460
                            clear A460
                            by_cases c47 : t203 = true
                            · subst c47
                              have H1 : ((flow_Raise.f x183000_3 x183001_3 t200).bind fun bt205 => (sumpterlaw26_FlowKeeps.j3 k3 l1 x6_3 x8_3 x9_3 x179001_3 t199 t200 t201 t202 bt205.1 bt205.2.1)) = some r := by rw [if_pos rfl] at H; exact H
                              clear H
                              have H := H1
                              clear H1
                              replace H := Option.bind_eq_some_iff.mp H
                              obtain ⟨⟨t205, t206, t207⟩, A480, H⟩ := H
                              replace H : (sumpterlaw26_FlowKeeps.j3 k3 l1 x6_3 x8_3 x9_3 x179001_3 t199 t200 t201 t202 t205 t206) = some r := H
                              have A48 := Aside0.mk A480
                              clear A480
                              have H' := Aside0.mk H
                              clear H
                              have hnb49 := NB178_182.out
                              have hnc49 := NB182_178.out
                              have hcz50_0 : wr.cell? ⟨gb178, 0, none⟩ = some (.int .i64 x179000_3) := (blk_cell BK178.out 0).trans rfl
                              have hcz50_1 : wr.cell? ⟨gb178, 1, none⟩ = some (.int .i64 x179001_3) := (blk_cell BK178.out 1).trans rfl
                              have hcz50_2 : wr.cell? ⟨gb178, 2, none⟩ = some (.int .i64 x179002_3) := (blk_cell BK178.out 2).trans rfl
                              have hcz50_3 : wr.cell? ⟨gb178, 3, none⟩ = some (.int .i64 x179003_3) := (blk_cell BK178.out 3).trans rfl
                              have hfz50_0 := blk_frozen BK178.out 0
                              have hfz50_1 := blk_frozen BK178.out 1
                              have hfz50_2 := blk_frozen BK178.out 2
                              have hfz50_3 := blk_frozen BK178.out 3
                              go_wp2_with (first | ((with_reducible refine gate_callee (f := 50) rfl ?_); refine goesL_ (some 64) rfl rfl Try.func50 (by kernel_rfl) rfl #[.agg #[.int .i64 x179000_3, .int .i64 x179001_3, .int .i64 x179002_3, .int .i64 x179003_3]] rfl (by (try simp only [List.map_toArray, List.map_cons, List.map_nil]); first | done | rfl | (simp only [List.length_drop, List.length_take]; rfl)) ?_; (with_reducible refine (flow_Update.calls k3 x179000_3 x179001_3 x179002_3 x179003_3 t199 t200 t201 t202 true _ A46.out).mono ?_); rintro e w51 ⟨rfl, hb⟩; refine ⟨_, rfl, ?_⟩; have n0_ := Aside0.mk (blk_below (g := gb178) (o := .cells #[.int .i64 x179000_3, .int .i64 x179001_3, .int .i64 x179002_3, .int .i64 x179003_3] 74 (0, 0)) (by (with_reducible repeat (first | refine blk_drewN ?_ _ | refine blk_drew ?_ | refine blk_alloc ?_ _)); exact BK178.out) hb); have n1_ := Aside0.mk (blk_below (g := gb182) (o := .cells #[.int .i64 x183000_3, .int .i64 x183001_3] 79 (0, 0)) (by (with_reducible repeat (first | refine blk_drewN ?_ _ | refine blk_drew ?_ | refine blk_alloc ?_ _)); exact BK182.out) hb); have n2_ := Aside0.mk (below_step (by repeat (first | (with_reducible first | exact HB.out | apply below_alloc | apply pw_below_drewN | apply below_drew1 | refine below_set ?_ GE178.out | refine below_set ?_ GE182.out) | exact HB.out)) hb); clear BK178; clear BK182; clear HB; have BK178 := n0_; have BK182 := n1_; have HB := n2_; clear n0_ n1_ n2_; (try clear hb); (try clear hb2); (try clear hk); (try clear hi)) | ((with_reducible refine gate_dst (N := 12) rfl ?_); refine box_event ?hg (N := 12) ?hd (cs := #[.int .i64 0, .int .i64 0, .int .i64 0, .int .i64 0]) (t := 74) ?hr ?_; (case hd => rfl); (case hg => rfl); (case hr => first | (go_simp; done) | (go_simp; rfl)); intro gb204 hg w52 hbox hb; have n0_ := Aside0.mk (blk_below (g := gb178) (o := .cells #[.int .i64 x179000_3, .int .i64 x179001_3, .int .i64 x179002_3, .int .i64 x179003_3] 74 (0, 0)) (by (with_reducible repeat (first | refine blk_drewN ?_ _ | refine blk_drew ?_ | refine blk_alloc ?_ _)); exact BK178.out) hb); have n1_ := Aside0.mk (blk_below (g := gb182) (o := .cells #[.int .i64 x183000_3, .int .i64 x183001_3] 79 (0, 0)) (by (with_reducible repeat (first | refine blk_drewN ?_ _ | refine blk_drew ?_ | refine blk_alloc ?_ _)); exact BK182.out) hb); have n2_ := Aside0.mk (below_step (by repeat (first | (with_reducible first | exact HB.out | apply below_alloc | apply pw_below_drewN | apply below_drew1 | refine below_set ?_ GE178.out | refine below_set ?_ GE182.out) | exact HB.out)) hb); have n3_ := Aside0.mk (hbox); have n4_ := Aside0.mk ((by rw [hg]; exact (below_size (by repeat (first | (with_reducible first | exact HB.out | apply below_alloc | apply pw_below_drewN | apply below_drew1 | refine below_set ?_ GE178.out | refine below_set ?_ GE182.out) | exact HB.out))) : w.heap.size ≤ gb204)); have n5_ := Aside0.mk ((by rw [hg]; exact (below_size (by repeat (first | (with_reducible first | exact HB.out | apply below_alloc | apply pw_below_drewN | apply below_drew1 | refine below_set ?_ GE178.out | refine below_set ?_ GE182.out) | exact HB.out))) : w.heap.size ≤ gb204)); have n6_ := Aside0.mk ((by rw [hg]; exact Nat.ne_of_lt (blk_lt (g := gb178) (o := .cells #[.int .i64 x179000_3, .int .i64 x179001_3, .int .i64 x179002_3, .int .i64 x179003_3] 74 (0, 0)) (by (with_reducible repeat (first | refine blk_drewN ?_ _ | refine blk_drew ?_ | refine blk_alloc ?_ _)); exact BK178.out)) : gb178 ≠ gb204)); have n7_ := Aside0.mk ((by rw [hg]; exact Nat.ne_of_gt (blk_lt (g := gb178) (o := .cells #[.int .i64 x179000_3, .int .i64 x179001_3, .int .i64 x179002_3, .int .i64 x179003_3] 74 (0, 0)) (by (with_reducible repeat (first | refine blk_drewN ?_ _ | refine blk_drew ?_ | refine blk_alloc ?_ _)); exact BK178.out)) : gb204 ≠ gb178)); have n8_ := Aside0.mk ((by rw [hg]; exact Nat.ne_of_lt (blk_lt (g := gb182) (o := .cells #[.int .i64 x183000_3, .int .i64 x183001_3] 79 (0, 0)) (by (with_reducible repeat (first | refine blk_drewN ?_ _ | refine blk_drew ?_ | refine blk_alloc ?_ _)); exact BK182.out)) : gb182 ≠ gb204)); have n9_ := Aside0.mk ((by rw [hg]; exact Nat.ne_of_gt (blk_lt (g := gb182) (o := .cells #[.int .i64 x183000_3, .int .i64 x183001_3] 79 (0, 0)) (by (with_reducible repeat (first | refine blk_drewN ?_ _ | refine blk_drew ?_ | refine blk_alloc ?_ _)); exact BK182.out)) : gb204 ≠ gb182)); clear BK178; clear BK182; clear HB; have BK178 := n0_; have BK182 := n1_; have HB := n2_; have BK204 := n3_; have GW204 := n4_; have GE204 := n5_; have NB178_204 := n6_; have NB204_178 := n7_; have NB182_204 := n8_; have NB204_182 := n9_; clear n0_ n1_ n2_ n3_ n4_ n5_ n6_ n7_ n8_ n9_; clear hb hbox hg; have hnb53 := NB204_178.out; have hnc53 := NB178_204.out; have hnb54 := NB204_182.out; have hnc54 := NB182_204.out; have hcz55_0 : w52.cell? ⟨gb204, 0, none⟩ = some (.int .i64 0) := (blk_cell BK204.out 0).trans rfl; have hcz55_1 : w52.cell? ⟨gb204, 1, none⟩ = some (.int .i64 0) := (blk_cell BK204.out 1).trans rfl; have hcz55_2 : w52.cell? ⟨gb204, 2, none⟩ = some (.int .i64 0) := (blk_cell BK204.out 2).trans rfl; have hcz55_3 : w52.cell? ⟨gb204, 3, none⟩ = some (.int .i64 0) := (blk_cell BK204.out 3).trans rfl; have hfz55_0 := blk_frozen BK204.out 0; have hfz55_1 := blk_frozen BK204.out 1; have hfz55_2 := blk_frozen BK204.out 2; have hfz55_3 := blk_frozen BK204.out 3; have hcz56_0 : w52.cell? ⟨gb182, 0, none⟩ = some (.int .i64 x183000_3) := (blk_cell BK182.out 0).trans rfl; have hcz56_1 : w52.cell? ⟨gb182, 1, none⟩ = some (.int .i64 x183001_3) := (blk_cell BK182.out 1).trans rfl; have hfz56_0 := blk_frozen BK182.out 0; have hfz56_1 := blk_frozen BK182.out 1) | ((with_reducible refine gate_callee (f := 51) rfl ?_); refine goesL_ (some 72) rfl rfl Try.func51 (by kernel_rfl) rfl #[.agg #[.int .i64 x183000_3, .int .i64 x183001_3], .int .i64 t200] rfl (by (try simp only [List.map_toArray, List.map_cons, List.map_nil]); first | done | rfl | (simp only [List.length_drop, List.length_take]; rfl)) ?_; (with_reducible refine (flow_Raise.calls x183000_3 x183001_3 t200 t205 t206 t207 _ A48.out).mono ?_); rintro e w57 ⟨rfl, hb⟩; refine ⟨_, rfl, ?_⟩; have n0_ := Aside0.mk (blk_below (g := gb178) (o := .cells #[.int .i64 x179000_3, .int .i64 x179001_3, .int .i64 x179002_3, .int .i64 x179003_3] 74 (0, 0)) (by (with_reducible repeat (first | refine blk_drewN ?_ _ | refine blk_drew ?_ | refine blk_alloc ?_ _)); refine blk_far ?_ NB178_204.out _; (with_reducible repeat (first | refine blk_drewN ?_ _ | refine blk_drew ?_ | refine blk_alloc ?_ _)); refine blk_far ?_ NB178_204.out _; (with_reducible repeat (first | refine blk_drewN ?_ _ | refine blk_drew ?_ | refine blk_alloc ?_ _)); refine blk_far ?_ NB178_204.out _; (with_reducible repeat (first | refine blk_drewN ?_ _ | refine blk_drew ?_ | refine blk_alloc ?_ _)); refine blk_far ?_ NB178_204.out _; (with_reducible repeat (first | refine blk_drewN ?_ _ | refine blk_drew ?_ | refine blk_alloc ?_ _)); exact BK178.out) hb); have n1_ := Aside0.mk (blk_below (g := gb182) (o := .cells #[.int .i64 x183000_3, .int .i64 x183001_3] 79 (0, 0)) (by (with_reducible repeat (first | refine blk_drewN ?_ _ | refine blk_drew ?_ | refine blk_alloc ?_ _)); refine blk_far ?_ NB182_204.out _; (with_reducible repeat (first | refine blk_drewN ?_ _ | refine blk_drew ?_ | refine blk_alloc ?_ _)); refine blk_far ?_ NB182_204.out _; (with_reducible repeat (first | refine blk_drewN ?_ _ | refine blk_drew ?_ | refine blk_alloc ?_ _)); refine blk_far ?_ NB182_204.out _; (with_reducible repeat (first | refine blk_drewN ?_ _ | refine blk_drew ?_ | refine blk_alloc ?_ _)); refine blk_far ?_ NB182_204.out _; (with_reducible repeat (first | refine blk_drewN ?_ _ | refine blk_drew ?_ | refine blk_alloc ?_ _)); exact BK182.out) hb); have n2_ := Aside0.mk (blk_below (g := gb204) (o := .cells #[.int .i64 t199, .int .i64 t200, .int .i64 t201, .int .i64 t202] 74 (0, 0)) (by (with_reducible repeat (first | refine blk_drewN ?_ _ | refine blk_drew ?_ | refine blk_alloc ?_ _)); refine blk_put (cs := #[.int .i64 t199, .int .i64 t200, .int .i64 t201, .int .i64 0]) ?_ 3 _ rfl; (with_reducible repeat (first | refine blk_drewN ?_ _ | refine blk_drew ?_ | refine blk_alloc ?_ _)); refine blk_put (cs := #[.int .i64 t199, .int .i64 t200, .int .i64 0, .int .i64 0]) ?_ 2 _ rfl; (with_reducible repeat (first | refine blk_drewN ?_ _ | refine blk_drew ?_ | refine blk_alloc ?_ _)); refine blk_put (cs := #[.int .i64 t199, .int .i64 0, .int .i64 0, .int .i64 0]) ?_ 1 _ rfl; (with_reducible repeat (first | refine blk_drewN ?_ _ | refine blk_drew ?_ | refine blk_alloc ?_ _)); refine blk_put (cs := #[.int .i64 0, .int .i64 0, .int .i64 0, .int .i64 0]) ?_ 0 _ rfl; (with_reducible repeat (first | refine blk_drewN ?_ _ | refine blk_drew ?_ | refine blk_alloc ?_ _)); exact BK204.out) hb); have n3_ := Aside0.mk (below_step (by repeat (first | (with_reducible first | exact HB.out | apply below_alloc | apply pw_below_drewN | apply below_drew1 | refine below_set ?_ GE178.out | refine below_set ?_ GE182.out | refine below_set ?_ GE204.out) | exact HB.out)) hb); clear BK178; clear BK182; clear BK204; clear HB; have BK178 := n0_; have BK182 := n1_; have BK204 := n2_; have HB := n3_; clear n0_ n1_ n2_ n3_; (try clear hb); (try clear hb2); (try clear hk); (try clear hi); have hcz58_0 : w57.cell? ⟨gb182, 0, none⟩ = some (.int .i64 x183000_3) := (blk_cell BK182.out 0).trans rfl; have hcz58_1 : w57.cell? ⟨gb182, 1, none⟩ = some (.int .i64 x183001_3) := (blk_cell BK182.out 1).trans rfl; have hfz58_0 := blk_frozen BK182.out 0; have hfz58_1 := blk_frozen BK182.out 1; have hcz59_0 : w57.cell? ⟨gb204, 0, none⟩ = some (.int .i64 t199) := (blk_cell BK204.out 0).trans rfl; have hcz59_1 : w57.cell? ⟨gb204, 1, none⟩ = some (.int .i64 t200) := (blk_cell BK204.out 1).trans rfl; have hcz59_2 : w57.cell? ⟨gb204, 2, none⟩ = some (.int .i64 t201) := (blk_cell BK204.out 2).trans rfl; have hcz59_3 : w57.cell? ⟨gb204, 3, none⟩ = some (.int .i64 t202) := (blk_cell BK204.out 3).trans rfl; have hfz59_0 := blk_frozen BK204.out 0; have hfz59_1 := blk_frozen BK204.out 1; have hfz59_2 := blk_frozen BK204.out 2; have hfz59_3 := blk_frozen BK204.out 3; have hcz60_0 : w57.cell? ⟨gb178, 0, none⟩ = some (.int .i64 x179000_3) := (blk_cell BK178.out 0).trans rfl; have hcz60_1 : w57.cell? ⟨gb178, 1, none⟩ = some (.int .i64 x179001_3) := (blk_cell BK178.out 1).trans rfl; have hcz60_2 : w57.cell? ⟨gb178, 2, none⟩ = some (.int .i64 x179002_3) := (blk_cell BK178.out 2).trans rfl; have hcz60_3 : w57.cell? ⟨gb178, 3, none⟩ = some (.int .i64 x179003_3) := (blk_cell BK178.out 3).trans rfl; have hfz60_0 := blk_frozen BK178.out 0; have hfz60_1 := blk_frozen BK178.out 1; have hfz60_2 := blk_frozen BK178.out 2; have hfz60_3 := blk_frozen BK178.out 3))
                              go_meet
                              case rel => exact ⟨_, (x6_3), (x8_3), (t199), (t200), (t201), (t202), (t205), (t206), (by first | rfl | (simp; done) | (simp [*]; done)), (by first | rfl | (simp; done) | (simp [*]; done)), H', ⟨by have := HJ2.out; have := HJ9.out; have := HK3.out; first | omega | exact Nat.le_refl _⟩, ⟨by (with_reducible repeat (first | refine blk_drewN ?_ _ | refine blk_drew ?_ | refine blk_alloc ?_ _)); refine blk_put (cs := #[.int .i64 t199, .int .i64 t200, .int .i64 t201, .int .i64 x179003_3]) ?_ 3 _ rfl; (with_reducible repeat (first | refine blk_drewN ?_ _ | refine blk_drew ?_ | refine blk_alloc ?_ _)); refine blk_put (cs := #[.int .i64 t199, .int .i64 t200, .int .i64 x179002_3, .int .i64 x179003_3]) ?_ 2 _ rfl; (with_reducible repeat (first | refine blk_drewN ?_ _ | refine blk_drew ?_ | refine blk_alloc ?_ _)); refine blk_put (cs := #[.int .i64 t199, .int .i64 x179001_3, .int .i64 x179002_3, .int .i64 x179003_3]) ?_ 1 _ rfl; (with_reducible repeat (first | refine blk_drewN ?_ _ | refine blk_drew ?_ | refine blk_alloc ?_ _)); refine blk_put (cs := #[.int .i64 x179000_3, .int .i64 x179001_3, .int .i64 x179002_3, .int .i64 x179003_3]) ?_ 0 _ rfl; (with_reducible repeat (first | refine blk_drewN ?_ _ | refine blk_drew ?_ | refine blk_alloc ?_ _)); refine blk_far ?_ NB178_182.out _; (with_reducible repeat (first | refine blk_drewN ?_ _ | refine blk_drew ?_ | refine blk_alloc ?_ _)); refine blk_far ?_ NB178_182.out _; (with_reducible repeat (first | refine blk_drewN ?_ _ | refine blk_drew ?_ | refine blk_alloc ?_ _)); exact BK178.out⟩, ⟨by (with_reducible repeat (first | refine blk_drewN ?_ _ | refine blk_drew ?_ | refine blk_alloc ?_ _)); refine blk_far ?_ NB182_178.out _; (with_reducible repeat (first | refine blk_drewN ?_ _ | refine blk_drew ?_ | refine blk_alloc ?_ _)); refine blk_far ?_ NB182_178.out _; (with_reducible repeat (first | refine blk_drewN ?_ _ | refine blk_drew ?_ | refine blk_alloc ?_ _)); refine blk_far ?_ NB182_178.out _; (with_reducible repeat (first | refine blk_drewN ?_ _ | refine blk_drew ?_ | refine blk_alloc ?_ _)); refine blk_far ?_ NB182_178.out _; (with_reducible repeat (first | refine blk_drewN ?_ _ | refine blk_drew ?_ | refine blk_alloc ?_ _)); refine blk_put (cs := #[.int .i64 t205, .int .i64 x183001_3]) ?_ 1 _ rfl; (with_reducible repeat (first | refine blk_drewN ?_ _ | refine blk_drew ?_ | refine blk_alloc ?_ _)); refine blk_put (cs := #[.int .i64 x183000_3, .int .i64 x183001_3]) ?_ 0 _ rfl; (with_reducible repeat (first | refine blk_drewN ?_ _ | refine blk_drew ?_ | refine blk_alloc ?_ _)); exact BK182.out⟩, ⟨by repeat (first | (with_reducible first | exact HB.out | apply below_alloc | apply pw_below_drewN | apply below_drew1 | refine below_set ?_ GE178.out | refine below_set ?_ GE182.out | refine below_set ?_ GE204.out) | exact HB.out)⟩⟩
                            · replace c47 := Bool.eq_false_iff.mpr c47
                              subst c47
                              have H1 : (sumpterlaw26_FlowKeeps.j3 k3 l1 x6_3 x8_3 x9_3 x179001_3 t199 t200 t201 t202 x183000_3 x183001_3) = some r := by rw [if_neg (show ¬ (false = true) by decide)] at H; exact H
                              clear H
                              have H := H1
                              clear H1
                              have H' := Aside0.mk H
                              clear H
                              have hnb61 := NB178_182.out
                              have hnc61 := NB182_178.out
                              have hcz62_0 : wr.cell? ⟨gb178, 0, none⟩ = some (.int .i64 x179000_3) := (blk_cell BK178.out 0).trans rfl
                              have hcz62_1 : wr.cell? ⟨gb178, 1, none⟩ = some (.int .i64 x179001_3) := (blk_cell BK178.out 1).trans rfl
                              have hcz62_2 : wr.cell? ⟨gb178, 2, none⟩ = some (.int .i64 x179002_3) := (blk_cell BK178.out 2).trans rfl
                              have hcz62_3 : wr.cell? ⟨gb178, 3, none⟩ = some (.int .i64 x179003_3) := (blk_cell BK178.out 3).trans rfl
                              have hfz62_0 := blk_frozen BK178.out 0
                              have hfz62_1 := blk_frozen BK178.out 1
                              have hfz62_2 := blk_frozen BK178.out 2
                              have hfz62_3 := blk_frozen BK178.out 3
                              go_wp2_with (first | ((with_reducible refine gate_callee (f := 50) rfl ?_); refine goesL_ (some 64) rfl rfl Try.func50 (by kernel_rfl) rfl #[.agg #[.int .i64 x179000_3, .int .i64 x179001_3, .int .i64 x179002_3, .int .i64 x179003_3]] rfl (by (try simp only [List.map_toArray, List.map_cons, List.map_nil]); first | done | rfl | (simp only [List.length_drop, List.length_take]; rfl)) ?_; (with_reducible refine (flow_Update.calls k3 x179000_3 x179001_3 x179002_3 x179003_3 t199 t200 t201 t202 false _ A46.out).mono ?_); rintro e w63 ⟨rfl, hb⟩; refine ⟨_, rfl, ?_⟩; have n0_ := Aside0.mk (blk_below (g := gb178) (o := .cells #[.int .i64 x179000_3, .int .i64 x179001_3, .int .i64 x179002_3, .int .i64 x179003_3] 74 (0, 0)) (by (with_reducible repeat (first | refine blk_drewN ?_ _ | refine blk_drew ?_ | refine blk_alloc ?_ _)); exact BK178.out) hb); have n1_ := Aside0.mk (blk_below (g := gb182) (o := .cells #[.int .i64 x183000_3, .int .i64 x183001_3] 79 (0, 0)) (by (with_reducible repeat (first | refine blk_drewN ?_ _ | refine blk_drew ?_ | refine blk_alloc ?_ _)); exact BK182.out) hb); have n2_ := Aside0.mk (below_step (by repeat (first | (with_reducible first | exact HB.out | apply below_alloc | apply pw_below_drewN | apply below_drew1 | refine below_set ?_ GE178.out | refine below_set ?_ GE182.out) | exact HB.out)) hb); clear BK178; clear BK182; clear HB; have BK178 := n0_; have BK182 := n1_; have HB := n2_; clear n0_ n1_ n2_; (try clear hb); (try clear hb2); (try clear hk); (try clear hi)) | ((with_reducible refine gate_dst (N := 12) rfl ?_); refine box_event ?hg (N := 12) ?hd (cs := #[.int .i64 0, .int .i64 0, .int .i64 0, .int .i64 0]) (t := 74) ?hr ?_; (case hd => rfl); (case hg => rfl); (case hr => first | (go_simp; done) | (go_simp; rfl)); intro gb204 hg w64 hbox hb; have n0_ := Aside0.mk (blk_below (g := gb178) (o := .cells #[.int .i64 x179000_3, .int .i64 x179001_3, .int .i64 x179002_3, .int .i64 x179003_3] 74 (0, 0)) (by (with_reducible repeat (first | refine blk_drewN ?_ _ | refine blk_drew ?_ | refine blk_alloc ?_ _)); exact BK178.out) hb); have n1_ := Aside0.mk (blk_below (g := gb182) (o := .cells #[.int .i64 x183000_3, .int .i64 x183001_3] 79 (0, 0)) (by (with_reducible repeat (first | refine blk_drewN ?_ _ | refine blk_drew ?_ | refine blk_alloc ?_ _)); exact BK182.out) hb); have n2_ := Aside0.mk (below_step (by repeat (first | (with_reducible first | exact HB.out | apply below_alloc | apply pw_below_drewN | apply below_drew1 | refine below_set ?_ GE178.out | refine below_set ?_ GE182.out) | exact HB.out)) hb); have n3_ := Aside0.mk (hbox); have n4_ := Aside0.mk ((by rw [hg]; exact (below_size (by repeat (first | (with_reducible first | exact HB.out | apply below_alloc | apply pw_below_drewN | apply below_drew1 | refine below_set ?_ GE178.out | refine below_set ?_ GE182.out) | exact HB.out))) : w.heap.size ≤ gb204)); have n5_ := Aside0.mk ((by rw [hg]; exact (below_size (by repeat (first | (with_reducible first | exact HB.out | apply below_alloc | apply pw_below_drewN | apply below_drew1 | refine below_set ?_ GE178.out | refine below_set ?_ GE182.out) | exact HB.out))) : w.heap.size ≤ gb204)); have n6_ := Aside0.mk ((by rw [hg]; exact Nat.ne_of_lt (blk_lt (g := gb178) (o := .cells #[.int .i64 x179000_3, .int .i64 x179001_3, .int .i64 x179002_3, .int .i64 x179003_3] 74 (0, 0)) (by (with_reducible repeat (first | refine blk_drewN ?_ _ | refine blk_drew ?_ | refine blk_alloc ?_ _)); exact BK178.out)) : gb178 ≠ gb204)); have n7_ := Aside0.mk ((by rw [hg]; exact Nat.ne_of_gt (blk_lt (g := gb178) (o := .cells #[.int .i64 x179000_3, .int .i64 x179001_3, .int .i64 x179002_3, .int .i64 x179003_3] 74 (0, 0)) (by (with_reducible repeat (first | refine blk_drewN ?_ _ | refine blk_drew ?_ | refine blk_alloc ?_ _)); exact BK178.out)) : gb204 ≠ gb178)); have n8_ := Aside0.mk ((by rw [hg]; exact Nat.ne_of_lt (blk_lt (g := gb182) (o := .cells #[.int .i64 x183000_3, .int .i64 x183001_3] 79 (0, 0)) (by (with_reducible repeat (first | refine blk_drewN ?_ _ | refine blk_drew ?_ | refine blk_alloc ?_ _)); exact BK182.out)) : gb182 ≠ gb204)); have n9_ := Aside0.mk ((by rw [hg]; exact Nat.ne_of_gt (blk_lt (g := gb182) (o := .cells #[.int .i64 x183000_3, .int .i64 x183001_3] 79 (0, 0)) (by (with_reducible repeat (first | refine blk_drewN ?_ _ | refine blk_drew ?_ | refine blk_alloc ?_ _)); exact BK182.out)) : gb204 ≠ gb182)); clear BK178; clear BK182; clear HB; have BK178 := n0_; have BK182 := n1_; have HB := n2_; have BK204 := n3_; have GW204 := n4_; have GE204 := n5_; have NB178_204 := n6_; have NB204_178 := n7_; have NB182_204 := n8_; have NB204_182 := n9_; clear n0_ n1_ n2_ n3_ n4_ n5_ n6_ n7_ n8_ n9_; clear hb hbox hg; have hnb65 := NB204_178.out; have hnc65 := NB178_204.out; have hnb66 := NB204_182.out; have hnc66 := NB182_204.out; have hcz67_0 : w64.cell? ⟨gb204, 0, none⟩ = some (.int .i64 0) := (blk_cell BK204.out 0).trans rfl; have hcz67_1 : w64.cell? ⟨gb204, 1, none⟩ = some (.int .i64 0) := (blk_cell BK204.out 1).trans rfl; have hcz67_2 : w64.cell? ⟨gb204, 2, none⟩ = some (.int .i64 0) := (blk_cell BK204.out 2).trans rfl; have hcz67_3 : w64.cell? ⟨gb204, 3, none⟩ = some (.int .i64 0) := (blk_cell BK204.out 3).trans rfl; have hfz67_0 := blk_frozen BK204.out 0; have hfz67_1 := blk_frozen BK204.out 1; have hfz67_2 := blk_frozen BK204.out 2; have hfz67_3 := blk_frozen BK204.out 3; have hcz68_0 : w64.cell? ⟨gb178, 0, none⟩ = some (.int .i64 x179000_3) := (blk_cell BK178.out 0).trans rfl; have hcz68_1 : w64.cell? ⟨gb178, 1, none⟩ = some (.int .i64 x179001_3) := (blk_cell BK178.out 1).trans rfl; have hcz68_2 : w64.cell? ⟨gb178, 2, none⟩ = some (.int .i64 x179002_3) := (blk_cell BK178.out 2).trans rfl; have hcz68_3 : w64.cell? ⟨gb178, 3, none⟩ = some (.int .i64 x179003_3) := (blk_cell BK178.out 3).trans rfl; have hfz68_0 := blk_frozen BK178.out 0; have hfz68_1 := blk_frozen BK178.out 1; have hfz68_2 := blk_frozen BK178.out 2; have hfz68_3 := blk_frozen BK178.out 3))
                              go_meet
                              case rel => exact ⟨_, (x6_3), (x8_3), (t199), (t200), (t201), (t202), (x183000_3), (x183001_3), (by first | rfl | (simp; done) | (simp [*]; done)), (by first | rfl | (simp; done) | (simp [*]; done)), H', ⟨by have := HJ2.out; have := HJ9.out; have := HK3.out; first | omega | exact Nat.le_refl _⟩, ⟨by (with_reducible repeat (first | refine blk_drewN ?_ _ | refine blk_drew ?_ | refine blk_alloc ?_ _)); refine blk_put (cs := #[.int .i64 t199, .int .i64 t200, .int .i64 t201, .int .i64 x179003_3]) ?_ 3 _ rfl; (with_reducible repeat (first | refine blk_drewN ?_ _ | refine blk_drew ?_ | refine blk_alloc ?_ _)); refine blk_put (cs := #[.int .i64 t199, .int .i64 t200, .int .i64 x179002_3, .int .i64 x179003_3]) ?_ 2 _ rfl; (with_reducible repeat (first | refine blk_drewN ?_ _ | refine blk_drew ?_ | refine blk_alloc ?_ _)); refine blk_put (cs := #[.int .i64 t199, .int .i64 x179001_3, .int .i64 x179002_3, .int .i64 x179003_3]) ?_ 1 _ rfl; (with_reducible repeat (first | refine blk_drewN ?_ _ | refine blk_drew ?_ | refine blk_alloc ?_ _)); refine blk_put (cs := #[.int .i64 x179000_3, .int .i64 x179001_3, .int .i64 x179002_3, .int .i64 x179003_3]) ?_ 0 _ rfl; (with_reducible repeat (first | refine blk_drewN ?_ _ | refine blk_drew ?_ | refine blk_alloc ?_ _)); refine blk_far ?_ NB178_204.out _; (with_reducible repeat (first | refine blk_drewN ?_ _ | refine blk_drew ?_ | refine blk_alloc ?_ _)); refine blk_far ?_ NB178_204.out _; (with_reducible repeat (first | refine blk_drewN ?_ _ | refine blk_drew ?_ | refine blk_alloc ?_ _)); refine blk_far ?_ NB178_204.out _; (with_reducible repeat (first | refine blk_drewN ?_ _ | refine blk_drew ?_ | refine blk_alloc ?_ _)); refine blk_far ?_ NB178_204.out _; (with_reducible repeat (first | refine blk_drewN ?_ _ | refine blk_drew ?_ | refine blk_alloc ?_ _)); exact BK178.out⟩, ⟨by (with_reducible repeat (first | refine blk_drewN ?_ _ | refine blk_drew ?_ | refine blk_alloc ?_ _)); refine blk_far ?_ NB182_178.out _; (with_reducible repeat (first | refine blk_drewN ?_ _ | refine blk_drew ?_ | refine blk_alloc ?_ _)); refine blk_far ?_ NB182_178.out _; (with_reducible repeat (first | refine blk_drewN ?_ _ | refine blk_drew ?_ | refine blk_alloc ?_ _)); refine blk_far ?_ NB182_178.out _; (with_reducible repeat (first | refine blk_drewN ?_ _ | refine blk_drew ?_ | refine blk_alloc ?_ _)); refine blk_far ?_ NB182_178.out _; (with_reducible repeat (first | refine blk_drewN ?_ _ | refine blk_drew ?_ | refine blk_alloc ?_ _)); refine blk_far ?_ NB182_204.out _; (with_reducible repeat (first | refine blk_drewN ?_ _ | refine blk_drew ?_ | refine blk_alloc ?_ _)); refine blk_far ?_ NB182_204.out _; (with_reducible repeat (first | refine blk_drewN ?_ _ | refine blk_drew ?_ | refine blk_alloc ?_ _)); refine blk_far ?_ NB182_204.out _; (with_reducible repeat (first | refine blk_drewN ?_ _ | refine blk_drew ?_ | refine blk_alloc ?_ _)); refine blk_far ?_ NB182_204.out _; (with_reducible repeat (first | refine blk_drewN ?_ _ | refine blk_drew ?_ | refine blk_alloc ?_ _)); exact BK182.out⟩, ⟨by repeat (first | (with_reducible first | exact HB.out | apply below_alloc | apply pw_below_drewN | apply below_drew1 | refine below_set ?_ GE178.out | refine below_set ?_ GE182.out | refine below_set ?_ GE204.out) | exact HB.out)⟩⟩
                      case rest =>
                        clear HC22
                        try clear c1
                        try clear p1
                        try clear q1
                        try clear hx1
                        try clear c2
                        try clear p2
                        try clear c3
                        try clear c4
                        try clear c4b0
                        try clear c4b1
                        try clear c5
                        try clear c6
                        try clear p6
                        try clear c14
                        try clear c16
                        try clear c18
                        try clear c18b0
                        try clear c18b1
                        try clear p18
                        try clear q18
                        try clear hx18
                        try clear c19
                        try clear c20
                        try clear c20b0
                        try clear c21
                        try clear c21b0
                        try clear c23
                        try clear c25
                        try clear c25b0
                        try clear c25b1
                        try clear c30
                        try clear c39
                        try clear c39b0
                        try clear c39b1
                        try clear c42
                        try clear c43
                        try clear c44
                        try clear c45
                        try clear c46
                        try clear c47
                        try clear c48
                        try clear c49
                        try clear c50
                        try clear c51
                        try clear c53
                        try clear c54
                        try clear c61
                        try clear p64
                        try clear c65
                        try clear c66
                        try clear hcz13_0
                        try clear hcz13_1
                        try clear hcz13_2
                        try clear hcz13_3
                        try clear hcz17_0
                        try clear hcz17_1
                        try clear hcz24_0
                        try clear hcz24_1
                        try clear hcz24_2
                        try clear hcz24_3
                        try clear hcz31_0
                        try clear hcz31_1
                        try clear hcz33_0
                        try clear hcz33_1
                        try clear hcz35_0
                        try clear hcz35_1
                        try clear hcz36_0
                        try clear hcz36_1
                        try clear hcz36_2
                        try clear hcz36_3
                        try clear hcz38_0
                        try clear hcz38_1
                        try clear hcz38_2
                        try clear hcz38_3
                        try clear hcz43_0
                        try clear hcz43_1
                        try clear hcz43_2
                        try clear hcz43_3
                        try clear hcz45_0
                        try clear hcz45_1
                        try clear hcz45_2
                        try clear hcz45_3
                        try clear hcz50_0
                        try clear hcz50_1
                        try clear hcz50_2
                        try clear hcz50_3
                        try clear hcz55_0
                        try clear hcz55_1
                        try clear hcz55_2
                        try clear hcz55_3
                        try clear hcz56_0
                        try clear hcz56_1
                        try clear hcz58_0
                        try clear hcz58_1
                        try clear hcz59_0
                        try clear hcz59_1
                        try clear hcz59_2
                        try clear hcz59_3
                        try clear hcz60_0
                        try clear hcz60_1
                        try clear hcz60_2
                        try clear hcz60_3
                        try clear hcz62_0
                        try clear hcz62_1
                        try clear hcz62_2
                        try clear hcz62_3
                        try clear hcz67_0
                        try clear hcz67_1
                        try clear hcz67_2
                        try clear hcz67_3
                        try clear hcz68_0
                        try clear hcz68_1
                        try clear hcz68_2
                        try clear hcz68_3
                        try clear hfz13_0
                        try clear hfz13_1
                        try clear hfz13_2
                        try clear hfz13_3
                        try clear hfz17_0
                        try clear hfz17_1
                        try clear hfz24_0
                        try clear hfz24_1
                        try clear hfz24_2
                        try clear hfz24_3
                        try clear hfz31_0
                        try clear hfz31_1
                        try clear hfz33_0
                        try clear hfz33_1
                        try clear hfz35_0
                        try clear hfz35_1
                        try clear hfz36_0
                        try clear hfz36_1
                        try clear hfz36_2
                        try clear hfz36_3
                        try clear hfz38_0
                        try clear hfz38_1
                        try clear hfz38_2
                        try clear hfz38_3
                        try clear hfz43_0
                        try clear hfz43_1
                        try clear hfz43_2
                        try clear hfz43_3
                        try clear hfz45_0
                        try clear hfz45_1
                        try clear hfz45_2
                        try clear hfz45_3
                        try clear hfz50_0
                        try clear hfz50_1
                        try clear hfz50_2
                        try clear hfz50_3
                        try clear hfz55_0
                        try clear hfz55_1
                        try clear hfz55_2
                        try clear hfz55_3
                        try clear hfz56_0
                        try clear hfz56_1
                        try clear hfz58_0
                        try clear hfz58_1
                        try clear hfz59_0
                        try clear hfz59_1
                        try clear hfz59_2
                        try clear hfz59_3
                        try clear hfz60_0
                        try clear hfz60_1
                        try clear hfz60_2
                        try clear hfz60_3
                        try clear hfz62_0
                        try clear hfz62_1
                        try clear hfz62_2
                        try clear hfz62_3
                        try clear hfz67_0
                        try clear hfz67_1
                        try clear hfz67_2
                        try clear hfz67_3
                        try clear hfz68_0
                        try clear hfz68_1
                        try clear hfz68_2
                        try clear hfz68_3
                        try clear hx183_0
                        try clear hx183_1
                        try clear hx184_0
                        try clear hx184_1
                        try clear p183
                        try clear p184
                        try clear p2
                        try clear p6
                        try clear q183
                        try clear q184
                        obtain ⟨kq, x6_21, x8_21, x179000_21, x179001_21, x179002_21, x179003_21, x183000_21, x183001_21, rfl, rfl, HA, HJ21, BK178, BK182, HB⟩ := hcut
                        cases kq with
                        | zero => exact absurd HA.out (by simp [sumpterlaw26_FlowKeeps.j3])
                        | succ kj21 =>
                          have H := HA.out
                          clear HA
                          simp only [sumpterlaw26_FlowKeeps.j3] at H
                          by_cases c69 : x6_21 = 0
                          · rw [if_pos c69] at H
                            have c69b0 : (x6_21 == 0) = true := beq_iff_eq.mpr c69
                            have c69b1 : (x6_21 != 0) = false := bne_eq_false_iff_eq.mpr c69
                            clear c69
                            by_cases c70 : x8_21 = 0
                            · rw [if_pos c70] at H
                              have c70b0 : (x8_21 == 0) = true := beq_iff_eq.mpr c70
                              have c70b1 : (x8_21 != 0) = false := bne_eq_false_iff_eq.mpr c70
                              clear c70
                              by_cases c71 : x179001_21 < x179001_3
                              · rw [if_pos c71] at H
                                exact absurd H (by simp)
                              · rw [if_neg c71] at H
                                have c71b0 : decide (x179001_21 < x179001_3) = false := decide_eq_false c71
                                clear c71
                                by_cases c72 : x183000_21 > x179001_21
                                · rw [if_pos c72] at H
                                  exact absurd H (by simp)
                                · rw [if_neg c72] at H
                                  have c72b0 : decide (x179001_21 < x183000_21) = false := decide_eq_false c72
                                  clear c72
                                  by_cases c73 : x183001_21 = x179002_21
                                  · rw [if_pos c73] at H
                                    have c73b0 : (x183001_21 == x179002_21) = true := beq_iff_eq.mpr c73
                                    have c73b1 : (x183001_21 != x179002_21) = false := bne_eq_false_iff_eq.mpr c73
                                    clear c73
                                    replace H := Option.bind_eq_some_iff.mp H
                                    obtain ⟨t208, A740, H⟩ := H
                                    replace H : (if t208 = true then ((flow_CheckUse.f kj21 x183000_21 x183001_21).bind fun t209 => (if t209 = true then (sumpterlaw26_FlowKeeps.l0 kj21 l1 x6_21 x8_21 (wrap64 (x9_3 + 1)) x179000_21 x179001_21 x179002_21 x179003_21 x183000_21 x183001_21) else (none))) else (none)) = some r := H
                                    have A74 := Aside0.mk A740
                                    clear A740
                                    by_cases c75 : t208 = true
                                    · subst c75
                                      have H1 : ((flow_CheckUse.f kj21 x183000_21 x183001_21).bind fun t209 => (if t209 = true then (sumpterlaw26_FlowKeeps.l0 kj21 l1 x6_21 x8_21 (wrap64 (x9_3 + 1)) x179000_21 x179001_21 x179002_21 x179003_21 x183000_21 x183001_21) else (none))) = some r := by rw [if_pos rfl] at H; exact H
                                      clear H
                                      have H := H1
                                      clear H1
                                      replace H := Option.bind_eq_some_iff.mp H
                                      obtain ⟨t209, A760, H⟩ := H
                                      replace H : (if t209 = true then (sumpterlaw26_FlowKeeps.l0 kj21 l1 x6_21 x8_21 (wrap64 (x9_3 + 1)) x179000_21 x179001_21 x179002_21 x179003_21 x183000_21 x183001_21) else (none)) = some r := H
                                      have A76 := Aside0.mk A760
                                      clear A760
                                      by_cases c77 : t209 = true
                                      · subst c77
                                        have H1 : (sumpterlaw26_FlowKeeps.l0 kj21 l1 x6_21 x8_21 (wrap64 (x9_3 + 1)) x179000_21 x179001_21 x179002_21 x179003_21 x183000_21 x183001_21) = some r := by rw [if_pos rfl] at H; exact H
                                        clear H
                                        have H := H1
                                        clear H1
                                        have H' := Aside0.mk H
                                        clear H
                                        have hnb78 := NB178_182.out
                                        have hnc78 := NB182_178.out
                                        have hcz79_0 : wc.cell? ⟨gb178, 0, none⟩ = some (.int .i64 x179000_21) := (blk_cell BK178.out 0).trans rfl
                                        have hcz79_1 : wc.cell? ⟨gb178, 1, none⟩ = some (.int .i64 x179001_21) := (blk_cell BK178.out 1).trans rfl
                                        have hcz79_2 : wc.cell? ⟨gb178, 2, none⟩ = some (.int .i64 x179002_21) := (blk_cell BK178.out 2).trans rfl
                                        have hcz79_3 : wc.cell? ⟨gb178, 3, none⟩ = some (.int .i64 x179003_21) := (blk_cell BK178.out 3).trans rfl
                                        have hfz79_0 := blk_frozen BK178.out 0
                                        have hfz79_1 := blk_frozen BK178.out 1
                                        have hfz79_2 := blk_frozen BK178.out 2
                                        have hfz79_3 := blk_frozen BK178.out 3
                                        have hcz80_0 : wc.cell? ⟨gb182, 0, none⟩ = some (.int .i64 x183000_21) := (blk_cell BK182.out 0).trans rfl
                                        have hcz80_1 : wc.cell? ⟨gb182, 1, none⟩ = some (.int .i64 x183001_21) := (blk_cell BK182.out 1).trans rfl
                                        have hfz80_0 := blk_frozen BK182.out 0
                                        have hfz80_1 := blk_frozen BK182.out 1
                                        go_wp2_with (first | (go_at_call 52; (with_reducible refine (flow_CheckGive.calls kj21 x179000_21 x179001_21 x179002_21 x179003_21 true _ A74.out).mono ?_); rintro e w81 ⟨rfl, hb⟩; have n0_ := Aside0.mk (blk_below (g := gb178) (o := .cells #[.int .i64 x179000_21, .int .i64 x179001_21, .int .i64 x179002_21, .int .i64 x179003_21] 74 (0, 0)) (by (with_reducible repeat (first | refine blk_drewN ?_ _ | refine blk_drew ?_ | refine blk_alloc ?_ _)); exact BK178.out) hb); have n1_ := Aside0.mk (blk_below (g := gb182) (o := .cells #[.int .i64 x183000_21, .int .i64 x183001_21] 79 (0, 0)) (by (with_reducible repeat (first | refine blk_drewN ?_ _ | refine blk_drew ?_ | refine blk_alloc ?_ _)); exact BK182.out) hb); have n2_ := Aside0.mk (below_step (by repeat (first | (with_reducible first | exact HB.out | apply below_alloc | apply pw_below_drewN | apply below_drew1 | refine below_set ?_ GE178.out | refine below_set ?_ GE182.out) | exact HB.out)) hb); clear BK178; clear BK182; clear HB; have BK178 := n0_; have BK182 := n1_; have HB := n2_; clear n0_ n1_ n2_; (try clear hb); (try clear hb2); (try clear hk); (try clear hi); have hcz82_0 : w81.cell? ⟨gb182, 0, none⟩ = some (.int .i64 x183000_21) := (blk_cell BK182.out 0).trans rfl; have hcz82_1 : w81.cell? ⟨gb182, 1, none⟩ = some (.int .i64 x183001_21) := (blk_cell BK182.out 1).trans rfl; have hfz82_0 := blk_frozen BK182.out 0; have hfz82_1 := blk_frozen BK182.out 1) | (go_at_call 53; (with_reducible refine (flow_CheckUse.calls kj21 x183000_21 x183001_21 true _ A76.out).mono ?_); rintro e w83 ⟨rfl, hb⟩; have n0_ := Aside0.mk (blk_below (g := gb178) (o := .cells #[.int .i64 x179000_21, .int .i64 x179001_21, .int .i64 x179002_21, .int .i64 x179003_21] 74 (0, 0)) (by (with_reducible repeat (first | refine blk_drewN ?_ _ | refine blk_drew ?_ | refine blk_alloc ?_ _)); exact BK178.out) hb); have n1_ := Aside0.mk (blk_below (g := gb182) (o := .cells #[.int .i64 x183000_21, .int .i64 x183001_21] 79 (0, 0)) (by (with_reducible repeat (first | refine blk_drewN ?_ _ | refine blk_drew ?_ | refine blk_alloc ?_ _)); exact BK182.out) hb); have n2_ := Aside0.mk (below_step (by repeat (first | (with_reducible first | exact HB.out | apply below_alloc | apply pw_below_drewN | apply below_drew1 | refine below_set ?_ GE178.out | refine below_set ?_ GE182.out) | exact HB.out)) hb); clear BK178; clear BK182; clear HB; have BK178 := n0_; have BK182 := n1_; have HB := n2_; clear n0_ n1_ n2_; (try clear hb); (try clear hb2); (try clear hk); (try clear hi)))
                                        go_roundg kj21
                                        case measure => have := HJ2.out; have := HJ9.out; have := HK3.out; have := HJ21.out; omega
                                        case rel => exact ⟨(x6_21), (x8_21), (wrap64 (x9_3 + 1)), (x179000_21), (x179001_21), (x179002_21), (x179003_21), (x183000_21), (x183001_21), (by first | rfl | (simp; done) | (simp [*]; done)), (by first | rfl | (simp; done) | (simp [*]; done)), (by first | rfl | (simp; done) | (simp [*]; done)), H', ⟨by have := HJ2.out; have := HJ9.out; have := HK3.out; have := HJ21.out; omega⟩, ⟨by (with_reducible repeat (first | refine blk_drewN ?_ _ | refine blk_drew ?_ | refine blk_alloc ?_ _)); exact BK178.out⟩, ⟨by (with_reducible repeat (first | refine blk_drewN ?_ _ | refine blk_drew ?_ | refine blk_alloc ?_ _)); exact BK182.out⟩, ⟨by repeat (first | (with_reducible first | exact HB.out | apply below_alloc | apply pw_below_drewN | apply below_drew1 | refine below_set ?_ GE178.out | refine below_set ?_ GE182.out) | exact HB.out)⟩⟩
                                      · replace c77 := Bool.eq_false_iff.mpr c77
                                        subst c77
                                        have H1 : (none) = some r := by rw [if_neg (show ¬ (false = true) by decide)] at H; exact H
                                        clear H
                                        have H := H1
                                        clear H1
                                        exact absurd H (by simp)
                                    · replace c75 := Bool.eq_false_iff.mpr c75
                                      subst c75
                                      have H1 : (none) = some r := by rw [if_neg (show ¬ (false = true) by decide)] at H; exact H
                                      clear H
                                      have H := H1
                                      clear H1
                                      exact absurd H (by simp)
                                  · rw [if_neg c73] at H
                                    exact absurd H (by simp)
                            · rw [if_neg c70] at H
                              exact absurd H (by simp)
                          · rw [if_neg c69] at H
                            exact absurd H (by simp)
                    · rw [if_neg c21] at H
                      exact absurd H (by simp)
                  · rw [if_neg c20] at H
                    have c20b0 : decide (x9_3 < (l1.length : Int)) = false := decide_eq_false c20
                    clear c20
                    replace H := Option.bind_eq_some_iff.mp H
                    obtain ⟨⟨t210, t211, t212, t213, t214⟩, A840, H⟩ := H
                    replace H : ((flow_Update.f k3 t210 t211 t212 t213).bind fun bt215 => (if bt215.2.2.2.2 = true then ((flow_Raise.f x183000_3 x183001_3 bt215.2.1).bind fun bt221 => ((flow_Left.f k3 bt221.1 bt221.2.1).bind fun t224 => (if t224 > 0 then ((sumpterlaw26_awake.f k3).bind fun t225 => (some t225)) else (if bt221.1 < t211 then ((sumpterlaw26_awake.f k3).bind fun t226 => (some t226)) else (none))))) else ((flow_Left.f k3 x183000_3 x183001_3).bind fun t227 => (if t227 > 0 then ((sumpterlaw26_awake.f k3).bind fun t228 => (some t228)) else (if x183000_3 < t211 then ((sumpterlaw26_awake.f k3).bind fun t229 => (some t229)) else (none)))))) = some r := H
                    have A84 := Aside0.mk A840
                    clear A840
                    replace H := Option.bind_eq_some_iff.mp H
                    obtain ⟨⟨t215, t216, t217, t218, t219⟩, A850, H⟩ := H
                    replace H : (if t219 = true then ((flow_Raise.f x183000_3 x183001_3 t216).bind fun bt221 => ((flow_Left.f k3 bt221.1 bt221.2.1).bind fun t224 => (if t224 > 0 then ((sumpterlaw26_awake.f k3).bind fun t225 => (some t225)) else (if bt221.1 < t211 then ((sumpterlaw26_awake.f k3).bind fun t226 => (some t226)) else (none))))) else ((flow_Left.f k3 x183000_3 x183001_3).bind fun t227 => (if t227 > 0 then ((sumpterlaw26_awake.f k3).bind fun t228 => (some t228)) else (if x183000_3 < t211 then ((sumpterlaw26_awake.f k3).bind fun t229 => (some t229)) else (none))))) = some r := H
                    have A85 := Aside0.mk A850
                    clear A850
                    by_cases c86 : t219 = true
                    · subst c86
                      have H1 : ((flow_Raise.f x183000_3 x183001_3 t216).bind fun bt221 => ((flow_Left.f k3 bt221.1 bt221.2.1).bind fun t224 => (if t224 > 0 then ((sumpterlaw26_awake.f k3).bind fun t225 => (some t225)) else (if bt221.1 < t211 then ((sumpterlaw26_awake.f k3).bind fun t226 => (some t226)) else (none))))) = some r := by rw [if_pos rfl] at H; exact H
                      clear H
                      have H := H1
                      clear H1
                      replace H := Option.bind_eq_some_iff.mp H
                      obtain ⟨⟨t221, t222, t223⟩, A870, H⟩ := H
                      replace H : ((flow_Left.f k3 t221 t222).bind fun t224 => (if t224 > 0 then ((sumpterlaw26_awake.f k3).bind fun t225 => (some t225)) else (if t221 < t211 then ((sumpterlaw26_awake.f k3).bind fun t226 => (some t226)) else (none)))) = some r := H
                      have A87 := Aside0.mk A870
                      clear A870
                      replace H := Option.bind_eq_some_iff.mp H
                      obtain ⟨t224, A880, H⟩ := H
                      replace H : (if t224 > 0 then ((sumpterlaw26_awake.f k3).bind fun t225 => (some t225)) else (if t221 < t211 then ((sumpterlaw26_awake.f k3).bind fun t226 => (some t226)) else (none))) = some r := H
                      have A88 := Aside0.mk A880
                      clear A880
                      by_cases c89 : t224 > 0
                      · rw [if_pos c89] at H
                        have c89b0 : decide (0 < t224) = true := decide_eq_true c89
                        clear c89
                        replace H := Option.bind_eq_some_iff.mp H
                        obtain ⟨t225, A900, H⟩ := H
                        replace H : (some t225) = some r := H
                        have A90 := Aside0.mk A900
                        clear A900
                        obtain rfl := Option.some.inj H
                        have hnb91 := NB178_182.out
                        have hnc91 := NB182_178.out
                        have hcz92_0 : wr.cell? ⟨gb178, 0, none⟩ = some (.int .i64 x179000_3) := (blk_cell BK178.out 0).trans rfl
                        have hcz92_1 : wr.cell? ⟨gb178, 1, none⟩ = some (.int .i64 x179001_3) := (blk_cell BK178.out 1).trans rfl
                        have hcz92_2 : wr.cell? ⟨gb178, 2, none⟩ = some (.int .i64 x179002_3) := (blk_cell BK178.out 2).trans rfl
                        have hcz92_3 : wr.cell? ⟨gb178, 3, none⟩ = some (.int .i64 x179003_3) := (blk_cell BK178.out 3).trans rfl
                        have hfz92_0 := blk_frozen BK178.out 0
                        have hfz92_1 := blk_frozen BK178.out 1
                        have hfz92_2 := blk_frozen BK178.out 2
                        have hfz92_3 := blk_frozen BK178.out 3
                        go_wp2_with (first | ((with_reducible refine gate_callee (f := 49) rfl ?_); refine goesL_ (some 151) rfl rfl Try.func49 (by kernel_rfl) rfl #[.agg #[.int .i64 x179000_3, .int .i64 x179001_3, .int .i64 x179002_3, .int .i64 x179003_3], .int .i64 (wrap64 (x179002_3 - x179003_3))] rfl (by (try simp only [List.map_toArray, List.map_cons, List.map_nil]); first | done | rfl | (simp only [List.length_drop, List.length_take]; rfl)) ?_; (with_reducible refine (flow_Consume.calls k3 x179000_3 x179001_3 x179002_3 x179003_3 (wrap64 (x179002_3 - x179003_3)) t210 t211 t212 t213 t214 _ A84.out).mono ?_); rintro e w93 ⟨rfl, hb⟩; refine ⟨_, rfl, ?_⟩; have n0_ := Aside0.mk (blk_below (g := gb178) (o := .cells #[.int .i64 x179000_3, .int .i64 x179001_3, .int .i64 x179002_3, .int .i64 x179003_3] 74 (0, 0)) (by (with_reducible repeat (first | refine blk_drewN ?_ _ | refine blk_drew ?_ | refine blk_alloc ?_ _)); exact BK178.out) hb); have n1_ := Aside0.mk (blk_below (g := gb182) (o := .cells #[.int .i64 x183000_3, .int .i64 x183001_3] 79 (0, 0)) (by (with_reducible repeat (first | refine blk_drewN ?_ _ | refine blk_drew ?_ | refine blk_alloc ?_ _)); exact BK182.out) hb); have n2_ := Aside0.mk (below_step (by repeat (first | (with_reducible first | exact HB.out | apply below_alloc | apply pw_below_drewN | apply below_drew1 | refine below_set ?_ GE178.out | refine below_set ?_ GE182.out) | exact HB.out)) hb); clear BK178; clear BK182; clear HB; have BK178 := n0_; have BK182 := n1_; have HB := n2_; clear n0_ n1_ n2_; (try clear hb); (try clear hb2); (try clear hk); (try clear hi); have hcz94_0 : w93.cell? ⟨gb178, 0, none⟩ = some (.int .i64 x179000_3) := (blk_cell BK178.out 0).trans rfl; have hcz94_1 : w93.cell? ⟨gb178, 1, none⟩ = some (.int .i64 x179001_3) := (blk_cell BK178.out 1).trans rfl; have hcz94_2 : w93.cell? ⟨gb178, 2, none⟩ = some (.int .i64 x179002_3) := (blk_cell BK178.out 2).trans rfl; have hcz94_3 : w93.cell? ⟨gb178, 3, none⟩ = some (.int .i64 x179003_3) := (blk_cell BK178.out 3).trans rfl; have hfz94_0 := blk_frozen BK178.out 0; have hfz94_1 := blk_frozen BK178.out 1; have hfz94_2 := blk_frozen BK178.out 2; have hfz94_3 := blk_frozen BK178.out 3) | ((with_reducible refine gate_callee (f := 50) rfl ?_); refine goesL_ (some 156) rfl rfl Try.func50 (by kernel_rfl) rfl #[.agg #[.int .i64 t210, .int .i64 t211, .int .i64 t212, .int .i64 t213]] rfl (by (try simp only [List.map_toArray, List.map_cons, List.map_nil]); first | done | rfl | (simp only [List.length_drop, List.length_take]; rfl)) ?_; (with_reducible refine (flow_Update.calls k3 t210 t211 t212 t213 t215 t216 t217 t218 true _ A85.out).mono ?_); rintro e w95 ⟨rfl, hb⟩; refine ⟨_, rfl, ?_⟩; have n0_ := Aside0.mk (blk_below (g := gb178) (o := .cells #[.int .i64 t210, .int .i64 t211, .int .i64 t212, .int .i64 t213] 74 (0, 0)) (by (with_reducible repeat (first | refine blk_drewN ?_ _ | refine blk_drew ?_ | refine blk_alloc ?_ _)); refine blk_put (cs := #[.int .i64 t210, .int .i64 t211, .int .i64 t212, .int .i64 x179003_3]) ?_ 3 _ rfl; (with_reducible repeat (first | refine blk_drewN ?_ _ | refine blk_drew ?_ | refine blk_alloc ?_ _)); refine blk_put (cs := #[.int .i64 t210, .int .i64 t211, .int .i64 x179002_3, .int .i64 x179003_3]) ?_ 2 _ rfl; (with_reducible repeat (first | refine blk_drewN ?_ _ | refine blk_drew ?_ | refine blk_alloc ?_ _)); refine blk_put (cs := #[.int .i64 t210, .int .i64 x179001_3, .int .i64 x179002_3, .int .i64 x179003_3]) ?_ 1 _ rfl; (with_reducible repeat (first | refine blk_drewN ?_ _ | refine blk_drew ?_ | refine blk_alloc ?_ _)); refine blk_put (cs := #[.int .i64 x179000_3, .int .i64 x179001_3, .int .i64 x179002_3, .int .i64 x179003_3]) ?_ 0 _ rfl; (with_reducible repeat (first | refine blk_drewN ?_ _ | refine blk_drew ?_ | refine blk_alloc ?_ _)); exact BK178.out) hb); have n1_ := Aside0.mk (blk_below (g := gb182) (o := .cells #[.int .i64 x183000_3, .int .i64 x183001_3] 79 (0, 0)) (by (with_reducible repeat (first | refine blk_drewN ?_ _ | refine blk_drew ?_ | refine blk_alloc ?_ _)); refine blk_far ?_ NB182_178.out _; (with_reducible repeat (first | refine blk_drewN ?_ _ | refine blk_drew ?_ | refine blk_alloc ?_ _)); refine blk_far ?_ NB182_178.out _; (with_reducible repeat (first | refine blk_drewN ?_ _ | refine blk_drew ?_ | refine blk_alloc ?_ _)); refine blk_far ?_ NB182_178.out _; (with_reducible repeat (first | refine blk_drewN ?_ _ | refine blk_drew ?_ | refine blk_alloc ?_ _)); refine blk_far ?_ NB182_178.out _; (with_reducible repeat (first | refine blk_drewN ?_ _ | refine blk_drew ?_ | refine blk_alloc ?_ _)); exact BK182.out) hb); have n2_ := Aside0.mk (below_step (by repeat (first | (with_reducible first | exact HB.out | apply below_alloc | apply pw_below_drewN | apply below_drew1 | refine below_set ?_ GE178.out | refine below_set ?_ GE182.out) | exact HB.out)) hb); clear BK178; clear BK182; clear HB; have BK178 := n0_; have BK182 := n1_; have HB := n2_; clear n0_ n1_ n2_; (try clear hb); (try clear hb2); (try clear hk); (try clear hi)) | ((with_reducible refine gate_dst (N := 14) rfl ?_); refine box_event ?hg (N := 14) ?hd (cs := #[.int .i64 0, .int .i64 0, .int .i64 0, .int .i64 0]) (t := 74) ?hr ?_; (case hd => rfl); (case hg => rfl); (case hr => first | (go_simp; done) | (go_simp; rfl)); intro gb220 hg w96 hbox hb; have n0_ := Aside0.mk (blk_below (g := gb178) (o := .cells #[.int .i64 t210, .int .i64 t211, .int .i64 t212, .int .i64 t213] 74 (0, 0)) (by (with_reducible repeat (first | refine blk_drewN ?_ _ | refine blk_drew ?_ | refine blk_alloc ?_ _)); exact BK178.out) hb); have n1_ := Aside0.mk (blk_below (g := gb182) (o := .cells #[.int .i64 x183000_3, .int .i64 x183001_3] 79 (0, 0)) (by (with_reducible repeat (first | refine blk_drewN ?_ _ | refine blk_drew ?_ | refine blk_alloc ?_ _)); exact BK182.out) hb); have n2_ := Aside0.mk (below_step (by repeat (first | (with_reducible first | exact HB.out | apply below_alloc | apply pw_below_drewN | apply below_drew1 | refine below_set ?_ GE178.out | refine below_set ?_ GE182.out) | exact HB.out)) hb); have n3_ := Aside0.mk (hbox); have n4_ := Aside0.mk ((by rw [hg]; exact (below_size (by repeat (first | (with_reducible first | exact HB.out | apply below_alloc | apply pw_below_drewN | apply below_drew1 | refine below_set ?_ GE178.out | refine below_set ?_ GE182.out) | exact HB.out))) : w.heap.size ≤ gb220)); have n5_ := Aside0.mk ((by rw [hg]; exact (below_size (by repeat (first | (with_reducible first | exact HB.out | apply below_alloc | apply pw_below_drewN | apply below_drew1 | refine below_set ?_ GE178.out | refine below_set ?_ GE182.out) | exact HB.out))) : w.heap.size ≤ gb220)); have n6_ := Aside0.mk ((by rw [hg]; exact Nat.ne_of_lt (blk_lt (g := gb178) (o := .cells #[.int .i64 t210, .int .i64 t211, .int .i64 t212, .int .i64 t213] 74 (0, 0)) (by (with_reducible repeat (first | refine blk_drewN ?_ _ | refine blk_drew ?_ | refine blk_alloc ?_ _)); exact BK178.out)) : gb178 ≠ gb220)); have n7_ := Aside0.mk ((by rw [hg]; exact Nat.ne_of_gt (blk_lt (g := gb178) (o := .cells #[.int .i64 t210, .int .i64 t211, .int .i64 t212, .int .i64 t213] 74 (0, 0)) (by (with_reducible repeat (first | refine blk_drewN ?_ _ | refine blk_drew ?_ | refine blk_alloc ?_ _)); exact BK178.out)) : gb220 ≠ gb178)); have n8_ := Aside0.mk ((by rw [hg]; exact Nat.ne_of_lt (blk_lt (g := gb182) (o := .cells #[.int .i64 x183000_3, .int .i64 x183001_3] 79 (0, 0)) (by (with_reducible repeat (first | refine blk_drewN ?_ _ | refine blk_drew ?_ | refine blk_alloc ?_ _)); exact BK182.out)) : gb182 ≠ gb220)); have n9_ := Aside0.mk ((by rw [hg]; exact Nat.ne_of_gt (blk_lt (g := gb182) (o := .cells #[.int .i64 x183000_3, .int .i64 x183001_3] 79 (0, 0)) (by (with_reducible repeat (first | refine blk_drewN ?_ _ | refine blk_drew ?_ | refine blk_alloc ?_ _)); exact BK182.out)) : gb220 ≠ gb182)); clear BK178; clear BK182; clear HB; have BK178 := n0_; have BK182 := n1_; have HB := n2_; have BK220 := n3_; have GW220 := n4_; have GE220 := n5_; have NB178_220 := n6_; have NB220_178 := n7_; have NB182_220 := n8_; have NB220_182 := n9_; clear n0_ n1_ n2_ n3_ n4_ n5_ n6_ n7_ n8_ n9_; clear hb hbox hg; have hnb97 := NB220_178.out; have hnc97 := NB178_220.out; have hnb98 := NB220_182.out; have hnc98 := NB182_220.out; have hcz99_0 : w96.cell? ⟨gb220, 0, none⟩ = some (.int .i64 0) := (blk_cell BK220.out 0).trans rfl; have hcz99_1 : w96.cell? ⟨gb220, 1, none⟩ = some (.int .i64 0) := (blk_cell BK220.out 1).trans rfl; have hcz99_2 : w96.cell? ⟨gb220, 2, none⟩ = some (.int .i64 0) := (blk_cell BK220.out 2).trans rfl; have hcz99_3 : w96.cell? ⟨gb220, 3, none⟩ = some (.int .i64 0) := (blk_cell BK220.out 3).trans rfl; have hfz99_0 := blk_frozen BK220.out 0; have hfz99_1 := blk_frozen BK220.out 1; have hfz99_2 := blk_frozen BK220.out 2; have hfz99_3 := blk_frozen BK220.out 3; have hcz100_0 : w96.cell? ⟨gb182, 0, none⟩ = some (.int .i64 x183000_3) := (blk_cell BK182.out 0).trans rfl; have hcz100_1 : w96.cell? ⟨gb182, 1, none⟩ = some (.int .i64 x183001_3) := (blk_cell BK182.out 1).trans rfl; have hfz100_0 := blk_frozen BK182.out 0; have hfz100_1 := blk_frozen BK182.out 1) | ((with_reducible refine gate_callee (f := 51) rfl ?_); refine goesL_ (some 164) rfl rfl Try.func51 (by kernel_rfl) rfl #[.agg #[.int .i64 x183000_3, .int .i64 x183001_3], .int .i64 t216] rfl (by (try simp only [List.map_toArray, List.map_cons, List.map_nil]); first | done | rfl | (simp only [List.length_drop, List.length_take]; rfl)) ?_; (with_reducible refine (flow_Raise.calls x183000_3 x183001_3 t216 t221 t222 t223 _ A87.out).mono ?_); rintro e w101 ⟨rfl, hb⟩; refine ⟨_, rfl, ?_⟩; have n0_ := Aside0.mk (blk_below (g := gb178) (o := .cells #[.int .i64 t210, .int .i64 t211, .int .i64 t212, .int .i64 t213] 74 (0, 0)) (by (with_reducible repeat (first | refine blk_drewN ?_ _ | refine blk_drew ?_ | refine blk_alloc ?_ _)); refine blk_far ?_ NB178_220.out _; (with_reducible repeat (first | refine blk_drewN ?_ _ | refine blk_drew ?_ | refine blk_alloc ?_ _)); refine blk_far ?_ NB178_220.out _; (with_reducible repeat (first | refine blk_drewN ?_ _ | refine blk_drew ?_ | refine blk_alloc ?_ _)); refine blk_far ?_ NB178_220.out _; (with_reducible repeat (first | refine blk_drewN ?_ _ | refine blk_drew ?_ | refine blk_alloc ?_ _)); refine blk_far ?_ NB178_220.out _; (with_reducible repeat (first | refine blk_drewN ?_ _ | refine blk_drew ?_ | refine blk_alloc ?_ _)); exact BK178.out) hb); have n1_ := Aside0.mk (blk_below (g := gb182) (o := .cells #[.int .i64 x183000_3, .int .i64 x183001_3] 79 (0, 0)) (by (with_reducible repeat (first | refine blk_drewN ?_ _ | refine blk_drew ?_ | refine blk_alloc ?_ _)); refine blk_far ?_ NB182_220.out _; (with_reducible repeat (first | refine blk_drewN ?_ _ | refine blk_drew ?_ | refine blk_alloc ?_ _)); refine blk_far ?_ NB182_220.out _; (with_reducible repeat (first | refine blk_drewN ?_ _ | refine blk_drew ?_ | refine blk_alloc ?_ _)); refine blk_far ?_ NB182_220.out _; (with_reducible repeat (first | refine blk_drewN ?_ _ | refine blk_drew ?_ | refine blk_alloc ?_ _)); refine blk_far ?_ NB182_220.out _; (with_reducible repeat (first | refine blk_drewN ?_ _ | refine blk_drew ?_ | refine blk_alloc ?_ _)); exact BK182.out) hb); have n2_ := Aside0.mk (blk_below (g := gb220) (o := .cells #[.int .i64 t215, .int .i64 t216, .int .i64 t217, .int .i64 t218] 74 (0, 0)) (by (with_reducible repeat (first | refine blk_drewN ?_ _ | refine blk_drew ?_ | refine blk_alloc ?_ _)); refine blk_put (cs := #[.int .i64 t215, .int .i64 t216, .int .i64 t217, .int .i64 0]) ?_ 3 _ rfl; (with_reducible repeat (first | refine blk_drewN ?_ _ | refine blk_drew ?_ | refine blk_alloc ?_ _)); refine blk_put (cs := #[.int .i64 t215, .int .i64 t216, .int .i64 0, .int .i64 0]) ?_ 2 _ rfl; (with_reducible repeat (first | refine blk_drewN ?_ _ | refine blk_drew ?_ | refine blk_alloc ?_ _)); refine blk_put (cs := #[.int .i64 t215, .int .i64 0, .int .i64 0, .int .i64 0]) ?_ 1 _ rfl; (with_reducible repeat (first | refine blk_drewN ?_ _ | refine blk_drew ?_ | refine blk_alloc ?_ _)); refine blk_put (cs := #[.int .i64 0, .int .i64 0, .int .i64 0, .int .i64 0]) ?_ 0 _ rfl; (with_reducible repeat (first | refine blk_drewN ?_ _ | refine blk_drew ?_ | refine blk_alloc ?_ _)); exact BK220.out) hb); have n3_ := Aside0.mk (below_step (by repeat (first | (with_reducible first | exact HB.out | apply below_alloc | apply pw_below_drewN | apply below_drew1 | refine below_set ?_ GE178.out | refine below_set ?_ GE182.out | refine below_set ?_ GE220.out) | exact HB.out)) hb); clear BK178; clear BK182; clear BK220; clear HB; have BK178 := n0_; have BK182 := n1_; have BK220 := n2_; have HB := n3_; clear n0_ n1_ n2_ n3_; (try clear hb); (try clear hb2); (try clear hk); (try clear hi); have hcz102_0 : w101.cell? ⟨gb182, 0, none⟩ = some (.int .i64 x183000_3) := (blk_cell BK182.out 0).trans rfl; have hcz102_1 : w101.cell? ⟨gb182, 1, none⟩ = some (.int .i64 x183001_3) := (blk_cell BK182.out 1).trans rfl; have hfz102_0 := blk_frozen BK182.out 0; have hfz102_1 := blk_frozen BK182.out 1) | ((with_reducible refine gate_callee (f := 46) rfl ?_); refine goesL_ (some 168) rfl rfl Try.func46 (by kernel_rfl) rfl #[.agg #[.int .i64 t221, .int .i64 t222]] rfl (by (try simp only [List.map_toArray, List.map_cons, List.map_nil]); first | done | rfl | (simp only [List.length_drop, List.length_take]; rfl)) ?_; (with_reducible refine (flow_Left.calls k3 t221 t222 t224 _ A88.out).mono ?_); rintro e w103 ⟨rfl, hb⟩; refine ⟨_, rfl, ?_⟩; have n0_ := Aside0.mk (blk_below (g := gb178) (o := .cells #[.int .i64 t210, .int .i64 t211, .int .i64 t212, .int .i64 t213] 74 (0, 0)) (by (with_reducible repeat (first | refine blk_drewN ?_ _ | refine blk_drew ?_ | refine blk_alloc ?_ _)); refine blk_far ?_ NB178_182.out _; (with_reducible repeat (first | refine blk_drewN ?_ _ | refine blk_drew ?_ | refine blk_alloc ?_ _)); refine blk_far ?_ NB178_182.out _; (with_reducible repeat (first | refine blk_drewN ?_ _ | refine blk_drew ?_ | refine blk_alloc ?_ _)); exact BK178.out) hb); have n1_ := Aside0.mk (blk_below (g := gb182) (o := .cells #[.int .i64 t221, .int .i64 t222] 79 (0, 0)) (by (with_reducible repeat (first | refine blk_drewN ?_ _ | refine blk_drew ?_ | refine blk_alloc ?_ _)); refine blk_put (cs := #[.int .i64 t221, .int .i64 x183001_3]) ?_ 1 _ rfl; (with_reducible repeat (first | refine blk_drewN ?_ _ | refine blk_drew ?_ | refine blk_alloc ?_ _)); refine blk_put (cs := #[.int .i64 x183000_3, .int .i64 x183001_3]) ?_ 0 _ rfl; (with_reducible repeat (first | refine blk_drewN ?_ _ | refine blk_drew ?_ | refine blk_alloc ?_ _)); exact BK182.out) hb); have n2_ := Aside0.mk (blk_below (g := gb220) (o := .cells #[.int .i64 t215, .int .i64 t216, .int .i64 t217, .int .i64 t218] 74 (0, 0)) (by (with_reducible repeat (first | refine blk_drewN ?_ _ | refine blk_drew ?_ | refine blk_alloc ?_ _)); refine blk_far ?_ NB220_182.out _; (with_reducible repeat (first | refine blk_drewN ?_ _ | refine blk_drew ?_ | refine blk_alloc ?_ _)); refine blk_far ?_ NB220_182.out _; (with_reducible repeat (first | refine blk_drewN ?_ _ | refine blk_drew ?_ | refine blk_alloc ?_ _)); exact BK220.out) hb); have n3_ := Aside0.mk (below_step (by repeat (first | (with_reducible first | exact HB.out | apply below_alloc | apply pw_below_drewN | apply below_drew1 | refine below_set ?_ GE178.out | refine below_set ?_ GE182.out | refine below_set ?_ GE220.out) | exact HB.out)) hb); clear BK178; clear BK182; clear BK220; clear HB; have BK178 := n0_; have BK182 := n1_; have BK220 := n2_; have HB := n3_; clear n0_ n1_ n2_ n3_; (try clear hb); (try clear hb2); (try clear hk); (try clear hi)) | (go_at_call 43; (with_reducible refine (sumpterlaw26_awake.calls k3  t225 _ A90.out).mono ?_); rintro e w104 ⟨rfl, hb⟩; have n0_ := Aside0.mk (blk_below (g := gb178) (o := .cells #[.int .i64 t210, .int .i64 t211, .int .i64 t212, .int .i64 t213] 74 (0, 0)) (by (with_reducible repeat (first | refine blk_drewN ?_ _ | refine blk_drew ?_ | refine blk_alloc ?_ _)); exact BK178.out) hb); have n1_ := Aside0.mk (blk_below (g := gb182) (o := .cells #[.int .i64 t221, .int .i64 t222] 79 (0, 0)) (by (with_reducible repeat (first | refine blk_drewN ?_ _ | refine blk_drew ?_ | refine blk_alloc ?_ _)); exact BK182.out) hb); have n2_ := Aside0.mk (blk_below (g := gb220) (o := .cells #[.int .i64 t215, .int .i64 t216, .int .i64 t217, .int .i64 t218] 74 (0, 0)) (by (with_reducible repeat (first | refine blk_drewN ?_ _ | refine blk_drew ?_ | refine blk_alloc ?_ _)); exact BK220.out) hb); have n3_ := Aside0.mk (below_step (by repeat (first | (with_reducible first | exact HB.out | apply below_alloc | apply pw_below_drewN | apply below_drew1 | refine below_set ?_ GE178.out | refine below_set ?_ GE182.out | refine below_set ?_ GE220.out) | exact HB.out)) hb); clear BK178; clear BK182; clear BK220; clear HB; have BK178 := n0_; have BK182 := n1_; have BK220 := n2_; have HB := n3_; clear n0_ n1_ n2_ n3_; (try clear hb); (try clear hb2); (try clear hk); (try clear hi)))
                        go_ret
                        exact ⟨by first | rfl | (simp [errW_none, errW_some] <;> rfl) | (simp [*, errW_none, errW_some] <;> rfl), by repeat (first | (with_reducible first | exact HB.out | apply below_alloc | apply pw_below_drewN | apply below_drew1 | refine below_set ?_ GE178.out | refine below_set ?_ GE182.out | refine below_set ?_ GE220.out) | exact HB.out)⟩
                      · rw [if_neg c89] at H
                        have c89b0 : decide (0 < t224) = false := decide_eq_false c89
                        clear c89
                        by_cases c105 : t221 < t211
                        · rw [if_pos c105] at H
                          have c105b0 : decide (t221 < t211) = true := decide_eq_true c105
                          clear c105
                          replace H := Option.bind_eq_some_iff.mp H
                          obtain ⟨t226, A1060, H⟩ := H
                          replace H : (some t226) = some r := H
                          have A106 := Aside0.mk A1060
                          clear A1060
                          obtain rfl := Option.some.inj H
                          have hnb107 := NB178_182.out
                          have hnc107 := NB182_178.out
                          have hcz108_0 : wr.cell? ⟨gb178, 0, none⟩ = some (.int .i64 x179000_3) := (blk_cell BK178.out 0).trans rfl
                          have hcz108_1 : wr.cell? ⟨gb178, 1, none⟩ = some (.int .i64 x179001_3) := (blk_cell BK178.out 1).trans rfl
                          have hcz108_2 : wr.cell? ⟨gb178, 2, none⟩ = some (.int .i64 x179002_3) := (blk_cell BK178.out 2).trans rfl
                          have hcz108_3 : wr.cell? ⟨gb178, 3, none⟩ = some (.int .i64 x179003_3) := (blk_cell BK178.out 3).trans rfl
                          have hfz108_0 := blk_frozen BK178.out 0
                          have hfz108_1 := blk_frozen BK178.out 1
                          have hfz108_2 := blk_frozen BK178.out 2
                          have hfz108_3 := blk_frozen BK178.out 3
                          go_wp2_with (first | ((with_reducible refine gate_callee (f := 49) rfl ?_); refine goesL_ (some 151) rfl rfl Try.func49 (by kernel_rfl) rfl #[.agg #[.int .i64 x179000_3, .int .i64 x179001_3, .int .i64 x179002_3, .int .i64 x179003_3], .int .i64 (wrap64 (x179002_3 - x179003_3))] rfl (by (try simp only [List.map_toArray, List.map_cons, List.map_nil]); first | done | rfl | (simp only [List.length_drop, List.length_take]; rfl)) ?_; (with_reducible refine (flow_Consume.calls k3 x179000_3 x179001_3 x179002_3 x179003_3 (wrap64 (x179002_3 - x179003_3)) t210 t211 t212 t213 t214 _ A84.out).mono ?_); rintro e w109 ⟨rfl, hb⟩; refine ⟨_, rfl, ?_⟩; have n0_ := Aside0.mk (blk_below (g := gb178) (o := .cells #[.int .i64 x179000_3, .int .i64 x179001_3, .int .i64 x179002_3, .int .i64 x179003_3] 74 (0, 0)) (by (with_reducible repeat (first | refine blk_drewN ?_ _ | refine blk_drew ?_ | refine blk_alloc ?_ _)); exact BK178.out) hb); have n1_ := Aside0.mk (blk_below (g := gb182) (o := .cells #[.int .i64 x183000_3, .int .i64 x183001_3] 79 (0, 0)) (by (with_reducible repeat (first | refine blk_drewN ?_ _ | refine blk_drew ?_ | refine blk_alloc ?_ _)); exact BK182.out) hb); have n2_ := Aside0.mk (below_step (by repeat (first | (with_reducible first | exact HB.out | apply below_alloc | apply pw_below_drewN | apply below_drew1 | refine below_set ?_ GE178.out | refine below_set ?_ GE182.out) | exact HB.out)) hb); clear BK178; clear BK182; clear HB; have BK178 := n0_; have BK182 := n1_; have HB := n2_; clear n0_ n1_ n2_; (try clear hb); (try clear hb2); (try clear hk); (try clear hi); have hcz110_0 : w109.cell? ⟨gb178, 0, none⟩ = some (.int .i64 x179000_3) := (blk_cell BK178.out 0).trans rfl; have hcz110_1 : w109.cell? ⟨gb178, 1, none⟩ = some (.int .i64 x179001_3) := (blk_cell BK178.out 1).trans rfl; have hcz110_2 : w109.cell? ⟨gb178, 2, none⟩ = some (.int .i64 x179002_3) := (blk_cell BK178.out 2).trans rfl; have hcz110_3 : w109.cell? ⟨gb178, 3, none⟩ = some (.int .i64 x179003_3) := (blk_cell BK178.out 3).trans rfl; have hfz110_0 := blk_frozen BK178.out 0; have hfz110_1 := blk_frozen BK178.out 1; have hfz110_2 := blk_frozen BK178.out 2; have hfz110_3 := blk_frozen BK178.out 3) | ((with_reducible refine gate_callee (f := 50) rfl ?_); refine goesL_ (some 156) rfl rfl Try.func50 (by kernel_rfl) rfl #[.agg #[.int .i64 t210, .int .i64 t211, .int .i64 t212, .int .i64 t213]] rfl (by (try simp only [List.map_toArray, List.map_cons, List.map_nil]); first | done | rfl | (simp only [List.length_drop, List.length_take]; rfl)) ?_; (with_reducible refine (flow_Update.calls k3 t210 t211 t212 t213 t215 t216 t217 t218 true _ A85.out).mono ?_); rintro e w111 ⟨rfl, hb⟩; refine ⟨_, rfl, ?_⟩; have n0_ := Aside0.mk (blk_below (g := gb178) (o := .cells #[.int .i64 t210, .int .i64 t211, .int .i64 t212, .int .i64 t213] 74 (0, 0)) (by (with_reducible repeat (first | refine blk_drewN ?_ _ | refine blk_drew ?_ | refine blk_alloc ?_ _)); refine blk_put (cs := #[.int .i64 t210, .int .i64 t211, .int .i64 t212, .int .i64 x179003_3]) ?_ 3 _ rfl; (with_reducible repeat (first | refine blk_drewN ?_ _ | refine blk_drew ?_ | refine blk_alloc ?_ _)); refine blk_put (cs := #[.int .i64 t210, .int .i64 t211, .int .i64 x179002_3, .int .i64 x179003_3]) ?_ 2 _ rfl; (with_reducible repeat (first | refine blk_drewN ?_ _ | refine blk_drew ?_ | refine blk_alloc ?_ _)); refine blk_put (cs := #[.int .i64 t210, .int .i64 x179001_3, .int .i64 x179002_3, .int .i64 x179003_3]) ?_ 1 _ rfl; (with_reducible repeat (first | refine blk_drewN ?_ _ | refine blk_drew ?_ | refine blk_alloc ?_ _)); refine blk_put (cs := #[.int .i64 x179000_3, .int .i64 x179001_3, .int .i64 x179002_3, .int .i64 x179003_3]) ?_ 0 _ rfl; (with_reducible repeat (first | refine blk_drewN ?_ _ | refine blk_drew ?_ | refine blk_alloc ?_ _)); exact BK178.out) hb); have n1_ := Aside0.mk (blk_below (g := gb182) (o := .cells #[.int .i64 x183000_3, .int .i64 x183001_3] 79 (0, 0)) (by (with_reducible repeat (first | refine blk_drewN ?_ _ | refine blk_drew ?_ | refine blk_alloc ?_ _)); refine blk_far ?_ NB182_178.out _; (with_reducible repeat (first | refine blk_drewN ?_ _ | refine blk_drew ?_ | refine blk_alloc ?_ _)); refine blk_far ?_ NB182_178.out _; (with_reducible repeat (first | refine blk_drewN ?_ _ | refine blk_drew ?_ | refine blk_alloc ?_ _)); refine blk_far ?_ NB182_178.out _; (with_reducible repeat (first | refine blk_drewN ?_ _ | refine blk_drew ?_ | refine blk_alloc ?_ _)); refine blk_far ?_ NB182_178.out _; (with_reducible repeat (first | refine blk_drewN ?_ _ | refine blk_drew ?_ | refine blk_alloc ?_ _)); exact BK182.out) hb); have n2_ := Aside0.mk (below_step (by repeat (first | (with_reducible first | exact HB.out | apply below_alloc | apply pw_below_drewN | apply below_drew1 | refine below_set ?_ GE178.out | refine below_set ?_ GE182.out) | exact HB.out)) hb); clear BK178; clear BK182; clear HB; have BK178 := n0_; have BK182 := n1_; have HB := n2_; clear n0_ n1_ n2_; (try clear hb); (try clear hb2); (try clear hk); (try clear hi)) | ((with_reducible refine gate_dst (N := 14) rfl ?_); refine box_event ?hg (N := 14) ?hd (cs := #[.int .i64 0, .int .i64 0, .int .i64 0, .int .i64 0]) (t := 74) ?hr ?_; (case hd => rfl); (case hg => rfl); (case hr => first | (go_simp; done) | (go_simp; rfl)); intro gb220 hg w112 hbox hb; have n0_ := Aside0.mk (blk_below (g := gb178) (o := .cells #[.int .i64 t210, .int .i64 t211, .int .i64 t212, .int .i64 t213] 74 (0, 0)) (by (with_reducible repeat (first | refine blk_drewN ?_ _ | refine blk_drew ?_ | refine blk_alloc ?_ _)); exact BK178.out) hb); have n1_ := Aside0.mk (blk_below (g := gb182) (o := .cells #[.int .i64 x183000_3, .int .i64 x183001_3] 79 (0, 0)) (by (with_reducible repeat (first | refine blk_drewN ?_ _ | refine blk_drew ?_ | refine blk_alloc ?_ _)); exact BK182.out) hb); have n2_ := Aside0.mk (below_step (by repeat (first | (with_reducible first | exact HB.out | apply below_alloc | apply pw_below_drewN | apply below_drew1 | refine below_set ?_ GE178.out | refine below_set ?_ GE182.out) | exact HB.out)) hb); have n3_ := Aside0.mk (hbox); have n4_ := Aside0.mk ((by rw [hg]; exact (below_size (by repeat (first | (with_reducible first | exact HB.out | apply below_alloc | apply pw_below_drewN | apply below_drew1 | refine below_set ?_ GE178.out | refine below_set ?_ GE182.out) | exact HB.out))) : w.heap.size ≤ gb220)); have n5_ := Aside0.mk ((by rw [hg]; exact (below_size (by repeat (first | (with_reducible first | exact HB.out | apply below_alloc | apply pw_below_drewN | apply below_drew1 | refine below_set ?_ GE178.out | refine below_set ?_ GE182.out) | exact HB.out))) : w.heap.size ≤ gb220)); have n6_ := Aside0.mk ((by rw [hg]; exact Nat.ne_of_lt (blk_lt (g := gb178) (o := .cells #[.int .i64 t210, .int .i64 t211, .int .i64 t212, .int .i64 t213] 74 (0, 0)) (by (with_reducible repeat (first | refine blk_drewN ?_ _ | refine blk_drew ?_ | refine blk_alloc ?_ _)); exact BK178.out)) : gb178 ≠ gb220)); have n7_ := Aside0.mk ((by rw [hg]; exact Nat.ne_of_gt (blk_lt (g := gb178) (o := .cells #[.int .i64 t210, .int .i64 t211, .int .i64 t212, .int .i64 t213] 74 (0, 0)) (by (with_reducible repeat (first | refine blk_drewN ?_ _ | refine blk_drew ?_ | refine blk_alloc ?_ _)); exact BK178.out)) : gb220 ≠ gb178)); have n8_ := Aside0.mk ((by rw [hg]; exact Nat.ne_of_lt (blk_lt (g := gb182) (o := .cells #[.int .i64 x183000_3, .int .i64 x183001_3] 79 (0, 0)) (by (with_reducible repeat (first | refine blk_drewN ?_ _ | refine blk_drew ?_ | refine blk_alloc ?_ _)); exact BK182.out)) : gb182 ≠ gb220)); have n9_ := Aside0.mk ((by rw [hg]; exact Nat.ne_of_gt (blk_lt (g := gb182) (o := .cells #[.int .i64 x183000_3, .int .i64 x183001_3] 79 (0, 0)) (by (with_reducible repeat (first | refine blk_drewN ?_ _ | refine blk_drew ?_ | refine blk_alloc ?_ _)); exact BK182.out)) : gb220 ≠ gb182)); clear BK178; clear BK182; clear HB; have BK178 := n0_; have BK182 := n1_; have HB := n2_; have BK220 := n3_; have GW220 := n4_; have GE220 := n5_; have NB178_220 := n6_; have NB220_178 := n7_; have NB182_220 := n8_; have NB220_182 := n9_; clear n0_ n1_ n2_ n3_ n4_ n5_ n6_ n7_ n8_ n9_; clear hb hbox hg; have hnb113 := NB220_178.out; have hnc113 := NB178_220.out; have hnb114 := NB220_182.out; have hnc114 := NB182_220.out; have hcz115_0 : w112.cell? ⟨gb220, 0, none⟩ = some (.int .i64 0) := (blk_cell BK220.out 0).trans rfl; have hcz115_1 : w112.cell? ⟨gb220, 1, none⟩ = some (.int .i64 0) := (blk_cell BK220.out 1).trans rfl; have hcz115_2 : w112.cell? ⟨gb220, 2, none⟩ = some (.int .i64 0) := (blk_cell BK220.out 2).trans rfl; have hcz115_3 : w112.cell? ⟨gb220, 3, none⟩ = some (.int .i64 0) := (blk_cell BK220.out 3).trans rfl; have hfz115_0 := blk_frozen BK220.out 0; have hfz115_1 := blk_frozen BK220.out 1; have hfz115_2 := blk_frozen BK220.out 2; have hfz115_3 := blk_frozen BK220.out 3; have hcz116_0 : w112.cell? ⟨gb182, 0, none⟩ = some (.int .i64 x183000_3) := (blk_cell BK182.out 0).trans rfl; have hcz116_1 : w112.cell? ⟨gb182, 1, none⟩ = some (.int .i64 x183001_3) := (blk_cell BK182.out 1).trans rfl; have hfz116_0 := blk_frozen BK182.out 0; have hfz116_1 := blk_frozen BK182.out 1) | ((with_reducible refine gate_callee (f := 51) rfl ?_); refine goesL_ (some 164) rfl rfl Try.func51 (by kernel_rfl) rfl #[.agg #[.int .i64 x183000_3, .int .i64 x183001_3], .int .i64 t216] rfl (by (try simp only [List.map_toArray, List.map_cons, List.map_nil]); first | done | rfl | (simp only [List.length_drop, List.length_take]; rfl)) ?_; (with_reducible refine (flow_Raise.calls x183000_3 x183001_3 t216 t221 t222 t223 _ A87.out).mono ?_); rintro e w117 ⟨rfl, hb⟩; refine ⟨_, rfl, ?_⟩; have n0_ := Aside0.mk (blk_below (g := gb178) (o := .cells #[.int .i64 t210, .int .i64 t211, .int .i64 t212, .int .i64 t213] 74 (0, 0)) (by (with_reducible repeat (first | refine blk_drewN ?_ _ | refine blk_drew ?_ | refine blk_alloc ?_ _)); refine blk_far ?_ NB178_220.out _; (with_reducible repeat (first | refine blk_drewN ?_ _ | refine blk_drew ?_ | refine blk_alloc ?_ _)); refine blk_far ?_ NB178_220.out _; (with_reducible repeat (first | refine blk_drewN ?_ _ | refine blk_drew ?_ | refine blk_alloc ?_ _)); refine blk_far ?_ NB178_220.out _; (with_reducible repeat (first | refine blk_drewN ?_ _ | refine blk_drew ?_ | refine blk_alloc ?_ _)); refine blk_far ?_ NB178_220.out _; (with_reducible repeat (first | refine blk_drewN ?_ _ | refine blk_drew ?_ | refine blk_alloc ?_ _)); exact BK178.out) hb); have n1_ := Aside0.mk (blk_below (g := gb182) (o := .cells #[.int .i64 x183000_3, .int .i64 x183001_3] 79 (0, 0)) (by (with_reducible repeat (first | refine blk_drewN ?_ _ | refine blk_drew ?_ | refine blk_alloc ?_ _)); refine blk_far ?_ NB182_220.out _; (with_reducible repeat (first | refine blk_drewN ?_ _ | refine blk_drew ?_ | refine blk_alloc ?_ _)); refine blk_far ?_ NB182_220.out _; (with_reducible repeat (first | refine blk_drewN ?_ _ | refine blk_drew ?_ | refine blk_alloc ?_ _)); refine blk_far ?_ NB182_220.out _; (with_reducible repeat (first | refine blk_drewN ?_ _ | refine blk_drew ?_ | refine blk_alloc ?_ _)); refine blk_far ?_ NB182_220.out _; (with_reducible repeat (first | refine blk_drewN ?_ _ | refine blk_drew ?_ | refine blk_alloc ?_ _)); exact BK182.out) hb); have n2_ := Aside0.mk (blk_below (g := gb220) (o := .cells #[.int .i64 t215, .int .i64 t216, .int .i64 t217, .int .i64 t218] 74 (0, 0)) (by (with_reducible repeat (first | refine blk_drewN ?_ _ | refine blk_drew ?_ | refine blk_alloc ?_ _)); refine blk_put (cs := #[.int .i64 t215, .int .i64 t216, .int .i64 t217, .int .i64 0]) ?_ 3 _ rfl; (with_reducible repeat (first | refine blk_drewN ?_ _ | refine blk_drew ?_ | refine blk_alloc ?_ _)); refine blk_put (cs := #[.int .i64 t215, .int .i64 t216, .int .i64 0, .int .i64 0]) ?_ 2 _ rfl; (with_reducible repeat (first | refine blk_drewN ?_ _ | refine blk_drew ?_ | refine blk_alloc ?_ _)); refine blk_put (cs := #[.int .i64 t215, .int .i64 0, .int .i64 0, .int .i64 0]) ?_ 1 _ rfl; (with_reducible repeat (first | refine blk_drewN ?_ _ | refine blk_drew ?_ | refine blk_alloc ?_ _)); refine blk_put (cs := #[.int .i64 0, .int .i64 0, .int .i64 0, .int .i64 0]) ?_ 0 _ rfl; (with_reducible repeat (first | refine blk_drewN ?_ _ | refine blk_drew ?_ | refine blk_alloc ?_ _)); exact BK220.out) hb); have n3_ := Aside0.mk (below_step (by repeat (first | (with_reducible first | exact HB.out | apply below_alloc | apply pw_below_drewN | apply below_drew1 | refine below_set ?_ GE178.out | refine below_set ?_ GE182.out | refine below_set ?_ GE220.out) | exact HB.out)) hb); clear BK178; clear BK182; clear BK220; clear HB; have BK178 := n0_; have BK182 := n1_; have BK220 := n2_; have HB := n3_; clear n0_ n1_ n2_ n3_; (try clear hb); (try clear hb2); (try clear hk); (try clear hi); have hcz118_0 : w117.cell? ⟨gb182, 0, none⟩ = some (.int .i64 x183000_3) := (blk_cell BK182.out 0).trans rfl; have hcz118_1 : w117.cell? ⟨gb182, 1, none⟩ = some (.int .i64 x183001_3) := (blk_cell BK182.out 1).trans rfl; have hfz118_0 := blk_frozen BK182.out 0; have hfz118_1 := blk_frozen BK182.out 1) | ((with_reducible refine gate_callee (f := 46) rfl ?_); refine goesL_ (some 168) rfl rfl Try.func46 (by kernel_rfl) rfl #[.agg #[.int .i64 t221, .int .i64 t222]] rfl (by (try simp only [List.map_toArray, List.map_cons, List.map_nil]); first | done | rfl | (simp only [List.length_drop, List.length_take]; rfl)) ?_; (with_reducible refine (flow_Left.calls k3 t221 t222 t224 _ A88.out).mono ?_); rintro e w119 ⟨rfl, hb⟩; refine ⟨_, rfl, ?_⟩; have n0_ := Aside0.mk (blk_below (g := gb178) (o := .cells #[.int .i64 t210, .int .i64 t211, .int .i64 t212, .int .i64 t213] 74 (0, 0)) (by (with_reducible repeat (first | refine blk_drewN ?_ _ | refine blk_drew ?_ | refine blk_alloc ?_ _)); refine blk_far ?_ NB178_182.out _; (with_reducible repeat (first | refine blk_drewN ?_ _ | refine blk_drew ?_ | refine blk_alloc ?_ _)); refine blk_far ?_ NB178_182.out _; (with_reducible repeat (first | refine blk_drewN ?_ _ | refine blk_drew ?_ | refine blk_alloc ?_ _)); exact BK178.out) hb); have n1_ := Aside0.mk (blk_below (g := gb182) (o := .cells #[.int .i64 t221, .int .i64 t222] 79 (0, 0)) (by (with_reducible repeat (first | refine blk_drewN ?_ _ | refine blk_drew ?_ | refine blk_alloc ?_ _)); refine blk_put (cs := #[.int .i64 t221, .int .i64 x183001_3]) ?_ 1 _ rfl; (with_reducible repeat (first | refine blk_drewN ?_ _ | refine blk_drew ?_ | refine blk_alloc ?_ _)); refine blk_put (cs := #[.int .i64 x183000_3, .int .i64 x183001_3]) ?_ 0 _ rfl; (with_reducible repeat (first | refine blk_drewN ?_ _ | refine blk_drew ?_ | refine blk_alloc ?_ _)); exact BK182.out) hb); have n2_ := Aside0.mk (blk_below (g := gb220) (o := .cells #[.int .i64 t215, .int .i64 t216, .int .i64 t217, .int .i64 t218] 74 (0, 0)) (by (with_reducible repeat (first | refine blk_drewN ?_ _ | refine blk_drew ?_ | refine blk_alloc ?_ _)); refine blk_far ?_ NB220_182.out _; (with_reducible repeat (first | refine blk_drewN ?_ _ | refine blk_drew ?_ | refine blk_alloc ?_ _)); refine blk_far ?_ NB220_182.out _; (with_reducible repeat (first | refine blk_drewN ?_ _ | refine blk_drew ?_ | refine blk_alloc ?_ _)); exact BK220.out) hb); have n3_ := Aside0.mk (below_step (by repeat (first | (with_reducible first | exact HB.out | apply below_alloc | apply pw_below_drewN | apply below_drew1 | refine below_set ?_ GE178.out | refine below_set ?_ GE182.out | refine below_set ?_ GE220.out) | exact HB.out)) hb); clear BK178; clear BK182; clear BK220; clear HB; have BK178 := n0_; have BK182 := n1_; have BK220 := n2_; have HB := n3_; clear n0_ n1_ n2_ n3_; (try clear hb); (try clear hb2); (try clear hk); (try clear hi); have hcz120_0 : w119.cell? ⟨gb182, 0, none⟩ = some (.int .i64 t221) := (blk_cell BK182.out 0).trans rfl; have hcz120_1 : w119.cell? ⟨gb182, 1, none⟩ = some (.int .i64 t222) := (blk_cell BK182.out 1).trans rfl; have hfz120_0 := blk_frozen BK182.out 0; have hfz120_1 := blk_frozen BK182.out 1; have hcz121_0 : w119.cell? ⟨gb178, 0, none⟩ = some (.int .i64 t210) := (blk_cell BK178.out 0).trans rfl; have hcz121_1 : w119.cell? ⟨gb178, 1, none⟩ = some (.int .i64 t211) := (blk_cell BK178.out 1).trans rfl; have hcz121_2 : w119.cell? ⟨gb178, 2, none⟩ = some (.int .i64 t212) := (blk_cell BK178.out 2).trans rfl; have hcz121_3 : w119.cell? ⟨gb178, 3, none⟩ = some (.int .i64 t213) := (blk_cell BK178.out 3).trans rfl; have hfz121_0 := blk_frozen BK178.out 0; have hfz121_1 := blk_frozen BK178.out 1; have hfz121_2 := blk_frozen BK178.out 2; have hfz121_3 := blk_frozen BK178.out 3) | (go_at_call 43; (with_reducible refine (sumpterlaw26_awake.calls k3  t226 _ A106.out).mono ?_); rintro e w122 ⟨rfl, hb⟩; have n0_ := Aside0.mk (blk_below (g := gb178) (o := .cells #[.int .i64 t210, .int .i64 t211, .int .i64 t212, .int .i64 t213] 74 (0, 0)) (by (with_reducible repeat (first | refine blk_drewN ?_ _ | refine blk_drew ?_ | refine blk_alloc ?_ _)); exact BK178.out) hb); have n1_ := Aside0.mk (blk_below (g := gb182) (o := .cells #[.int .i64 t221, .int .i64 t222] 79 (0, 0)) (by (with_reducible repeat (first | refine blk_drewN ?_ _ | refine blk_drew ?_ | refine blk_alloc ?_ _)); exact BK182.out) hb); have n2_ := Aside0.mk (blk_below (g := gb220) (o := .cells #[.int .i64 t215, .int .i64 t216, .int .i64 t217, .int .i64 t218] 74 (0, 0)) (by (with_reducible repeat (first | refine blk_drewN ?_ _ | refine blk_drew ?_ | refine blk_alloc ?_ _)); exact BK220.out) hb); have n3_ := Aside0.mk (below_step (by repeat (first | (with_reducible first | exact HB.out | apply below_alloc | apply pw_below_drewN | apply below_drew1 | refine below_set ?_ GE178.out | refine below_set ?_ GE182.out | refine below_set ?_ GE220.out) | exact HB.out)) hb); clear BK178; clear BK182; clear BK220; clear HB; have BK178 := n0_; have BK182 := n1_; have BK220 := n2_; have HB := n3_; clear n0_ n1_ n2_ n3_; (try clear hb); (try clear hb2); (try clear hk); (try clear hi)))
                          go_ret
                          exact ⟨by first | rfl | (simp [errW_none, errW_some] <;> rfl) | (simp [*, errW_none, errW_some] <;> rfl), by repeat (first | (with_reducible first | exact HB.out | apply below_alloc | apply pw_below_drewN | apply below_drew1 | refine below_set ?_ GE178.out | refine below_set ?_ GE182.out | refine below_set ?_ GE220.out) | exact HB.out)⟩
                        · rw [if_neg c105] at H
                          exact absurd H (by simp)
                    · replace c86 := Bool.eq_false_iff.mpr c86
                      subst c86
                      have H1 : ((flow_Left.f k3 x183000_3 x183001_3).bind fun t227 => (if t227 > 0 then ((sumpterlaw26_awake.f k3).bind fun t228 => (some t228)) else (if x183000_3 < t211 then ((sumpterlaw26_awake.f k3).bind fun t229 => (some t229)) else (none)))) = some r := by rw [if_neg (show ¬ (false = true) by decide)] at H; exact H
                      clear H
                      have H := H1
                      clear H1
                      replace H := Option.bind_eq_some_iff.mp H
                      obtain ⟨t227, A1230, H⟩ := H
                      replace H : (if t227 > 0 then ((sumpterlaw26_awake.f k3).bind fun t228 => (some t228)) else (if x183000_3 < t211 then ((sumpterlaw26_awake.f k3).bind fun t229 => (some t229)) else (none))) = some r := H
                      have A123 := Aside0.mk A1230
                      clear A1230
                      by_cases c124 : t227 > 0
                      · rw [if_pos c124] at H
                        have c124b0 : decide (0 < t227) = true := decide_eq_true c124
                        clear c124
                        replace H := Option.bind_eq_some_iff.mp H
                        obtain ⟨t228, A1250, H⟩ := H
                        replace H : (some t228) = some r := H
                        have A125 := Aside0.mk A1250
                        clear A1250
                        obtain rfl := Option.some.inj H
                        have hnb126 := NB178_182.out
                        have hnc126 := NB182_178.out
                        have hcz127_0 : wr.cell? ⟨gb178, 0, none⟩ = some (.int .i64 x179000_3) := (blk_cell BK178.out 0).trans rfl
                        have hcz127_1 : wr.cell? ⟨gb178, 1, none⟩ = some (.int .i64 x179001_3) := (blk_cell BK178.out 1).trans rfl
                        have hcz127_2 : wr.cell? ⟨gb178, 2, none⟩ = some (.int .i64 x179002_3) := (blk_cell BK178.out 2).trans rfl
                        have hcz127_3 : wr.cell? ⟨gb178, 3, none⟩ = some (.int .i64 x179003_3) := (blk_cell BK178.out 3).trans rfl
                        have hfz127_0 := blk_frozen BK178.out 0
                        have hfz127_1 := blk_frozen BK178.out 1
                        have hfz127_2 := blk_frozen BK178.out 2
                        have hfz127_3 := blk_frozen BK178.out 3
                        go_wp2_with (first | ((with_reducible refine gate_callee (f := 49) rfl ?_); refine goesL_ (some 151) rfl rfl Try.func49 (by kernel_rfl) rfl #[.agg #[.int .i64 x179000_3, .int .i64 x179001_3, .int .i64 x179002_3, .int .i64 x179003_3], .int .i64 (wrap64 (x179002_3 - x179003_3))] rfl (by (try simp only [List.map_toArray, List.map_cons, List.map_nil]); first | done | rfl | (simp only [List.length_drop, List.length_take]; rfl)) ?_; (with_reducible refine (flow_Consume.calls k3 x179000_3 x179001_3 x179002_3 x179003_3 (wrap64 (x179002_3 - x179003_3)) t210 t211 t212 t213 t214 _ A84.out).mono ?_); rintro e w128 ⟨rfl, hb⟩; refine ⟨_, rfl, ?_⟩; have n0_ := Aside0.mk (blk_below (g := gb178) (o := .cells #[.int .i64 x179000_3, .int .i64 x179001_3, .int .i64 x179002_3, .int .i64 x179003_3] 74 (0, 0)) (by (with_reducible repeat (first | refine blk_drewN ?_ _ | refine blk_drew ?_ | refine blk_alloc ?_ _)); exact BK178.out) hb); have n1_ := Aside0.mk (blk_below (g := gb182) (o := .cells #[.int .i64 x183000_3, .int .i64 x183001_3] 79 (0, 0)) (by (with_reducible repeat (first | refine blk_drewN ?_ _ | refine blk_drew ?_ | refine blk_alloc ?_ _)); exact BK182.out) hb); have n2_ := Aside0.mk (below_step (by repeat (first | (with_reducible first | exact HB.out | apply below_alloc | apply pw_below_drewN | apply below_drew1 | refine below_set ?_ GE178.out | refine below_set ?_ GE182.out) | exact HB.out)) hb); clear BK178; clear BK182; clear HB; have BK178 := n0_; have BK182 := n1_; have HB := n2_; clear n0_ n1_ n2_; (try clear hb); (try clear hb2); (try clear hk); (try clear hi); have hcz129_0 : w128.cell? ⟨gb178, 0, none⟩ = some (.int .i64 x179000_3) := (blk_cell BK178.out 0).trans rfl; have hcz129_1 : w128.cell? ⟨gb178, 1, none⟩ = some (.int .i64 x179001_3) := (blk_cell BK178.out 1).trans rfl; have hcz129_2 : w128.cell? ⟨gb178, 2, none⟩ = some (.int .i64 x179002_3) := (blk_cell BK178.out 2).trans rfl; have hcz129_3 : w128.cell? ⟨gb178, 3, none⟩ = some (.int .i64 x179003_3) := (blk_cell BK178.out 3).trans rfl; have hfz129_0 := blk_frozen BK178.out 0; have hfz129_1 := blk_frozen BK178.out 1; have hfz129_2 := blk_frozen BK178.out 2; have hfz129_3 := blk_frozen BK178.out 3) | ((with_reducible refine gate_callee (f := 50) rfl ?_); refine goesL_ (some 156) rfl rfl Try.func50 (by kernel_rfl) rfl #[.agg #[.int .i64 t210, .int .i64 t211, .int .i64 t212, .int .i64 t213]] rfl (by (try simp only [List.map_toArray, List.map_cons, List.map_nil]); first | done | rfl | (simp only [List.length_drop, List.length_take]; rfl)) ?_; (with_reducible refine (flow_Update.calls k3 t210 t211 t212 t213 t215 t216 t217 t218 false _ A85.out).mono ?_); rintro e w130 ⟨rfl, hb⟩; refine ⟨_, rfl, ?_⟩; have n0_ := Aside0.mk (blk_below (g := gb178) (o := .cells #[.int .i64 t210, .int .i64 t211, .int .i64 t212, .int .i64 t213] 74 (0, 0)) (by (with_reducible repeat (first | refine blk_drewN ?_ _ | refine blk_drew ?_ | refine blk_alloc ?_ _)); refine blk_put (cs := #[.int .i64 t210, .int .i64 t211, .int .i64 t212, .int .i64 x179003_3]) ?_ 3 _ rfl; (with_reducible repeat (first | refine blk_drewN ?_ _ | refine blk_drew ?_ | refine blk_alloc ?_ _)); refine blk_put (cs := #[.int .i64 t210, .int .i64 t211, .int .i64 x179002_3, .int .i64 x179003_3]) ?_ 2 _ rfl; (with_reducible repeat (first | refine blk_drewN ?_ _ | refine blk_drew ?_ | refine blk_alloc ?_ _)); refine blk_put (cs := #[.int .i64 t210, .int .i64 x179001_3, .int .i64 x179002_3, .int .i64 x179003_3]) ?_ 1 _ rfl; (with_reducible repeat (first | refine blk_drewN ?_ _ | refine blk_drew ?_ | refine blk_alloc ?_ _)); refine blk_put (cs := #[.int .i64 x179000_3, .int .i64 x179001_3, .int .i64 x179002_3, .int .i64 x179003_3]) ?_ 0 _ rfl; (with_reducible repeat (first | refine blk_drewN ?_ _ | refine blk_drew ?_ | refine blk_alloc ?_ _)); exact BK178.out) hb); have n1_ := Aside0.mk (blk_below (g := gb182) (o := .cells #[.int .i64 x183000_3, .int .i64 x183001_3] 79 (0, 0)) (by (with_reducible repeat (first | refine blk_drewN ?_ _ | refine blk_drew ?_ | refine blk_alloc ?_ _)); refine blk_far ?_ NB182_178.out _; (with_reducible repeat (first | refine blk_drewN ?_ _ | refine blk_drew ?_ | refine blk_alloc ?_ _)); refine blk_far ?_ NB182_178.out _; (with_reducible repeat (first | refine blk_drewN ?_ _ | refine blk_drew ?_ | refine blk_alloc ?_ _)); refine blk_far ?_ NB182_178.out _; (with_reducible repeat (first | refine blk_drewN ?_ _ | refine blk_drew ?_ | refine blk_alloc ?_ _)); refine blk_far ?_ NB182_178.out _; (with_reducible repeat (first | refine blk_drewN ?_ _ | refine blk_drew ?_ | refine blk_alloc ?_ _)); exact BK182.out) hb); have n2_ := Aside0.mk (below_step (by repeat (first | (with_reducible first | exact HB.out | apply below_alloc | apply pw_below_drewN | apply below_drew1 | refine below_set ?_ GE178.out | refine below_set ?_ GE182.out) | exact HB.out)) hb); clear BK178; clear BK182; clear HB; have BK178 := n0_; have BK182 := n1_; have HB := n2_; clear n0_ n1_ n2_; (try clear hb); (try clear hb2); (try clear hk); (try clear hi)) | ((with_reducible refine gate_dst (N := 14) rfl ?_); refine box_event ?hg (N := 14) ?hd (cs := #[.int .i64 0, .int .i64 0, .int .i64 0, .int .i64 0]) (t := 74) ?hr ?_; (case hd => rfl); (case hg => rfl); (case hr => first | (go_simp; done) | (go_simp; rfl)); intro gb220 hg w131 hbox hb; have n0_ := Aside0.mk (blk_below (g := gb178) (o := .cells #[.int .i64 t210, .int .i64 t211, .int .i64 t212, .int .i64 t213] 74 (0, 0)) (by (with_reducible repeat (first | refine blk_drewN ?_ _ | refine blk_drew ?_ | refine blk_alloc ?_ _)); exact BK178.out) hb); have n1_ := Aside0.mk (blk_below (g := gb182) (o := .cells #[.int .i64 x183000_3, .int .i64 x183001_3] 79 (0, 0)) (by (with_reducible repeat (first | refine blk_drewN ?_ _ | refine blk_drew ?_ | refine blk_alloc ?_ _)); exact BK182.out) hb); have n2_ := Aside0.mk (below_step (by repeat (first | (with_reducible first | exact HB.out | apply below_alloc | apply pw_below_drewN | apply below_drew1 | refine below_set ?_ GE178.out | refine below_set ?_ GE182.out) | exact HB.out)) hb); have n3_ := Aside0.mk (hbox); have n4_ := Aside0.mk ((by rw [hg]; exact (below_size (by repeat (first | (with_reducible first | exact HB.out | apply below_alloc | apply pw_below_drewN | apply below_drew1 | refine below_set ?_ GE178.out | refine below_set ?_ GE182.out) | exact HB.out))) : w.heap.size ≤ gb220)); have n5_ := Aside0.mk ((by rw [hg]; exact (below_size (by repeat (first | (with_reducible first | exact HB.out | apply below_alloc | apply pw_below_drewN | apply below_drew1 | refine below_set ?_ GE178.out | refine below_set ?_ GE182.out) | exact HB.out))) : w.heap.size ≤ gb220)); have n6_ := Aside0.mk ((by rw [hg]; exact Nat.ne_of_lt (blk_lt (g := gb178) (o := .cells #[.int .i64 t210, .int .i64 t211, .int .i64 t212, .int .i64 t213] 74 (0, 0)) (by (with_reducible repeat (first | refine blk_drewN ?_ _ | refine blk_drew ?_ | refine blk_alloc ?_ _)); exact BK178.out)) : gb178 ≠ gb220)); have n7_ := Aside0.mk ((by rw [hg]; exact Nat.ne_of_gt (blk_lt (g := gb178) (o := .cells #[.int .i64 t210, .int .i64 t211, .int .i64 t212, .int .i64 t213] 74 (0, 0)) (by (with_reducible repeat (first | refine blk_drewN ?_ _ | refine blk_drew ?_ | refine blk_alloc ?_ _)); exact BK178.out)) : gb220 ≠ gb178)); have n8_ := Aside0.mk ((by rw [hg]; exact Nat.ne_of_lt (blk_lt (g := gb182) (o := .cells #[.int .i64 x183000_3, .int .i64 x183001_3] 79 (0, 0)) (by (with_reducible repeat (first | refine blk_drewN ?_ _ | refine blk_drew ?_ | refine blk_alloc ?_ _)); exact BK182.out)) : gb182 ≠ gb220)); have n9_ := Aside0.mk ((by rw [hg]; exact Nat.ne_of_gt (blk_lt (g := gb182) (o := .cells #[.int .i64 x183000_3, .int .i64 x183001_3] 79 (0, 0)) (by (with_reducible repeat (first | refine blk_drewN ?_ _ | refine blk_drew ?_ | refine blk_alloc ?_ _)); exact BK182.out)) : gb220 ≠ gb182)); clear BK178; clear BK182; clear HB; have BK178 := n0_; have BK182 := n1_; have HB := n2_; have BK220 := n3_; have GW220 := n4_; have GE220 := n5_; have NB178_220 := n6_; have NB220_178 := n7_; have NB182_220 := n8_; have NB220_182 := n9_; clear n0_ n1_ n2_ n3_ n4_ n5_ n6_ n7_ n8_ n9_; clear hb hbox hg; have hnb132 := NB220_178.out; have hnc132 := NB178_220.out; have hnb133 := NB220_182.out; have hnc133 := NB182_220.out; have hcz134_0 : w131.cell? ⟨gb220, 0, none⟩ = some (.int .i64 0) := (blk_cell BK220.out 0).trans rfl; have hcz134_1 : w131.cell? ⟨gb220, 1, none⟩ = some (.int .i64 0) := (blk_cell BK220.out 1).trans rfl; have hcz134_2 : w131.cell? ⟨gb220, 2, none⟩ = some (.int .i64 0) := (blk_cell BK220.out 2).trans rfl; have hcz134_3 : w131.cell? ⟨gb220, 3, none⟩ = some (.int .i64 0) := (blk_cell BK220.out 3).trans rfl; have hfz134_0 := blk_frozen BK220.out 0; have hfz134_1 := blk_frozen BK220.out 1; have hfz134_2 := blk_frozen BK220.out 2; have hfz134_3 := blk_frozen BK220.out 3; have hcz135_0 : w131.cell? ⟨gb182, 0, none⟩ = some (.int .i64 x183000_3) := (blk_cell BK182.out 0).trans rfl; have hcz135_1 : w131.cell? ⟨gb182, 1, none⟩ = some (.int .i64 x183001_3) := (blk_cell BK182.out 1).trans rfl; have hfz135_0 := blk_frozen BK182.out 0; have hfz135_1 := blk_frozen BK182.out 1) | ((with_reducible refine gate_callee (f := 46) rfl ?_); refine goesL_ (some 168) rfl rfl Try.func46 (by kernel_rfl) rfl #[.agg #[.int .i64 x183000_3, .int .i64 x183001_3]] rfl (by (try simp only [List.map_toArray, List.map_cons, List.map_nil]); first | done | rfl | (simp only [List.length_drop, List.length_take]; rfl)) ?_; (with_reducible refine (flow_Left.calls k3 x183000_3 x183001_3 t227 _ A123.out).mono ?_); rintro e w136 ⟨rfl, hb⟩; refine ⟨_, rfl, ?_⟩; have n0_ := Aside0.mk (blk_below (g := gb178) (o := .cells #[.int .i64 t210, .int .i64 t211, .int .i64 t212, .int .i64 t213] 74 (0, 0)) (by (with_reducible repeat (first | refine blk_drewN ?_ _ | refine blk_drew ?_ | refine blk_alloc ?_ _)); refine blk_far ?_ NB178_220.out _; (with_reducible repeat (first | refine blk_drewN ?_ _ | refine blk_drew ?_ | refine blk_alloc ?_ _)); refine blk_far ?_ NB178_220.out _; (with_reducible repeat (first | refine blk_drewN ?_ _ | refine blk_drew ?_ | refine blk_alloc ?_ _)); refine blk_far ?_ NB178_220.out _; (with_reducible repeat (first | refine blk_drewN ?_ _ | refine blk_drew ?_ | refine blk_alloc ?_ _)); refine blk_far ?_ NB178_220.out _; (with_reducible repeat (first | refine blk_drewN ?_ _ | refine blk_drew ?_ | refine blk_alloc ?_ _)); exact BK178.out) hb); have n1_ := Aside0.mk (blk_below (g := gb182) (o := .cells #[.int .i64 x183000_3, .int .i64 x183001_3] 79 (0, 0)) (by (with_reducible repeat (first | refine blk_drewN ?_ _ | refine blk_drew ?_ | refine blk_alloc ?_ _)); refine blk_far ?_ NB182_220.out _; (with_reducible repeat (first | refine blk_drewN ?_ _ | refine blk_drew ?_ | refine blk_alloc ?_ _)); refine blk_far ?_ NB182_220.out _; (with_reducible repeat (first | refine blk_drewN ?_ _ | refine blk_drew ?_ | refine blk_alloc ?_ _)); refine blk_far ?_ NB182_220.out _; (with_reducible repeat (first | refine blk_drewN ?_ _ | refine blk_drew ?_ | refine blk_alloc ?_ _)); refine blk_far ?_ NB182_220.out _; (with_reducible repeat (first | refine blk_drewN ?_ _ | refine blk_drew ?_ | refine blk_alloc ?_ _)); exact BK182.out) hb); have n2_ := Aside0.mk (blk_below (g := gb220) (o := .cells #[.int .i64 t215, .int .i64 t216, .int .i64 t217, .int .i64 t218] 74 (0, 0)) (by (with_reducible repeat (first | refine blk_drewN ?_ _ | refine blk_drew ?_ | refine blk_alloc ?_ _)); refine blk_put (cs := #[.int .i64 t215, .int .i64 t216, .int .i64 t217, .int .i64 0]) ?_ 3 _ rfl; (with_reducible repeat (first | refine blk_drewN ?_ _ | refine blk_drew ?_ | refine blk_alloc ?_ _)); refine blk_put (cs := #[.int .i64 t215, .int .i64 t216, .int .i64 0, .int .i64 0]) ?_ 2 _ rfl; (with_reducible repeat (first | refine blk_drewN ?_ _ | refine blk_drew ?_ | refine blk_alloc ?_ _)); refine blk_put (cs := #[.int .i64 t215, .int .i64 0, .int .i64 0, .int .i64 0]) ?_ 1 _ rfl; (with_reducible repeat (first | refine blk_drewN ?_ _ | refine blk_drew ?_ | refine blk_alloc ?_ _)); refine blk_put (cs := #[.int .i64 0, .int .i64 0, .int .i64 0, .int .i64 0]) ?_ 0 _ rfl; (with_reducible repeat (first | refine blk_drewN ?_ _ | refine blk_drew ?_ | refine blk_alloc ?_ _)); exact BK220.out) hb); have n3_ := Aside0.mk (below_step (by repeat (first | (with_reducible first | exact HB.out | apply below_alloc | apply pw_below_drewN | apply below_drew1 | refine below_set ?_ GE178.out | refine below_set ?_ GE182.out | refine below_set ?_ GE220.out) | exact HB.out)) hb); clear BK178; clear BK182; clear BK220; clear HB; have BK178 := n0_; have BK182 := n1_; have BK220 := n2_; have HB := n3_; clear n0_ n1_ n2_ n3_; (try clear hb); (try clear hb2); (try clear hk); (try clear hi)) | (go_at_call 43; (with_reducible refine (sumpterlaw26_awake.calls k3  t228 _ A125.out).mono ?_); rintro e w137 ⟨rfl, hb⟩; have n0_ := Aside0.mk (blk_below (g := gb178) (o := .cells #[.int .i64 t210, .int .i64 t211, .int .i64 t212, .int .i64 t213] 74 (0, 0)) (by (with_reducible repeat (first | refine blk_drewN ?_ _ | refine blk_drew ?_ | refine blk_alloc ?_ _)); exact BK178.out) hb); have n1_ := Aside0.mk (blk_below (g := gb182) (o := .cells #[.int .i64 x183000_3, .int .i64 x183001_3] 79 (0, 0)) (by (with_reducible repeat (first | refine blk_drewN ?_ _ | refine blk_drew ?_ | refine blk_alloc ?_ _)); exact BK182.out) hb); have n2_ := Aside0.mk (blk_below (g := gb220) (o := .cells #[.int .i64 t215, .int .i64 t216, .int .i64 t217, .int .i64 t218] 74 (0, 0)) (by (with_reducible repeat (first | refine blk_drewN ?_ _ | refine blk_drew ?_ | refine blk_alloc ?_ _)); exact BK220.out) hb); have n3_ := Aside0.mk (below_step (by repeat (first | (with_reducible first | exact HB.out | apply below_alloc | apply pw_below_drewN | apply below_drew1 | refine below_set ?_ GE178.out | refine below_set ?_ GE182.out | refine below_set ?_ GE220.out) | exact HB.out)) hb); clear BK178; clear BK182; clear BK220; clear HB; have BK178 := n0_; have BK182 := n1_; have BK220 := n2_; have HB := n3_; clear n0_ n1_ n2_ n3_; (try clear hb); (try clear hb2); (try clear hk); (try clear hi)))
                        go_ret
                        exact ⟨by first | rfl | (simp [errW_none, errW_some] <;> rfl) | (simp [*, errW_none, errW_some] <;> rfl), by repeat (first | (with_reducible first | exact HB.out | apply below_alloc | apply pw_below_drewN | apply below_drew1 | refine below_set ?_ GE178.out | refine below_set ?_ GE182.out | refine below_set ?_ GE220.out) | exact HB.out)⟩
                      · rw [if_neg c124] at H
                        have c124b0 : decide (0 < t227) = false := decide_eq_false c124
                        clear c124
                        by_cases c138 : x183000_3 < t211
                        · rw [if_pos c138] at H
                          have c138b0 : decide (x183000_3 < t211) = true := decide_eq_true c138
                          clear c138
                          replace H := Option.bind_eq_some_iff.mp H
                          obtain ⟨t229, A1390, H⟩ := H
                          replace H : (some t229) = some r := H
                          have A139 := Aside0.mk A1390
                          clear A1390
                          obtain rfl := Option.some.inj H
                          have hnb140 := NB178_182.out
                          have hnc140 := NB182_178.out
                          have hcz141_0 : wr.cell? ⟨gb178, 0, none⟩ = some (.int .i64 x179000_3) := (blk_cell BK178.out 0).trans rfl
                          have hcz141_1 : wr.cell? ⟨gb178, 1, none⟩ = some (.int .i64 x179001_3) := (blk_cell BK178.out 1).trans rfl
                          have hcz141_2 : wr.cell? ⟨gb178, 2, none⟩ = some (.int .i64 x179002_3) := (blk_cell BK178.out 2).trans rfl
                          have hcz141_3 : wr.cell? ⟨gb178, 3, none⟩ = some (.int .i64 x179003_3) := (blk_cell BK178.out 3).trans rfl
                          have hfz141_0 := blk_frozen BK178.out 0
                          have hfz141_1 := blk_frozen BK178.out 1
                          have hfz141_2 := blk_frozen BK178.out 2
                          have hfz141_3 := blk_frozen BK178.out 3
                          go_wp2_with (first | ((with_reducible refine gate_callee (f := 49) rfl ?_); refine goesL_ (some 151) rfl rfl Try.func49 (by kernel_rfl) rfl #[.agg #[.int .i64 x179000_3, .int .i64 x179001_3, .int .i64 x179002_3, .int .i64 x179003_3], .int .i64 (wrap64 (x179002_3 - x179003_3))] rfl (by (try simp only [List.map_toArray, List.map_cons, List.map_nil]); first | done | rfl | (simp only [List.length_drop, List.length_take]; rfl)) ?_; (with_reducible refine (flow_Consume.calls k3 x179000_3 x179001_3 x179002_3 x179003_3 (wrap64 (x179002_3 - x179003_3)) t210 t211 t212 t213 t214 _ A84.out).mono ?_); rintro e w142 ⟨rfl, hb⟩; refine ⟨_, rfl, ?_⟩; have n0_ := Aside0.mk (blk_below (g := gb178) (o := .cells #[.int .i64 x179000_3, .int .i64 x179001_3, .int .i64 x179002_3, .int .i64 x179003_3] 74 (0, 0)) (by (with_reducible repeat (first | refine blk_drewN ?_ _ | refine blk_drew ?_ | refine blk_alloc ?_ _)); exact BK178.out) hb); have n1_ := Aside0.mk (blk_below (g := gb182) (o := .cells #[.int .i64 x183000_3, .int .i64 x183001_3] 79 (0, 0)) (by (with_reducible repeat (first | refine blk_drewN ?_ _ | refine blk_drew ?_ | refine blk_alloc ?_ _)); exact BK182.out) hb); have n2_ := Aside0.mk (below_step (by repeat (first | (with_reducible first | exact HB.out | apply below_alloc | apply pw_below_drewN | apply below_drew1 | refine below_set ?_ GE178.out | refine below_set ?_ GE182.out) | exact HB.out)) hb); clear BK178; clear BK182; clear HB; have BK178 := n0_; have BK182 := n1_; have HB := n2_; clear n0_ n1_ n2_; (try clear hb); (try clear hb2); (try clear hk); (try clear hi); have hcz143_0 : w142.cell? ⟨gb178, 0, none⟩ = some (.int .i64 x179000_3) := (blk_cell BK178.out 0).trans rfl; have hcz143_1 : w142.cell? ⟨gb178, 1, none⟩ = some (.int .i64 x179001_3) := (blk_cell BK178.out 1).trans rfl; have hcz143_2 : w142.cell? ⟨gb178, 2, none⟩ = some (.int .i64 x179002_3) := (blk_cell BK178.out 2).trans rfl; have hcz143_3 : w142.cell? ⟨gb178, 3, none⟩ = some (.int .i64 x179003_3) := (blk_cell BK178.out 3).trans rfl; have hfz143_0 := blk_frozen BK178.out 0; have hfz143_1 := blk_frozen BK178.out 1; have hfz143_2 := blk_frozen BK178.out 2; have hfz143_3 := blk_frozen BK178.out 3) | ((with_reducible refine gate_callee (f := 50) rfl ?_); refine goesL_ (some 156) rfl rfl Try.func50 (by kernel_rfl) rfl #[.agg #[.int .i64 t210, .int .i64 t211, .int .i64 t212, .int .i64 t213]] rfl (by (try simp only [List.map_toArray, List.map_cons, List.map_nil]); first | done | rfl | (simp only [List.length_drop, List.length_take]; rfl)) ?_; (with_reducible refine (flow_Update.calls k3 t210 t211 t212 t213 t215 t216 t217 t218 false _ A85.out).mono ?_); rintro e w144 ⟨rfl, hb⟩; refine ⟨_, rfl, ?_⟩; have n0_ := Aside0.mk (blk_below (g := gb178) (o := .cells #[.int .i64 t210, .int .i64 t211, .int .i64 t212, .int .i64 t213] 74 (0, 0)) (by (with_reducible repeat (first | refine blk_drewN ?_ _ | refine blk_drew ?_ | refine blk_alloc ?_ _)); refine blk_put (cs := #[.int .i64 t210, .int .i64 t211, .int .i64 t212, .int .i64 x179003_3]) ?_ 3 _ rfl; (with_reducible repeat (first | refine blk_drewN ?_ _ | refine blk_drew ?_ | refine blk_alloc ?_ _)); refine blk_put (cs := #[.int .i64 t210, .int .i64 t211, .int .i64 x179002_3, .int .i64 x179003_3]) ?_ 2 _ rfl; (with_reducible repeat (first | refine blk_drewN ?_ _ | refine blk_drew ?_ | refine blk_alloc ?_ _)); refine blk_put (cs := #[.int .i64 t210, .int .i64 x179001_3, .int .i64 x179002_3, .int .i64 x179003_3]) ?_ 1 _ rfl; (with_reducible repeat (first | refine blk_drewN ?_ _ | refine blk_drew ?_ | refine blk_alloc ?_ _)); refine blk_put (cs := #[.int .i64 x179000_3, .int .i64 x179001_3, .int .i64 x179002_3, .int .i64 x179003_3]) ?_ 0 _ rfl; (with_reducible repeat (first | refine blk_drewN ?_ _ | refine blk_drew ?_ | refine blk_alloc ?_ _)); exact BK178.out) hb); have n1_ := Aside0.mk (blk_below (g := gb182) (o := .cells #[.int .i64 x183000_3, .int .i64 x183001_3] 79 (0, 0)) (by (with_reducible repeat (first | refine blk_drewN ?_ _ | refine blk_drew ?_ | refine blk_alloc ?_ _)); refine blk_far ?_ NB182_178.out _; (with_reducible repeat (first | refine blk_drewN ?_ _ | refine blk_drew ?_ | refine blk_alloc ?_ _)); refine blk_far ?_ NB182_178.out _; (with_reducible repeat (first | refine blk_drewN ?_ _ | refine blk_drew ?_ | refine blk_alloc ?_ _)); refine blk_far ?_ NB182_178.out _; (with_reducible repeat (first | refine blk_drewN ?_ _ | refine blk_drew ?_ | refine blk_alloc ?_ _)); refine blk_far ?_ NB182_178.out _; (with_reducible repeat (first | refine blk_drewN ?_ _ | refine blk_drew ?_ | refine blk_alloc ?_ _)); exact BK182.out) hb); have n2_ := Aside0.mk (below_step (by repeat (first | (with_reducible first | exact HB.out | apply below_alloc | apply pw_below_drewN | apply below_drew1 | refine below_set ?_ GE178.out | refine below_set ?_ GE182.out) | exact HB.out)) hb); clear BK178; clear BK182; clear HB; have BK178 := n0_; have BK182 := n1_; have HB := n2_; clear n0_ n1_ n2_; (try clear hb); (try clear hb2); (try clear hk); (try clear hi)) | ((with_reducible refine gate_dst (N := 14) rfl ?_); refine box_event ?hg (N := 14) ?hd (cs := #[.int .i64 0, .int .i64 0, .int .i64 0, .int .i64 0]) (t := 74) ?hr ?_; (case hd => rfl); (case hg => rfl); (case hr => first | (go_simp; done) | (go_simp; rfl)); intro gb220 hg w145 hbox hb; have n0_ := Aside0.mk (blk_below (g := gb178) (o := .cells #[.int .i64 t210, .int .i64 t211, .int .i64 t212, .int .i64 t213] 74 (0, 0)) (by (with_reducible repeat (first | refine blk_drewN ?_ _ | refine blk_drew ?_ | refine blk_alloc ?_ _)); exact BK178.out) hb); have n1_ := Aside0.mk (blk_below (g := gb182) (o := .cells #[.int .i64 x183000_3, .int .i64 x183001_3] 79 (0, 0)) (by (with_reducible repeat (first | refine blk_drewN ?_ _ | refine blk_drew ?_ | refine blk_alloc ?_ _)); exact BK182.out) hb); have n2_ := Aside0.mk (below_step (by repeat (first | (with_reducible first | exact HB.out | apply below_alloc | apply pw_below_drewN | apply below_drew1 | refine below_set ?_ GE178.out | refine below_set ?_ GE182.out) | exact HB.out)) hb); have n3_ := Aside0.mk (hbox); have n4_ := Aside0.mk ((by rw [hg]; exact (below_size (by repeat (first | (with_reducible first | exact HB.out | apply below_alloc | apply pw_below_drewN | apply below_drew1 | refine below_set ?_ GE178.out | refine below_set ?_ GE182.out) | exact HB.out))) : w.heap.size ≤ gb220)); have n5_ := Aside0.mk ((by rw [hg]; exact (below_size (by repeat (first | (with_reducible first | exact HB.out | apply below_alloc | apply pw_below_drewN | apply below_drew1 | refine below_set ?_ GE178.out | refine below_set ?_ GE182.out) | exact HB.out))) : w.heap.size ≤ gb220)); have n6_ := Aside0.mk ((by rw [hg]; exact Nat.ne_of_lt (blk_lt (g := gb178) (o := .cells #[.int .i64 t210, .int .i64 t211, .int .i64 t212, .int .i64 t213] 74 (0, 0)) (by (with_reducible repeat (first | refine blk_drewN ?_ _ | refine blk_drew ?_ | refine blk_alloc ?_ _)); exact BK178.out)) : gb178 ≠ gb220)); have n7_ := Aside0.mk ((by rw [hg]; exact Nat.ne_of_gt (blk_lt (g := gb178) (o := .cells #[.int .i64 t210, .int .i64 t211, .int .i64 t212, .int .i64 t213] 74 (0, 0)) (by (with_reducible repeat (first | refine blk_drewN ?_ _ | refine blk_drew ?_ | refine blk_alloc ?_ _)); exact BK178.out)) : gb220 ≠ gb178)); have n8_ := Aside0.mk ((by rw [hg]; exact Nat.ne_of_lt (blk_lt (g := gb182) (o := .cells #[.int .i64 x183000_3, .int .i64 x183001_3] 79 (0, 0)) (by (with_reducible repeat (first | refine blk_drewN ?_ _ | refine blk_drew ?_ | refine blk_alloc ?_ _)); exact BK182.out)) : gb182 ≠ gb220)); have n9_ := Aside0.mk ((by rw [hg]; exact Nat.ne_of_gt (blk_lt (g := gb182) (o := .cells #[.int .i64 x183000_3, .int .i64 x183001_3] 79 (0, 0)) (by (with_reducible repeat (first | refine blk_drewN ?_ _ | refine blk_drew ?_ | refine blk_alloc ?_ _)); exact BK182.out)) : gb220 ≠ gb182)); clear BK178; clear BK182; clear HB; have BK178 := n0_; have BK182 := n1_; have HB := n2_; have BK220 := n3_; have GW220 := n4_; have GE220 := n5_; have NB178_220 := n6_; have NB220_178 := n7_; have NB182_220 := n8_; have NB220_182 := n9_; clear n0_ n1_ n2_ n3_ n4_ n5_ n6_ n7_ n8_ n9_; clear hb hbox hg; have hnb146 := NB220_178.out; have hnc146 := NB178_220.out; have hnb147 := NB220_182.out; have hnc147 := NB182_220.out; have hcz148_0 : w145.cell? ⟨gb220, 0, none⟩ = some (.int .i64 0) := (blk_cell BK220.out 0).trans rfl; have hcz148_1 : w145.cell? ⟨gb220, 1, none⟩ = some (.int .i64 0) := (blk_cell BK220.out 1).trans rfl; have hcz148_2 : w145.cell? ⟨gb220, 2, none⟩ = some (.int .i64 0) := (blk_cell BK220.out 2).trans rfl; have hcz148_3 : w145.cell? ⟨gb220, 3, none⟩ = some (.int .i64 0) := (blk_cell BK220.out 3).trans rfl; have hfz148_0 := blk_frozen BK220.out 0; have hfz148_1 := blk_frozen BK220.out 1; have hfz148_2 := blk_frozen BK220.out 2; have hfz148_3 := blk_frozen BK220.out 3; have hcz149_0 : w145.cell? ⟨gb182, 0, none⟩ = some (.int .i64 x183000_3) := (blk_cell BK182.out 0).trans rfl; have hcz149_1 : w145.cell? ⟨gb182, 1, none⟩ = some (.int .i64 x183001_3) := (blk_cell BK182.out 1).trans rfl; have hfz149_0 := blk_frozen BK182.out 0; have hfz149_1 := blk_frozen BK182.out 1) | ((with_reducible refine gate_callee (f := 46) rfl ?_); refine goesL_ (some 168) rfl rfl Try.func46 (by kernel_rfl) rfl #[.agg #[.int .i64 x183000_3, .int .i64 x183001_3]] rfl (by (try simp only [List.map_toArray, List.map_cons, List.map_nil]); first | done | rfl | (simp only [List.length_drop, List.length_take]; rfl)) ?_; (with_reducible refine (flow_Left.calls k3 x183000_3 x183001_3 t227 _ A123.out).mono ?_); rintro e w150 ⟨rfl, hb⟩; refine ⟨_, rfl, ?_⟩; have n0_ := Aside0.mk (blk_below (g := gb178) (o := .cells #[.int .i64 t210, .int .i64 t211, .int .i64 t212, .int .i64 t213] 74 (0, 0)) (by (with_reducible repeat (first | refine blk_drewN ?_ _ | refine blk_drew ?_ | refine blk_alloc ?_ _)); refine blk_far ?_ NB178_220.out _; (with_reducible repeat (first | refine blk_drewN ?_ _ | refine blk_drew ?_ | refine blk_alloc ?_ _)); refine blk_far ?_ NB178_220.out _; (with_reducible repeat (first | refine blk_drewN ?_ _ | refine blk_drew ?_ | refine blk_alloc ?_ _)); refine blk_far ?_ NB178_220.out _; (with_reducible repeat (first | refine blk_drewN ?_ _ | refine blk_drew ?_ | refine blk_alloc ?_ _)); refine blk_far ?_ NB178_220.out _; (with_reducible repeat (first | refine blk_drewN ?_ _ | refine blk_drew ?_ | refine blk_alloc ?_ _)); exact BK178.out) hb); have n1_ := Aside0.mk (blk_below (g := gb182) (o := .cells #[.int .i64 x183000_3, .int .i64 x183001_3] 79 (0, 0)) (by (with_reducible repeat (first | refine blk_drewN ?_ _ | refine blk_drew ?_ | refine blk_alloc ?_ _)); refine blk_far ?_ NB182_220.out _; (with_reducible repeat (first | refine blk_drewN ?_ _ | refine blk_drew ?_ | refine blk_alloc ?_ _)); refine blk_far ?_ NB182_220.out _; (with_reducible repeat (first | refine blk_drewN ?_ _ | refine blk_drew ?_ | refine blk_alloc ?_ _)); refine blk_far ?_ NB182_220.out _; (with_reducible repeat (first | refine blk_drewN ?_ _ | refine blk_drew ?_ | refine blk_alloc ?_ _)); refine blk_far ?_ NB182_220.out _; (with_reducible repeat (first | refine blk_drewN ?_ _ | refine blk_drew ?_ | refine blk_alloc ?_ _)); exact BK182.out) hb); have n2_ := Aside0.mk (blk_below (g := gb220) (o := .cells #[.int .i64 t215, .int .i64 t216, .int .i64 t217, .int .i64 t218] 74 (0, 0)) (by (with_reducible repeat (first | refine blk_drewN ?_ _ | refine blk_drew ?_ | refine blk_alloc ?_ _)); refine blk_put (cs := #[.int .i64 t215, .int .i64 t216, .int .i64 t217, .int .i64 0]) ?_ 3 _ rfl; (with_reducible repeat (first | refine blk_drewN ?_ _ | refine blk_drew ?_ | refine blk_alloc ?_ _)); refine blk_put (cs := #[.int .i64 t215, .int .i64 t216, .int .i64 0, .int .i64 0]) ?_ 2 _ rfl; (with_reducible repeat (first | refine blk_drewN ?_ _ | refine blk_drew ?_ | refine blk_alloc ?_ _)); refine blk_put (cs := #[.int .i64 t215, .int .i64 0, .int .i64 0, .int .i64 0]) ?_ 1 _ rfl; (with_reducible repeat (first | refine blk_drewN ?_ _ | refine blk_drew ?_ | refine blk_alloc ?_ _)); refine blk_put (cs := #[.int .i64 0, .int .i64 0, .int .i64 0, .int .i64 0]) ?_ 0 _ rfl; (with_reducible repeat (first | refine blk_drewN ?_ _ | refine blk_drew ?_ | refine blk_alloc ?_ _)); exact BK220.out) hb); have n3_ := Aside0.mk (below_step (by repeat (first | (with_reducible first | exact HB.out | apply below_alloc | apply pw_below_drewN | apply below_drew1 | refine below_set ?_ GE178.out | refine below_set ?_ GE182.out | refine below_set ?_ GE220.out) | exact HB.out)) hb); clear BK178; clear BK182; clear BK220; clear HB; have BK178 := n0_; have BK182 := n1_; have BK220 := n2_; have HB := n3_; clear n0_ n1_ n2_ n3_; (try clear hb); (try clear hb2); (try clear hk); (try clear hi); have hcz151_0 : w150.cell? ⟨gb182, 0, none⟩ = some (.int .i64 x183000_3) := (blk_cell BK182.out 0).trans rfl; have hcz151_1 : w150.cell? ⟨gb182, 1, none⟩ = some (.int .i64 x183001_3) := (blk_cell BK182.out 1).trans rfl; have hfz151_0 := blk_frozen BK182.out 0; have hfz151_1 := blk_frozen BK182.out 1; have hcz152_0 : w150.cell? ⟨gb178, 0, none⟩ = some (.int .i64 t210) := (blk_cell BK178.out 0).trans rfl; have hcz152_1 : w150.cell? ⟨gb178, 1, none⟩ = some (.int .i64 t211) := (blk_cell BK178.out 1).trans rfl; have hcz152_2 : w150.cell? ⟨gb178, 2, none⟩ = some (.int .i64 t212) := (blk_cell BK178.out 2).trans rfl; have hcz152_3 : w150.cell? ⟨gb178, 3, none⟩ = some (.int .i64 t213) := (blk_cell BK178.out 3).trans rfl; have hfz152_0 := blk_frozen BK178.out 0; have hfz152_1 := blk_frozen BK178.out 1; have hfz152_2 := blk_frozen BK178.out 2; have hfz152_3 := blk_frozen BK178.out 3) | (go_at_call 43; (with_reducible refine (sumpterlaw26_awake.calls k3  t229 _ A139.out).mono ?_); rintro e w153 ⟨rfl, hb⟩; have n0_ := Aside0.mk (blk_below (g := gb178) (o := .cells #[.int .i64 t210, .int .i64 t211, .int .i64 t212, .int .i64 t213] 74 (0, 0)) (by (with_reducible repeat (first | refine blk_drewN ?_ _ | refine blk_drew ?_ | refine blk_alloc ?_ _)); exact BK178.out) hb); have n1_ := Aside0.mk (blk_below (g := gb182) (o := .cells #[.int .i64 x183000_3, .int .i64 x183001_3] 79 (0, 0)) (by (with_reducible repeat (first | refine blk_drewN ?_ _ | refine blk_drew ?_ | refine blk_alloc ?_ _)); exact BK182.out) hb); have n2_ := Aside0.mk (blk_below (g := gb220) (o := .cells #[.int .i64 t215, .int .i64 t216, .int .i64 t217, .int .i64 t218] 74 (0, 0)) (by (with_reducible repeat (first | refine blk_drewN ?_ _ | refine blk_drew ?_ | refine blk_alloc ?_ _)); exact BK220.out) hb); have n3_ := Aside0.mk (below_step (by repeat (first | (with_reducible first | exact HB.out | apply below_alloc | apply pw_below_drewN | apply below_drew1 | refine below_set ?_ GE178.out | refine below_set ?_ GE182.out | refine below_set ?_ GE220.out) | exact HB.out)) hb); clear BK178; clear BK182; clear BK220; clear HB; have BK178 := n0_; have BK182 := n1_; have BK220 := n2_; have HB := n3_; clear n0_ n1_ n2_ n3_; (try clear hb); (try clear hb2); (try clear hk); (try clear hi)))
                          go_ret
                          exact ⟨by first | rfl | (simp [errW_none, errW_some] <;> rfl) | (simp [*, errW_none, errW_some] <;> rfl), by repeat (first | (with_reducible first | exact HB.out | apply below_alloc | apply pw_below_drewN | apply below_drew1 | refine below_set ?_ GE178.out | refine below_set ?_ GE182.out | refine below_set ?_ GE220.out) | exact HB.out)⟩
                        · rw [if_neg c138] at H
                          exact absurd H (by simp)

end Go.Proofs.Ytifidkeohcbdlaa.QFlowKeeps
