-- PRINTED BY print.sh 35421559b90ae4d0a3588c463048766b98c2df88dd9212a6774a882060cdf62d: not written by this session
import Derived.Test.YtifidkeohcbdlaaPStateReachesx0
import Derived.Test.YtifidkeohcbdlaaPStateReachesx1
import Derived.Test.YtifidkeohcbdlaaPStateReachesx2
namespace Go.Proofs.Ytifidkeohcbdlaa.PStateReaches
open Go.RowKit Go.Proofs.YtifidkeohcbdlaaW.PrintWords Go.Proofs.YtifidkeohcbdlaaW.PrintLast Go.Proofs.YtifidkeohcbdlaaW.PrintMore
attribute [local go_sem] max2_int min2_int max_two min_two max_three min_three max_four min_four   -- for this text's walks alone
set_option linter.unusedVariables false
set_option linter.unusedSimpArgs false

/-! ### sumpterlaw25_StateReaches: function 13 -/
mutual
def sumpterlaw25_StateReaches.l0 : Nat → Int → List Int → List Int → Int → Option (Bool)
  | 0, _, _, _, _ => none
  | k + 1, x3, x4, x5, x6 => if x6 < 4 then (sumpterlaw25_StateReaches.l1 k x3 x4 x5 x6 0) else ((sumpterlaw25_hasSend.f k x4 x3).bind fun t142 => (if t142 = true then ((sumpterlaw25_hasRecv.f k x5 x3).bind fun t143 => (if t143 = true then (if (x4.length : Int) = 6 then (if (x5.length : Int) = 6 then ((state_MaySend.f x3).bind fun t144 => (if t144 = true then ((state_SendDone.f x3).bind fun t145 => (if t145 = true then (some false) else ((state_MayRead.f x3).bind fun t146 => (if t146 = true then ((state_RecvDone.f x3).bind fun t147 => (if t147 = true then (some false) else ((sumpterlaw25_awake.f k).bind fun t148 => (some t148)))) else ((sumpterlaw25_awake.f k).bind fun t149 => (some t149)))))) else ((state_MayRead.f x3).bind fun t150 => (if t150 = true then ((state_RecvDone.f x3).bind fun t151 => (if t151 = true then (some false) else ((sumpterlaw25_awake.f k).bind fun t152 => (some t152)))) else ((sumpterlaw25_awake.f k).bind fun t153 => (some t153)))))) else (some false)) else (some false)) else (some false))) else (some false)))
def sumpterlaw25_StateReaches.l1 : Nat → Int → List Int → List Int → Int → Int → Option (Bool)
  | 0, _, _, _, _, _ => none
  | k + 1, x3, x4, x5, x6, x7 => if x7 < 5 then (sumpterlaw25_StateReaches.l2 k x3 x4 x5 x6 x7 0) else (sumpterlaw25_StateReaches.l0 k x3 x4 x5 (wrap64 (x6 + 1)))
def sumpterlaw25_StateReaches.l2 : Nat → Int → List Int → List Int → Int → Int → Int → Option (Bool)
  | 0, _, _, _, _, _, _ => none
  | k + 1, x3, x4, x5, x6, x7, x8 => if x8 < (x4.length : Int) then (sumpterlaw25_StateReaches.j3 k x3 x4 x5 x6 x7 x8 (decide ((x4.length : Int) < 200))) else (sumpterlaw25_StateReaches.j3 k x3 x4 x5 x6 x7 x8 false)
def sumpterlaw25_StateReaches.j3 : Nat → Int → List Int → List Int → Int → Int → Int → Bool → Option (Bool)
  | 0, _, _, _, _, _, _, _ => none
  | k + 1, x3, x4, x5, x6, x7, x8, x36 => if x36 = true then (if 0 ≤ x8 then (if x8 < (x4.length : Int) then ((state_Sends.f k (rd x4 x8) x7).bind fun bt129 => (if bt129.2 = true then ((sumpterlaw25_hasSend.f k x4 bt129.1).bind fun t131 => (if t131 = true then (sumpterlaw25_StateReaches.l2 k x3 x4 x5 x6 x7 (wrap64 (x8 + 1))) else (if x4.length < 140737488355328 then (sumpterlaw25_StateReaches.l2 k x3 (x4 ++ [bt129.1]) x5 x6 x7 (wrap64 (x8 + 1))) else (none)))) else (sumpterlaw25_StateReaches.l2 k x3 x4 x5 x6 x7 (wrap64 (x8 + 1))))) else (none)) else (none)) else (sumpterlaw25_StateReaches.l3 k x3 x4 x5 x6 x7 0)
def sumpterlaw25_StateReaches.l3 : Nat → Int → List Int → List Int → Int → Int → Int → Option (Bool)
  | 0, _, _, _, _, _, _ => none
  | k + 1, x3, x4, x5, x6, x7, x11 => if x11 < (x5.length : Int) then (sumpterlaw25_StateReaches.j5 k x3 x4 x5 x6 x7 x11 (decide ((x5.length : Int) < 200))) else (sumpterlaw25_StateReaches.j5 k x3 x4 x5 x6 x7 x11 false)
def sumpterlaw25_StateReaches.j5 : Nat → Int → List Int → List Int → Int → Int → Int → Bool → Option (Bool)
  | 0, _, _, _, _, _, _, _ => none
  | k + 1, x3, x4, x5, x6, x7, x11, x67 => if x67 = true then (if 0 ≤ x11 then (if x11 < (x5.length : Int) then ((state_Receives.f k (rd x5 x11) x7).bind fun bt136 => (if bt136.2 = true then ((sumpterlaw25_hasRecv.f k x5 bt136.1).bind fun t138 => (if t138 = true then (sumpterlaw25_StateReaches.l3 k x3 x4 x5 x6 x7 (wrap64 (x11 + 1))) else (if x5.length < 140737488355328 then (sumpterlaw25_StateReaches.l3 k x3 x4 (x5 ++ [bt136.1]) x6 x7 (wrap64 (x11 + 1))) else (none)))) else (sumpterlaw25_StateReaches.l3 k x3 x4 x5 x6 x7 (wrap64 (x11 + 1))))) else (none)) else (none)) else (sumpterlaw25_StateReaches.l1 k x3 x4 x5 x6 ((x7 + 1) % 256))
end
def sumpterlaw25_StateReaches.f (k : Nat) (a0 : Int) : Option (Bool) := sumpterlaw25_StateReaches.l0 k (Int.tmod a0 6) (([0] : List Int)) (([0] : List Int)) 0
theorem sumpterlaw25_StateReaches.mono_l : ∀ k, (∀ y0 y1 y2 y3, LeO (sumpterlaw25_StateReaches.l0 k y0 y1 y2 y3) (sumpterlaw25_StateReaches.l0 (k + 1) y0 y1 y2 y3)) ∧ (∀ y0 y1 y2 y3 y4, LeO (sumpterlaw25_StateReaches.l1 k y0 y1 y2 y3 y4) (sumpterlaw25_StateReaches.l1 (k + 1) y0 y1 y2 y3 y4)) ∧ (∀ y0 y1 y2 y3 y4 y5, LeO (sumpterlaw25_StateReaches.l2 k y0 y1 y2 y3 y4 y5) (sumpterlaw25_StateReaches.l2 (k + 1) y0 y1 y2 y3 y4 y5)) ∧ (∀ y0 y1 y2 y3 y4 y5 y6, LeO (sumpterlaw25_StateReaches.j3 k y0 y1 y2 y3 y4 y5 y6) (sumpterlaw25_StateReaches.j3 (k + 1) y0 y1 y2 y3 y4 y5 y6)) ∧ (∀ y0 y1 y2 y3 y4 y5, LeO (sumpterlaw25_StateReaches.l3 k y0 y1 y2 y3 y4 y5) (sumpterlaw25_StateReaches.l3 (k + 1) y0 y1 y2 y3 y4 y5)) ∧ (∀ y0 y1 y2 y3 y4 y5 y6, LeO (sumpterlaw25_StateReaches.j5 k y0 y1 y2 y3 y4 y5 y6) (sumpterlaw25_StateReaches.j5 (k + 1) y0 y1 y2 y3 y4 y5 y6))
  | 0 => ⟨fun _ _ _ _ r h => by simp [sumpterlaw25_StateReaches.l0] at h, fun _ _ _ _ _ r h => by simp [sumpterlaw25_StateReaches.l1] at h, fun _ _ _ _ _ _ r h => by simp [sumpterlaw25_StateReaches.l2] at h, fun _ _ _ _ _ _ _ r h => by simp [sumpterlaw25_StateReaches.j3] at h, fun _ _ _ _ _ _ r h => by simp [sumpterlaw25_StateReaches.l3] at h, fun _ _ _ _ _ _ _ r h => by simp [sumpterlaw25_StateReaches.j5] at h⟩
  | k + 1 => by
    obtain ⟨ih0, ih1, ih2, ih3, ih4, ih5⟩ := sumpterlaw25_StateReaches.mono_l k
    refine ⟨?_, ?_, ?_, ?_, ?_, ?_⟩
    · intro y0 y1 y2 y3
      unfold sumpterlaw25_StateReaches.l0
      repeat' first
      | (with_reducible exact ih0 _ _ _ _)
      | (with_reducible exact ih1 _ _ _ _ _)
      | (with_reducible exact ih2 _ _ _ _ _ _)
      | (with_reducible exact ih3 _ _ _ _ _ _ _)
      | (with_reducible exact ih4 _ _ _ _ _ _)
      | (with_reducible exact ih5 _ _ _ _ _ _ _)
      | (with_reducible exact state_Receives.mono _ _ _)
      | (with_reducible exact state_Sends.mono _ _ _)
      | (with_reducible exact sumpterlaw25_awake.mono _)
      | (with_reducible exact sumpterlaw25_hasRecv.mono _ _ _)
      | (with_reducible exact sumpterlaw25_hasSend.mono _ _ _)
      | (with_reducible exact LeO.refl _)
      | (with_reducible exact LeO.none _)
      | (with_reducible refine LeO.ite ?_ ?_)
      | (with_reducible refine LeO.bind ?_ (fun _ => ?_))
      | exact ih0 _ _ _ _
      | exact ih1 _ _ _ _ _
      | exact ih2 _ _ _ _ _ _
      | exact ih3 _ _ _ _ _ _ _
      | exact ih4 _ _ _ _ _ _
      | exact ih5 _ _ _ _ _ _ _
      | exact state_Receives.mono _ _ _
      | exact state_Sends.mono _ _ _
      | exact sumpterlaw25_awake.mono _
      | exact sumpterlaw25_hasRecv.mono _ _ _
      | exact sumpterlaw25_hasSend.mono _ _ _
      | exact LeO.none _
      | refine LeO.ite ?_ ?_
      | refine LeO.bind ?_ (fun _ => ?_)
    · intro y0 y1 y2 y3 y4
      unfold sumpterlaw25_StateReaches.l1
      repeat' first
      | (with_reducible exact ih0 _ _ _ _)
      | (with_reducible exact ih1 _ _ _ _ _)
      | (with_reducible exact ih2 _ _ _ _ _ _)
      | (with_reducible exact ih3 _ _ _ _ _ _ _)
      | (with_reducible exact ih4 _ _ _ _ _ _)
      | (with_reducible exact ih5 _ _ _ _ _ _ _)
      | (with_reducible exact state_Receives.mono _ _ _)
      | (with_reducible exact state_Sends.mono _ _ _)
      | (with_reducible exact sumpterlaw25_awake.mono _)
      | (with_reducible exact sumpterlaw25_hasRecv.mono _ _ _)
      | (with_reducible exact sumpterlaw25_hasSend.mono _ _ _)
      | (with_reducible exact LeO.refl _)
      | (with_reducible exact LeO.none _)
      | (with_reducible refine LeO.ite ?_ ?_)
      | (with_reducible refine LeO.bind ?_ (fun _ => ?_))
      | exact ih0 _ _ _ _
      | exact ih1 _ _ _ _ _
      | exact ih2 _ _ _ _ _ _
      | exact ih3 _ _ _ _ _ _ _
      | exact ih4 _ _ _ _ _ _
      | exact ih5 _ _ _ _ _ _ _
      | exact state_Receives.mono _ _ _
      | exact state_Sends.mono _ _ _
      | exact sumpterlaw25_awake.mono _
      | exact sumpterlaw25_hasRecv.mono _ _ _
      | exact sumpterlaw25_hasSend.mono _ _ _
      | exact LeO.none _
      | refine LeO.ite ?_ ?_
      | refine LeO.bind ?_ (fun _ => ?_)
    · intro y0 y1 y2 y3 y4 y5
      unfold sumpterlaw25_StateReaches.l2
      repeat' first
      | (with_reducible exact ih0 _ _ _ _)
      | (with_reducible exact ih1 _ _ _ _ _)
      | (with_reducible exact ih2 _ _ _ _ _ _)
      | (with_reducible exact ih3 _ _ _ _ _ _ _)
      | (with_reducible exact ih4 _ _ _ _ _ _)
      | (with_reducible exact ih5 _ _ _ _ _ _ _)
      | (with_reducible exact state_Receives.mono _ _ _)
      | (with_reducible exact state_Sends.mono _ _ _)
      | (with_reducible exact sumpterlaw25_awake.mono _)
      | (with_reducible exact sumpterlaw25_hasRecv.mono _ _ _)
      | (with_reducible exact sumpterlaw25_hasSend.mono _ _ _)
      | (with_reducible exact LeO.refl _)
      | (with_reducible exact LeO.none _)
      | (with_reducible refine LeO.ite ?_ ?_)
      | (with_reducible refine LeO.bind ?_ (fun _ => ?_))
      | exact ih0 _ _ _ _
      | exact ih1 _ _ _ _ _
      | exact ih2 _ _ _ _ _ _
      | exact ih3 _ _ _ _ _ _ _
      | exact ih4 _ _ _ _ _ _
      | exact ih5 _ _ _ _ _ _ _
      | exact state_Receives.mono _ _ _
      | exact state_Sends.mono _ _ _
      | exact sumpterlaw25_awake.mono _
      | exact sumpterlaw25_hasRecv.mono _ _ _
      | exact sumpterlaw25_hasSend.mono _ _ _
      | exact LeO.none _
      | refine LeO.ite ?_ ?_
      | refine LeO.bind ?_ (fun _ => ?_)
    · intro y0 y1 y2 y3 y4 y5 y6
      unfold sumpterlaw25_StateReaches.j3
      repeat' first
      | (with_reducible exact ih0 _ _ _ _)
      | (with_reducible exact ih1 _ _ _ _ _)
      | (with_reducible exact ih2 _ _ _ _ _ _)
      | (with_reducible exact ih3 _ _ _ _ _ _ _)
      | (with_reducible exact ih4 _ _ _ _ _ _)
      | (with_reducible exact ih5 _ _ _ _ _ _ _)
      | (with_reducible exact state_Receives.mono _ _ _)
      | (with_reducible exact state_Sends.mono _ _ _)
      | (with_reducible exact sumpterlaw25_awake.mono _)
      | (with_reducible exact sumpterlaw25_hasRecv.mono _ _ _)
      | (with_reducible exact sumpterlaw25_hasSend.mono _ _ _)
      | (with_reducible exact LeO.refl _)
      | (with_reducible exact LeO.none _)
      | (with_reducible refine LeO.ite ?_ ?_)
      | (with_reducible refine LeO.bind ?_ (fun _ => ?_))
      | exact ih0 _ _ _ _
      | exact ih1 _ _ _ _ _
      | exact ih2 _ _ _ _ _ _
      | exact ih3 _ _ _ _ _ _ _
      | exact ih4 _ _ _ _ _ _
      | exact ih5 _ _ _ _ _ _ _
      | exact state_Receives.mono _ _ _
      | exact state_Sends.mono _ _ _
      | exact sumpterlaw25_awake.mono _
      | exact sumpterlaw25_hasRecv.mono _ _ _
      | exact sumpterlaw25_hasSend.mono _ _ _
      | exact LeO.none _
      | refine LeO.ite ?_ ?_
      | refine LeO.bind ?_ (fun _ => ?_)
    · intro y0 y1 y2 y3 y4 y5
      unfold sumpterlaw25_StateReaches.l3
      repeat' first
      | (with_reducible exact ih0 _ _ _ _)
      | (with_reducible exact ih1 _ _ _ _ _)
      | (with_reducible exact ih2 _ _ _ _ _ _)
      | (with_reducible exact ih3 _ _ _ _ _ _ _)
      | (with_reducible exact ih4 _ _ _ _ _ _)
      | (with_reducible exact ih5 _ _ _ _ _ _ _)
      | (with_reducible exact state_Receives.mono _ _ _)
      | (with_reducible exact state_Sends.mono _ _ _)
      | (with_reducible exact sumpterlaw25_awake.mono _)
      | (with_reducible exact sumpterlaw25_hasRecv.mono _ _ _)
      | (with_reducible exact sumpterlaw25_hasSend.mono _ _ _)
      | (with_reducible exact LeO.refl _)
      | (with_reducible exact LeO.none _)
      | (with_reducible refine LeO.ite ?_ ?_)
      | (with_reducible refine LeO.bind ?_ (fun _ => ?_))
      | exact ih0 _ _ _ _
      | exact ih1 _ _ _ _ _
      | exact ih2 _ _ _ _ _ _
      | exact ih3 _ _ _ _ _ _ _
      | exact ih4 _ _ _ _ _ _
      | exact ih5 _ _ _ _ _ _ _
      | exact state_Receives.mono _ _ _
      | exact state_Sends.mono _ _ _
      | exact sumpterlaw25_awake.mono _
      | exact sumpterlaw25_hasRecv.mono _ _ _
      | exact sumpterlaw25_hasSend.mono _ _ _
      | exact LeO.none _
      | refine LeO.ite ?_ ?_
      | refine LeO.bind ?_ (fun _ => ?_)
    · intro y0 y1 y2 y3 y4 y5 y6
      unfold sumpterlaw25_StateReaches.j5
      repeat' first
      | (with_reducible exact ih0 _ _ _ _)
      | (with_reducible exact ih1 _ _ _ _ _)
      | (with_reducible exact ih2 _ _ _ _ _ _)
      | (with_reducible exact ih3 _ _ _ _ _ _ _)
      | (with_reducible exact ih4 _ _ _ _ _ _)
      | (with_reducible exact ih5 _ _ _ _ _ _ _)
      | (with_reducible exact state_Receives.mono _ _ _)
      | (with_reducible exact state_Sends.mono _ _ _)
      | (with_reducible exact sumpterlaw25_awake.mono _)
      | (with_reducible exact sumpterlaw25_hasRecv.mono _ _ _)
      | (with_reducible exact sumpterlaw25_hasSend.mono _ _ _)
      | (with_reducible exact LeO.refl _)
      | (with_reducible exact LeO.none _)
      | (with_reducible refine LeO.ite ?_ ?_)
      | (with_reducible refine LeO.bind ?_ (fun _ => ?_))
      | exact ih0 _ _ _ _
      | exact ih1 _ _ _ _ _
      | exact ih2 _ _ _ _ _ _
      | exact ih3 _ _ _ _ _ _ _
      | exact ih4 _ _ _ _ _ _
      | exact ih5 _ _ _ _ _ _ _
      | exact state_Receives.mono _ _ _
      | exact state_Sends.mono _ _ _
      | exact sumpterlaw25_awake.mono _
      | exact sumpterlaw25_hasRecv.mono _ _ _
      | exact sumpterlaw25_hasSend.mono _ _ _
      | exact LeO.none _
      | refine LeO.ite ?_ ?_
      | refine LeO.bind ?_ (fun _ => ?_)
theorem sumpterlaw25_StateReaches.mono : ∀ a0 k, LeO (sumpterlaw25_StateReaches.f k a0) (sumpterlaw25_StateReaches.f (k + 1) a0) := by
  intro a0 k
  obtain ⟨ih0, ih1, ih2, ih3, ih4, ih5⟩ := sumpterlaw25_StateReaches.mono_l k
  unfold sumpterlaw25_StateReaches.f
  repeat' first
      | (with_reducible exact ih0 _ _ _ _)
      | (with_reducible exact ih1 _ _ _ _ _)
      | (with_reducible exact ih2 _ _ _ _ _ _)
      | (with_reducible exact ih3 _ _ _ _ _ _ _)
      | (with_reducible exact ih4 _ _ _ _ _ _)
      | (with_reducible exact ih5 _ _ _ _ _ _ _)
      | (with_reducible exact state_Receives.mono _ _ _)
      | (with_reducible exact state_Sends.mono _ _ _)
      | (with_reducible exact sumpterlaw25_awake.mono _)
      | (with_reducible exact sumpterlaw25_hasRecv.mono _ _ _)
      | (with_reducible exact sumpterlaw25_hasSend.mono _ _ _)
      | (with_reducible exact LeO.refl _)
      | (with_reducible exact LeO.none _)
      | (with_reducible refine LeO.ite ?_ ?_)
      | (with_reducible refine LeO.bind ?_ (fun _ => ?_))
      | exact ih0 _ _ _ _
      | exact ih1 _ _ _ _ _
      | exact ih2 _ _ _ _ _ _
      | exact ih3 _ _ _ _ _ _ _
      | exact ih4 _ _ _ _ _ _
      | exact ih5 _ _ _ _ _ _ _
      | exact state_Receives.mono _ _ _
      | exact state_Sends.mono _ _ _
      | exact sumpterlaw25_awake.mono _
      | exact sumpterlaw25_hasRecv.mono _ _ _
      | exact sumpterlaw25_hasSend.mono _ _ _
      | exact LeO.none _
      | refine LeO.ite ?_ ?_
      | refine LeO.bind ?_ (fun _ => ?_)
set_option maxHeartbeats 8000000 in
set_option maxRecDepth 100000 in
theorem sumpterlaw25_StateReaches.calls (k : Nat) (a0 : Int) (r : Bool) (w : World) (h : sumpterlaw25_StateReaches.f k a0 = some r) :
    Calls Try.prog 13 #[.int .u8 a0] w fun e w' => e = .returned (.bool r) ∧ Below w.heap.size w w' := by
  have HB := Aside0.mk (Below.refl w.heap.size w)
  have H : (sumpterlaw25_StateReaches.l0 k (Int.tmod a0 6) (([0] : List Int)) (([0] : List Int)) 0) = some r := h
  clear h
  obtain ⟨y122, hy122⟩ : ∃ y_ : List Int, y_ = (([0] : List Int)) := ⟨_, rfl⟩
  replace H : (sumpterlaw25_StateReaches.l0 k (Int.tmod a0 6) y122 (([0] : List Int)) 0) = some r := by first | (rw [hy122]; with_reducible exact H) | (have H2_ := (Option.bind_some _ _).symm.trans H; rw [hy122]; with_reducible exact H2_) | (have H2_ := (Option.bind_some _ _).symm.trans H; with_reducible exact H2_) | with_reducible exact H | (rw [hy122]; exact H) | exact H
  have Ny122 := Aside0.mk hy122
  clear hy122
  obtain ⟨y125, hy125⟩ : ∃ y_ : List Int, y_ = (([0] : List Int)) := ⟨_, rfl⟩
  replace H : (sumpterlaw25_StateReaches.l0 k (Int.tmod a0 6) y122 y125 0) = some r := by first | (rw [hy125]; with_reducible exact H) | (have H2_ := (Option.bind_some _ _).symm.trans H; rw [hy125]; with_reducible exact H2_) | (have H2_ := (Option.bind_some _ _).symm.trans H; with_reducible exact H2_) | with_reducible exact H | (rw [hy125]; exact H) | exact H
  have Ny125 := Aside0.mk hy125
  clear hy125
  have H' := Aside0.mk H
  clear H
  go_enter Try.func13, Try.ntmps13
  go_wp2_with (first | ((with_reducible refine gate_dst (N := 18) rfl ?_); (try (refine gate_guard (by rfl) ?_; dsimp only)); refine Kd.R_lit (Kd.int .u8) _ 48 ?hg (N := 18) ?hd (xs := ([0] : List Int)) (inner := [.int .u8 0]) (ok := fun _ => True) (okp := fun _ => True) ?hr ?hp (fun _ hk => hk) trivial (Below.refl _ _) (Nat.le_refl _) (by simp) ?_; (case hd => rfl); (case hg => rfl); (case hr => first | (go_simp; done) | (go_simp; rfl)); (case hp => exact (Reps.one (show Kd.M (Kd.int .u8) _ _ _ 0 [.int .u8 0] from rfl) (Reps.none _ _))); intro v123 w2 ho3 hb hg_ hnew_; clear hg_ hnew_; (first | rw [← Ny122.out] at ho3 | (simp only [Int.reduceToNat] at ho3; rw [← Ny122.out] at ho3)); have n0_ := Aside0.mk (Kd.R_lower ho3 (below_size (by repeat (first | (with_reducible first | exact HB.out | apply below_alloc | apply pw_below_drewN | apply below_drew1) | exact HB.out)))); have n1_ := Aside0.mk (below_step (by repeat (first | (with_reducible first | exact HB.out | apply below_alloc | apply pw_below_drewN | apply below_drew1) | exact HB.out)) hb); clear HB; have HO124 := n0_; have HB := n1_; clear n0_ n1_; clear hb ho3) | ((with_reducible refine gate_dst (N := 19) rfl ?_); (try (refine gate_guard (by rfl) ?_; dsimp only)); refine Kd.R_lit (Kd.int .u8) _ 57 ?hg (N := 19) ?hd (xs := ([0] : List Int)) (inner := [.int .u8 0]) (ok := fun _ => True) (okp := fun _ => True) ?hr ?hp (fun _ hk => hk) trivial (Below.refl _ _) (Nat.le_refl _) (by simp) ?_; (case hd => rfl); (case hg => rfl); (case hr => first | (go_simp; done) | (go_simp; rfl)); (case hp => exact (Reps.one (show Kd.M (Kd.int .u8) _ _ _ 0 [.int .u8 0] from rfl) (Reps.none _ _))); intro v126 w4 ho5 hb hg_ hnew_; clear hg_ hnew_; (first | rw [← Ny125.out] at ho5 | (simp only [Int.reduceToNat] at ho5; rw [← Ny125.out] at ho5)); have n0_ := Aside0.mk (Kd.R_below (by (with_reducible repeat (first | apply Kd.R_alloc | apply Kd.R_drewN | apply Kd.R_drew)); exact HO124.out) hb); have n1_ := Aside0.mk (Kd.R_lower ho5 (below_size (by repeat (first | (with_reducible first | exact HB.out | apply below_alloc | apply pw_below_drewN | apply below_drew1) | exact HB.out)))); have n2_ := Aside0.mk (below_step (by repeat (first | (with_reducible first | exact HB.out | apply below_alloc | apply pw_below_drewN | apply below_drew1) | exact HB.out)) hb); clear HO124; clear HB; have HO124 := n0_; have HO127 := n1_; have HB := n2_; clear n0_ n1_ n2_; clear hb ho5))
  go_loopg [4, 5, 6] k (fun kq v4 v5 v6 w' => ∃ (x4_1 : List Int) (x5_1 : List Int) (x6_1 : Int), v6 = .int .i64 x6_1 ∧ Aside0 (sumpterlaw25_StateReaches.l0 kq (Int.tmod a0 6) x4_1 x5_1 x6_1 = some r) ∧ Aside0 (kq ≤ k) ∧ Aside0 (Kd.R (Kd.int .u8) 48 w' w.heap.size (fun _ => True) v4 x4_1) ∧ Aside0 (Kd.R (Kd.int .u8) 57 w' w.heap.size (fun _ => True) v5 x5_1) ∧ Aside0 (Below w.heap.size w w'))
  case atStart => exact ⟨(y122), (y125), (0), (by first | rfl | (simp; done) | (simp [*]; done)), H', ⟨Nat.le_refl _⟩, ⟨by (with_reducible repeat (first | apply Kd.R_alloc | apply Kd.R_drewN | apply Kd.R_drew)); exact HO124.out⟩, ⟨by (with_reducible repeat (first | apply Kd.R_alloc | apply Kd.R_drewN | apply Kd.R_drew)); exact HO127.out⟩, ⟨by repeat (first | (with_reducible first | exact HB.out | apply below_alloc | apply pw_below_drewN | apply below_drew1) | exact HB.out)⟩⟩
  case round =>
    clear H'
    try clear c1
    try clear p2
    obtain ⟨x4_1, x5_1, x6_1, rfl, HA, HK1, HO_4, HO_5, HB⟩ := hrel
    cases gk with
    | zero => exact absurd HA.out (by simp [sumpterlaw25_StateReaches.l0])
    | succ k1 =>
      have H := HA.out
      clear HA
      simp only [sumpterlaw25_StateReaches.l0] at H
      by_cases c6 : x6_1 < 4
      · rw [if_pos c6] at H
        have c6b0 : decide (x6_1 < 4) = true := decide_eq_true c6
        clear c6
        have H' := Aside0.mk H
        clear H
        go_wp2
        go_loopg [4, 5, 7] k1 (fun kq v4 v5 v7 w' => ∃ (x4_2 : List Int) (x5_2 : List Int) (x7_2 : Int), v7 = .int .u8 x7_2 ∧ Aside0 (sumpterlaw25_StateReaches.l1 kq (Int.tmod a0 6) x4_2 x5_2 x6_1 x7_2 = some r) ∧ Aside0 (kq ≤ k1) ∧ Aside0 (Kd.R (Kd.int .u8) 48 w' w.heap.size (fun _ => True) v4 x4_2) ∧ Aside0 (Kd.R (Kd.int .u8) 57 w' w.heap.size (fun _ => True) v5 x5_2) ∧ Aside0 (Below w.heap.size w w'))
        case atStart => exact ⟨(x4_1), (x5_1), (0), (by first | rfl | (simp; done) | (simp [*]; done)), H', ⟨Nat.le_refl _⟩, ⟨by (with_reducible repeat (first | apply Kd.R_alloc | apply Kd.R_drewN | apply Kd.R_drew)); exact HO_4.out⟩, ⟨by (with_reducible repeat (first | apply Kd.R_alloc | apply Kd.R_drewN | apply Kd.R_drew)); exact HO_5.out⟩, ⟨by repeat (first | (with_reducible first | exact HB.out | apply below_alloc | apply pw_below_drewN | apply below_drew1) | exact HB.out)⟩⟩
        case round =>
          clear H'
          try clear c1
          try clear p2
          try clear c6
          try clear c6b0
          try clear p2
          obtain ⟨x4_2, x5_2, x7_2, rfl, HA, HK2, HO_4, HO_5, HB⟩ := hrel
          cases gk with
          | zero => exact absurd HA.out (by simp [sumpterlaw25_StateReaches.l1])
          | succ k2 =>
            have H := HA.out
            clear HA
            simp only [sumpterlaw25_StateReaches.l1] at H
            by_cases c7 : x7_2 < 5
            · rw [if_pos c7] at H
              have c7b0 : decide (x7_2 < 5) = true := decide_eq_true c7
              clear c7
              have H' := Aside0.mk H
              clear H
              go_wp2
              go_loopg [4, 8] k2 (fun kq v4 v8 w' => ∃ (x4_3 : List Int) (x8_3 : Int), v8 = .int .i64 x8_3 ∧ Aside0 (sumpterlaw25_StateReaches.l2 kq (Int.tmod a0 6) x4_3 x5_2 x6_1 x7_2 x8_3 = some r) ∧ Aside0 (kq ≤ k2) ∧ Aside0 (Kd.R (Kd.int .u8) 48 w' w.heap.size (fun _ => True) v4 x4_3) ∧ Aside0 (Kd.R (Kd.int .u8) 57 w' w.heap.size (fun _ => True) u5 x5_2) ∧ Aside0 (Below w.heap.size w w'))
              case atStart => exact ⟨(x4_2), (0), (by first | rfl | (simp; done) | (simp [*]; done)), H', ⟨Nat.le_refl _⟩, ⟨by (with_reducible repeat (first | apply Kd.R_alloc | apply Kd.R_drewN | apply Kd.R_drew)); exact HO_4.out⟩, ⟨by (with_reducible repeat (first | apply Kd.R_alloc | apply Kd.R_drewN | apply Kd.R_drew)); exact HO_5.out⟩, ⟨by repeat (first | (with_reducible first | exact HB.out | apply below_alloc | apply pw_below_drewN | apply below_drew1) | exact HB.out)⟩⟩
              case round =>
                clear H'
                try clear c1
                try clear p2
                try clear c6
                try clear c6b0
                try clear c7
                try clear c7b0
                try clear p2
                obtain ⟨x4_3, x8_3, rfl, HA, HK3, HO_4, HO_5, HB⟩ := hrel
                cases gk with
                | zero => exact absurd HA.out (by simp [sumpterlaw25_StateReaches.l2])
                | succ k3 =>
                  have H := HA.out
                  clear HA
                  simp only [sumpterlaw25_StateReaches.l2] at H
                  have HC8 := Aside0.mk H
                  clear H
                  go_upto_region 10 with (fail)
                  go_cut [36] (fun v36 wc => ∃ (kq : Nat) (x36_7 : Bool), v36 = .bool x36_7 ∧ Aside0 (sumpterlaw25_StateReaches.j3 kq (Int.tmod a0 6) x4_3 x5_2 x6_1 x7_2 x8_3 x36_7 = some r) ∧ Aside0 (kq ≤ k3) ∧ Aside0 (Kd.R (Kd.int .u8) 48 wc w.heap.size (fun _ => True) u4 x4_3) ∧ Aside0 (Kd.R (Kd.int .u8) 57 wc w.heap.size (fun _ => True) u5 x5_2) ∧ Aside0 (Below w.heap.size w wc))
                  case first =>
                    have H := HC8.out
                    clear HC8
                    by_cases c9 : x8_3 < (x4_3.length : Int)
                    · rw [if_pos c9] at H
                      have c9b0 : decide (x8_3 < (x4_3.length : Int)) = true := decide_eq_true c9
                      clear c9
                      (first | rw [c9b0] | (simp only [i64_w, i32_w]; rw [c9b0]) | skip)
                      have H' := Aside0.mk H
                      clear H
                      obtain ⟨Ao10, co10, eo10⟩ := Kd.R_slice HO_4.out
                      subst eo10
                      go_wp2
                      go_meet
                      case rel => exact ⟨_, (decide ((x4_3.length : Int) < 200)), (by first | rfl | (simp; done) | (simp [*]; done)), H', ⟨by have := HK1.out; have := HK2.out; have := HK3.out; first | omega | exact Nat.le_refl _⟩, ⟨by (with_reducible repeat (first | apply Kd.R_alloc | apply Kd.R_drewN | apply Kd.R_drew)); exact HO_4.out⟩, ⟨by (with_reducible repeat (first | apply Kd.R_alloc | apply Kd.R_drewN | apply Kd.R_drew)); exact HO_5.out⟩, ⟨by repeat (first | (with_reducible first | exact HB.out | apply below_alloc | apply pw_below_drewN | apply below_drew1) | exact HB.out)⟩⟩
                    · rw [if_neg c9] at H
                      have c9b0 : decide (x8_3 < (x4_3.length : Int)) = false := decide_eq_false c9
                      clear c9
                      (first | rw [c9b0] | (simp only [i64_w, i32_w]; rw [c9b0]) | skip)
                      have H' := Aside0.mk H
                      clear H
                      obtain ⟨Ao11, co11, eo11⟩ := Kd.R_slice HO_4.out
                      subst eo11
                      go_wp2
                      go_meet
                      case rel => exact ⟨_, (false), (by first | rfl | (simp; done) | (simp [*]; done)), H', ⟨by have := HK1.out; have := HK2.out; have := HK3.out; first | omega | exact Nat.le_refl _⟩, ⟨by (with_reducible repeat (first | apply Kd.R_alloc | apply Kd.R_drewN | apply Kd.R_drew)); exact HO_4.out⟩, ⟨by (with_reducible repeat (first | apply Kd.R_alloc | apply Kd.R_drewN | apply Kd.R_drew)); exact HO_5.out⟩, ⟨by repeat (first | (with_reducible first | exact HB.out | apply below_alloc | apply pw_below_drewN | apply below_drew1) | exact HB.out)⟩⟩
                  case rest =>
                    clear HC8
                    try clear c1
                    try clear p2
                    try clear c6
                    try clear c6b0
                    try clear c7
                    try clear c7b0
                    try clear c9
                    try clear c9b0
                    try clear p2
                    obtain ⟨kq, x36_7, rfl, HA, HJ7, HO_4, HO_5, HB⟩ := hcut
                    cases kq with
                    | zero => exact absurd HA.out (by simp [sumpterlaw25_StateReaches.j3])
                    | succ kj7 =>
                      have H := HA.out
                      clear HA
                      simp only [sumpterlaw25_StateReaches.j3] at H
                      by_cases c12 : x36_7 = true
                      · subst c12
                        have H1 : (if 0 ≤ x8_3 then (if x8_3 < (x4_3.length : Int) then ((state_Sends.f kj7 (rd x4_3 x8_3) x7_2).bind fun bt129 => (if bt129.2 = true then ((sumpterlaw25_hasSend.f kj7 x4_3 bt129.1).bind fun t131 => (if t131 = true then (sumpterlaw25_StateReaches.l2 kj7 (Int.tmod a0 6) x4_3 x5_2 x6_1 x7_2 (wrap64 (x8_3 + 1))) else (if x4_3.length < 140737488355328 then (sumpterlaw25_StateReaches.l2 kj7 (Int.tmod a0 6) (x4_3 ++ [bt129.1]) x5_2 x6_1 x7_2 (wrap64 (x8_3 + 1))) else (none)))) else (sumpterlaw25_StateReaches.l2 kj7 (Int.tmod a0 6) x4_3 x5_2 x6_1 x7_2 (wrap64 (x8_3 + 1))))) else (none)) else (none)) = some r := by rw [if_pos rfl] at H; exact H
                        clear H
                        have H := H1
                        clear H1
                        by_cases c13 : 0 ≤ x8_3
                        · rw [if_pos c13] at H
                          have c13b0 : decide (0 ≤ x8_3) = true := decide_eq_true c13
                          clear c13
                          by_cases c14 : x8_3 < (x4_3.length : Int)
                          · rw [if_pos c14] at H
                            have c14b0 : decide (x8_3 < (x4_3.length : Int)) = true := decide_eq_true c14
                            clear c14
                            replace H := Option.bind_eq_some_iff.mp H
                            obtain ⟨⟨t129, t130⟩, A150, H⟩ := H
                            replace H : (if t130 = true then ((sumpterlaw25_hasSend.f kj7 x4_3 t129).bind fun t131 => (if t131 = true then (sumpterlaw25_StateReaches.l2 kj7 (Int.tmod a0 6) x4_3 x5_2 x6_1 x7_2 (wrap64 (x8_3 + 1))) else (if x4_3.length < 140737488355328 then (sumpterlaw25_StateReaches.l2 kj7 (Int.tmod a0 6) (x4_3 ++ [t129]) x5_2 x6_1 x7_2 (wrap64 (x8_3 + 1))) else (none)))) else (sumpterlaw25_StateReaches.l2 kj7 (Int.tmod a0 6) x4_3 x5_2 x6_1 x7_2 (wrap64 (x8_3 + 1)))) = some r := H
                            have A15 := Aside0.mk A150
                            clear A150
                            by_cases c16 : t130 = true
                            · subst c16
                              have H1 : ((sumpterlaw25_hasSend.f kj7 x4_3 t129).bind fun t131 => (if t131 = true then (sumpterlaw25_StateReaches.l2 kj7 (Int.tmod a0 6) x4_3 x5_2 x6_1 x7_2 (wrap64 (x8_3 + 1))) else (if x4_3.length < 140737488355328 then (sumpterlaw25_StateReaches.l2 kj7 (Int.tmod a0 6) (x4_3 ++ [t129]) x5_2 x6_1 x7_2 (wrap64 (x8_3 + 1))) else (none)))) = some r := by rw [if_pos rfl] at H; exact H
                              clear H
                              have H := H1
                              clear H1
                              replace H := Option.bind_eq_some_iff.mp H
                              obtain ⟨t131, A170, H⟩ := H
                              replace H : (if t131 = true then (sumpterlaw25_StateReaches.l2 kj7 (Int.tmod a0 6) x4_3 x5_2 x6_1 x7_2 (wrap64 (x8_3 + 1))) else (if x4_3.length < 140737488355328 then (sumpterlaw25_StateReaches.l2 kj7 (Int.tmod a0 6) (x4_3 ++ [t129]) x5_2 x6_1 x7_2 (wrap64 (x8_3 + 1))) else (none))) = some r := H
                              have A17 := Aside0.mk A170
                              clear A170
                              by_cases c18 : t131 = true
                              · subst c18
                                have H1 : (sumpterlaw25_StateReaches.l2 kj7 (Int.tmod a0 6) x4_3 x5_2 x6_1 x7_2 (wrap64 (x8_3 + 1))) = some r := by rw [if_pos rfl] at H; exact H
                                clear H
                                have H := H1
                                clear H1
                                have H' := Aside0.mk H
                                clear H
                                obtain ⟨Ao19, co19, eo19⟩ := Kd.R_slice HO_4.out
                                subst eo19
                                have p128 : 0 ≤ (x8_3 : Int) := of_decide_eq_true (by first | (with_reducible assumption) | assumption)
                                have q128 : x8_3 < (x4_3.length : Int) := of_decide_eq_true (by first | (with_reducible assumption) | assumption)
                                obtain ⟨ad128, e128, hx128_0⟩ := Kd.at_int (Kd.R_reads' HO_4.out).2.2 x8_3 p128 q128
                                cases e128
                                replace p128 := eq_true p128
                                replace q128 := eq_true q128
                                go_wp2_with (first | ((with_reducible refine gate_callee (f := 26) rfl ?_); refine goesL_ (some 45) rfl rfl Try.func26 (by kernel_rfl) rfl #[.int .u8 (rd x4_3 x8_3), .int .u8 x7_2] rfl (by (try simp only [List.map_toArray, List.map_cons, List.map_nil]); first | done | rfl | (simp only [List.length_drop, List.length_take]; rfl)) ?_; (with_reducible refine (state_Sends.calls kj7 (rd x4_3 x8_3) x7_2 t129 true _ A15.out).mono ?_); rintro e w' ⟨rfl, ⟨nd, rfl⟩⟩; refine ⟨_, rfl, ?_⟩) | (go_at_call 41; (with_reducible refine (sumpterlaw25_hasSend.calls kj7 _ _ x4_3 t129 true _ ?side1 ?side2 A17.out).mono ?_); (case side1 => repeat (first | exact (Kd.R_reads' HO_4.out).2.2 | (with_reducible refine Kd.C_alloc ?_ _) | (with_reducible refine Kd.C_drewN ?_ _) | (with_reducible refine Kd.C_drew ?_))); (case side2 => exact (Kd.R_reads' HO_4.out).2.1); rintro e w' ⟨rfl, ⟨nd, rfl⟩⟩))
                                go_roundg kj7
                                case measure => have := HK1.out; have := HK2.out; have := HK3.out; have := HJ7.out; omega
                                case rel => exact ⟨(x4_3), (wrap64 (x8_3 + 1)), (by first | rfl | (simp; done) | (simp [*]; done)), H', ⟨by have := HK1.out; have := HK2.out; have := HK3.out; have := HJ7.out; omega⟩, ⟨by (with_reducible repeat (first | apply Kd.R_alloc | apply Kd.R_drewN | apply Kd.R_drew)); exact HO_4.out⟩, ⟨by (with_reducible repeat (first | apply Kd.R_alloc | apply Kd.R_drewN | apply Kd.R_drew)); exact HO_5.out⟩, ⟨by repeat (first | (with_reducible first | exact HB.out | apply below_alloc | apply pw_below_drewN | apply below_drew1) | exact HB.out)⟩⟩
                              · replace c18 := Bool.eq_false_iff.mpr c18
                                subst c18
                                have H1 : (if x4_3.length < 140737488355328 then (sumpterlaw25_StateReaches.l2 kj7 (Int.tmod a0 6) (x4_3 ++ [t129]) x5_2 x6_1 x7_2 (wrap64 (x8_3 + 1))) else (none)) = some r := by rw [if_neg (show ¬ (false = true) by decide)] at H; exact H
                                clear H
                                have H := H1
                                clear H1
                                by_cases c20 : x4_3.length < 140737488355328
                                · rw [if_pos c20] at H
                                  have LMc20 := Aside0.mk c20
                                  clear c20
                                  obtain ⟨y132, hy132⟩ : ∃ y_ : List Int, y_ = (x4_3 ++ [t129]) := ⟨_, rfl⟩
                                  replace H : (sumpterlaw25_StateReaches.l2 kj7 (Int.tmod a0 6) y132 x5_2 x6_1 x7_2 (wrap64 (x8_3 + 1))) = some r := by first | (rw [hy132]; with_reducible exact H) | (have H2_ := (Option.bind_some _ _).symm.trans H; rw [hy132]; with_reducible exact H2_) | (have H2_ := (Option.bind_some _ _).symm.trans H; with_reducible exact H2_) | with_reducible exact H | (rw [hy132]; exact H) | exact H
                                  have Ny132 := Aside0.mk hy132
                                  clear hy132
                                  have H' := Aside0.mk H
                                  clear H
                                  obtain ⟨Ao21, co21, eo21⟩ := Kd.R_slice HO_4.out
                                  subst eo21
                                  have p128 : 0 ≤ (x8_3 : Int) := of_decide_eq_true (by first | (with_reducible assumption) | assumption)
                                  have q128 : x8_3 < (x4_3.length : Int) := of_decide_eq_true (by first | (with_reducible assumption) | assumption)
                                  obtain ⟨ad128, e128, hx128_0⟩ := Kd.at_int (Kd.R_reads' HO_4.out).2.2 x8_3 p128 q128
                                  cases e128
                                  replace p128 := eq_true p128
                                  replace q128 := eq_true q128
                                  go_wp2_with (first | ((with_reducible refine gate_callee (f := 26) rfl ?_); refine goesL_ (some 45) rfl rfl Try.func26 (by kernel_rfl) rfl #[.int .u8 (rd x4_3 x8_3), .int .u8 x7_2] rfl (by (try simp only [List.map_toArray, List.map_cons, List.map_nil]); first | done | rfl | (simp only [List.length_drop, List.length_take]; rfl)) ?_; (with_reducible refine (state_Sends.calls kj7 (rd x4_3 x8_3) x7_2 t129 true _ A15.out).mono ?_); rintro e w' ⟨rfl, ⟨nd, rfl⟩⟩; refine ⟨_, rfl, ?_⟩) | (go_at_call 41; (with_reducible refine (sumpterlaw25_hasSend.calls kj7 _ _ x4_3 t129 false _ ?side1 ?side2 A17.out).mono ?_); (case side1 => repeat (first | exact (Kd.R_reads' HO_4.out).2.2 | (with_reducible refine Kd.C_alloc ?_ _) | (with_reducible refine Kd.C_drewN ?_ _) | (with_reducible refine Kd.C_drew ?_))); (case side2 => exact (Kd.R_reads' HO_4.out).2.1); rintro e w' ⟨rfl, ⟨nd, rfl⟩⟩) | ((with_reducible refine gate_builtin (b := .append) (xs := #[.tmp 55, .tmp 57]) rfl ?_); (try (refine gate_guard (by rfl) ?_; dsimp only)); at_builtin; refine Kd.R_append (Kd.int .u8) (w0 := w) w.heap.size rfl (.tmp 55) (.tmp 57) 69 48 (.int .u8 0) 1 rfl Try.underlying69 info48 rfl (by decide) (by omega) (.slice (some ad128) x4_3.length co21) x4_3 t129 [.int .u8 t129] (fun _ => True) (fun _ => False) rfl rfl ?aP (fun _ hk => hk.elim) ?aF ?aO ?aB ?aS ?aL ?_; (case aP => exact rfl); (case aB => exact (by repeat (first | (with_reducible first | exact HB.out | apply below_alloc | apply pw_below_drewN | apply below_drew1) | exact HB.out))); (case aF => exact (fun _ _ => trivial)); (case aO => exact (by (with_reducible repeat (first | apply Kd.R_alloc | apply Kd.R_drewN | apply Kd.R_drew)); exact HO_4.out)); (case aS => exact (below_size (by repeat (first | (with_reducible first | exact HB.out | apply below_alloc | apply pw_below_drewN | apply below_drew1) | exact HB.out)))); (case aL => have := LMc20.out; omega); intro v133 w22 ho hb hg hat; rw [← Ny132.out] at ho; have n0_ := Aside0.mk (Kd.R_over' (by (with_reducible repeat (first | apply Kd.R_alloc | apply Kd.R_drewN | apply Kd.R_drew)); exact HO_5.out) (Kd.R_typed (by (with_reducible repeat (first | apply Kd.R_alloc | apply Kd.R_drewN | apply Kd.R_drew)); exact HO_4.out)) (by decide) hg); have n1_ := Aside0.mk (hb); have n2_ := Aside0.mk (ho); clear HO_5; clear HB; clear HO_4; have HO_5 := n0_; have HB := n1_; have HO134 := n2_; clear n0_ n1_ n2_; clear ho hb hg hat))
                                  go_roundg kj7
                                  case measure => have := HK1.out; have := HK2.out; have := HK3.out; have := HJ7.out; omega
                                  case rel => exact ⟨(y132), (wrap64 (x8_3 + 1)), (by first | rfl | (simp; done) | (simp [*]; done)), H', ⟨by have := HK1.out; have := HK2.out; have := HK3.out; have := HJ7.out; omega⟩, ⟨by (with_reducible repeat (first | apply Kd.R_alloc | apply Kd.R_drewN | apply Kd.R_drew)); exact HO134.out⟩, ⟨by (with_reducible repeat (first | apply Kd.R_alloc | apply Kd.R_drewN | apply Kd.R_drew)); exact HO_5.out⟩, ⟨by repeat (first | (with_reducible first | exact HB.out | apply below_alloc | apply pw_below_drewN | apply below_drew1) | exact HB.out)⟩⟩
                                · rw [if_neg c20] at H
                                  exact absurd H (by simp)
                            · replace c16 := Bool.eq_false_iff.mpr c16
                              subst c16
                              have H1 : (sumpterlaw25_StateReaches.l2 kj7 (Int.tmod a0 6) x4_3 x5_2 x6_1 x7_2 (wrap64 (x8_3 + 1))) = some r := by rw [if_neg (show ¬ (false = true) by decide)] at H; exact H
                              clear H
                              have H := H1
                              clear H1
                              have H' := Aside0.mk H
                              clear H
                              obtain ⟨Ao23, co23, eo23⟩ := Kd.R_slice HO_4.out
                              subst eo23
                              have p128 : 0 ≤ (x8_3 : Int) := of_decide_eq_true (by first | (with_reducible assumption) | assumption)
                              have q128 : x8_3 < (x4_3.length : Int) := of_decide_eq_true (by first | (with_reducible assumption) | assumption)
                              obtain ⟨ad128, e128, hx128_0⟩ := Kd.at_int (Kd.R_reads' HO_4.out).2.2 x8_3 p128 q128
                              cases e128
                              replace p128 := eq_true p128
                              replace q128 := eq_true q128
                              go_wp2_with (first | ((with_reducible refine gate_callee (f := 26) rfl ?_); refine goesL_ (some 45) rfl rfl Try.func26 (by kernel_rfl) rfl #[.int .u8 (rd x4_3 x8_3), .int .u8 x7_2] rfl (by (try simp only [List.map_toArray, List.map_cons, List.map_nil]); first | done | rfl | (simp only [List.length_drop, List.length_take]; rfl)) ?_; (with_reducible refine (state_Sends.calls kj7 (rd x4_3 x8_3) x7_2 t129 false _ A15.out).mono ?_); rintro e w' ⟨rfl, ⟨nd, rfl⟩⟩; refine ⟨_, rfl, ?_⟩))
                              go_roundg kj7
                              case measure => have := HK1.out; have := HK2.out; have := HK3.out; have := HJ7.out; omega
                              case rel => exact ⟨(x4_3), (wrap64 (x8_3 + 1)), (by first | rfl | (simp; done) | (simp [*]; done)), H', ⟨by have := HK1.out; have := HK2.out; have := HK3.out; have := HJ7.out; omega⟩, ⟨by (with_reducible repeat (first | apply Kd.R_alloc | apply Kd.R_drewN | apply Kd.R_drew)); exact HO_4.out⟩, ⟨by (with_reducible repeat (first | apply Kd.R_alloc | apply Kd.R_drewN | apply Kd.R_drew)); exact HO_5.out⟩, ⟨by repeat (first | (with_reducible first | exact HB.out | apply below_alloc | apply pw_below_drewN | apply below_drew1) | exact HB.out)⟩⟩
                          · rw [if_neg c14] at H
                            exact absurd H (by simp)
                        · rw [if_neg c13] at H
                          exact absurd H (by simp)
                      · replace c12 := Bool.eq_false_iff.mpr c12
                        subst c12
                        have H1 : (sumpterlaw25_StateReaches.l3 kj7 (Int.tmod a0 6) x4_3 x5_2 x6_1 x7_2 0) = some r := by rw [if_neg (show ¬ (false = true) by decide)] at H; exact H
                        clear H
                        have H := H1
                        clear H1
                        have H' := Aside0.mk H
                        clear H
                        go_wp2
                        go_loopg [5, 11] kj7 (fun kq v5 v11 w' => ∃ (x5_5 : List Int) (x11_5 : Int), v11 = .int .i64 x11_5 ∧ Aside0 (sumpterlaw25_StateReaches.l3 kq (Int.tmod a0 6) x4_3 x5_5 x6_1 x7_2 x11_5 = some r) ∧ Aside0 (kq ≤ kj7) ∧ Aside0 (Kd.R (Kd.int .u8) 48 w' w.heap.size (fun _ => True) u4 x4_3) ∧ Aside0 (Kd.R (Kd.int .u8) 57 w' w.heap.size (fun _ => True) v5 x5_5) ∧ Aside0 (Below w.heap.size w w'))
                        case atStart => exact ⟨(x5_2), (0), (by first | rfl | (simp; done) | (simp [*]; done)), H', ⟨Nat.le_refl _⟩, ⟨by (with_reducible repeat (first | apply Kd.R_alloc | apply Kd.R_drewN | apply Kd.R_drew)); exact HO_4.out⟩, ⟨by (with_reducible repeat (first | apply Kd.R_alloc | apply Kd.R_drewN | apply Kd.R_drew)); exact HO_5.out⟩, ⟨by repeat (first | (with_reducible first | exact HB.out | apply below_alloc | apply pw_below_drewN | apply below_drew1) | exact HB.out)⟩⟩
                        case round =>
                          clear H'
                          try clear c1
                          try clear p1
                          try clear q1
                          try clear hx1
                          try clear c2
                          try clear p2
                          try clear c6
                          try clear c6b0
                          try clear p6
                          try clear c7
                          try clear c7b0
                          try clear c9
                          try clear c9b0
                          try clear c12
                          try clear p12
                          try clear q12
                          try clear hx12
                          try clear c13
                          try clear c13b0
                          try clear c14
                          try clear c14b0
                          try clear c16
                          try clear c18
                          try clear c20
                          try clear hx128_0
                          try clear p128
                          try clear p2
                          try clear q128
                          obtain ⟨x5_5, x11_5, rfl, HA, HK5, HO_4, HO_5, HB⟩ := hrel
                          cases gk with
                          | zero => exact absurd HA.out (by simp [sumpterlaw25_StateReaches.l3])
                          | succ k5 =>
                            have H := HA.out
                            clear HA
                            simp only [sumpterlaw25_StateReaches.l3] at H
                            have HC24 := Aside0.mk H
                            clear H
                            go_upto_region 16 with (fail)
                            go_cut [67] (fun v67 wc => ∃ (kq : Nat) (x67_23 : Bool), v67 = .bool x67_23 ∧ Aside0 (sumpterlaw25_StateReaches.j5 kq (Int.tmod a0 6) x4_3 x5_5 x6_1 x7_2 x11_5 x67_23 = some r) ∧ Aside0 (kq ≤ k5) ∧ Aside0 (Kd.R (Kd.int .u8) 48 wc w.heap.size (fun _ => True) u4 x4_3) ∧ Aside0 (Kd.R (Kd.int .u8) 57 wc w.heap.size (fun _ => True) u5 x5_5) ∧ Aside0 (Below w.heap.size w wc))
                            case first =>
                              have H := HC24.out
                              clear HC24
                              by_cases c25 : x11_5 < (x5_5.length : Int)
                              · rw [if_pos c25] at H
                                have c25b0 : decide (x11_5 < (x5_5.length : Int)) = true := decide_eq_true c25
                                clear c25
                                (first | rw [c25b0] | (simp only [i64_w, i32_w]; rw [c25b0]) | skip)
                                have H' := Aside0.mk H
                                clear H
                                obtain ⟨Ao26, co26, eo26⟩ := Kd.R_slice HO_5.out
                                subst eo26
                                go_wp2
                                go_meet
                                case rel => exact ⟨_, (decide ((x5_5.length : Int) < 200)), (by first | rfl | (simp; done) | (simp [*]; done)), H', ⟨by have := HK1.out; have := HK2.out; have := HK3.out; have := HJ7.out; have := HK5.out; first | omega | exact Nat.le_refl _⟩, ⟨by (with_reducible repeat (first | apply Kd.R_alloc | apply Kd.R_drewN | apply Kd.R_drew)); exact HO_4.out⟩, ⟨by (with_reducible repeat (first | apply Kd.R_alloc | apply Kd.R_drewN | apply Kd.R_drew)); exact HO_5.out⟩, ⟨by repeat (first | (with_reducible first | exact HB.out | apply below_alloc | apply pw_below_drewN | apply below_drew1) | exact HB.out)⟩⟩
                              · rw [if_neg c25] at H
                                have c25b0 : decide (x11_5 < (x5_5.length : Int)) = false := decide_eq_false c25
                                clear c25
                                (first | rw [c25b0] | (simp only [i64_w, i32_w]; rw [c25b0]) | skip)
                                have H' := Aside0.mk H
                                clear H
                                obtain ⟨Ao27, co27, eo27⟩ := Kd.R_slice HO_5.out
                                subst eo27
                                go_wp2
                                go_meet
                                case rel => exact ⟨_, (false), (by first | rfl | (simp; done) | (simp [*]; done)), H', ⟨by have := HK1.out; have := HK2.out; have := HK3.out; have := HJ7.out; have := HK5.out; first | omega | exact Nat.le_refl _⟩, ⟨by (with_reducible repeat (first | apply Kd.R_alloc | apply Kd.R_drewN | apply Kd.R_drew)); exact HO_4.out⟩, ⟨by (with_reducible repeat (first | apply Kd.R_alloc | apply Kd.R_drewN | apply Kd.R_drew)); exact HO_5.out⟩, ⟨by repeat (first | (with_reducible first | exact HB.out | apply below_alloc | apply pw_below_drewN | apply below_drew1) | exact HB.out)⟩⟩
                            case rest =>
                              clear HC24
                              try clear c1
                              try clear p1
                              try clear q1
                              try clear hx1
                              try clear c2
                              try clear p2
                              try clear c6
                              try clear c6b0
                              try clear p6
                              try clear c7
                              try clear c7b0
                              try clear c9
                              try clear c9b0
                              try clear c12
                              try clear p12
                              try clear q12
                              try clear hx12
                              try clear c13
                              try clear c13b0
                              try clear c14
                              try clear c14b0
                              try clear c16
                              try clear c18
                              try clear c20
                              try clear c25
                              try clear c25b0
                              try clear c26
                              try clear hx128_0
                              try clear p1
                              try clear p12
                              try clear p128
                              try clear p2
                              try clear p6
                              try clear q1
                              try clear q12
                              try clear q128
                              obtain ⟨kq, x67_23, rfl, HA, HJ23, HO_4, HO_5, HB⟩ := hcut
                              cases kq with
                              | zero => exact absurd HA.out (by simp [sumpterlaw25_StateReaches.j5])
                              | succ kj23 =>
                                have H := HA.out
                                clear HA
                                simp only [sumpterlaw25_StateReaches.j5] at H
                                by_cases c28 : x67_23 = true
                                · subst c28
                                  have H1 : (if 0 ≤ x11_5 then (if x11_5 < (x5_5.length : Int) then ((state_Receives.f kj23 (rd x5_5 x11_5) x7_2).bind fun bt136 => (if bt136.2 = true then ((sumpterlaw25_hasRecv.f kj23 x5_5 bt136.1).bind fun t138 => (if t138 = true then (sumpterlaw25_StateReaches.l3 kj23 (Int.tmod a0 6) x4_3 x5_5 x6_1 x7_2 (wrap64 (x11_5 + 1))) else (if x5_5.length < 140737488355328 then (sumpterlaw25_StateReaches.l3 kj23 (Int.tmod a0 6) x4_3 (x5_5 ++ [bt136.1]) x6_1 x7_2 (wrap64 (x11_5 + 1))) else (none)))) else (sumpterlaw25_StateReaches.l3 kj23 (Int.tmod a0 6) x4_3 x5_5 x6_1 x7_2 (wrap64 (x11_5 + 1))))) else (none)) else (none)) = some r := by rw [if_pos rfl] at H; exact H
                                  clear H
                                  have H := H1
                                  clear H1
                                  by_cases c29 : 0 ≤ x11_5
                                  · rw [if_pos c29] at H
                                    have c29b0 : decide (0 ≤ x11_5) = true := decide_eq_true c29
                                    clear c29
                                    by_cases c30 : x11_5 < (x5_5.length : Int)
                                    · rw [if_pos c30] at H
                                      have c30b0 : decide (x11_5 < (x5_5.length : Int)) = true := decide_eq_true c30
                                      clear c30
                                      replace H := Option.bind_eq_some_iff.mp H
                                      obtain ⟨⟨t136, t137⟩, A310, H⟩ := H
                                      replace H : (if t137 = true then ((sumpterlaw25_hasRecv.f kj23 x5_5 t136).bind fun t138 => (if t138 = true then (sumpterlaw25_StateReaches.l3 kj23 (Int.tmod a0 6) x4_3 x5_5 x6_1 x7_2 (wrap64 (x11_5 + 1))) else (if x5_5.length < 140737488355328 then (sumpterlaw25_StateReaches.l3 kj23 (Int.tmod a0 6) x4_3 (x5_5 ++ [t136]) x6_1 x7_2 (wrap64 (x11_5 + 1))) else (none)))) else (sumpterlaw25_StateReaches.l3 kj23 (Int.tmod a0 6) x4_3 x5_5 x6_1 x7_2 (wrap64 (x11_5 + 1)))) = some r := H
                                      have A31 := Aside0.mk A310
                                      clear A310
                                      by_cases c32 : t137 = true
                                      · subst c32
                                        have H1 : ((sumpterlaw25_hasRecv.f kj23 x5_5 t136).bind fun t138 => (if t138 = true then (sumpterlaw25_StateReaches.l3 kj23 (Int.tmod a0 6) x4_3 x5_5 x6_1 x7_2 (wrap64 (x11_5 + 1))) else (if x5_5.length < 140737488355328 then (sumpterlaw25_StateReaches.l3 kj23 (Int.tmod a0 6) x4_3 (x5_5 ++ [t136]) x6_1 x7_2 (wrap64 (x11_5 + 1))) else (none)))) = some r := by rw [if_pos rfl] at H; exact H
                                        clear H
                                        have H := H1
                                        clear H1
                                        replace H := Option.bind_eq_some_iff.mp H
                                        obtain ⟨t138, A330, H⟩ := H
                                        replace H : (if t138 = true then (sumpterlaw25_StateReaches.l3 kj23 (Int.tmod a0 6) x4_3 x5_5 x6_1 x7_2 (wrap64 (x11_5 + 1))) else (if x5_5.length < 140737488355328 then (sumpterlaw25_StateReaches.l3 kj23 (Int.tmod a0 6) x4_3 (x5_5 ++ [t136]) x6_1 x7_2 (wrap64 (x11_5 + 1))) else (none))) = some r := H
                                        have A33 := Aside0.mk A330
                                        clear A330
                                        by_cases c34 : t138 = true
                                        · subst c34
                                          have H1 : (sumpterlaw25_StateReaches.l3 kj23 (Int.tmod a0 6) x4_3 x5_5 x6_1 x7_2 (wrap64 (x11_5 + 1))) = some r := by rw [if_pos rfl] at H; exact H
                                          clear H
                                          have H := H1
                                          clear H1
                                          have H' := Aside0.mk H
                                          clear H
                                          obtain ⟨Ao35, co35, eo35⟩ := Kd.R_slice HO_5.out
                                          subst eo35
                                          have p135 : 0 ≤ (x11_5 : Int) := of_decide_eq_true (by first | (with_reducible assumption) | assumption)
                                          have q135 : x11_5 < (x5_5.length : Int) := of_decide_eq_true (by first | (with_reducible assumption) | assumption)
                                          obtain ⟨ad135, e135, hx135_0⟩ := Kd.at_int (Kd.R_reads' HO_5.out).2.2 x11_5 p135 q135
                                          cases e135
                                          replace p135 := eq_true p135
                                          replace q135 := eq_true q135
                                          go_wp2_with (first | ((with_reducible refine gate_callee (f := 30) rfl ?_); refine goesL_ (some 76) rfl rfl Try.func30 (by kernel_rfl) rfl #[.int .u8 (rd x5_5 x11_5), .int .u8 x7_2] rfl (by (try simp only [List.map_toArray, List.map_cons, List.map_nil]); first | done | rfl | (simp only [List.length_drop, List.length_take]; rfl)) ?_; (with_reducible refine (state_Receives.calls kj23 (rd x5_5 x11_5) x7_2 t136 true _ A31.out).mono ?_); rintro e w' ⟨rfl, ⟨nd, rfl⟩⟩; refine ⟨_, rfl, ?_⟩) | (go_at_call 42; (with_reducible refine (sumpterlaw25_hasRecv.calls kj23 _ _ x5_5 t136 true _ ?side1 ?side2 A33.out).mono ?_); (case side1 => repeat (first | exact (Kd.R_reads' HO_5.out).2.2 | (with_reducible refine Kd.C_alloc ?_ _) | (with_reducible refine Kd.C_drewN ?_ _) | (with_reducible refine Kd.C_drew ?_))); (case side2 => exact (Kd.R_reads' HO_5.out).2.1); rintro e w' ⟨rfl, ⟨nd, rfl⟩⟩))
                                          go_roundg kj23
                                          case measure => have := HK1.out; have := HK2.out; have := HK3.out; have := HJ7.out; have := HK5.out; have := HJ23.out; omega
                                          case rel => exact ⟨(x5_5), (wrap64 (x11_5 + 1)), (by first | rfl | (simp; done) | (simp [*]; done)), H', ⟨by have := HK1.out; have := HK2.out; have := HK3.out; have := HJ7.out; have := HK5.out; have := HJ23.out; omega⟩, ⟨by (with_reducible repeat (first | apply Kd.R_alloc | apply Kd.R_drewN | apply Kd.R_drew)); exact HO_4.out⟩, ⟨by (with_reducible repeat (first | apply Kd.R_alloc | apply Kd.R_drewN | apply Kd.R_drew)); exact HO_5.out⟩, ⟨by repeat (first | (with_reducible first | exact HB.out | apply below_alloc | apply pw_below_drewN | apply below_drew1) | exact HB.out)⟩⟩
                                        · replace c34 := Bool.eq_false_iff.mpr c34
                                          subst c34
                                          have H1 : (if x5_5.length < 140737488355328 then (sumpterlaw25_StateReaches.l3 kj23 (Int.tmod a0 6) x4_3 (x5_5 ++ [t136]) x6_1 x7_2 (wrap64 (x11_5 + 1))) else (none)) = some r := by rw [if_neg (show ¬ (false = true) by decide)] at H; exact H
                                          clear H
                                          have H := H1
                                          clear H1
                                          by_cases c36 : x5_5.length < 140737488355328
                                          · rw [if_pos c36] at H
                                            have LMc36 := Aside0.mk c36
                                            clear c36
                                            obtain ⟨y139, hy139⟩ : ∃ y_ : List Int, y_ = (x5_5 ++ [t136]) := ⟨_, rfl⟩
                                            replace H : (sumpterlaw25_StateReaches.l3 kj23 (Int.tmod a0 6) x4_3 y139 x6_1 x7_2 (wrap64 (x11_5 + 1))) = some r := by first | (rw [hy139]; with_reducible exact H) | (have H2_ := (Option.bind_some _ _).symm.trans H; rw [hy139]; with_reducible exact H2_) | (have H2_ := (Option.bind_some _ _).symm.trans H; with_reducible exact H2_) | with_reducible exact H | (rw [hy139]; exact H) | exact H
                                            have Ny139 := Aside0.mk hy139
                                            clear hy139
                                            have H' := Aside0.mk H
                                            clear H
                                            obtain ⟨Ao37, co37, eo37⟩ := Kd.R_slice HO_5.out
                                            subst eo37
                                            have p135 : 0 ≤ (x11_5 : Int) := of_decide_eq_true (by first | (with_reducible assumption) | assumption)
                                            have q135 : x11_5 < (x5_5.length : Int) := of_decide_eq_true (by first | (with_reducible assumption) | assumption)
                                            obtain ⟨ad135, e135, hx135_0⟩ := Kd.at_int (Kd.R_reads' HO_5.out).2.2 x11_5 p135 q135
                                            cases e135
                                            replace p135 := eq_true p135
                                            replace q135 := eq_true q135
                                            go_wp2_with (first | ((with_reducible refine gate_callee (f := 30) rfl ?_); refine goesL_ (some 76) rfl rfl Try.func30 (by kernel_rfl) rfl #[.int .u8 (rd x5_5 x11_5), .int .u8 x7_2] rfl (by (try simp only [List.map_toArray, List.map_cons, List.map_nil]); first | done | rfl | (simp only [List.length_drop, List.length_take]; rfl)) ?_; (with_reducible refine (state_Receives.calls kj23 (rd x5_5 x11_5) x7_2 t136 true _ A31.out).mono ?_); rintro e w' ⟨rfl, ⟨nd, rfl⟩⟩; refine ⟨_, rfl, ?_⟩) | (go_at_call 42; (with_reducible refine (sumpterlaw25_hasRecv.calls kj23 _ _ x5_5 t136 false _ ?side1 ?side2 A33.out).mono ?_); (case side1 => repeat (first | exact (Kd.R_reads' HO_5.out).2.2 | (with_reducible refine Kd.C_alloc ?_ _) | (with_reducible refine Kd.C_drewN ?_ _) | (with_reducible refine Kd.C_drew ?_))); (case side2 => exact (Kd.R_reads' HO_5.out).2.1); rintro e w' ⟨rfl, ⟨nd, rfl⟩⟩) | ((with_reducible refine gate_builtin (b := .append) (xs := #[.tmp 86, .tmp 88]) rfl ?_); (try (refine gate_guard (by rfl) ?_; dsimp only)); at_builtin; refine Kd.R_append (Kd.int .u8) (w0 := w) w.heap.size rfl (.tmp 86) (.tmp 88) 70 57 (.int .u8 0) 1 rfl Try.underlying70 info57 rfl (by decide) (by omega) (.slice (some ad135) x5_5.length co37) x5_5 t136 [.int .u8 t136] (fun _ => True) (fun _ => False) rfl rfl ?aP (fun _ hk => hk.elim) ?aF ?aO ?aB ?aS ?aL ?_; (case aP => exact rfl); (case aB => exact (by repeat (first | (with_reducible first | exact HB.out | apply below_alloc | apply pw_below_drewN | apply below_drew1) | exact HB.out))); (case aF => exact (fun _ _ => trivial)); (case aO => exact (by (with_reducible repeat (first | apply Kd.R_alloc | apply Kd.R_drewN | apply Kd.R_drew)); exact HO_5.out)); (case aS => exact (below_size (by repeat (first | (with_reducible first | exact HB.out | apply below_alloc | apply pw_below_drewN | apply below_drew1) | exact HB.out)))); (case aL => have := LMc36.out; omega); intro v140 w38 ho hb hg hat; rw [← Ny139.out] at ho; have n0_ := Aside0.mk (Kd.R_over' (by (with_reducible repeat (first | apply Kd.R_alloc | apply Kd.R_drewN | apply Kd.R_drew)); exact HO_4.out) (Kd.R_typed (by (with_reducible repeat (first | apply Kd.R_alloc | apply Kd.R_drewN | apply Kd.R_drew)); exact HO_5.out)) (by decide) hg); have n1_ := Aside0.mk (hb); have n2_ := Aside0.mk (ho); clear HO_4; clear HB; clear HO_5; have HO_4 := n0_; have HB := n1_; have HO141 := n2_; clear n0_ n1_ n2_; clear ho hb hg hat))
                                            go_roundg kj23
                                            case measure => have := HK1.out; have := HK2.out; have := HK3.out; have := HJ7.out; have := HK5.out; have := HJ23.out; omega
                                            case rel => exact ⟨(y139), (wrap64 (x11_5 + 1)), (by first | rfl | (simp; done) | (simp [*]; done)), H', ⟨by have := HK1.out; have := HK2.out; have := HK3.out; have := HJ7.out; have := HK5.out; have := HJ23.out; omega⟩, ⟨by (with_reducible repeat (first | apply Kd.R_alloc | apply Kd.R_drewN | apply Kd.R_drew)); exact HO_4.out⟩, ⟨by (with_reducible repeat (first | apply Kd.R_alloc | apply Kd.R_drewN | apply Kd.R_drew)); exact HO141.out⟩, ⟨by repeat (first | (with_reducible first | exact HB.out | apply below_alloc | apply pw_below_drewN | apply below_drew1) | exact HB.out)⟩⟩
                                          · rw [if_neg c36] at H
                                            exact absurd H (by simp)
                                      · replace c32 := Bool.eq_false_iff.mpr c32
                                        subst c32
                                        have H1 : (sumpterlaw25_StateReaches.l3 kj23 (Int.tmod a0 6) x4_3 x5_5 x6_1 x7_2 (wrap64 (x11_5 + 1))) = some r := by rw [if_neg (show ¬ (false = true) by decide)] at H; exact H
                                        clear H
                                        have H := H1
                                        clear H1
                                        have H' := Aside0.mk H
                                        clear H
                                        obtain ⟨Ao39, co39, eo39⟩ := Kd.R_slice HO_5.out
                                        subst eo39
                                        have p135 : 0 ≤ (x11_5 : Int) := of_decide_eq_true (by first | (with_reducible assumption) | assumption)
                                        have q135 : x11_5 < (x5_5.length : Int) := of_decide_eq_true (by first | (with_reducible assumption) | assumption)
                                        obtain ⟨ad135, e135, hx135_0⟩ := Kd.at_int (Kd.R_reads' HO_5.out).2.2 x11_5 p135 q135
                                        cases e135
                                        replace p135 := eq_true p135
                                        replace q135 := eq_true q135
                                        go_wp2_with (first | ((with_reducible refine gate_callee (f := 30) rfl ?_); refine goesL_ (some 76) rfl rfl Try.func30 (by kernel_rfl) rfl #[.int .u8 (rd x5_5 x11_5), .int .u8 x7_2] rfl (by (try simp only [List.map_toArray, List.map_cons, List.map_nil]); first | done | rfl | (simp only [List.length_drop, List.length_take]; rfl)) ?_; (with_reducible refine (state_Receives.calls kj23 (rd x5_5 x11_5) x7_2 t136 false _ A31.out).mono ?_); rintro e w' ⟨rfl, ⟨nd, rfl⟩⟩; refine ⟨_, rfl, ?_⟩))
                                        go_roundg kj23
                                        case measure => have := HK1.out; have := HK2.out; have := HK3.out; have := HJ7.out; have := HK5.out; have := HJ23.out; omega
                                        case rel => exact ⟨(x5_5), (wrap64 (x11_5 + 1)), (by first | rfl | (simp; done) | (simp [*]; done)), H', ⟨by have := HK1.out; have := HK2.out; have := HK3.out; have := HJ7.out; have := HK5.out; have := HJ23.out; omega⟩, ⟨by (with_reducible repeat (first | apply Kd.R_alloc | apply Kd.R_drewN | apply Kd.R_drew)); exact HO_4.out⟩, ⟨by (with_reducible repeat (first | apply Kd.R_alloc | apply Kd.R_drewN | apply Kd.R_drew)); exact HO_5.out⟩, ⟨by repeat (first | (with_reducible first | exact HB.out | apply below_alloc | apply pw_below_drewN | apply below_drew1) | exact HB.out)⟩⟩
                                    · rw [if_neg c30] at H
                                      exact absurd H (by simp)
                                  · rw [if_neg c29] at H
                                    exact absurd H (by simp)
                                · replace c28 := Bool.eq_false_iff.mpr c28
                                  subst c28
                                  have H1 : (sumpterlaw25_StateReaches.l1 kj23 (Int.tmod a0 6) x4_3 x5_5 x6_1 ((x7_2 + 1) % 256)) = some r := by rw [if_neg (show ¬ (false = true) by decide)] at H; exact H
                                  clear H
                                  have H := H1
                                  clear H1
                                  have H' := Aside0.mk H
                                  clear H
                                  go_wp2
                                  go_roundg kj23
                                  case measure => have := HK1.out; have := HK2.out; have := HK3.out; have := HJ7.out; have := HK5.out; have := HJ23.out; omega
                                  case rel => exact ⟨(x4_3), (x5_5), ((x7_2 + 1) % 256), (by first | rfl | (simp; done) | (simp [*]; done)), H', ⟨by have := HK1.out; have := HK2.out; have := HK3.out; have := HJ7.out; have := HK5.out; have := HJ23.out; omega⟩, ⟨by (with_reducible repeat (first | apply Kd.R_alloc | apply Kd.R_drewN | apply Kd.R_drew)); exact HO_4.out⟩, ⟨by (with_reducible repeat (first | apply Kd.R_alloc | apply Kd.R_drewN | apply Kd.R_drew)); exact HO_5.out⟩, ⟨by repeat (first | (with_reducible first | exact HB.out | apply below_alloc | apply pw_below_drewN | apply below_drew1) | exact HB.out)⟩⟩
            · rw [if_neg c7] at H
              have c7b0 : decide (x7_2 < 5) = false := decide_eq_false c7
              clear c7
              have H' := Aside0.mk H
              clear H
              go_wp2
              go_roundg k2
              case measure => have := HK1.out; have := HK2.out; omega
              case rel => exact ⟨(x4_2), (x5_2), (wrap64 (x6_1 + 1)), (by first | rfl | (simp; done) | (simp [*]; done)), H', ⟨by have := HK1.out; have := HK2.out; omega⟩, ⟨by (with_reducible repeat (first | apply Kd.R_alloc | apply Kd.R_drewN | apply Kd.R_drew)); exact HO_4.out⟩, ⟨by (with_reducible repeat (first | apply Kd.R_alloc | apply Kd.R_drewN | apply Kd.R_drew)); exact HO_5.out⟩, ⟨by repeat (first | (with_reducible first | exact HB.out | apply below_alloc | apply pw_below_drewN | apply below_drew1) | exact HB.out)⟩⟩
      · rw [if_neg c6] at H
        have c6b0 : decide (x6_1 < 4) = false := decide_eq_false c6
        clear c6
        replace H := Option.bind_eq_some_iff.mp H
        obtain ⟨t142, A400, H⟩ := H
        replace H : (if t142 = true then ((sumpterlaw25_hasRecv.f k1 x5_1 (Int.tmod a0 6)).bind fun t143 => (if t143 = true then (if (x4_1.length : Int) = 6 then (if (x5_1.length : Int) = 6 then ((state_MaySend.f (Int.tmod a0 6)).bind fun t144 => (if t144 = true then ((state_SendDone.f (Int.tmod a0 6)).bind fun t145 => (if t145 = true then (some false) else ((state_MayRead.f (Int.tmod a0 6)).bind fun t146 => (if t146 = true then ((state_RecvDone.f (Int.tmod a0 6)).bind fun t147 => (if t147 = true then (some false) else ((sumpterlaw25_awake.f k1).bind fun t148 => (some t148)))) else ((sumpterlaw25_awake.f k1).bind fun t149 => (some t149)))))) else ((state_MayRead.f (Int.tmod a0 6)).bind fun t150 => (if t150 = true then ((state_RecvDone.f (Int.tmod a0 6)).bind fun t151 => (if t151 = true then (some false) else ((sumpterlaw25_awake.f k1).bind fun t152 => (some t152)))) else ((sumpterlaw25_awake.f k1).bind fun t153 => (some t153)))))) else (some false)) else (some false)) else (some false))) else (some false)) = some r := H
        have A40 := Aside0.mk A400
        clear A400
        by_cases c41 : t142 = true
        · subst c41
          have H1 : ((sumpterlaw25_hasRecv.f k1 x5_1 (Int.tmod a0 6)).bind fun t143 => (if t143 = true then (if (x4_1.length : Int) = 6 then (if (x5_1.length : Int) = 6 then ((state_MaySend.f (Int.tmod a0 6)).bind fun t144 => (if t144 = true then ((state_SendDone.f (Int.tmod a0 6)).bind fun t145 => (if t145 = true then (some false) else ((state_MayRead.f (Int.tmod a0 6)).bind fun t146 => (if t146 = true then ((state_RecvDone.f (Int.tmod a0 6)).bind fun t147 => (if t147 = true then (some false) else ((sumpterlaw25_awake.f k1).bind fun t148 => (some t148)))) else ((sumpterlaw25_awake.f k1).bind fun t149 => (some t149)))))) else ((state_MayRead.f (Int.tmod a0 6)).bind fun t150 => (if t150 = true then ((state_RecvDone.f (Int.tmod a0 6)).bind fun t151 => (if t151 = true then (some false) else ((sumpterlaw25_awake.f k1).bind fun t152 => (some t152)))) else ((sumpterlaw25_awake.f k1).bind fun t153 => (some t153)))))) else (some false)) else (some false)) else (some false))) = some r := by rw [if_pos rfl] at H; exact H
          clear H
          have H := H1
          clear H1
          replace H := Option.bind_eq_some_iff.mp H
          obtain ⟨t143, A420, H⟩ := H
          replace H : (if t143 = true then (if (x4_1.length : Int) = 6 then (if (x5_1.length : Int) = 6 then ((state_MaySend.f (Int.tmod a0 6)).bind fun t144 => (if t144 = true then ((state_SendDone.f (Int.tmod a0 6)).bind fun t145 => (if t145 = true then (some false) else ((state_MayRead.f (Int.tmod a0 6)).bind fun t146 => (if t146 = true then ((state_RecvDone.f (Int.tmod a0 6)).bind fun t147 => (if t147 = true then (some false) else ((sumpterlaw25_awake.f k1).bind fun t148 => (some t148)))) else ((sumpterlaw25_awake.f k1).bind fun t149 => (some t149)))))) else ((state_MayRead.f (Int.tmod a0 6)).bind fun t150 => (if t150 = true then ((state_RecvDone.f (Int.tmod a0 6)).bind fun t151 => (if t151 = true then (some false) else ((sumpterlaw25_awake.f k1).bind fun t152 => (some t152)))) else ((sumpterlaw25_awake.f k1).bind fun t153 => (some t153)))))) else (some false)) else (some false)) else (some false)) = some r := H
          have A42 := Aside0.mk A420
          clear A420
          by_cases c43 : t143 = true
          · subst c43
            have H1 : (if (x4_1.length : Int) = 6 then (if (x5_1.length : Int) = 6 then ((state_MaySend.f (Int.tmod a0 6)).bind fun t144 => (if t144 = true then ((state_SendDone.f (Int.tmod a0 6)).bind fun t145 => (if t145 = true then (some false) else ((state_MayRead.f (Int.tmod a0 6)).bind fun t146 => (if t146 = true then ((state_RecvDone.f (Int.tmod a0 6)).bind fun t147 => (if t147 = true then (some false) else ((sumpterlaw25_awake.f k1).bind fun t148 => (some t148)))) else ((sumpterlaw25_awake.f k1).bind fun t149 => (some t149)))))) else ((state_MayRead.f (Int.tmod a0 6)).bind fun t150 => (if t150 = true then ((state_RecvDone.f (Int.tmod a0 6)).bind fun t151 => (if t151 = true then (some false) else ((sumpterlaw25_awake.f k1).bind fun t152 => (some t152)))) else ((sumpterlaw25_awake.f k1).bind fun t153 => (some t153)))))) else (some false)) else (some false)) = some r := by rw [if_pos rfl] at H; exact H
            clear H
            have H := H1
            clear H1
            by_cases c44 : (x4_1.length : Int) = 6
            · rw [if_pos c44] at H
              have c44b0 : ((x4_1.length : Int) == 6) = true := beq_iff_eq.mpr c44
              have c44b1 : ((x4_1.length : Int) != 6) = false := bne_eq_false_iff_eq.mpr c44
              clear c44
              by_cases c45 : (x5_1.length : Int) = 6
              · rw [if_pos c45] at H
                have c45b0 : ((x5_1.length : Int) == 6) = true := beq_iff_eq.mpr c45
                have c45b1 : ((x5_1.length : Int) != 6) = false := bne_eq_false_iff_eq.mpr c45
                clear c45
                replace H := Option.bind_eq_some_iff.mp H
                obtain ⟨t144, A460, H⟩ := H
                replace H : (if t144 = true then ((state_SendDone.f (Int.tmod a0 6)).bind fun t145 => (if t145 = true then (some false) else ((state_MayRead.f (Int.tmod a0 6)).bind fun t146 => (if t146 = true then ((state_RecvDone.f (Int.tmod a0 6)).bind fun t147 => (if t147 = true then (some false) else ((sumpterlaw25_awake.f k1).bind fun t148 => (some t148)))) else ((sumpterlaw25_awake.f k1).bind fun t149 => (some t149)))))) else ((state_MayRead.f (Int.tmod a0 6)).bind fun t150 => (if t150 = true then ((state_RecvDone.f (Int.tmod a0 6)).bind fun t151 => (if t151 = true then (some false) else ((sumpterlaw25_awake.f k1).bind fun t152 => (some t152)))) else ((sumpterlaw25_awake.f k1).bind fun t153 => (some t153))))) = some r := H
                have A46 := Aside0.mk A460
                clear A460
                by_cases c47 : t144 = true
                · subst c47
                  have H1 : ((state_SendDone.f (Int.tmod a0 6)).bind fun t145 => (if t145 = true then (some false) else ((state_MayRead.f (Int.tmod a0 6)).bind fun t146 => (if t146 = true then ((state_RecvDone.f (Int.tmod a0 6)).bind fun t147 => (if t147 = true then (some false) else ((sumpterlaw25_awake.f k1).bind fun t148 => (some t148)))) else ((sumpterlaw25_awake.f k1).bind fun t149 => (some t149)))))) = some r := by rw [if_pos rfl] at H; exact H
                  clear H
                  have H := H1
                  clear H1
                  replace H := Option.bind_eq_some_iff.mp H
                  obtain ⟨t145, A480, H⟩ := H
                  replace H : (if t145 = true then (some false) else ((state_MayRead.f (Int.tmod a0 6)).bind fun t146 => (if t146 = true then ((state_RecvDone.f (Int.tmod a0 6)).bind fun t147 => (if t147 = true then (some false) else ((sumpterlaw25_awake.f k1).bind fun t148 => (some t148)))) else ((sumpterlaw25_awake.f k1).bind fun t149 => (some t149))))) = some r := H
                  have A48 := Aside0.mk A480
                  clear A480
                  by_cases c49 : t145 = true
                  · subst c49
                    have H1 : (some false) = some r := by rw [if_pos rfl] at H; exact H
                    clear H
                    have H := H1
                    clear H1
                    obtain rfl := Option.some.inj H
                    obtain ⟨Ao50, co50, eo50⟩ := Kd.R_slice HO_4.out
                    subst eo50
                    go_wp2_with (first | ((with_reducible refine gate_callee (f := 41) rfl ?_); refine goesL_ (some 94) rfl rfl Try.func41 (by kernel_rfl) rfl #[.slice Ao50 x4_1.length co50, .int .u8 (Int.tmod a0 6)] rfl (by (try simp only [List.map_toArray, List.map_cons, List.map_nil]); first | done | rfl | (simp only [List.length_drop, List.length_take]; rfl)) ?_; (with_reducible refine (sumpterlaw25_hasSend.calls k1 _ _ x4_1 (Int.tmod a0 6) true _ ?side1 ?side2 A40.out).mono ?_); (case side1 => repeat (first | exact (Kd.R_reads' HO_4.out).2.2 | (with_reducible refine Kd.C_alloc ?_ _) | (with_reducible refine Kd.C_drewN ?_ _) | (with_reducible refine Kd.C_drew ?_))); (case side2 => exact (Kd.R_reads' HO_4.out).2.1); rintro e w' ⟨rfl, ⟨nd, rfl⟩⟩; refine ⟨_, rfl, ?_⟩; obtain ⟨Ao51, co51, eo51⟩ := Kd.R_slice HO_5.out; subst eo51) | (go_at_call 42; (with_reducible refine (sumpterlaw25_hasRecv.calls k1 _ _ x5_1 (Int.tmod a0 6) true _ ?side1 ?side2 A42.out).mono ?_); (case side1 => repeat (first | exact (Kd.R_reads' HO_5.out).2.2 | (with_reducible refine Kd.C_alloc ?_ _) | (with_reducible refine Kd.C_drewN ?_ _) | (with_reducible refine Kd.C_drew ?_))); (case side2 => exact (Kd.R_reads' HO_5.out).2.1); rintro e w' ⟨rfl, ⟨nd, rfl⟩⟩) | (go_at_call 35; (with_reducible refine (state_MaySend.calls (Int.tmod a0 6) true _ A46.out).mono ?_); rintro e w' ⟨rfl, ⟨nd, rfl⟩⟩) | (go_at_call 32; (with_reducible refine (state_SendDone.calls (Int.tmod a0 6) true _ A48.out).mono ?_); rintro e w' ⟨rfl, ⟨nd, rfl⟩⟩))
                    go_ret
                    exact ⟨by first | rfl | (simp [errW_none, errW_some] <;> rfl) | (simp [*, errW_none, errW_some] <;> rfl), by repeat (first | (with_reducible first | exact HB.out | apply below_alloc | apply pw_below_drewN | apply below_drew1) | exact HB.out)⟩
                  · replace c49 := Bool.eq_false_iff.mpr c49
                    subst c49
                    have H1 : ((state_MayRead.f (Int.tmod a0 6)).bind fun t146 => (if t146 = true then ((state_RecvDone.f (Int.tmod a0 6)).bind fun t147 => (if t147 = true then (some false) else ((sumpterlaw25_awake.f k1).bind fun t148 => (some t148)))) else ((sumpterlaw25_awake.f k1).bind fun t149 => (some t149)))) = some r := by rw [if_neg (show ¬ (false = true) by decide)] at H; exact H
                    clear H
                    have H := H1
                    clear H1
                    replace H := Option.bind_eq_some_iff.mp H
                    obtain ⟨t146, A520, H⟩ := H
                    replace H : (if t146 = true then ((state_RecvDone.f (Int.tmod a0 6)).bind fun t147 => (if t147 = true then (some false) else ((sumpterlaw25_awake.f k1).bind fun t148 => (some t148)))) else ((sumpterlaw25_awake.f k1).bind fun t149 => (some t149))) = some r := H
                    have A52 := Aside0.mk A520
                    clear A520
                    by_cases c53 : t146 = true
                    · subst c53
                      have H1 : ((state_RecvDone.f (Int.tmod a0 6)).bind fun t147 => (if t147 = true then (some false) else ((sumpterlaw25_awake.f k1).bind fun t148 => (some t148)))) = some r := by rw [if_pos rfl] at H; exact H
                      clear H
                      have H := H1
                      clear H1
                      replace H := Option.bind_eq_some_iff.mp H
                      obtain ⟨t147, A540, H⟩ := H
                      replace H : (if t147 = true then (some false) else ((sumpterlaw25_awake.f k1).bind fun t148 => (some t148))) = some r := H
                      have A54 := Aside0.mk A540
                      clear A540
                      by_cases c55 : t147 = true
                      · subst c55
                        have H1 : (some false) = some r := by rw [if_pos rfl] at H; exact H
                        clear H
                        have H := H1
                        clear H1
                        obtain rfl := Option.some.inj H
                        obtain ⟨Ao56, co56, eo56⟩ := Kd.R_slice HO_4.out
                        subst eo56
                        go_wp2_with (first | ((with_reducible refine gate_callee (f := 41) rfl ?_); refine goesL_ (some 94) rfl rfl Try.func41 (by kernel_rfl) rfl #[.slice Ao56 x4_1.length co56, .int .u8 (Int.tmod a0 6)] rfl (by (try simp only [List.map_toArray, List.map_cons, List.map_nil]); first | done | rfl | (simp only [List.length_drop, List.length_take]; rfl)) ?_; (with_reducible refine (sumpterlaw25_hasSend.calls k1 _ _ x4_1 (Int.tmod a0 6) true _ ?side1 ?side2 A40.out).mono ?_); (case side1 => repeat (first | exact (Kd.R_reads' HO_4.out).2.2 | (with_reducible refine Kd.C_alloc ?_ _) | (with_reducible refine Kd.C_drewN ?_ _) | (with_reducible refine Kd.C_drew ?_))); (case side2 => exact (Kd.R_reads' HO_4.out).2.1); rintro e w' ⟨rfl, ⟨nd, rfl⟩⟩; refine ⟨_, rfl, ?_⟩; obtain ⟨Ao57, co57, eo57⟩ := Kd.R_slice HO_5.out; subst eo57) | (go_at_call 42; (with_reducible refine (sumpterlaw25_hasRecv.calls k1 _ _ x5_1 (Int.tmod a0 6) true _ ?side1 ?side2 A42.out).mono ?_); (case side1 => repeat (first | exact (Kd.R_reads' HO_5.out).2.2 | (with_reducible refine Kd.C_alloc ?_ _) | (with_reducible refine Kd.C_drewN ?_ _) | (with_reducible refine Kd.C_drew ?_))); (case side2 => exact (Kd.R_reads' HO_5.out).2.1); rintro e w' ⟨rfl, ⟨nd, rfl⟩⟩) | (go_at_call 35; (with_reducible refine (state_MaySend.calls (Int.tmod a0 6) true _ A46.out).mono ?_); rintro e w' ⟨rfl, ⟨nd, rfl⟩⟩) | (go_at_call 32; (with_reducible refine (state_SendDone.calls (Int.tmod a0 6) false _ A48.out).mono ?_); rintro e w' ⟨rfl, ⟨nd, rfl⟩⟩) | (go_at_call 36; (with_reducible refine (state_MayRead.calls (Int.tmod a0 6) true _ A52.out).mono ?_); rintro e w' ⟨rfl, ⟨nd, rfl⟩⟩) | (go_at_call 33; (with_reducible refine (state_RecvDone.calls (Int.tmod a0 6) true _ A54.out).mono ?_); rintro e w' ⟨rfl, ⟨nd, rfl⟩⟩))
                        go_ret
                        exact ⟨by first | rfl | (simp [errW_none, errW_some] <;> rfl) | (simp [*, errW_none, errW_some] <;> rfl), by repeat (first | (with_reducible first | exact HB.out | apply below_alloc | apply pw_below_drewN | apply below_drew1) | exact HB.out)⟩
                      · replace c55 := Bool.eq_false_iff.mpr c55
                        subst c55
                        have H1 : ((sumpterlaw25_awake.f k1).bind fun t148 => (some t148)) = some r := by rw [if_neg (show ¬ (false = true) by decide)] at H; exact H
                        clear H
                        have H := H1
                        clear H1
                        replace H := Option.bind_eq_some_iff.mp H
                        obtain ⟨t148, A580, H⟩ := H
                        replace H : (some t148) = some r := H
                        have A58 := Aside0.mk A580
                        clear A580
                        obtain rfl := Option.some.inj H
                        obtain ⟨Ao59, co59, eo59⟩ := Kd.R_slice HO_4.out
                        subst eo59
                        go_wp2_with (first | ((with_reducible refine gate_callee (f := 41) rfl ?_); refine goesL_ (some 94) rfl rfl Try.func41 (by kernel_rfl) rfl #[.slice Ao59 x4_1.length co59, .int .u8 (Int.tmod a0 6)] rfl (by (try simp only [List.map_toArray, List.map_cons, List.map_nil]); first | done | rfl | (simp only [List.length_drop, List.length_take]; rfl)) ?_; (with_reducible refine (sumpterlaw25_hasSend.calls k1 _ _ x4_1 (Int.tmod a0 6) true _ ?side1 ?side2 A40.out).mono ?_); (case side1 => repeat (first | exact (Kd.R_reads' HO_4.out).2.2 | (with_reducible refine Kd.C_alloc ?_ _) | (with_reducible refine Kd.C_drewN ?_ _) | (with_reducible refine Kd.C_drew ?_))); (case side2 => exact (Kd.R_reads' HO_4.out).2.1); rintro e w' ⟨rfl, ⟨nd, rfl⟩⟩; refine ⟨_, rfl, ?_⟩; obtain ⟨Ao60, co60, eo60⟩ := Kd.R_slice HO_5.out; subst eo60) | (go_at_call 42; (with_reducible refine (sumpterlaw25_hasRecv.calls k1 _ _ x5_1 (Int.tmod a0 6) true _ ?side1 ?side2 A42.out).mono ?_); (case side1 => repeat (first | exact (Kd.R_reads' HO_5.out).2.2 | (with_reducible refine Kd.C_alloc ?_ _) | (with_reducible refine Kd.C_drewN ?_ _) | (with_reducible refine Kd.C_drew ?_))); (case side2 => exact (Kd.R_reads' HO_5.out).2.1); rintro e w' ⟨rfl, ⟨nd, rfl⟩⟩) | (go_at_call 35; (with_reducible refine (state_MaySend.calls (Int.tmod a0 6) true _ A46.out).mono ?_); rintro e w' ⟨rfl, ⟨nd, rfl⟩⟩) | (go_at_call 32; (with_reducible refine (state_SendDone.calls (Int.tmod a0 6) false _ A48.out).mono ?_); rintro e w' ⟨rfl, ⟨nd, rfl⟩⟩) | (go_at_call 36; (with_reducible refine (state_MayRead.calls (Int.tmod a0 6) true _ A52.out).mono ?_); rintro e w' ⟨rfl, ⟨nd, rfl⟩⟩) | (go_at_call 33; (with_reducible refine (state_RecvDone.calls (Int.tmod a0 6) false _ A54.out).mono ?_); rintro e w' ⟨rfl, ⟨nd, rfl⟩⟩) | (go_at_call 29; (with_reducible refine (sumpterlaw25_awake.calls k1  t148 _ A58.out).mono ?_); rintro e w61 ⟨rfl, hb⟩; have n0_ := Aside0.mk (Kd.R_below (by (with_reducible repeat (first | apply Kd.R_alloc | apply Kd.R_drewN | apply Kd.R_drew)); exact HO_4.out) hb); have n1_ := Aside0.mk (Kd.R_below (by (with_reducible repeat (first | apply Kd.R_alloc | apply Kd.R_drewN | apply Kd.R_drew)); exact HO_5.out) hb); have n2_ := Aside0.mk (below_step (by repeat (first | (with_reducible first | exact HB.out | apply below_alloc | apply pw_below_drewN | apply below_drew1) | exact HB.out)) hb); clear HO_4; clear HO_5; clear HB; have HO_4 := n0_; have HO_5 := n1_; have HB := n2_; clear n0_ n1_ n2_; (try clear hb); (try clear hb2); (try clear hk); (try clear hi)))
                        go_ret
                        exact ⟨by first | rfl | (simp [errW_none, errW_some] <;> rfl) | (simp [*, errW_none, errW_some] <;> rfl), by repeat (first | (with_reducible first | exact HB.out | apply below_alloc | apply pw_below_drewN | apply below_drew1) | exact HB.out)⟩
                    · replace c53 := Bool.eq_false_iff.mpr c53
                      subst c53
                      have H1 : ((sumpterlaw25_awake.f k1).bind fun t149 => (some t149)) = some r := by rw [if_neg (show ¬ (false = true) by decide)] at H; exact H
                      clear H
                      have H := H1
                      clear H1
                      replace H := Option.bind_eq_some_iff.mp H
                      obtain ⟨t149, A620, H⟩ := H
                      replace H : (some t149) = some r := H
                      have A62 := Aside0.mk A620
                      clear A620
                      obtain rfl := Option.some.inj H
                      obtain ⟨Ao63, co63, eo63⟩ := Kd.R_slice HO_4.out
                      subst eo63
                      go_wp2_with (first | ((with_reducible refine gate_callee (f := 41) rfl ?_); refine goesL_ (some 94) rfl rfl Try.func41 (by kernel_rfl) rfl #[.slice Ao63 x4_1.length co63, .int .u8 (Int.tmod a0 6)] rfl (by (try simp only [List.map_toArray, List.map_cons, List.map_nil]); first | done | rfl | (simp only [List.length_drop, List.length_take]; rfl)) ?_; (with_reducible refine (sumpterlaw25_hasSend.calls k1 _ _ x4_1 (Int.tmod a0 6) true _ ?side1 ?side2 A40.out).mono ?_); (case side1 => repeat (first | exact (Kd.R_reads' HO_4.out).2.2 | (with_reducible refine Kd.C_alloc ?_ _) | (with_reducible refine Kd.C_drewN ?_ _) | (with_reducible refine Kd.C_drew ?_))); (case side2 => exact (Kd.R_reads' HO_4.out).2.1); rintro e w' ⟨rfl, ⟨nd, rfl⟩⟩; refine ⟨_, rfl, ?_⟩; obtain ⟨Ao64, co64, eo64⟩ := Kd.R_slice HO_5.out; subst eo64) | (go_at_call 42; (with_reducible refine (sumpterlaw25_hasRecv.calls k1 _ _ x5_1 (Int.tmod a0 6) true _ ?side1 ?side2 A42.out).mono ?_); (case side1 => repeat (first | exact (Kd.R_reads' HO_5.out).2.2 | (with_reducible refine Kd.C_alloc ?_ _) | (with_reducible refine Kd.C_drewN ?_ _) | (with_reducible refine Kd.C_drew ?_))); (case side2 => exact (Kd.R_reads' HO_5.out).2.1); rintro e w' ⟨rfl, ⟨nd, rfl⟩⟩) | (go_at_call 35; (with_reducible refine (state_MaySend.calls (Int.tmod a0 6) true _ A46.out).mono ?_); rintro e w' ⟨rfl, ⟨nd, rfl⟩⟩) | (go_at_call 32; (with_reducible refine (state_SendDone.calls (Int.tmod a0 6) false _ A48.out).mono ?_); rintro e w' ⟨rfl, ⟨nd, rfl⟩⟩) | (go_at_call 36; (with_reducible refine (state_MayRead.calls (Int.tmod a0 6) false _ A52.out).mono ?_); rintro e w' ⟨rfl, ⟨nd, rfl⟩⟩) | (go_at_call 29; (with_reducible refine (sumpterlaw25_awake.calls k1  t149 _ A62.out).mono ?_); rintro e w65 ⟨rfl, hb⟩; have n0_ := Aside0.mk (Kd.R_below (by (with_reducible repeat (first | apply Kd.R_alloc | apply Kd.R_drewN | apply Kd.R_drew)); exact HO_4.out) hb); have n1_ := Aside0.mk (Kd.R_below (by (with_reducible repeat (first | apply Kd.R_alloc | apply Kd.R_drewN | apply Kd.R_drew)); exact HO_5.out) hb); have n2_ := Aside0.mk (below_step (by repeat (first | (with_reducible first | exact HB.out | apply below_alloc | apply pw_below_drewN | apply below_drew1) | exact HB.out)) hb); clear HO_4; clear HO_5; clear HB; have HO_4 := n0_; have HO_5 := n1_; have HB := n2_; clear n0_ n1_ n2_; (try clear hb); (try clear hb2); (try clear hk); (try clear hi)))
                      go_ret
                      exact ⟨by first | rfl | (simp [errW_none, errW_some] <;> rfl) | (simp [*, errW_none, errW_some] <;> rfl), by repeat (first | (with_reducible first | exact HB.out | apply below_alloc | apply pw_below_drewN | apply below_drew1) | exact HB.out)⟩
                · replace c47 := Bool.eq_false_iff.mpr c47
                  subst c47
                  have H1 : ((state_MayRead.f (Int.tmod a0 6)).bind fun t150 => (if t150 = true then ((state_RecvDone.f (Int.tmod a0 6)).bind fun t151 => (if t151 = true then (some false) else ((sumpterlaw25_awake.f k1).bind fun t152 => (some t152)))) else ((sumpterlaw25_awake.f k1).bind fun t153 => (some t153)))) = some r := by rw [if_neg (show ¬ (false = true) by decide)] at H; exact H
                  clear H
                  have H := H1
                  clear H1
                  replace H := Option.bind_eq_some_iff.mp H
                  obtain ⟨t150, A660, H⟩ := H
                  replace H : (if t150 = true then ((state_RecvDone.f (Int.tmod a0 6)).bind fun t151 => (if t151 = true then (some false) else ((sumpterlaw25_awake.f k1).bind fun t152 => (some t152)))) else ((sumpterlaw25_awake.f k1).bind fun t153 => (some t153))) = some r := H
                  have A66 := Aside0.mk A660
                  clear A660
                  by_cases c67 : t150 = true
                  · subst c67
                    have H1 : ((state_RecvDone.f (Int.tmod a0 6)).bind fun t151 => (if t151 = true then (some false) else ((sumpterlaw25_awake.f k1).bind fun t152 => (some t152)))) = some r := by rw [if_pos rfl] at H; exact H
                    clear H
                    have H := H1
                    clear H1
                    replace H := Option.bind_eq_some_iff.mp H
                    obtain ⟨t151, A680, H⟩ := H
                    replace H : (if t151 = true then (some false) else ((sumpterlaw25_awake.f k1).bind fun t152 => (some t152))) = some r := H
                    have A68 := Aside0.mk A680
                    clear A680
                    by_cases c69 : t151 = true
                    · subst c69
                      have H1 : (some false) = some r := by rw [if_pos rfl] at H; exact H
                      clear H
                      have H := H1
                      clear H1
                      obtain rfl := Option.some.inj H
                      obtain ⟨Ao70, co70, eo70⟩ := Kd.R_slice HO_4.out
                      subst eo70
                      go_wp2_with (first | ((with_reducible refine gate_callee (f := 41) rfl ?_); refine goesL_ (some 94) rfl rfl Try.func41 (by kernel_rfl) rfl #[.slice Ao70 x4_1.length co70, .int .u8 (Int.tmod a0 6)] rfl (by (try simp only [List.map_toArray, List.map_cons, List.map_nil]); first | done | rfl | (simp only [List.length_drop, List.length_take]; rfl)) ?_; (with_reducible refine (sumpterlaw25_hasSend.calls k1 _ _ x4_1 (Int.tmod a0 6) true _ ?side1 ?side2 A40.out).mono ?_); (case side1 => repeat (first | exact (Kd.R_reads' HO_4.out).2.2 | (with_reducible refine Kd.C_alloc ?_ _) | (with_reducible refine Kd.C_drewN ?_ _) | (with_reducible refine Kd.C_drew ?_))); (case side2 => exact (Kd.R_reads' HO_4.out).2.1); rintro e w' ⟨rfl, ⟨nd, rfl⟩⟩; refine ⟨_, rfl, ?_⟩; obtain ⟨Ao71, co71, eo71⟩ := Kd.R_slice HO_5.out; subst eo71) | (go_at_call 42; (with_reducible refine (sumpterlaw25_hasRecv.calls k1 _ _ x5_1 (Int.tmod a0 6) true _ ?side1 ?side2 A42.out).mono ?_); (case side1 => repeat (first | exact (Kd.R_reads' HO_5.out).2.2 | (with_reducible refine Kd.C_alloc ?_ _) | (with_reducible refine Kd.C_drewN ?_ _) | (with_reducible refine Kd.C_drew ?_))); (case side2 => exact (Kd.R_reads' HO_5.out).2.1); rintro e w' ⟨rfl, ⟨nd, rfl⟩⟩) | (go_at_call 35; (with_reducible refine (state_MaySend.calls (Int.tmod a0 6) false _ A46.out).mono ?_); rintro e w' ⟨rfl, ⟨nd, rfl⟩⟩) | (go_at_call 36; (with_reducible refine (state_MayRead.calls (Int.tmod a0 6) true _ A66.out).mono ?_); rintro e w' ⟨rfl, ⟨nd, rfl⟩⟩) | (go_at_call 33; (with_reducible refine (state_RecvDone.calls (Int.tmod a0 6) true _ A68.out).mono ?_); rintro e w' ⟨rfl, ⟨nd, rfl⟩⟩))
                      go_ret
                      exact ⟨by first | rfl | (simp [errW_none, errW_some] <;> rfl) | (simp [*, errW_none, errW_some] <;> rfl), by repeat (first | (with_reducible first | exact HB.out | apply below_alloc | apply pw_below_drewN | apply below_drew1) | exact HB.out)⟩
                    · replace c69 := Bool.eq_false_iff.mpr c69
                      subst c69
                      have H1 : ((sumpterlaw25_awake.f k1).bind fun t152 => (some t152)) = some r := by rw [if_neg (show ¬ (false = true) by decide)] at H; exact H
                      clear H
                      have H := H1
                      clear H1
                      replace H := Option.bind_eq_some_iff.mp H
                      obtain ⟨t152, A720, H⟩ := H
                      replace H : (some t152) = some r := H
                      have A72 := Aside0.mk A720
                      clear A720
                      obtain rfl := Option.some.inj H
                      obtain ⟨Ao73, co73, eo73⟩ := Kd.R_slice HO_4.out
                      subst eo73
                      go_wp2_with (first | ((with_reducible refine gate_callee (f := 41) rfl ?_); refine goesL_ (some 94) rfl rfl Try.func41 (by kernel_rfl) rfl #[.slice Ao73 x4_1.length co73, .int .u8 (Int.tmod a0 6)] rfl (by (try simp only [List.map_toArray, List.map_cons, List.map_nil]); first | done | rfl | (simp only [List.length_drop, List.length_take]; rfl)) ?_; (with_reducible refine (sumpterlaw25_hasSend.calls k1 _ _ x4_1 (Int.tmod a0 6) true _ ?side1 ?side2 A40.out).mono ?_); (case side1 => repeat (first | exact (Kd.R_reads' HO_4.out).2.2 | (with_reducible refine Kd.C_alloc ?_ _) | (with_reducible refine Kd.C_drewN ?_ _) | (with_reducible refine Kd.C_drew ?_))); (case side2 => exact (Kd.R_reads' HO_4.out).2.1); rintro e w' ⟨rfl, ⟨nd, rfl⟩⟩; refine ⟨_, rfl, ?_⟩; obtain ⟨Ao74, co74, eo74⟩ := Kd.R_slice HO_5.out; subst eo74) | (go_at_call 42; (with_reducible refine (sumpterlaw25_hasRecv.calls k1 _ _ x5_1 (Int.tmod a0 6) true _ ?side1 ?side2 A42.out).mono ?_); (case side1 => repeat (first | exact (Kd.R_reads' HO_5.out).2.2 | (with_reducible refine Kd.C_alloc ?_ _) | (with_reducible refine Kd.C_drewN ?_ _) | (with_reducible refine Kd.C_drew ?_))); (case side2 => exact (Kd.R_reads' HO_5.out).2.1); rintro e w' ⟨rfl, ⟨nd, rfl⟩⟩) | (go_at_call 35; (with_reducible refine (state_MaySend.calls (Int.tmod a0 6) false _ A46.out).mono ?_); rintro e w' ⟨rfl, ⟨nd, rfl⟩⟩) | (go_at_call 36; (with_reducible refine (state_MayRead.calls (Int.tmod a0 6) true _ A66.out).mono ?_); rintro e w' ⟨rfl, ⟨nd, rfl⟩⟩) | (go_at_call 33; (with_reducible refine (state_RecvDone.calls (Int.tmod a0 6) false _ A68.out).mono ?_); rintro e w' ⟨rfl, ⟨nd, rfl⟩⟩) | (go_at_call 29; (with_reducible refine (sumpterlaw25_awake.calls k1  t152 _ A72.out).mono ?_); rintro e w75 ⟨rfl, hb⟩; have n0_ := Aside0.mk (Kd.R_below (by (with_reducible repeat (first | apply Kd.R_alloc | apply Kd.R_drewN | apply Kd.R_drew)); exact HO_4.out) hb); have n1_ := Aside0.mk (Kd.R_below (by (with_reducible repeat (first | apply Kd.R_alloc | apply Kd.R_drewN | apply Kd.R_drew)); exact HO_5.out) hb); have n2_ := Aside0.mk (below_step (by repeat (first | (with_reducible first | exact HB.out | apply below_alloc | apply pw_below_drewN | apply below_drew1) | exact HB.out)) hb); clear HO_4; clear HO_5; clear HB; have HO_4 := n0_; have HO_5 := n1_; have HB := n2_; clear n0_ n1_ n2_; (try clear hb); (try clear hb2); (try clear hk); (try clear hi)))
                      go_ret
                      exact ⟨by first | rfl | (simp [errW_none, errW_some] <;> rfl) | (simp [*, errW_none, errW_some] <;> rfl), by repeat (first | (with_reducible first | exact HB.out | apply below_alloc | apply pw_below_drewN | apply below_drew1) | exact HB.out)⟩
                  · replace c67 := Bool.eq_false_iff.mpr c67
                    subst c67
                    have H1 : ((sumpterlaw25_awake.f k1).bind fun t153 => (some t153)) = some r := by rw [if_neg (show ¬ (false = true) by decide)] at H; exact H
                    clear H
                    have H := H1
                    clear H1
                    replace H := Option.bind_eq_some_iff.mp H
                    obtain ⟨t153, A760, H⟩ := H
                    replace H : (some t153) = some r := H
                    have A76 := Aside0.mk A760
                    clear A760
                    obtain rfl := Option.some.inj H
                    obtain ⟨Ao77, co77, eo77⟩ := Kd.R_slice HO_4.out
                    subst eo77
                    go_wp2_with (first | ((with_reducible refine gate_callee (f := 41) rfl ?_); refine goesL_ (some 94) rfl rfl Try.func41 (by kernel_rfl) rfl #[.slice Ao77 x4_1.length co77, .int .u8 (Int.tmod a0 6)] rfl (by (try simp only [List.map_toArray, List.map_cons, List.map_nil]); first | done | rfl | (simp only [List.length_drop, List.length_take]; rfl)) ?_; (with_reducible refine (sumpterlaw25_hasSend.calls k1 _ _ x4_1 (Int.tmod a0 6) true _ ?side1 ?side2 A40.out).mono ?_); (case side1 => repeat (first | exact (Kd.R_reads' HO_4.out).2.2 | (with_reducible refine Kd.C_alloc ?_ _) | (with_reducible refine Kd.C_drewN ?_ _) | (with_reducible refine Kd.C_drew ?_))); (case side2 => exact (Kd.R_reads' HO_4.out).2.1); rintro e w' ⟨rfl, ⟨nd, rfl⟩⟩; refine ⟨_, rfl, ?_⟩; obtain ⟨Ao78, co78, eo78⟩ := Kd.R_slice HO_5.out; subst eo78) | (go_at_call 42; (with_reducible refine (sumpterlaw25_hasRecv.calls k1 _ _ x5_1 (Int.tmod a0 6) true _ ?side1 ?side2 A42.out).mono ?_); (case side1 => repeat (first | exact (Kd.R_reads' HO_5.out).2.2 | (with_reducible refine Kd.C_alloc ?_ _) | (with_reducible refine Kd.C_drewN ?_ _) | (with_reducible refine Kd.C_drew ?_))); (case side2 => exact (Kd.R_reads' HO_5.out).2.1); rintro e w' ⟨rfl, ⟨nd, rfl⟩⟩) | (go_at_call 35; (with_reducible refine (state_MaySend.calls (Int.tmod a0 6) false _ A46.out).mono ?_); rintro e w' ⟨rfl, ⟨nd, rfl⟩⟩) | (go_at_call 36; (with_reducible refine (state_MayRead.calls (Int.tmod a0 6) false _ A66.out).mono ?_); rintro e w' ⟨rfl, ⟨nd, rfl⟩⟩) | (go_at_call 29; (with_reducible refine (sumpterlaw25_awake.calls k1  t153 _ A76.out).mono ?_); rintro e w79 ⟨rfl, hb⟩; have n0_ := Aside0.mk (Kd.R_below (by (with_reducible repeat (first | apply Kd.R_alloc | apply Kd.R_drewN | apply Kd.R_drew)); exact HO_4.out) hb); have n1_ := Aside0.mk (Kd.R_below (by (with_reducible repeat (first | apply Kd.R_alloc | apply Kd.R_drewN | apply Kd.R_drew)); exact HO_5.out) hb); have n2_ := Aside0.mk (below_step (by repeat (first | (with_reducible first | exact HB.out | apply below_alloc | apply pw_below_drewN | apply below_drew1) | exact HB.out)) hb); clear HO_4; clear HO_5; clear HB; have HO_4 := n0_; have HO_5 := n1_; have HB := n2_; clear n0_ n1_ n2_; (try clear hb); (try clear hb2); (try clear hk); (try clear hi)))
                    go_ret
                    exact ⟨by first | rfl | (simp [errW_none, errW_some] <;> rfl) | (simp [*, errW_none, errW_some] <;> rfl), by repeat (first | (with_reducible first | exact HB.out | apply below_alloc | apply pw_below_drewN | apply below_drew1) | exact HB.out)⟩
              · rw [if_neg c45] at H
                have c45b0 : ((x5_1.length : Int) == 6) = false := beq_eq_false_iff_ne.mpr c45
                have c45b1 : ((x5_1.length : Int) != 6) = true := bne_iff_ne.mpr c45
                obtain rfl := Option.some.inj H
                obtain ⟨Ao80, co80, eo80⟩ := Kd.R_slice HO_4.out
                subst eo80
                go_wp2_with (first | ((with_reducible refine gate_callee (f := 41) rfl ?_); refine goesL_ (some 94) rfl rfl Try.func41 (by kernel_rfl) rfl #[.slice Ao80 x4_1.length co80, .int .u8 (Int.tmod a0 6)] rfl (by (try simp only [List.map_toArray, List.map_cons, List.map_nil]); first | done | rfl | (simp only [List.length_drop, List.length_take]; rfl)) ?_; (with_reducible refine (sumpterlaw25_hasSend.calls k1 _ _ x4_1 (Int.tmod a0 6) true _ ?side1 ?side2 A40.out).mono ?_); (case side1 => repeat (first | exact (Kd.R_reads' HO_4.out).2.2 | (with_reducible refine Kd.C_alloc ?_ _) | (with_reducible refine Kd.C_drewN ?_ _) | (with_reducible refine Kd.C_drew ?_))); (case side2 => exact (Kd.R_reads' HO_4.out).2.1); rintro e w' ⟨rfl, ⟨nd, rfl⟩⟩; refine ⟨_, rfl, ?_⟩; obtain ⟨Ao81, co81, eo81⟩ := Kd.R_slice HO_5.out; subst eo81) | (go_at_call 42; (with_reducible refine (sumpterlaw25_hasRecv.calls k1 _ _ x5_1 (Int.tmod a0 6) true _ ?side1 ?side2 A42.out).mono ?_); (case side1 => repeat (first | exact (Kd.R_reads' HO_5.out).2.2 | (with_reducible refine Kd.C_alloc ?_ _) | (with_reducible refine Kd.C_drewN ?_ _) | (with_reducible refine Kd.C_drew ?_))); (case side2 => exact (Kd.R_reads' HO_5.out).2.1); rintro e w' ⟨rfl, ⟨nd, rfl⟩⟩))
                go_ret
                exact ⟨by first | rfl | (simp [errW_none, errW_some] <;> rfl) | (simp [*, errW_none, errW_some] <;> rfl), by repeat (first | (with_reducible first | exact HB.out | apply below_alloc | apply pw_below_drewN | apply below_drew1) | exact HB.out)⟩
            · rw [if_neg c44] at H
              have c44b0 : ((x4_1.length : Int) == 6) = false := beq_eq_false_iff_ne.mpr c44
              have c44b1 : ((x4_1.length : Int) != 6) = true := bne_iff_ne.mpr c44
              obtain rfl := Option.some.inj H
              obtain ⟨Ao82, co82, eo82⟩ := Kd.R_slice HO_4.out
              subst eo82
              go_wp2_with (first | ((with_reducible refine gate_callee (f := 41) rfl ?_); refine goesL_ (some 94) rfl rfl Try.func41 (by kernel_rfl) rfl #[.slice Ao82 x4_1.length co82, .int .u8 (Int.tmod a0 6)] rfl (by (try simp only [List.map_toArray, List.map_cons, List.map_nil]); first | done | rfl | (simp only [List.length_drop, List.length_take]; rfl)) ?_; (with_reducible refine (sumpterlaw25_hasSend.calls k1 _ _ x4_1 (Int.tmod a0 6) true _ ?side1 ?side2 A40.out).mono ?_); (case side1 => repeat (first | exact (Kd.R_reads' HO_4.out).2.2 | (with_reducible refine Kd.C_alloc ?_ _) | (with_reducible refine Kd.C_drewN ?_ _) | (with_reducible refine Kd.C_drew ?_))); (case side2 => exact (Kd.R_reads' HO_4.out).2.1); rintro e w' ⟨rfl, ⟨nd, rfl⟩⟩; refine ⟨_, rfl, ?_⟩; obtain ⟨Ao83, co83, eo83⟩ := Kd.R_slice HO_5.out; subst eo83) | (go_at_call 42; (with_reducible refine (sumpterlaw25_hasRecv.calls k1 _ _ x5_1 (Int.tmod a0 6) true _ ?side1 ?side2 A42.out).mono ?_); (case side1 => repeat (first | exact (Kd.R_reads' HO_5.out).2.2 | (with_reducible refine Kd.C_alloc ?_ _) | (with_reducible refine Kd.C_drewN ?_ _) | (with_reducible refine Kd.C_drew ?_))); (case side2 => exact (Kd.R_reads' HO_5.out).2.1); rintro e w' ⟨rfl, ⟨nd, rfl⟩⟩))
              go_ret
              exact ⟨by first | rfl | (simp [errW_none, errW_some] <;> rfl) | (simp [*, errW_none, errW_some] <;> rfl), by repeat (first | (with_reducible first | exact HB.out | apply below_alloc | apply pw_below_drewN | apply below_drew1) | exact HB.out)⟩
          · replace c43 := Bool.eq_false_iff.mpr c43
            subst c43
            have H1 : (some false) = some r := by rw [if_neg (show ¬ (false = true) by decide)] at H; exact H
            clear H
            have H := H1
            clear H1
            obtain rfl := Option.some.inj H
            obtain ⟨Ao84, co84, eo84⟩ := Kd.R_slice HO_4.out
            subst eo84
            go_wp2_with (first | ((with_reducible refine gate_callee (f := 41) rfl ?_); refine goesL_ (some 94) rfl rfl Try.func41 (by kernel_rfl) rfl #[.slice Ao84 x4_1.length co84, .int .u8 (Int.tmod a0 6)] rfl (by (try simp only [List.map_toArray, List.map_cons, List.map_nil]); first | done | rfl | (simp only [List.length_drop, List.length_take]; rfl)) ?_; (with_reducible refine (sumpterlaw25_hasSend.calls k1 _ _ x4_1 (Int.tmod a0 6) true _ ?side1 ?side2 A40.out).mono ?_); (case side1 => repeat (first | exact (Kd.R_reads' HO_4.out).2.2 | (with_reducible refine Kd.C_alloc ?_ _) | (with_reducible refine Kd.C_drewN ?_ _) | (with_reducible refine Kd.C_drew ?_))); (case side2 => exact (Kd.R_reads' HO_4.out).2.1); rintro e w' ⟨rfl, ⟨nd, rfl⟩⟩; refine ⟨_, rfl, ?_⟩; obtain ⟨Ao85, co85, eo85⟩ := Kd.R_slice HO_5.out; subst eo85) | (go_at_call 42; (with_reducible refine (sumpterlaw25_hasRecv.calls k1 _ _ x5_1 (Int.tmod a0 6) false _ ?side1 ?side2 A42.out).mono ?_); (case side1 => repeat (first | exact (Kd.R_reads' HO_5.out).2.2 | (with_reducible refine Kd.C_alloc ?_ _) | (with_reducible refine Kd.C_drewN ?_ _) | (with_reducible refine Kd.C_drew ?_))); (case side2 => exact (Kd.R_reads' HO_5.out).2.1); rintro e w' ⟨rfl, ⟨nd, rfl⟩⟩))
            go_ret
            exact ⟨by first | rfl | (simp [errW_none, errW_some] <;> rfl) | (simp [*, errW_none, errW_some] <;> rfl), by repeat (first | (with_reducible first | exact HB.out | apply below_alloc | apply pw_below_drewN | apply below_drew1) | exact HB.out)⟩
        · replace c41 := Bool.eq_false_iff.mpr c41
          subst c41
          have H1 : (some false) = some r := by rw [if_neg (show ¬ (false = true) by decide)] at H; exact H
          clear H
          have H := H1
          clear H1
          obtain rfl := Option.some.inj H
          obtain ⟨Ao86, co86, eo86⟩ := Kd.R_slice HO_4.out
          subst eo86
          go_wp2_with (first | ((with_reducible refine gate_callee (f := 41) rfl ?_); refine goesL_ (some 94) rfl rfl Try.func41 (by kernel_rfl) rfl #[.slice Ao86 x4_1.length co86, .int .u8 (Int.tmod a0 6)] rfl (by (try simp only [List.map_toArray, List.map_cons, List.map_nil]); first | done | rfl | (simp only [List.length_drop, List.length_take]; rfl)) ?_; (with_reducible refine (sumpterlaw25_hasSend.calls k1 _ _ x4_1 (Int.tmod a0 6) false _ ?side1 ?side2 A40.out).mono ?_); (case side1 => repeat (first | exact (Kd.R_reads' HO_4.out).2.2 | (with_reducible refine Kd.C_alloc ?_ _) | (with_reducible refine Kd.C_drewN ?_ _) | (with_reducible refine Kd.C_drew ?_))); (case side2 => exact (Kd.R_reads' HO_4.out).2.1); rintro e w' ⟨rfl, ⟨nd, rfl⟩⟩; refine ⟨_, rfl, ?_⟩))
          go_ret
          exact ⟨by first | rfl | (simp [errW_none, errW_some] <;> rfl) | (simp [*, errW_none, errW_some] <;> rfl), by repeat (first | (with_reducible first | exact HB.out | apply below_alloc | apply pw_below_drewN | apply below_drew1) | exact HB.out)⟩

/-- THE ONE PURE STATEMENT of sumpterlaw25_StateReaches: yours. -/
def sumpterlaw25_StateReaches.Pure : Prop := ∀ (a0 : Int), (Lit.int .u8 a0).wf = true → ∃ k, sumpterlaw25_StateReaches.f k a0 = some true
theorem sumpterlaw25_StateReaches.walk (P : sumpterlaw25_StateReaches.Pure) (a0 : Int) (w : World) (w0 : (Lit.int .u8 a0).wf = true) :
    Calls Try.prog 13 #[.int .u8 a0] w fun e w' => e = .returned (.bool true) ∧ Below w.heap.size w w' := by
  obtain ⟨k, h⟩ := P a0 w0
  refine (sumpterlaw25_StateReaches.calls k a0 true w h).mono ?_
  rintro e w' ⟨rfl, hd⟩
  exact ⟨rfl, hd⟩

end Go.Proofs.Ytifidkeohcbdlaa.PStateReaches
