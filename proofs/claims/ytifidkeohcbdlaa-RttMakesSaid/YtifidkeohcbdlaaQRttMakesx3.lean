/- Contracts of the functions that a statement of the given program reaches, written by a program of this session over the kit's print. No condition. -/
import Derived.Test.YtifidkeohcbdlaaQRttMakesx0
import Derived.Test.YtifidkeohcbdlaaQRttMakesx1
import Derived.Test.YtifidkeohcbdlaaQRttMakesx2
namespace Go.Proofs.Ytifidkeohcbdlaa.QRttMakes
open Go.RowKit Go.Proofs.YtifidkeohcbdlaaW.PrintWords Go.Proofs.YtifidkeohcbdlaaW.PrintLast Go.Proofs.YtifidkeohcbdlaaW.PrintMore
attribute [local go_sem] max2_int min2_int max_two min_two max_three min_three max_four min_four   -- for this text's walks alone
set_option linter.unusedVariables false
set_option linter.unusedSimpArgs false

attribute [local go_sem high] eqA25
/-! ### sumpterlaw20_awake: function 15 -/
def sumpterlaw20_awake.f (k : Nat)  : Option (Bool) := (rtt_Sample.f k false 0 0 0 0 10 0).bind fun bt119 => ((rtt_Sample.f k bt119.1 bt119.2.1 bt119.2.2.1 bt119.2.2.2.1 bt119.2.2.2.2 18 2).bind fun bt125 => (if (bt119.1 && (bt119.2.1 == 10 && (bt119.2.2.1 == 10 && (bt119.2.2.2.1 == 10 && (bt119.2.2.2.2 == 5))))) = true then (if (bt125.1 && (bt125.2.1 == 18 && (bt125.2.2.1 == 10 && (bt125.2.2.2.1 == 10 && (bt125.2.2.2.2 == 5))))) = true then ((rtt_Probe.f bt119.1 bt119.2.1 bt119.2.2.1 bt119.2.2.2.1 bt119.2.2.2.2 0).bind fun t131 => (if t131 = 30 then ((rtt_Late.f bt119.1 bt119.2.1 bt119.2.2.1 bt119.2.2.2.1 bt119.2.2.2.2).bind fun t132 => (if t132 = 11 then ((rtt_Probe.f false 0 0 0 0 1).bind fun t133 => (if t133 = 32 then ((rtt_Check.f bt125.1 bt125.2.1 bt125.2.2.1 bt125.2.2.2.1 bt125.2.2.2.2).bind fun t134 => (if t134 = true then (some true) else (none))) else (none))) else (none))) else (none))) else (none)) else (none)))
theorem sumpterlaw20_awake.mono : ∀ k, LeO (sumpterlaw20_awake.f k ) (sumpterlaw20_awake.f (k + 1) ) := by
  intro  k
  unfold sumpterlaw20_awake.f
  repeat' first
      | (with_reducible exact rtt_Sample.mono _ _ _ _ _ _ _ _)
      | (with_reducible exact LeO.refl _)
      | (with_reducible exact LeO.none _)
      | (with_reducible refine LeO.ite ?_ ?_)
      | (with_reducible refine LeO.bind ?_ (fun _ => ?_))
      | exact rtt_Sample.mono _ _ _ _ _ _ _ _
      | exact LeO.none _
      | refine LeO.ite ?_ ?_
      | refine LeO.bind ?_ (fun _ => ?_)
set_option maxHeartbeats 8000000 in
set_option maxRecDepth 100000 in
theorem sumpterlaw20_awake.calls (k : Nat)  (r : Bool) (w : World) (h : sumpterlaw20_awake.f k  = some r) :
    Calls Try.prog 15 #[] w fun e w' => e = .returned (.bool r) ∧ Below w.heap.size w w' := by
  have hu25 := Try.underlying25
  have HB := Aside0.mk (Below.refl w.heap.size w)
  have H : ((rtt_Sample.f k false 0 0 0 0 10 0).bind fun bt119 => ((rtt_Sample.f k bt119.1 bt119.2.1 bt119.2.2.1 bt119.2.2.2.1 bt119.2.2.2.2 18 2).bind fun bt125 => (if (bt119.1 && (bt119.2.1 == 10 && (bt119.2.2.1 == 10 && (bt119.2.2.2.1 == 10 && (bt119.2.2.2.2 == 5))))) = true then (if (bt125.1 && (bt125.2.1 == 18 && (bt125.2.2.1 == 10 && (bt125.2.2.2.1 == 10 && (bt125.2.2.2.2 == 5))))) = true then ((rtt_Probe.f bt119.1 bt119.2.1 bt119.2.2.1 bt119.2.2.2.1 bt119.2.2.2.2 0).bind fun t131 => (if t131 = 30 then ((rtt_Late.f bt119.1 bt119.2.1 bt119.2.2.1 bt119.2.2.2.1 bt119.2.2.2.2).bind fun t132 => (if t132 = 11 then ((rtt_Probe.f false 0 0 0 0 1).bind fun t133 => (if t133 = 32 then ((rtt_Check.f bt125.1 bt125.2.1 bt125.2.2.1 bt125.2.2.2.1 bt125.2.2.2.2).bind fun t134 => (if t134 = true then (some true) else (none))) else (none))) else (none))) else (none))) else (none)) else (none)))) = some r := h
  clear h
  replace H := Option.bind_eq_some_iff.mp H
  obtain ⟨⟨t119, t120, t121, t122, t123⟩, A10, H⟩ := H
  replace H : ((rtt_Sample.f k t119 t120 t121 t122 t123 18 2).bind fun bt125 => (if (t119 && (t120 == 10 && (t121 == 10 && (t122 == 10 && (t123 == 5))))) = true then (if (bt125.1 && (bt125.2.1 == 18 && (bt125.2.2.1 == 10 && (bt125.2.2.2.1 == 10 && (bt125.2.2.2.2 == 5))))) = true then ((rtt_Probe.f t119 t120 t121 t122 t123 0).bind fun t131 => (if t131 = 30 then ((rtt_Late.f t119 t120 t121 t122 t123).bind fun t132 => (if t132 = 11 then ((rtt_Probe.f false 0 0 0 0 1).bind fun t133 => (if t133 = 32 then ((rtt_Check.f bt125.1 bt125.2.1 bt125.2.2.1 bt125.2.2.2.1 bt125.2.2.2.2).bind fun t134 => (if t134 = true then (some true) else (none))) else (none))) else (none))) else (none))) else (none)) else (none))) = some r := H
  have A1 := Aside0.mk A10
  clear A10
  replace H := Option.bind_eq_some_iff.mp H
  obtain ⟨⟨t125, t126, t127, t128, t129⟩, A20, H⟩ := H
  replace H : (if (t119 && (t120 == 10 && (t121 == 10 && (t122 == 10 && (t123 == 5))))) = true then (if (t125 && (t126 == 18 && (t127 == 10 && (t128 == 10 && (t129 == 5))))) = true then ((rtt_Probe.f t119 t120 t121 t122 t123 0).bind fun t131 => (if t131 = 30 then ((rtt_Late.f t119 t120 t121 t122 t123).bind fun t132 => (if t132 = 11 then ((rtt_Probe.f false 0 0 0 0 1).bind fun t133 => (if t133 = 32 then ((rtt_Check.f t125 t126 t127 t128 t129).bind fun t134 => (if t134 = true then (some true) else (none))) else (none))) else (none))) else (none))) else (none)) else (none)) = some r := H
  have A2 := Aside0.mk A20
  clear A20
  by_cases c3 : (t119 && (t120 == 10 && (t121 == 10 && (t122 == 10 && (t123 == 5))))) = true
  · rw [if_pos c3] at H
    have c3b0 : (t119 && (t120 == 10 && (t121 == 10 && (t122 == 10 && (t123 == 5))))) = true := c3
    clear c3
    by_cases c4 : (t125 && (t126 == 18 && (t127 == 10 && (t128 == 10 && (t129 == 5))))) = true
    · rw [if_pos c4] at H
      have c4b0 : (t125 && (t126 == 18 && (t127 == 10 && (t128 == 10 && (t129 == 5))))) = true := c4
      clear c4
      replace H := Option.bind_eq_some_iff.mp H
      obtain ⟨t131, A50, H⟩ := H
      replace H : (if t131 = 30 then ((rtt_Late.f t119 t120 t121 t122 t123).bind fun t132 => (if t132 = 11 then ((rtt_Probe.f false 0 0 0 0 1).bind fun t133 => (if t133 = 32 then ((rtt_Check.f t125 t126 t127 t128 t129).bind fun t134 => (if t134 = true then (some true) else (none))) else (none))) else (none))) else (none)) = some r := H
      have A5 := Aside0.mk A50
      clear A50
      by_cases c6 : t131 = 30
      · rw [if_pos c6] at H
        have c6b0 : (t131 == 30) = true := beq_iff_eq.mpr c6
        have c6b1 : (t131 != 30) = false := bne_eq_false_iff_eq.mpr c6
        clear c6
        replace H := Option.bind_eq_some_iff.mp H
        obtain ⟨t132, A70, H⟩ := H
        replace H : (if t132 = 11 then ((rtt_Probe.f false 0 0 0 0 1).bind fun t133 => (if t133 = 32 then ((rtt_Check.f t125 t126 t127 t128 t129).bind fun t134 => (if t134 = true then (some true) else (none))) else (none))) else (none)) = some r := H
        have A7 := Aside0.mk A70
        clear A70
        by_cases c8 : t132 = 11
        · rw [if_pos c8] at H
          have c8b0 : (t132 == 11) = true := beq_iff_eq.mpr c8
          have c8b1 : (t132 != 11) = false := bne_eq_false_iff_eq.mpr c8
          clear c8
          replace H := Option.bind_eq_some_iff.mp H
          obtain ⟨t133, A90, H⟩ := H
          replace H : (if t133 = 32 then ((rtt_Check.f t125 t126 t127 t128 t129).bind fun t134 => (if t134 = true then (some true) else (none))) else (none)) = some r := H
          have A9 := Aside0.mk A90
          clear A90
          by_cases c10 : t133 = 32
          · rw [if_pos c10] at H
            have c10b0 : (t133 == 32) = true := beq_iff_eq.mpr c10
            have c10b1 : (t133 != 32) = false := bne_eq_false_iff_eq.mpr c10
            clear c10
            replace H := Option.bind_eq_some_iff.mp H
            obtain ⟨t134, A110, H⟩ := H
            replace H : (if t134 = true then (some true) else (none)) = some r := H
            have A11 := Aside0.mk A110
            clear A110
            by_cases c12 : t134 = true
            · subst c12
              have H1 : (some true) = some r := by rw [if_pos rfl] at H; exact H
              clear H
              have H := H1
              clear H1
              obtain rfl := Option.some.inj H
              go_enter Try.func15, Try.ntmps15
              go_wp2_with (first | ((with_reducible refine gate_callee (f := 16) rfl ?_); refine goesL_ (some 4) rfl rfl Try.func16 (by kernel_rfl) rfl #[.agg #[.bool false, .int .i64 0, .int .i64 0, .int .i64 0, .int .i64 0], .int .i64 10, .int .i64 0] rfl (by (try simp only [List.map_toArray, List.map_cons, List.map_nil]); first | done | rfl | (simp only [List.length_drop, List.length_take]; rfl)) ?_; (with_reducible refine (rtt_Sample.calls k false 0 0 0 0 10 0 t119 t120 t121 t122 t123 _ A1.out).mono ?_); rintro e w13 ⟨rfl, hb⟩; refine ⟨_, rfl, ?_⟩; have n0_ := Aside0.mk (below_step (by repeat (first | (with_reducible first | exact HB.out | apply below_alloc | apply pw_below_drewN | apply below_drew1) | exact HB.out)) hb); clear HB; have HB := n0_; clear n0_; (try clear hb); (try clear hb2); (try clear hk); (try clear hi)) | ((with_reducible refine gate_dst (N := 1) rfl ?_); refine box_event ?hg (N := 1) ?hd (cs := #[.bool false, .int .i64 0, .int .i64 0, .int .i64 0, .int .i64 0]) (t := 25) ?hr ?_; (case hd => rfl); (case hg => rfl); (case hr => first | (go_simp; done) | (go_simp; rfl)); intro gb124 hg w14 hbox hb; have n0_ := Aside0.mk (below_step (by repeat (first | (with_reducible first | exact HB.out | apply below_alloc | apply pw_below_drewN | apply below_drew1) | exact HB.out)) hb); have n1_ := Aside0.mk (hbox); have n2_ := Aside0.mk ((by rw [hg]; exact (below_size (by repeat (first | (with_reducible first | exact HB.out | apply below_alloc | apply pw_below_drewN | apply below_drew1) | exact HB.out))) : w.heap.size ≤ gb124)); have n3_ := Aside0.mk ((by rw [hg]; exact (below_size (by repeat (first | (with_reducible first | exact HB.out | apply below_alloc | apply pw_below_drewN | apply below_drew1) | exact HB.out))) : w.heap.size ≤ gb124)); clear HB; have HB := n0_; have BK124 := n1_; have GW124 := n2_; have GE124 := n3_; clear n0_ n1_ n2_ n3_; clear hb hbox hg; have hcz15_0 : w14.cell? ⟨gb124, 0, none⟩ = some (.bool false) := (blk_cell BK124.out 0).trans rfl; have hcz15_1 : w14.cell? ⟨gb124, 1, none⟩ = some (.int .i64 0) := (blk_cell BK124.out 1).trans rfl; have hcz15_2 : w14.cell? ⟨gb124, 2, none⟩ = some (.int .i64 0) := (blk_cell BK124.out 2).trans rfl; have hcz15_3 : w14.cell? ⟨gb124, 3, none⟩ = some (.int .i64 0) := (blk_cell BK124.out 3).trans rfl; have hcz15_4 : w14.cell? ⟨gb124, 4, none⟩ = some (.int .i64 0) := (blk_cell BK124.out 4).trans rfl; have hfz15_0 := blk_frozen BK124.out 0; have hfz15_1 := blk_frozen BK124.out 1; have hfz15_2 := blk_frozen BK124.out 2; have hfz15_3 := blk_frozen BK124.out 3; have hfz15_4 := blk_frozen BK124.out 4) | ((with_reducible refine gate_callee (f := 16) rfl ?_); refine goesL_ (some 6) rfl rfl Try.func16 (by kernel_rfl) rfl #[.agg #[.bool t119, .int .i64 t120, .int .i64 t121, .int .i64 t122, .int .i64 t123], .int .i64 18, .int .i64 2] rfl (by (try simp only [List.map_toArray, List.map_cons, List.map_nil]); first | done | rfl | (simp only [List.length_drop, List.length_take]; rfl)) ?_; (with_reducible refine (rtt_Sample.calls k t119 t120 t121 t122 t123 18 2 t125 t126 t127 t128 t129 _ A2.out).mono ?_); rintro e w16 ⟨rfl, hb⟩; refine ⟨_, rfl, ?_⟩; have n0_ := Aside0.mk (blk_below (g := gb124) (o := .cells #[.bool t119, .int .i64 t120, .int .i64 t121, .int .i64 t122, .int .i64 t123] 25 (0, 0)) (by (with_reducible repeat (first | refine blk_drewN ?_ _ | refine blk_drew ?_ | refine blk_alloc ?_ _)); refine blk_put (cs := #[.bool t119, .int .i64 t120, .int .i64 t121, .int .i64 t122, .int .i64 0]) ?_ 4 _ rfl; (with_reducible repeat (first | refine blk_drewN ?_ _ | refine blk_drew ?_ | refine blk_alloc ?_ _)); refine blk_put (cs := #[.bool t119, .int .i64 t120, .int .i64 t121, .int .i64 0, .int .i64 0]) ?_ 3 _ rfl; (with_reducible repeat (first | refine blk_drewN ?_ _ | refine blk_drew ?_ | refine blk_alloc ?_ _)); refine blk_put (cs := #[.bool t119, .int .i64 t120, .int .i64 0, .int .i64 0, .int .i64 0]) ?_ 2 _ rfl; (with_reducible repeat (first | refine blk_drewN ?_ _ | refine blk_drew ?_ | refine blk_alloc ?_ _)); refine blk_put (cs := #[.bool t119, .int .i64 0, .int .i64 0, .int .i64 0, .int .i64 0]) ?_ 1 _ rfl; (with_reducible repeat (first | refine blk_drewN ?_ _ | refine blk_drew ?_ | refine blk_alloc ?_ _)); refine blk_put (cs := #[.bool false, .int .i64 0, .int .i64 0, .int .i64 0, .int .i64 0]) ?_ 0 _ rfl; (with_reducible repeat (first | refine blk_drewN ?_ _ | refine blk_drew ?_ | refine blk_alloc ?_ _)); exact BK124.out) hb); have n1_ := Aside0.mk (below_step (by repeat (first | (with_reducible first | exact HB.out | apply below_alloc | apply pw_below_drewN | apply below_drew1 | refine below_set ?_ GE124.out) | exact HB.out)) hb); clear BK124; clear HB; have BK124 := n0_; have HB := n1_; clear n0_ n1_; (try clear hb); (try clear hb2); (try clear hk); (try clear hi)) | ((with_reducible refine gate_dst (N := 2) rfl ?_); refine box_event ?hg (N := 2) ?hd (cs := #[.bool false, .int .i64 0, .int .i64 0, .int .i64 0, .int .i64 0]) (t := 25) ?hr ?_; (case hd => rfl); (case hg => rfl); (case hr => first | (go_simp; done) | (go_simp; rfl)); intro gb130 hg w17 hbox hb; have n0_ := Aside0.mk (blk_below (g := gb124) (o := .cells #[.bool t119, .int .i64 t120, .int .i64 t121, .int .i64 t122, .int .i64 t123] 25 (0, 0)) (by (with_reducible repeat (first | refine blk_drewN ?_ _ | refine blk_drew ?_ | refine blk_alloc ?_ _)); exact BK124.out) hb); have n1_ := Aside0.mk (below_step (by repeat (first | (with_reducible first | exact HB.out | apply below_alloc | apply pw_below_drewN | apply below_drew1 | refine below_set ?_ GE124.out) | exact HB.out)) hb); have n2_ := Aside0.mk (hbox); have n3_ := Aside0.mk ((by rw [hg]; exact (below_size (by repeat (first | (with_reducible first | exact HB.out | apply below_alloc | apply pw_below_drewN | apply below_drew1 | refine below_set ?_ GE124.out) | exact HB.out))) : w.heap.size ≤ gb130)); have n4_ := Aside0.mk ((by rw [hg]; exact (below_size (by repeat (first | (with_reducible first | exact HB.out | apply below_alloc | apply pw_below_drewN | apply below_drew1 | refine below_set ?_ GE124.out) | exact HB.out))) : w.heap.size ≤ gb130)); have n5_ := Aside0.mk ((by rw [hg]; exact Nat.ne_of_lt (blk_lt (g := gb124) (o := .cells #[.bool t119, .int .i64 t120, .int .i64 t121, .int .i64 t122, .int .i64 t123] 25 (0, 0)) (by (with_reducible repeat (first | refine blk_drewN ?_ _ | refine blk_drew ?_ | refine blk_alloc ?_ _)); exact BK124.out)) : gb124 ≠ gb130)); have n6_ := Aside0.mk ((by rw [hg]; exact Nat.ne_of_gt (blk_lt (g := gb124) (o := .cells #[.bool t119, .int .i64 t120, .int .i64 t121, .int .i64 t122, .int .i64 t123] 25 (0, 0)) (by (with_reducible repeat (first | refine blk_drewN ?_ _ | refine blk_drew ?_ | refine blk_alloc ?_ _)); exact BK124.out)) : gb130 ≠ gb124)); clear BK124; clear HB; have BK124 := n0_; have HB := n1_; have BK130 := n2_; have GW130 := n3_; have GE130 := n4_; have NB124_130 := n5_; have NB130_124 := n6_; clear n0_ n1_ n2_ n3_ n4_ n5_ n6_; clear hb hbox hg; have hnb18 := NB130_124.out; have hnc18 := NB124_130.out; have hcz19_0 : w17.cell? ⟨gb130, 0, none⟩ = some (.bool false) := (blk_cell BK130.out 0).trans rfl; have hcz19_1 : w17.cell? ⟨gb130, 1, none⟩ = some (.int .i64 0) := (blk_cell BK130.out 1).trans rfl; have hcz19_2 : w17.cell? ⟨gb130, 2, none⟩ = some (.int .i64 0) := (blk_cell BK130.out 2).trans rfl; have hcz19_3 : w17.cell? ⟨gb130, 3, none⟩ = some (.int .i64 0) := (blk_cell BK130.out 3).trans rfl; have hcz19_4 : w17.cell? ⟨gb130, 4, none⟩ = some (.int .i64 0) := (blk_cell BK130.out 4).trans rfl; have hfz19_0 := blk_frozen BK130.out 0; have hfz19_1 := blk_frozen BK130.out 1; have hfz19_2 := blk_frozen BK130.out 2; have hfz19_3 := blk_frozen BK130.out 3; have hfz19_4 := blk_frozen BK130.out 4; have hcz20_0 : w17.cell? ⟨gb124, 0, none⟩ = some (.bool t119) := (blk_cell BK124.out 0).trans rfl; have hcz20_1 : w17.cell? ⟨gb124, 1, none⟩ = some (.int .i64 t120) := (blk_cell BK124.out 1).trans rfl; have hcz20_2 : w17.cell? ⟨gb124, 2, none⟩ = some (.int .i64 t121) := (blk_cell BK124.out 2).trans rfl; have hcz20_3 : w17.cell? ⟨gb124, 3, none⟩ = some (.int .i64 t122) := (blk_cell BK124.out 3).trans rfl; have hcz20_4 : w17.cell? ⟨gb124, 4, none⟩ = some (.int .i64 t123) := (blk_cell BK124.out 4).trans rfl; have hfz20_0 := blk_frozen BK124.out 0; have hfz20_1 := blk_frozen BK124.out 1; have hfz20_2 := blk_frozen BK124.out 2; have hfz20_3 := blk_frozen BK124.out 3; have hfz20_4 := blk_frozen BK124.out 4) | (go_at_call 54; (with_reducible refine (rtt_Probe.calls t119 t120 t121 t122 t123 0 t131 _ A5.out).mono ?_); rintro e w21 ⟨rfl, hb⟩; have n0_ := Aside0.mk (blk_below (g := gb124) (o := .cells #[.bool t119, .int .i64 t120, .int .i64 t121, .int .i64 t122, .int .i64 t123] 25 (0, 0)) (by (with_reducible repeat (first | refine blk_drewN ?_ _ | refine blk_drew ?_ | refine blk_alloc ?_ _)); refine blk_far ?_ NB124_130.out _; (with_reducible repeat (first | refine blk_drewN ?_ _ | refine blk_drew ?_ | refine blk_alloc ?_ _)); refine blk_far ?_ NB124_130.out _; (with_reducible repeat (first | refine blk_drewN ?_ _ | refine blk_drew ?_ | refine blk_alloc ?_ _)); refine blk_far ?_ NB124_130.out _; (with_reducible repeat (first | refine blk_drewN ?_ _ | refine blk_drew ?_ | refine blk_alloc ?_ _)); refine blk_far ?_ NB124_130.out _; (with_reducible repeat (first | refine blk_drewN ?_ _ | refine blk_drew ?_ | refine blk_alloc ?_ _)); refine blk_far ?_ NB124_130.out _; (with_reducible repeat (first | refine blk_drewN ?_ _ | refine blk_drew ?_ | refine blk_alloc ?_ _)); exact BK124.out) hb); have n1_ := Aside0.mk (blk_below (g := gb130) (o := .cells #[.bool t125, .int .i64 t126, .int .i64 t127, .int .i64 t128, .int .i64 t129] 25 (0, 0)) (by (with_reducible repeat (first | refine blk_drewN ?_ _ | refine blk_drew ?_ | refine blk_alloc ?_ _)); refine blk_put (cs := #[.bool t125, .int .i64 t126, .int .i64 t127, .int .i64 t128, .int .i64 0]) ?_ 4 _ rfl; (with_reducible repeat (first | refine blk_drewN ?_ _ | refine blk_drew ?_ | refine blk_alloc ?_ _)); refine blk_put (cs := #[.bool t125, .int .i64 t126, .int .i64 t127, .int .i64 0, .int .i64 0]) ?_ 3 _ rfl; (with_reducible repeat (first | refine blk_drewN ?_ _ | refine blk_drew ?_ | refine blk_alloc ?_ _)); refine blk_put (cs := #[.bool t125, .int .i64 t126, .int .i64 0, .int .i64 0, .int .i64 0]) ?_ 2 _ rfl; (with_reducible repeat (first | refine blk_drewN ?_ _ | refine blk_drew ?_ | refine blk_alloc ?_ _)); refine blk_put (cs := #[.bool t125, .int .i64 0, .int .i64 0, .int .i64 0, .int .i64 0]) ?_ 1 _ rfl; (with_reducible repeat (first | refine blk_drewN ?_ _ | refine blk_drew ?_ | refine blk_alloc ?_ _)); refine blk_put (cs := #[.bool false, .int .i64 0, .int .i64 0, .int .i64 0, .int .i64 0]) ?_ 0 _ rfl; (with_reducible repeat (first | refine blk_drewN ?_ _ | refine blk_drew ?_ | refine blk_alloc ?_ _)); exact BK130.out) hb); have n2_ := Aside0.mk (below_step (by repeat (first | (with_reducible first | exact HB.out | apply below_alloc | apply pw_below_drewN | apply below_drew1 | refine below_set ?_ GE124.out | refine below_set ?_ GE130.out) | exact HB.out)) hb); clear BK124; clear BK130; clear HB; have BK124 := n0_; have BK130 := n1_; have HB := n2_; clear n0_ n1_ n2_; (try clear hb); (try clear hb2); (try clear hk); (try clear hi); have hcz22_0 : w21.cell? ⟨gb124, 0, none⟩ = some (.bool t119) := (blk_cell BK124.out 0).trans rfl; have hcz22_1 : w21.cell? ⟨gb124, 1, none⟩ = some (.int .i64 t120) := (blk_cell BK124.out 1).trans rfl; have hcz22_2 : w21.cell? ⟨gb124, 2, none⟩ = some (.int .i64 t121) := (blk_cell BK124.out 2).trans rfl; have hcz22_3 : w21.cell? ⟨gb124, 3, none⟩ = some (.int .i64 t122) := (blk_cell BK124.out 3).trans rfl; have hcz22_4 : w21.cell? ⟨gb124, 4, none⟩ = some (.int .i64 t123) := (blk_cell BK124.out 4).trans rfl; have hfz22_0 := blk_frozen BK124.out 0; have hfz22_1 := blk_frozen BK124.out 1; have hfz22_2 := blk_frozen BK124.out 2; have hfz22_3 := blk_frozen BK124.out 3; have hfz22_4 := blk_frozen BK124.out 4) | (go_at_call 55; (with_reducible refine (rtt_Late.calls t119 t120 t121 t122 t123 t132 _ A7.out).mono ?_); rintro e w23 ⟨rfl, hb⟩; have n0_ := Aside0.mk (blk_below (g := gb124) (o := .cells #[.bool t119, .int .i64 t120, .int .i64 t121, .int .i64 t122, .int .i64 t123] 25 (0, 0)) (by (with_reducible repeat (first | refine blk_drewN ?_ _ | refine blk_drew ?_ | refine blk_alloc ?_ _)); exact BK124.out) hb); have n1_ := Aside0.mk (blk_below (g := gb130) (o := .cells #[.bool t125, .int .i64 t126, .int .i64 t127, .int .i64 t128, .int .i64 t129] 25 (0, 0)) (by (with_reducible repeat (first | refine blk_drewN ?_ _ | refine blk_drew ?_ | refine blk_alloc ?_ _)); exact BK130.out) hb); have n2_ := Aside0.mk (below_step (by repeat (first | (with_reducible first | exact HB.out | apply below_alloc | apply pw_below_drewN | apply below_drew1 | refine below_set ?_ GE124.out | refine below_set ?_ GE130.out) | exact HB.out)) hb); clear BK124; clear BK130; clear HB; have BK124 := n0_; have BK130 := n1_; have HB := n2_; clear n0_ n1_ n2_; (try clear hb); (try clear hb2); (try clear hk); (try clear hi)) | (go_at_call 54; (with_reducible refine (rtt_Probe.calls false 0 0 0 0 1 t133 _ A9.out).mono ?_); rintro e w24 ⟨rfl, hb⟩; have n0_ := Aside0.mk (blk_below (g := gb124) (o := .cells #[.bool t119, .int .i64 t120, .int .i64 t121, .int .i64 t122, .int .i64 t123] 25 (0, 0)) (by (with_reducible repeat (first | refine blk_drewN ?_ _ | refine blk_drew ?_ | refine blk_alloc ?_ _)); exact BK124.out) hb); have n1_ := Aside0.mk (blk_below (g := gb130) (o := .cells #[.bool t125, .int .i64 t126, .int .i64 t127, .int .i64 t128, .int .i64 t129] 25 (0, 0)) (by (with_reducible repeat (first | refine blk_drewN ?_ _ | refine blk_drew ?_ | refine blk_alloc ?_ _)); exact BK130.out) hb); have n2_ := Aside0.mk (below_step (by repeat (first | (with_reducible first | exact HB.out | apply below_alloc | apply pw_below_drewN | apply below_drew1 | refine below_set ?_ GE124.out | refine below_set ?_ GE130.out) | exact HB.out)) hb); clear BK124; clear BK130; clear HB; have BK124 := n0_; have BK130 := n1_; have HB := n2_; clear n0_ n1_ n2_; (try clear hb); (try clear hb2); (try clear hk); (try clear hi); have hcz25_0 : w24.cell? ⟨gb130, 0, none⟩ = some (.bool t125) := (blk_cell BK130.out 0).trans rfl; have hcz25_1 : w24.cell? ⟨gb130, 1, none⟩ = some (.int .i64 t126) := (blk_cell BK130.out 1).trans rfl; have hcz25_2 : w24.cell? ⟨gb130, 2, none⟩ = some (.int .i64 t127) := (blk_cell BK130.out 2).trans rfl; have hcz25_3 : w24.cell? ⟨gb130, 3, none⟩ = some (.int .i64 t128) := (blk_cell BK130.out 3).trans rfl; have hcz25_4 : w24.cell? ⟨gb130, 4, none⟩ = some (.int .i64 t129) := (blk_cell BK130.out 4).trans rfl; have hfz25_0 := blk_frozen BK130.out 0; have hfz25_1 := blk_frozen BK130.out 1; have hfz25_2 := blk_frozen BK130.out 2; have hfz25_3 := blk_frozen BK130.out 3; have hfz25_4 := blk_frozen BK130.out 4) | (go_at_call 17; (with_reducible refine (rtt_Check.calls t125 t126 t127 t128 t129 true _ A11.out).mono ?_); rintro e w26 ⟨rfl, hb⟩; have n0_ := Aside0.mk (blk_below (g := gb124) (o := .cells #[.bool t119, .int .i64 t120, .int .i64 t121, .int .i64 t122, .int .i64 t123] 25 (0, 0)) (by (with_reducible repeat (first | refine blk_drewN ?_ _ | refine blk_drew ?_ | refine blk_alloc ?_ _)); exact BK124.out) hb); have n1_ := Aside0.mk (blk_below (g := gb130) (o := .cells #[.bool t125, .int .i64 t126, .int .i64 t127, .int .i64 t128, .int .i64 t129] 25 (0, 0)) (by (with_reducible repeat (first | refine blk_drewN ?_ _ | refine blk_drew ?_ | refine blk_alloc ?_ _)); exact BK130.out) hb); have n2_ := Aside0.mk (below_step (by repeat (first | (with_reducible first | exact HB.out | apply below_alloc | apply pw_below_drewN | apply below_drew1 | refine below_set ?_ GE124.out | refine below_set ?_ GE130.out) | exact HB.out)) hb); clear BK124; clear BK130; clear HB; have BK124 := n0_; have BK130 := n1_; have HB := n2_; clear n0_ n1_ n2_; (try clear hb); (try clear hb2); (try clear hk); (try clear hi)))
              go_ret
              exact ⟨by first | rfl | (simp [errW_none, errW_some] <;> rfl) | (simp [*, errW_none, errW_some] <;> rfl), by repeat (first | (with_reducible first | exact HB.out | apply below_alloc | apply pw_below_drewN | apply below_drew1 | refine below_set ?_ GE124.out | refine below_set ?_ GE130.out) | exact HB.out)⟩
            · replace c12 := Bool.eq_false_iff.mpr c12
              subst c12
              have H1 : (none) = some r := by rw [if_neg (show ¬ (false = true) by decide)] at H; exact H
              clear H
              have H := H1
              clear H1
              exact absurd H (by simp)
          · rw [if_neg c10] at H
            exact absurd H (by simp)
        · rw [if_neg c8] at H
          exact absurd H (by simp)
      · rw [if_neg c6] at H
        exact absurd H (by simp)
    · rw [if_neg c4] at H
      exact absurd H (by simp)
  · rw [if_neg c3] at H
    exact absurd H (by simp)

/-! ### sumpterlaw20_RttMakes: function 3 -/
mutual
def sumpterlaw20_RttMakes.l0 : Nat → List (S27) → Int → Int → Int → Int → Bool → Int → Int → Int → Int → Option (Bool)
  | 0, _, _, _, _, _, _, _, _, _, _ => none
  | k + 1, x0, x4, x5, x6, x7, x137000, x137001, x137002, x137003, x137004 => if x7 < (x0.length : Int) then (if 0 ≤ x7 then ((rtt_Sample.f k x137000 x137001 x137002 x137003 x137004 (wrap64 ((rd_T27 x0 x7).f0)) (wrap64 ((rd_T27 x0 x7).f1))).bind fun bt140 => (if x7 = 0 then (sumpterlaw20_RttMakes.j1 k x0 x4 x5 x6 x7 (wrap64 ((rd_T27 x0 x7).f0)) (wrap64 ((rd_T27 x0 x7).f1)) true bt140.1 bt140.2.1 bt140.2.2.1 bt140.2.2.2.1 bt140.2.2.2.2) else (sumpterlaw20_RttMakes.j1 k x0 x4 x5 x6 x7 (wrap64 ((rd_T27 x0 x7).f0)) (wrap64 ((rd_T27 x0 x7).f1)) (decide ((wrap64 ((rd_T27 x0 x7).f0)) < x4)) bt140.1 bt140.2.1 bt140.2.2.1 bt140.2.2.2.1 bt140.2.2.2.2))) else (none)) else ((sumpterlaw20_awake.f k).bind fun t137 => (some t137))
def sumpterlaw20_RttMakes.j1 : Nat → List (S27) → Int → Int → Int → Int → Int → Int → Bool → Bool → Int → Int → Int → Int → Option (Bool)
  | 0, _, _, _, _, _, _, _, _, _, _, _, _, _ => none
  | k + 1, x0, x4, x5, x6, x7, x8, x9, x42, x137000, x137001, x137002, x137003, x137004 => if x42 = true then ((rtt_Check.f x137000 x137001 x137002 x137003 x137004).bind fun t145 => (if t145 = true then (if x137002 = x8 then (if x137001 = x8 then (if x137003 < (wrap64 (x8 - (mx x6 x9))) then (none) else (if x137003 > (mx x5 x8) then (none) else (if x137003 < 0 then (none) else (if x137004 < 0 then (none) else (if x137004 > (wrap64 ((mx x5 x8) + (mx x6 x9))) then (none) else (sumpterlaw20_RttMakes.l0 k x0 x8 (mx x5 x8) (mx x6 x9) (wrap64 (x7 + 1)) x137000 x137001 x137002 x137003 x137004)))))) else (none)) else (none)) else (none))) else ((rtt_Check.f x137000 x137001 x137002 x137003 x137004).bind fun t146 => (if t146 = true then (if x137002 = x4 then (if x137001 = x8 then (if x137003 < (wrap64 (x4 - (mx x6 x9))) then (none) else (if x137003 > (mx x5 x8) then (none) else (if x137003 < 0 then (none) else (if x137004 < 0 then (none) else (if x137004 > (wrap64 ((mx x5 x8) + (mx x6 x9))) then (none) else (sumpterlaw20_RttMakes.l0 k x0 x4 (mx x5 x8) (mx x6 x9) (wrap64 (x7 + 1)) x137000 x137001 x137002 x137003 x137004)))))) else (none)) else (none)) else (none)))
end
def sumpterlaw20_RttMakes.f (k : Nat) (l0 : List (S27)) : Option (Bool) := if (l0.length : Int) > 60 then ((sumpterlaw20_awake.f k).bind fun t135 => (some t135)) else (sumpterlaw20_RttMakes.l0 k l0 0 0 0 0 false 0 0 0 0)
theorem sumpterlaw20_RttMakes.mono_l : ∀ k, (∀ y0 y1 y2 y3 y4 y5 y6 y7 y8 y9, LeO (sumpterlaw20_RttMakes.l0 k y0 y1 y2 y3 y4 y5 y6 y7 y8 y9) (sumpterlaw20_RttMakes.l0 (k + 1) y0 y1 y2 y3 y4 y5 y6 y7 y8 y9)) ∧ (∀ y0 y1 y2 y3 y4 y5 y6 y7 y8 y9 y10 y11 y12, LeO (sumpterlaw20_RttMakes.j1 k y0 y1 y2 y3 y4 y5 y6 y7 y8 y9 y10 y11 y12) (sumpterlaw20_RttMakes.j1 (k + 1) y0 y1 y2 y3 y4 y5 y6 y7 y8 y9 y10 y11 y12))
  | 0 => ⟨fun _ _ _ _ _ _ _ _ _ _ r h => by simp [sumpterlaw20_RttMakes.l0] at h, fun _ _ _ _ _ _ _ _ _ _ _ _ _ r h => by simp [sumpterlaw20_RttMakes.j1] at h⟩
  | k + 1 => by
    obtain ⟨ih0, ih1⟩ := sumpterlaw20_RttMakes.mono_l k
    refine ⟨?_, ?_⟩
    · intro y0 y1 y2 y3 y4 y5 y6 y7 y8 y9
      unfold sumpterlaw20_RttMakes.l0
      repeat' first
      | (with_reducible exact ih0 _ _ _ _ _ _ _ _ _ _)
      | (with_reducible exact ih1 _ _ _ _ _ _ _ _ _ _ _ _ _)
      | (with_reducible exact rtt_Sample.mono _ _ _ _ _ _ _ _)
      | (with_reducible exact sumpterlaw20_awake.mono _)
      | (with_reducible exact LeO.refl _)
      | (with_reducible exact LeO.none _)
      | (with_reducible refine LeO.ite ?_ ?_)
      | (with_reducible refine LeO.bind ?_ (fun _ => ?_))
      | exact ih0 _ _ _ _ _ _ _ _ _ _
      | exact ih1 _ _ _ _ _ _ _ _ _ _ _ _ _
      | exact rtt_Sample.mono _ _ _ _ _ _ _ _
      | exact sumpterlaw20_awake.mono _
      | exact LeO.none _
      | refine LeO.ite ?_ ?_
      | refine LeO.bind ?_ (fun _ => ?_)
    · intro y0 y1 y2 y3 y4 y5 y6 y7 y8 y9 y10 y11 y12
      unfold sumpterlaw20_RttMakes.j1
      repeat' first
      | (with_reducible exact ih0 _ _ _ _ _ _ _ _ _ _)
      | (with_reducible exact ih1 _ _ _ _ _ _ _ _ _ _ _ _ _)
      | (with_reducible exact rtt_Sample.mono _ _ _ _ _ _ _ _)
      | (with_reducible exact sumpterlaw20_awake.mono _)
      | (with_reducible exact LeO.refl _)
      | (with_reducible exact LeO.none _)
      | (with_reducible refine LeO.ite ?_ ?_)
      | (with_reducible refine LeO.bind ?_ (fun _ => ?_))
      | exact ih0 _ _ _ _ _ _ _ _ _ _
      | exact ih1 _ _ _ _ _ _ _ _ _ _ _ _ _
      | exact rtt_Sample.mono _ _ _ _ _ _ _ _
      | exact sumpterlaw20_awake.mono _
      | exact LeO.none _
      | refine LeO.ite ?_ ?_
      | refine LeO.bind ?_ (fun _ => ?_)
theorem sumpterlaw20_RttMakes.mono : ∀ a0 k, LeO (sumpterlaw20_RttMakes.f k a0) (sumpterlaw20_RttMakes.f (k + 1) a0) := by
  intro a0 k
  obtain ⟨ih0, ih1⟩ := sumpterlaw20_RttMakes.mono_l k
  unfold sumpterlaw20_RttMakes.f
  repeat' first
      | (with_reducible exact ih0 _ _ _ _ _ _ _ _ _ _)
      | (with_reducible exact ih1 _ _ _ _ _ _ _ _ _ _ _ _ _)
      | (with_reducible exact rtt_Sample.mono _ _ _ _ _ _ _ _)
      | (with_reducible exact sumpterlaw20_awake.mono _)
      | (with_reducible exact LeO.refl _)
      | (with_reducible exact LeO.none _)
      | (with_reducible refine LeO.ite ?_ ?_)
      | (with_reducible refine LeO.bind ?_ (fun _ => ?_))
      | exact ih0 _ _ _ _ _ _ _ _ _ _
      | exact ih1 _ _ _ _ _ _ _ _ _ _ _ _ _
      | exact rtt_Sample.mono _ _ _ _ _ _ _ _
      | exact sumpterlaw20_awake.mono _
      | exact LeO.none _
      | refine LeO.ite ?_ ?_
      | refine LeO.bind ?_ (fun _ => ?_)
set_option maxHeartbeats 8000000 in
set_option maxRecDepth 100000 in
theorem sumpterlaw20_RttMakes.calls (k : Nat) (A0 : Option Addr) (c0 : Nat) (l0 : List (S27)) (r : Bool) (w : World) (hr0 : Kd.C k27 w A0 l0.length l0) (hc0 : l0.length ≤ c0) (h : sumpterlaw20_RttMakes.f k l0 = some r) :
    Calls Try.prog 3 #[.slice A0 l0.length c0] w fun e w' => e = .returned (.bool r) ∧ Below w.heap.size w w' := by
  have hu25 := Try.underlying25
  have HR0 := Aside0.mk hr0
  have HC0 := Aside0.mk hc0
  clear hr0 hc0
  have HB := Aside0.mk (Below.refl w.heap.size w)
  have H : (if (l0.length : Int) > 60 then ((sumpterlaw20_awake.f k).bind fun t135 => (some t135)) else (sumpterlaw20_RttMakes.l0 k l0 0 0 0 0 false 0 0 0 0)) = some r := h
  clear h
  by_cases c2 : (l0.length : Int) > 60
  · rw [if_pos c2] at H
    have c2b0 : decide (60 < (l0.length : Int)) = true := decide_eq_true c2
    have c2b1 : decide (60 < l0.length) = true := decide_eq_true (by omega)
    clear c2
    replace H := Option.bind_eq_some_iff.mp H
    obtain ⟨t135, A30, H⟩ := H
    replace H : (some t135) = some r := H
    have A3 := Aside0.mk A30
    clear A30
    obtain rfl := Option.some.inj H
    go_enter Try.func3, Try.ntmps3
    go_wp2_with (first | (go_at_call 15; (with_reducible refine (sumpterlaw20_awake.calls k  t135 _ A3.out).mono ?_); rintro e w4 ⟨rfl, hb⟩; have n0_ := Aside0.mk (below_step (by repeat (first | (with_reducible first | exact HB.out | apply below_alloc | apply pw_below_drewN | apply below_drew1) | exact HB.out)) hb); clear HB; have HB := n0_; clear n0_; (try clear hb); (try clear hb2); (try clear hk); (try clear hi)))
    repeat (go_quiet (first | (go_at_call 15; (with_reducible refine (sumpterlaw20_awake.calls k  t135 _ A3.out).mono ?_); rintro e w4 ⟨rfl, hb⟩; have n0_ := Aside0.mk (below_step (by repeat (first | (with_reducible first | exact HB.out | apply below_alloc | apply pw_below_drewN | apply below_drew1) | exact HB.out)) hb); clear HB; have HB := n0_; clear n0_; (try clear hb); (try clear hb2); (try clear hk); (try clear hi))); try go_wp2_with (first | (go_at_call 15; (with_reducible refine (sumpterlaw20_awake.calls k  t135 _ A3.out).mono ?_); rintro e w4 ⟨rfl, hb⟩; have n0_ := Aside0.mk (below_step (by repeat (first | (with_reducible first | exact HB.out | apply below_alloc | apply pw_below_drewN | apply below_drew1) | exact HB.out)) hb); clear HB; have HB := n0_; clear n0_; (try clear hb); (try clear hb2); (try clear hk); (try clear hi))))
    go_ret
    exact ⟨by first | rfl | (simp [errW_none, errW_some] <;> rfl) | (simp [*, errW_none, errW_some] <;> rfl), by repeat (first | (with_reducible first | exact HB.out | apply below_alloc | apply pw_below_drewN | apply below_drew1) | exact HB.out)⟩
  · rw [if_neg c2] at H
    have c2b0 : decide (60 < (l0.length : Int)) = false := decide_eq_false c2
    have c2b1 : decide (60 < l0.length) = false := decide_eq_false (by omega)
    clear c2
    have H' := Aside0.mk H
    clear H
    go_enter Try.func3, Try.ntmps3
    go_wp2_with (first | ((with_reducible refine gate_dst (N := 3) rfl ?_); refine box_event ?hg (N := 3) ?hd (cs := #[.bool false, .int .i64 0, .int .i64 0, .int .i64 0, .int .i64 0]) (t := 25) ?hr ?_; (case hd => rfl); (case hg => rfl); (case hr => first | (go_simp; done) | (go_simp; rfl)); intro gb136 hg w5 hbox hb; have n0_ := Aside0.mk (below_step (by repeat (first | (with_reducible first | exact HB.out | apply below_alloc | apply pw_below_drewN | apply below_drew1) | exact HB.out)) hb); have n1_ := Aside0.mk (hbox); have n2_ := Aside0.mk ((by rw [hg]; exact (below_size (by repeat (first | (with_reducible first | exact HB.out | apply below_alloc | apply pw_below_drewN | apply below_drew1) | exact HB.out))) : w.heap.size ≤ gb136)); have n3_ := Aside0.mk ((by rw [hg]; exact (below_size (by repeat (first | (with_reducible first | exact HB.out | apply below_alloc | apply pw_below_drewN | apply below_drew1) | exact HB.out))) : w.heap.size ≤ gb136)); clear HB; have HB := n0_; have BK136 := n1_; have GW136 := n2_; have GE136 := n3_; clear n0_ n1_ n2_ n3_; clear hb hbox hg))
    repeat (go_quiet (first | ((with_reducible refine gate_dst (N := 3) rfl ?_); refine box_event ?hg (N := 3) ?hd (cs := #[.bool false, .int .i64 0, .int .i64 0, .int .i64 0, .int .i64 0]) (t := 25) ?hr ?_; (case hd => rfl); (case hg => rfl); (case hr => first | (go_simp; done) | (go_simp; rfl)); intro gb136 hg w5 hbox hb; have n0_ := Aside0.mk (below_step (by repeat (first | (with_reducible first | exact HB.out | apply below_alloc | apply pw_below_drewN | apply below_drew1) | exact HB.out)) hb); have n1_ := Aside0.mk (hbox); have n2_ := Aside0.mk ((by rw [hg]; exact (below_size (by repeat (first | (with_reducible first | exact HB.out | apply below_alloc | apply pw_below_drewN | apply below_drew1) | exact HB.out))) : w.heap.size ≤ gb136)); have n3_ := Aside0.mk ((by rw [hg]; exact (below_size (by repeat (first | (with_reducible first | exact HB.out | apply below_alloc | apply pw_below_drewN | apply below_drew1) | exact HB.out))) : w.heap.size ≤ gb136)); clear HB; have HB := n0_; have BK136 := n1_; have GW136 := n2_; have GE136 := n3_; clear n0_ n1_ n2_ n3_; clear hb hbox hg)); try go_wp2_with (first | ((with_reducible refine gate_dst (N := 3) rfl ?_); refine box_event ?hg (N := 3) ?hd (cs := #[.bool false, .int .i64 0, .int .i64 0, .int .i64 0, .int .i64 0]) (t := 25) ?hr ?_; (case hd => rfl); (case hg => rfl); (case hr => first | (go_simp; done) | (go_simp; rfl)); intro gb136 hg w5 hbox hb; have n0_ := Aside0.mk (below_step (by repeat (first | (with_reducible first | exact HB.out | apply below_alloc | apply pw_below_drewN | apply below_drew1) | exact HB.out)) hb); have n1_ := Aside0.mk (hbox); have n2_ := Aside0.mk ((by rw [hg]; exact (below_size (by repeat (first | (with_reducible first | exact HB.out | apply below_alloc | apply pw_below_drewN | apply below_drew1) | exact HB.out))) : w.heap.size ≤ gb136)); have n3_ := Aside0.mk ((by rw [hg]; exact (below_size (by repeat (first | (with_reducible first | exact HB.out | apply below_alloc | apply pw_below_drewN | apply below_drew1) | exact HB.out))) : w.heap.size ≤ gb136)); clear HB; have HB := n0_; have BK136 := n1_; have GW136 := n2_; have GE136 := n3_; clear n0_ n1_ n2_ n3_; clear hb hbox hg)))
    go_loopg [4, 5, 6, 7] k (fun kq v4 v5 v6 v7 w' => ∃ (x4_1 : Int) (x5_1 : Int) (x6_1 : Int) (x7_1 : Int) (x137000_1 : Bool) (x137001_1 : Int) (x137002_1 : Int) (x137003_1 : Int) (x137004_1 : Int), v4 = .int .i64 x4_1 ∧ v5 = .int .i64 x5_1 ∧ v6 = .int .i64 x6_1 ∧ v7 = .int .i64 x7_1 ∧ Aside0 (sumpterlaw20_RttMakes.l0 kq l0 x4_1 x5_1 x6_1 x7_1 x137000_1 x137001_1 x137002_1 x137003_1 x137004_1 = some r) ∧ Aside0 (kq ≤ k) ∧ Aside0 (w'.heap[gb136]? = some (.cells #[.bool x137000_1, .int .i64 x137001_1, .int .i64 x137002_1, .int .i64 x137003_1, .int .i64 x137004_1] 25 (0, 0))) ∧ Aside0 (Below w.heap.size w w'))
    case atStart => exact ⟨(0), (0), (0), (0), (false), (0), (0), (0), (0), (by first | rfl | (simp; done) | (simp [*]; done)), (by first | rfl | (simp; done) | (simp [*]; done)), (by first | rfl | (simp; done) | (simp [*]; done)), (by first | rfl | (simp; done) | (simp [*]; done)), H', ⟨Nat.le_refl _⟩, ⟨by (with_reducible repeat (first | refine blk_drewN ?_ _ | refine blk_drew ?_ | refine blk_alloc ?_ _)); exact BK136.out⟩, ⟨by repeat (first | (with_reducible first | exact HB.out | apply below_alloc | apply pw_below_drewN | apply below_drew1 | refine below_set ?_ GE136.out) | exact HB.out)⟩⟩
    case round =>
      clear H'
      try clear c2
      try clear c2b0
      try clear c2b1
      try clear p2
      try clear c3
      obtain ⟨x4_1, x5_1, x6_1, x7_1, x137000_1, x137001_1, x137002_1, x137003_1, x137004_1, rfl, rfl, rfl, rfl, HA, HK1, BK136, HB⟩ := hrel
      cases gk with
      | zero => exact absurd HA.out (by simp [sumpterlaw20_RttMakes.l0])
      | succ k1 =>
        have H := HA.out
        clear HA
        simp only [sumpterlaw20_RttMakes.l0] at H
        by_cases c6 : x7_1 < (l0.length : Int)
        · rw [if_pos c6] at H
          have c6b0 : decide (x7_1 < (l0.length : Int)) = true := decide_eq_true c6
          clear c6
          by_cases c7 : 0 ≤ x7_1
          · rw [if_pos c7] at H
            have c7b0 : decide (0 ≤ x7_1) = true := decide_eq_true c7
            clear c7
            replace H := Option.bind_eq_some_iff.mp H
            obtain ⟨⟨t140, t141, t142, t143, t144⟩, A80, H⟩ := H
            replace H : (if x7_1 = 0 then (sumpterlaw20_RttMakes.j1 k1 l0 x4_1 x5_1 x6_1 x7_1 (wrap64 ((rd_T27 l0 x7_1).f0)) (wrap64 ((rd_T27 l0 x7_1).f1)) true t140 t141 t142 t143 t144) else (sumpterlaw20_RttMakes.j1 k1 l0 x4_1 x5_1 x6_1 x7_1 (wrap64 ((rd_T27 l0 x7_1).f0)) (wrap64 ((rd_T27 l0 x7_1).f1)) (decide ((wrap64 ((rd_T27 l0 x7_1).f0)) < x4_1)) t140 t141 t142 t143 t144)) = some r := H
            have A8 := Aside0.mk A80
            clear A80
            have HC9 := Aside0.mk H
            clear H
            have p138 : 0 ≤ (x7_1 : Int) := of_decide_eq_true (by first | (with_reducible assumption) | assumption)
            have q138 : x7_1 < (l0.length : Int) := of_decide_eq_true (by first | (with_reducible assumption) | assumption)
            obtain ⟨ad138, e138, hx138_0, hx138_1⟩ := at_T27 HR0.out x7_1 p138 q138
            cases e138
            replace hx138_0 := (HB.out.cell (World.block_lt_of_cell? w _ hx138_0)).trans hx138_0
            replace hx138_1 := (HB.out.cell (World.block_lt_of_cell? w _ hx138_1)).trans hx138_1
            replace p138 := eq_true p138
            replace q138 := eq_true q138
            have p139 : 0 ≤ (x7_1 : Int) := of_decide_eq_true (by first | (with_reducible assumption) | assumption)
            have q139 : x7_1 < (l0.length : Int) := of_decide_eq_true (by first | (with_reducible assumption) | assumption)
            obtain ⟨ad139, e139, hx139_0, hx139_1⟩ := at_T27 HR0.out x7_1 p139 q139
            obtain rfl : ad138 = ad139 := (by injection e139)
            replace hx139_0 := (HB.out.cell (World.block_lt_of_cell? w _ hx139_0)).trans hx139_0
            replace hx139_1 := (HB.out.cell (World.block_lt_of_cell? w _ hx139_1)).trans hx139_1
            replace p139 := eq_true p139
            replace q139 := eq_true q139
            have hcz10_0 : wr.cell? ⟨gb136, 0, none⟩ = some (.bool x137000_1) := (blk_cell BK136.out 0).trans rfl
            have hcz10_1 : wr.cell? ⟨gb136, 1, none⟩ = some (.int .i64 x137001_1) := (blk_cell BK136.out 1).trans rfl
            have hcz10_2 : wr.cell? ⟨gb136, 2, none⟩ = some (.int .i64 x137002_1) := (blk_cell BK136.out 2).trans rfl
            have hcz10_3 : wr.cell? ⟨gb136, 3, none⟩ = some (.int .i64 x137003_1) := (blk_cell BK136.out 3).trans rfl
            have hcz10_4 : wr.cell? ⟨gb136, 4, none⟩ = some (.int .i64 x137004_1) := (blk_cell BK136.out 4).trans rfl
            have hfz10_0 := blk_frozen BK136.out 0
            have hfz10_1 := blk_frozen BK136.out 1
            have hfz10_2 := blk_frozen BK136.out 2
            have hfz10_3 := blk_frozen BK136.out 3
            have hfz10_4 := blk_frozen BK136.out 4
            go_upto_region 10 with (first | (go_at_call 16; (with_reducible refine (rtt_Sample.calls k1 x137000_1 x137001_1 x137002_1 x137003_1 x137004_1 (wrap64 ((rd_T27 l0 x7_1).f0)) (wrap64 ((rd_T27 l0 x7_1).f1)) t140 t141 t142 t143 t144 _ A8.out).mono ?_); rintro e w11 ⟨rfl, hb⟩; have n0_ := Aside0.mk (blk_below (g := gb136) (o := .cells #[.bool x137000_1, .int .i64 x137001_1, .int .i64 x137002_1, .int .i64 x137003_1, .int .i64 x137004_1] 25 (0, 0)) (by (with_reducible repeat (first | refine blk_drewN ?_ _ | refine blk_drew ?_ | refine blk_alloc ?_ _)); exact BK136.out) hb); have n1_ := Aside0.mk (below_step (by repeat (first | (with_reducible first | exact HB.out | apply below_alloc | apply pw_below_drewN | apply below_drew1 | refine below_set ?_ GE136.out) | exact HB.out)) hb); clear BK136; clear HB; have BK136 := n0_; have HB := n1_; clear n0_ n1_; (try clear hb); (try clear hb2); (try clear hk); (try clear hi); have hcz12_0 : w11.cell? ⟨gb136, 0, none⟩ = some (.bool x137000_1) := (blk_cell BK136.out 0).trans rfl; have hcz12_1 : w11.cell? ⟨gb136, 1, none⟩ = some (.int .i64 x137001_1) := (blk_cell BK136.out 1).trans rfl; have hcz12_2 : w11.cell? ⟨gb136, 2, none⟩ = some (.int .i64 x137002_1) := (blk_cell BK136.out 2).trans rfl; have hcz12_3 : w11.cell? ⟨gb136, 3, none⟩ = some (.int .i64 x137003_1) := (blk_cell BK136.out 3).trans rfl; have hcz12_4 : w11.cell? ⟨gb136, 4, none⟩ = some (.int .i64 x137004_1) := (blk_cell BK136.out 4).trans rfl; have hfz12_0 := blk_frozen BK136.out 0; have hfz12_1 := blk_frozen BK136.out 1; have hfz12_2 := blk_frozen BK136.out 2; have hfz12_3 := blk_frozen BK136.out 3; have hfz12_4 := blk_frozen BK136.out 4))
            repeat (go_quiet (first | (go_at_call 16; (with_reducible refine (rtt_Sample.calls k1 x137000_1 x137001_1 x137002_1 x137003_1 x137004_1 (wrap64 ((rd_T27 l0 x7_1).f0)) (wrap64 ((rd_T27 l0 x7_1).f1)) t140 t141 t142 t143 t144 _ A8.out).mono ?_); rintro e w11 ⟨rfl, hb⟩; have n0_ := Aside0.mk (blk_below (g := gb136) (o := .cells #[.bool x137000_1, .int .i64 x137001_1, .int .i64 x137002_1, .int .i64 x137003_1, .int .i64 x137004_1] 25 (0, 0)) (by (with_reducible repeat (first | refine blk_drewN ?_ _ | refine blk_drew ?_ | refine blk_alloc ?_ _)); exact BK136.out) hb); have n1_ := Aside0.mk (below_step (by repeat (first | (with_reducible first | exact HB.out | apply below_alloc | apply pw_below_drewN | apply below_drew1 | refine below_set ?_ GE136.out) | exact HB.out)) hb); clear BK136; clear HB; have BK136 := n0_; have HB := n1_; clear n0_ n1_; (try clear hb); (try clear hb2); (try clear hk); (try clear hi); have hcz12_0 : w11.cell? ⟨gb136, 0, none⟩ = some (.bool x137000_1) := (blk_cell BK136.out 0).trans rfl; have hcz12_1 : w11.cell? ⟨gb136, 1, none⟩ = some (.int .i64 x137001_1) := (blk_cell BK136.out 1).trans rfl; have hcz12_2 : w11.cell? ⟨gb136, 2, none⟩ = some (.int .i64 x137002_1) := (blk_cell BK136.out 2).trans rfl; have hcz12_3 : w11.cell? ⟨gb136, 3, none⟩ = some (.int .i64 x137003_1) := (blk_cell BK136.out 3).trans rfl; have hcz12_4 : w11.cell? ⟨gb136, 4, none⟩ = some (.int .i64 x137004_1) := (blk_cell BK136.out 4).trans rfl; have hfz12_0 := blk_frozen BK136.out 0; have hfz12_1 := blk_frozen BK136.out 1; have hfz12_2 := blk_frozen BK136.out 2; have hfz12_3 := blk_frozen BK136.out 3; have hfz12_4 := blk_frozen BK136.out 4)); go_upto_region 10 with (first | (go_at_call 16; (with_reducible refine (rtt_Sample.calls k1 x137000_1 x137001_1 x137002_1 x137003_1 x137004_1 (wrap64 ((rd_T27 l0 x7_1).f0)) (wrap64 ((rd_T27 l0 x7_1).f1)) t140 t141 t142 t143 t144 _ A8.out).mono ?_); rintro e w11 ⟨rfl, hb⟩; have n0_ := Aside0.mk (blk_below (g := gb136) (o := .cells #[.bool x137000_1, .int .i64 x137001_1, .int .i64 x137002_1, .int .i64 x137003_1, .int .i64 x137004_1] 25 (0, 0)) (by (with_reducible repeat (first | refine blk_drewN ?_ _ | refine blk_drew ?_ | refine blk_alloc ?_ _)); exact BK136.out) hb); have n1_ := Aside0.mk (below_step (by repeat (first | (with_reducible first | exact HB.out | apply below_alloc | apply pw_below_drewN | apply below_drew1 | refine below_set ?_ GE136.out) | exact HB.out)) hb); clear BK136; clear HB; have BK136 := n0_; have HB := n1_; clear n0_ n1_; (try clear hb); (try clear hb2); (try clear hk); (try clear hi); have hcz12_0 : w11.cell? ⟨gb136, 0, none⟩ = some (.bool x137000_1) := (blk_cell BK136.out 0).trans rfl; have hcz12_1 : w11.cell? ⟨gb136, 1, none⟩ = some (.int .i64 x137001_1) := (blk_cell BK136.out 1).trans rfl; have hcz12_2 : w11.cell? ⟨gb136, 2, none⟩ = some (.int .i64 x137002_1) := (blk_cell BK136.out 2).trans rfl; have hcz12_3 : w11.cell? ⟨gb136, 3, none⟩ = some (.int .i64 x137003_1) := (blk_cell BK136.out 3).trans rfl; have hcz12_4 : w11.cell? ⟨gb136, 4, none⟩ = some (.int .i64 x137004_1) := (blk_cell BK136.out 4).trans rfl; have hfz12_0 := blk_frozen BK136.out 0; have hfz12_1 := blk_frozen BK136.out 1; have hfz12_2 := blk_frozen BK136.out 2; have hfz12_3 := blk_frozen BK136.out 3; have hfz12_4 := blk_frozen BK136.out 4)))
            (try simp only [Act.put, List.setIfInBounds_toArray, List.set_cons_zero, List.set_cons_succ])
            go_cut [42] (fun v42 wc => ∃ (kq : Nat) (x42_8 : Bool), v42 = .bool x42_8 ∧ Aside0 (sumpterlaw20_RttMakes.j1 kq l0 x4_1 x5_1 x6_1 x7_1 (wrap64 ((rd_T27 l0 x7_1).f0)) (wrap64 ((rd_T27 l0 x7_1).f1)) x42_8 t140 t141 t142 t143 t144 = some r) ∧ Aside0 (kq ≤ k1) ∧ Aside0 (wc.heap[gb136]? = some (.cells #[.bool t140, .int .i64 t141, .int .i64 t142, .int .i64 t143, .int .i64 t144] 25 (0, 0))) ∧ Aside0 (Below w.heap.size w wc))
            case first =>
              have H := HC9.out
              clear HC9
              by_cases c13 : x7_1 = 0
              · rw [if_pos c13] at H
                have c13b0 : (x7_1 == 0) = true := beq_iff_eq.mpr c13
                have c13b1 : (x7_1 != 0) = false := bne_eq_false_iff_eq.mpr c13
                clear c13
                (first | rw [c13b0] | (simp only [i64_w, i32_w]; rw [c13b0]) | skip)
                have H' := Aside0.mk H
                clear H
                go_wp2
                repeat (go_quiet (fail); try go_wp2)
                go_meet
                case rel => exact ⟨_, (true), (by first | rfl | (simp; done) | (simp [*]; done)), H', ⟨by have := HK1.out; first | omega | exact Nat.le_refl _⟩, ⟨by (with_reducible repeat (first | refine blk_drewN ?_ _ | refine blk_drew ?_ | refine blk_alloc ?_ _)); refine blk_put (cs := #[.bool t140, .int .i64 t141, .int .i64 t142, .int .i64 t143, .int .i64 x137004_1]) ?_ 4 _ rfl; (with_reducible repeat (first | refine blk_drewN ?_ _ | refine blk_drew ?_ | refine blk_alloc ?_ _)); refine blk_put (cs := #[.bool t140, .int .i64 t141, .int .i64 t142, .int .i64 x137003_1, .int .i64 x137004_1]) ?_ 3 _ rfl; (with_reducible repeat (first | refine blk_drewN ?_ _ | refine blk_drew ?_ | refine blk_alloc ?_ _)); refine blk_put (cs := #[.bool t140, .int .i64 t141, .int .i64 x137002_1, .int .i64 x137003_1, .int .i64 x137004_1]) ?_ 2 _ rfl; (with_reducible repeat (first | refine blk_drewN ?_ _ | refine blk_drew ?_ | refine blk_alloc ?_ _)); refine blk_put (cs := #[.bool t140, .int .i64 x137001_1, .int .i64 x137002_1, .int .i64 x137003_1, .int .i64 x137004_1]) ?_ 1 _ rfl; (with_reducible repeat (first | refine blk_drewN ?_ _ | refine blk_drew ?_ | refine blk_alloc ?_ _)); refine blk_put (cs := #[.bool x137000_1, .int .i64 x137001_1, .int .i64 x137002_1, .int .i64 x137003_1, .int .i64 x137004_1]) ?_ 0 _ rfl; (with_reducible repeat (first | refine blk_drewN ?_ _ | refine blk_drew ?_ | refine blk_alloc ?_ _)); exact BK136.out⟩, ⟨by repeat (first | (with_reducible first | exact HB.out | apply below_alloc | apply pw_below_drewN | apply below_drew1 | refine below_set ?_ GE136.out) | exact HB.out)⟩⟩
              · rw [if_neg c13] at H
                have c13b0 : (x7_1 == 0) = false := beq_eq_false_iff_ne.mpr c13
                have c13b1 : (x7_1 != 0) = true := bne_iff_ne.mpr c13
                (first | rw [c13b0] | (simp only [i64_w, i32_w]; rw [c13b0]) | skip)
                have H' := Aside0.mk H
                clear H
                go_wp2
                repeat (go_quiet (fail); try go_wp2)
                go_meet
                case rel => exact ⟨_, (decide ((wrap64 ((rd_T27 l0 x7_1).f0)) < x4_1)), (by first | rfl | (simp; done) | (simp [*]; done)), H', ⟨by have := HK1.out; first | omega | exact Nat.le_refl _⟩, ⟨by (with_reducible repeat (first | refine blk_drewN ?_ _ | refine blk_drew ?_ | refine blk_alloc ?_ _)); refine blk_put (cs := #[.bool t140, .int .i64 t141, .int .i64 t142, .int .i64 t143, .int .i64 x137004_1]) ?_ 4 _ rfl; (with_reducible repeat (first | refine blk_drewN ?_ _ | refine blk_drew ?_ | refine blk_alloc ?_ _)); refine blk_put (cs := #[.bool t140, .int .i64 t141, .int .i64 t142, .int .i64 x137003_1, .int .i64 x137004_1]) ?_ 3 _ rfl; (with_reducible repeat (first | refine blk_drewN ?_ _ | refine blk_drew ?_ | refine blk_alloc ?_ _)); refine blk_put (cs := #[.bool t140, .int .i64 t141, .int .i64 x137002_1, .int .i64 x137003_1, .int .i64 x137004_1]) ?_ 2 _ rfl; (with_reducible repeat (first | refine blk_drewN ?_ _ | refine blk_drew ?_ | refine blk_alloc ?_ _)); refine blk_put (cs := #[.bool t140, .int .i64 x137001_1, .int .i64 x137002_1, .int .i64 x137003_1, .int .i64 x137004_1]) ?_ 1 _ rfl; (with_reducible repeat (first | refine blk_drewN ?_ _ | refine blk_drew ?_ | refine blk_alloc ?_ _)); refine blk_put (cs := #[.bool x137000_1, .int .i64 x137001_1, .int .i64 x137002_1, .int .i64 x137003_1, .int .i64 x137004_1]) ?_ 0 _ rfl; (with_reducible repeat (first | refine blk_drewN ?_ _ | refine blk_drew ?_ | refine blk_alloc ?_ _)); exact BK136.out⟩, ⟨by repeat (first | (with_reducible first | exact HB.out | apply below_alloc | apply pw_below_drewN | apply below_drew1 | refine below_set ?_ GE136.out) | exact HB.out)⟩⟩
            case rest =>
              clear HC9
              try clear c1
              try clear p1
              try clear q1
              try clear hx1
              try clear c2
              try clear c2b0
              try clear c2b1
              try clear p2
              try clear c3
              try clear c6
              try clear c6b0
              try clear p6
              try clear c7
              try clear c7b0
              try clear c13
              try clear c13b0
              try clear c13b1
              try clear p13
              try clear q13
              try clear hx13
              try clear hcz10_0
              try clear hcz10_1
              try clear hcz10_2
              try clear hcz10_3
              try clear hcz10_4
              try clear hcz12_0
              try clear hcz12_1
              try clear hcz12_2
              try clear hcz12_3
              try clear hcz12_4
              try clear hfz10_0
              try clear hfz10_1
              try clear hfz10_2
              try clear hfz10_3
              try clear hfz10_4
              try clear hfz12_0
              try clear hfz12_1
              try clear hfz12_2
              try clear hfz12_3
              try clear hfz12_4
              try clear hx138_0
              try clear hx138_1
              try clear hx139_0
              try clear hx139_1
              try clear p138
              try clear p139
              try clear p2
              try clear q138
              try clear q139
              obtain ⟨kq, x42_8, rfl, HA, HJ8, BK136, HB⟩ := hcut
              cases kq with
              | zero => exact absurd HA.out (by simp [sumpterlaw20_RttMakes.j1])
              | succ kj8 =>
                have H := HA.out
                clear HA
                simp only [sumpterlaw20_RttMakes.j1] at H
                by_cases c14 : x42_8 = true
                · subst c14
                  have H1 : ((rtt_Check.f t140 t141 t142 t143 t144).bind fun t145 => (if t145 = true then (if t142 = (wrap64 ((rd_T27 l0 x7_1).f0)) then (if t141 = (wrap64 ((rd_T27 l0 x7_1).f0)) then (if t143 < (wrap64 ((wrap64 ((rd_T27 l0 x7_1).f0)) - (mx x6_1 (wrap64 ((rd_T27 l0 x7_1).f1))))) then (none) else (if t143 > (mx x5_1 (wrap64 ((rd_T27 l0 x7_1).f0))) then (none) else (if t143 < 0 then (none) else (if t144 < 0 then (none) else (if t144 > (wrap64 ((mx x5_1 (wrap64 ((rd_T27 l0 x7_1).f0))) + (mx x6_1 (wrap64 ((rd_T27 l0 x7_1).f1))))) then (none) else (sumpterlaw20_RttMakes.l0 kj8 l0 (wrap64 ((rd_T27 l0 x7_1).f0)) (mx x5_1 (wrap64 ((rd_T27 l0 x7_1).f0))) (mx x6_1 (wrap64 ((rd_T27 l0 x7_1).f1))) (wrap64 (x7_1 + 1)) t140 t141 t142 t143 t144)))))) else (none)) else (none)) else (none))) = some r := by rw [if_pos rfl] at H; exact H
                  clear H
                  have H := H1
                  clear H1
                  obtain ⟨ji15, hji15⟩ : ∃ j_ : Int, (mx x5_1 (wrap64 ((rd_T27 l0 x7_1).f0))) = j_ := ⟨_, rfl⟩
                  replace H : ((rtt_Check.f t140 t141 t142 t143 t144).bind fun t145 => (if t145 = true then (if t142 = (wrap64 ((rd_T27 l0 x7_1).f0)) then (if t141 = (wrap64 ((rd_T27 l0 x7_1).f0)) then (if t143 < (wrap64 ((wrap64 ((rd_T27 l0 x7_1).f0)) - (mx x6_1 (wrap64 ((rd_T27 l0 x7_1).f1))))) then (none) else (if t143 > (ji15) then (none) else (if t143 < 0 then (none) else (if t144 < 0 then (none) else (if t144 > (wrap64 ((ji15) + (mx x6_1 (wrap64 ((rd_T27 l0 x7_1).f1))))) then (none) else (sumpterlaw20_RttMakes.l0 kj8 l0 (wrap64 ((rd_T27 l0 x7_1).f0)) ji15 (mx x6_1 (wrap64 ((rd_T27 l0 x7_1).f1))) (wrap64 (x7_1 + 1)) t140 t141 t142 t143 t144)))))) else (none)) else (none)) else (none))) = some r := by first | (rw [hji15] at H; exact H) | (simp only [hji15] at H ⊢; exact H)
                  have hji15_ : (if x5_1 < (wrap64 ((rd_T27 l0 x7_1).f0)) then (wrap64 ((rd_T27 l0 x7_1).f0)) else x5_1) = ji15 := hji15
                  obtain ⟨ji16, hji16⟩ : ∃ j_ : Int, (mx x6_1 (wrap64 ((rd_T27 l0 x7_1).f1))) = j_ := ⟨_, rfl⟩
                  replace H : ((rtt_Check.f t140 t141 t142 t143 t144).bind fun t145 => (if t145 = true then (if t142 = (wrap64 ((rd_T27 l0 x7_1).f0)) then (if t141 = (wrap64 ((rd_T27 l0 x7_1).f0)) then (if t143 < (wrap64 ((wrap64 ((rd_T27 l0 x7_1).f0)) - (ji16))) then (none) else (if t143 > (ji15) then (none) else (if t143 < 0 then (none) else (if t144 < 0 then (none) else (if t144 > (wrap64 ((ji15) + (ji16))) then (none) else (sumpterlaw20_RttMakes.l0 kj8 l0 (wrap64 ((rd_T27 l0 x7_1).f0)) ji15 ji16 (wrap64 (x7_1 + 1)) t140 t141 t142 t143 t144)))))) else (none)) else (none)) else (none))) = some r := by first | (rw [hji16] at H; exact H) | (simp only [hji16] at H ⊢; exact H)
                  have hji16_ : (if x6_1 < (wrap64 ((rd_T27 l0 x7_1).f1)) then (wrap64 ((rd_T27 l0 x7_1).f1)) else x6_1) = ji16 := hji16
                  replace H := Option.bind_eq_some_iff.mp H
                  obtain ⟨t145, A170, H⟩ := H
                  replace H : (if t145 = true then (if t142 = (wrap64 ((rd_T27 l0 x7_1).f0)) then (if t141 = (wrap64 ((rd_T27 l0 x7_1).f0)) then (if t143 < (wrap64 ((wrap64 ((rd_T27 l0 x7_1).f0)) - (ji16))) then (none) else (if t143 > (ji15) then (none) else (if t143 < 0 then (none) else (if t144 < 0 then (none) else (if t144 > (wrap64 ((ji15) + (ji16))) then (none) else (sumpterlaw20_RttMakes.l0 kj8 l0 (wrap64 ((rd_T27 l0 x7_1).f0)) ji15 ji16 (wrap64 (x7_1 + 1)) t140 t141 t142 t143 t144)))))) else (none)) else (none)) else (none)) = some r := H
                  have A17 := Aside0.mk A170
                  clear A170
                  by_cases c18 : t145 = true
                  · subst c18
                    have H1 : (if t142 = (wrap64 ((rd_T27 l0 x7_1).f0)) then (if t141 = (wrap64 ((rd_T27 l0 x7_1).f0)) then (if t143 < (wrap64 ((wrap64 ((rd_T27 l0 x7_1).f0)) - (ji16))) then (none) else (if t143 > (ji15) then (none) else (if t143 < 0 then (none) else (if t144 < 0 then (none) else (if t144 > (wrap64 ((ji15) + (ji16))) then (none) else (sumpterlaw20_RttMakes.l0 kj8 l0 (wrap64 ((rd_T27 l0 x7_1).f0)) ji15 ji16 (wrap64 (x7_1 + 1)) t140 t141 t142 t143 t144)))))) else (none)) else (none)) = some r := by rw [if_pos rfl] at H; exact H
                    clear H
                    have H := H1
                    clear H1
                    by_cases c19 : t142 = (wrap64 ((rd_T27 l0 x7_1).f0))
                    · rw [if_pos c19] at H
                      have c19b0 : (t142 == (wrap64 ((rd_T27 l0 x7_1).f0))) = true := beq_iff_eq.mpr c19
                      have c19b1 : (t142 != (wrap64 ((rd_T27 l0 x7_1).f0))) = false := bne_eq_false_iff_eq.mpr c19
                      clear c19
                      by_cases c20 : t141 = (wrap64 ((rd_T27 l0 x7_1).f0))
                      · rw [if_pos c20] at H
                        have c20b0 : (t141 == (wrap64 ((rd_T27 l0 x7_1).f0))) = true := beq_iff_eq.mpr c20
                        have c20b1 : (t141 != (wrap64 ((rd_T27 l0 x7_1).f0))) = false := bne_eq_false_iff_eq.mpr c20
                        clear c20
                        by_cases c21 : t143 < (wrap64 ((wrap64 ((rd_T27 l0 x7_1).f0)) - (ji16)))
                        · rw [if_pos c21] at H
                          exact absurd H (by simp)
                        · rw [if_neg c21] at H
                          have c21b0 : decide (t143 < (wrap64 ((wrap64 ((rd_T27 l0 x7_1).f0)) - (ji16)))) = false := decide_eq_false c21
                          clear c21
                          by_cases c22 : t143 > (ji15)
                          · rw [if_pos c22] at H
                            exact absurd H (by simp)
                          · rw [if_neg c22] at H
                            have c22b0 : decide ((ji15) < t143) = false := decide_eq_false c22
                            clear c22
                            by_cases c23 : t143 < 0
                            · rw [if_pos c23] at H
                              exact absurd H (by simp)
                            · rw [if_neg c23] at H
                              have c23b0 : decide (t143 < 0) = false := decide_eq_false c23
                              clear c23
                              by_cases c24 : t144 < 0
                              · rw [if_pos c24] at H
                                exact absurd H (by simp)
                              · rw [if_neg c24] at H
                                have c24b0 : decide (t144 < 0) = false := decide_eq_false c24
                                clear c24
                                by_cases c25 : t144 > (wrap64 ((ji15) + (ji16)))
                                · rw [if_pos c25] at H
                                  exact absurd H (by simp)
                                · rw [if_neg c25] at H
                                  have c25b0 : decide ((wrap64 ((ji15) + (ji16))) < t144) = false := decide_eq_false c25
                                  clear c25
                                  have H' := Aside0.mk H
                                  clear H
                                  have hcz26_0 : wc.cell? ⟨gb136, 0, none⟩ = some (.bool t140) := (blk_cell BK136.out 0).trans rfl
                                  have hcz26_1 : wc.cell? ⟨gb136, 1, none⟩ = some (.int .i64 t141) := (blk_cell BK136.out 1).trans rfl
                                  have hcz26_2 : wc.cell? ⟨gb136, 2, none⟩ = some (.int .i64 t142) := (blk_cell BK136.out 2).trans rfl
                                  have hcz26_3 : wc.cell? ⟨gb136, 3, none⟩ = some (.int .i64 t143) := (blk_cell BK136.out 3).trans rfl
                                  have hcz26_4 : wc.cell? ⟨gb136, 4, none⟩ = some (.int .i64 t144) := (blk_cell BK136.out 4).trans rfl
                                  have hfz26_0 := blk_frozen BK136.out 0
                                  have hfz26_1 := blk_frozen BK136.out 1
                                  have hfz26_2 := blk_frozen BK136.out 2
                                  have hfz26_3 := blk_frozen BK136.out 3
                                  have hfz26_4 := blk_frozen BK136.out 4
                                  go_wp2_with (first | (go_at_call 17; (with_reducible refine (rtt_Check.calls t140 t141 t142 t143 t144 true _ A17.out).mono ?_); rintro e w27 ⟨rfl, hb⟩; have n0_ := Aside0.mk (blk_below (g := gb136) (o := .cells #[.bool t140, .int .i64 t141, .int .i64 t142, .int .i64 t143, .int .i64 t144] 25 (0, 0)) (by (with_reducible repeat (first | refine blk_drewN ?_ _ | refine blk_drew ?_ | refine blk_alloc ?_ _)); exact BK136.out) hb); have n1_ := Aside0.mk (below_step (by repeat (first | (with_reducible first | exact HB.out | apply below_alloc | apply pw_below_drewN | apply below_drew1 | refine below_set ?_ GE136.out) | exact HB.out)) hb); clear BK136; clear HB; have BK136 := n0_; have HB := n1_; clear n0_ n1_; (try clear hb); (try clear hb2); (try clear hk); (try clear hi); have hcz28_0 : w27.cell? ⟨gb136, 0, none⟩ = some (.bool t140) := (blk_cell BK136.out 0).trans rfl; have hcz28_1 : w27.cell? ⟨gb136, 1, none⟩ = some (.int .i64 t141) := (blk_cell BK136.out 1).trans rfl; have hcz28_2 : w27.cell? ⟨gb136, 2, none⟩ = some (.int .i64 t142) := (blk_cell BK136.out 2).trans rfl; have hcz28_3 : w27.cell? ⟨gb136, 3, none⟩ = some (.int .i64 t143) := (blk_cell BK136.out 3).trans rfl; have hcz28_4 : w27.cell? ⟨gb136, 4, none⟩ = some (.int .i64 t144) := (blk_cell BK136.out 4).trans rfl; have hfz28_0 := blk_frozen BK136.out 0; have hfz28_1 := blk_frozen BK136.out 1; have hfz28_2 := blk_frozen BK136.out 2; have hfz28_3 := blk_frozen BK136.out 3; have hfz28_4 := blk_frozen BK136.out 4))
                                  repeat (go_quiet (first | (go_at_call 17; (with_reducible refine (rtt_Check.calls t140 t141 t142 t143 t144 true _ A17.out).mono ?_); rintro e w27 ⟨rfl, hb⟩; have n0_ := Aside0.mk (blk_below (g := gb136) (o := .cells #[.bool t140, .int .i64 t141, .int .i64 t142, .int .i64 t143, .int .i64 t144] 25 (0, 0)) (by (with_reducible repeat (first | refine blk_drewN ?_ _ | refine blk_drew ?_ | refine blk_alloc ?_ _)); exact BK136.out) hb); have n1_ := Aside0.mk (below_step (by repeat (first | (with_reducible first | exact HB.out | apply below_alloc | apply pw_below_drewN | apply below_drew1 | refine below_set ?_ GE136.out) | exact HB.out)) hb); clear BK136; clear HB; have BK136 := n0_; have HB := n1_; clear n0_ n1_; (try clear hb); (try clear hb2); (try clear hk); (try clear hi); have hcz28_0 : w27.cell? ⟨gb136, 0, none⟩ = some (.bool t140) := (blk_cell BK136.out 0).trans rfl; have hcz28_1 : w27.cell? ⟨gb136, 1, none⟩ = some (.int .i64 t141) := (blk_cell BK136.out 1).trans rfl; have hcz28_2 : w27.cell? ⟨gb136, 2, none⟩ = some (.int .i64 t142) := (blk_cell BK136.out 2).trans rfl; have hcz28_3 : w27.cell? ⟨gb136, 3, none⟩ = some (.int .i64 t143) := (blk_cell BK136.out 3).trans rfl; have hcz28_4 : w27.cell? ⟨gb136, 4, none⟩ = some (.int .i64 t144) := (blk_cell BK136.out 4).trans rfl; have hfz28_0 := blk_frozen BK136.out 0; have hfz28_1 := blk_frozen BK136.out 1; have hfz28_2 := blk_frozen BK136.out 2; have hfz28_3 := blk_frozen BK136.out 3; have hfz28_4 := blk_frozen BK136.out 4)); try go_wp2_with (first | (go_at_call 17; (with_reducible refine (rtt_Check.calls t140 t141 t142 t143 t144 true _ A17.out).mono ?_); rintro e w27 ⟨rfl, hb⟩; have n0_ := Aside0.mk (blk_below (g := gb136) (o := .cells #[.bool t140, .int .i64 t141, .int .i64 t142, .int .i64 t143, .int .i64 t144] 25 (0, 0)) (by (with_reducible repeat (first | refine blk_drewN ?_ _ | refine blk_drew ?_ | refine blk_alloc ?_ _)); exact BK136.out) hb); have n1_ := Aside0.mk (below_step (by repeat (first | (with_reducible first | exact HB.out | apply below_alloc | apply pw_below_drewN | apply below_drew1 | refine below_set ?_ GE136.out) | exact HB.out)) hb); clear BK136; clear HB; have BK136 := n0_; have HB := n1_; clear n0_ n1_; (try clear hb); (try clear hb2); (try clear hk); (try clear hi); have hcz28_0 : w27.cell? ⟨gb136, 0, none⟩ = some (.bool t140) := (blk_cell BK136.out 0).trans rfl; have hcz28_1 : w27.cell? ⟨gb136, 1, none⟩ = some (.int .i64 t141) := (blk_cell BK136.out 1).trans rfl; have hcz28_2 : w27.cell? ⟨gb136, 2, none⟩ = some (.int .i64 t142) := (blk_cell BK136.out 2).trans rfl; have hcz28_3 : w27.cell? ⟨gb136, 3, none⟩ = some (.int .i64 t143) := (blk_cell BK136.out 3).trans rfl; have hcz28_4 : w27.cell? ⟨gb136, 4, none⟩ = some (.int .i64 t144) := (blk_cell BK136.out 4).trans rfl; have hfz28_0 := blk_frozen BK136.out 0; have hfz28_1 := blk_frozen BK136.out 1; have hfz28_2 := blk_frozen BK136.out 2; have hfz28_3 := blk_frozen BK136.out 3; have hfz28_4 := blk_frozen BK136.out 4)))
                                  go_roundg kj8
                                  case measure => have := HK1.out; have := HJ8.out; omega
                                  case rel => exact ⟨((wrap64 ((rd_T27 l0 x7_1).f0))), (ji15), (ji16), (wrap64 (x7_1 + 1)), (t140), (t141), (t142), (t143), (t144), (by first | rfl | (simp; done) | (simp [*]; done)), (by first | rfl | (simp; done) | (simp only [← hji15] <;> (first | rfl | simp)) | (simp [*]; done)), (by first | rfl | (simp; done) | (simp only [← hji16] <;> (first | rfl | simp)) | (simp [*]; done)), (by first | rfl | (simp; done) | (simp [*]; done)), H', ⟨by have := HK1.out; have := HJ8.out; omega⟩, ⟨by (with_reducible repeat (first | refine blk_drewN ?_ _ | refine blk_drew ?_ | refine blk_alloc ?_ _)); exact BK136.out⟩, ⟨by repeat (first | (with_reducible first | exact HB.out | apply below_alloc | apply pw_below_drewN | apply below_drew1 | refine below_set ?_ GE136.out) | exact HB.out)⟩⟩
                      · rw [if_neg c20] at H
                        exact absurd H (by simp)
                    · rw [if_neg c19] at H
                      exact absurd H (by simp)
                  · replace c18 := Bool.eq_false_iff.mpr c18
                    subst c18
                    have H1 : (none) = some r := by rw [if_neg (show ¬ (false = true) by decide)] at H; exact H
                    clear H
                    have H := H1
                    clear H1
                    exact absurd H (by simp)
                · replace c14 := Bool.eq_false_iff.mpr c14
                  subst c14
                  have H1 : ((rtt_Check.f t140 t141 t142 t143 t144).bind fun t146 => (if t146 = true then (if t142 = x4_1 then (if t141 = (wrap64 ((rd_T27 l0 x7_1).f0)) then (if t143 < (wrap64 (x4_1 - (mx x6_1 (wrap64 ((rd_T27 l0 x7_1).f1))))) then (none) else (if t143 > (mx x5_1 (wrap64 ((rd_T27 l0 x7_1).f0))) then (none) else (if t143 < 0 then (none) else (if t144 < 0 then (none) else (if t144 > (wrap64 ((mx x5_1 (wrap64 ((rd_T27 l0 x7_1).f0))) + (mx x6_1 (wrap64 ((rd_T27 l0 x7_1).f1))))) then (none) else (sumpterlaw20_RttMakes.l0 kj8 l0 x4_1 (mx x5_1 (wrap64 ((rd_T27 l0 x7_1).f0))) (mx x6_1 (wrap64 ((rd_T27 l0 x7_1).f1))) (wrap64 (x7_1 + 1)) t140 t141 t142 t143 t144)))))) else (none)) else (none)) else (none))) = some r := by rw [if_neg (show ¬ (false = true) by decide)] at H; exact H
                  clear H
                  have H := H1
                  clear H1
                  obtain ⟨ji29, hji29⟩ : ∃ j_ : Int, (mx x5_1 (wrap64 ((rd_T27 l0 x7_1).f0))) = j_ := ⟨_, rfl⟩
                  replace H : ((rtt_Check.f t140 t141 t142 t143 t144).bind fun t146 => (if t146 = true then (if t142 = x4_1 then (if t141 = (wrap64 ((rd_T27 l0 x7_1).f0)) then (if t143 < (wrap64 (x4_1 - (mx x6_1 (wrap64 ((rd_T27 l0 x7_1).f1))))) then (none) else (if t143 > (ji29) then (none) else (if t143 < 0 then (none) else (if t144 < 0 then (none) else (if t144 > (wrap64 ((ji29) + (mx x6_1 (wrap64 ((rd_T27 l0 x7_1).f1))))) then (none) else (sumpterlaw20_RttMakes.l0 kj8 l0 x4_1 ji29 (mx x6_1 (wrap64 ((rd_T27 l0 x7_1).f1))) (wrap64 (x7_1 + 1)) t140 t141 t142 t143 t144)))))) else (none)) else (none)) else (none))) = some r := by first | (rw [hji29] at H; exact H) | (simp only [hji29] at H ⊢; exact H)
                  have hji29_ : (if x5_1 < (wrap64 ((rd_T27 l0 x7_1).f0)) then (wrap64 ((rd_T27 l0 x7_1).f0)) else x5_1) = ji29 := hji29
                  obtain ⟨ji30, hji30⟩ : ∃ j_ : Int, (mx x6_1 (wrap64 ((rd_T27 l0 x7_1).f1))) = j_ := ⟨_, rfl⟩
                  replace H : ((rtt_Check.f t140 t141 t142 t143 t144).bind fun t146 => (if t146 = true then (if t142 = x4_1 then (if t141 = (wrap64 ((rd_T27 l0 x7_1).f0)) then (if t143 < (wrap64 (x4_1 - (ji30))) then (none) else (if t143 > (ji29) then (none) else (if t143 < 0 then (none) else (if t144 < 0 then (none) else (if t144 > (wrap64 ((ji29) + (ji30))) then (none) else (sumpterlaw20_RttMakes.l0 kj8 l0 x4_1 ji29 ji30 (wrap64 (x7_1 + 1)) t140 t141 t142 t143 t144)))))) else (none)) else (none)) else (none))) = some r := by first | (rw [hji30] at H; exact H) | (simp only [hji30] at H ⊢; exact H)
                  have hji30_ : (if x6_1 < (wrap64 ((rd_T27 l0 x7_1).f1)) then (wrap64 ((rd_T27 l0 x7_1).f1)) else x6_1) = ji30 := hji30
                  replace H := Option.bind_eq_some_iff.mp H
                  obtain ⟨t146, A310, H⟩ := H
                  replace H : (if t146 = true then (if t142 = x4_1 then (if t141 = (wrap64 ((rd_T27 l0 x7_1).f0)) then (if t143 < (wrap64 (x4_1 - (ji30))) then (none) else (if t143 > (ji29) then (none) else (if t143 < 0 then (none) else (if t144 < 0 then (none) else (if t144 > (wrap64 ((ji29) + (ji30))) then (none) else (sumpterlaw20_RttMakes.l0 kj8 l0 x4_1 ji29 ji30 (wrap64 (x7_1 + 1)) t140 t141 t142 t143 t144)))))) else (none)) else (none)) else (none)) = some r := H
                  have A31 := Aside0.mk A310
                  clear A310
                  by_cases c32 : t146 = true
                  · subst c32
                    have H1 : (if t142 = x4_1 then (if t141 = (wrap64 ((rd_T27 l0 x7_1).f0)) then (if t143 < (wrap64 (x4_1 - (ji30))) then (none) else (if t143 > (ji29) then (none) else (if t143 < 0 then (none) else (if t144 < 0 then (none) else (if t144 > (wrap64 ((ji29) + (ji30))) then (none) else (sumpterlaw20_RttMakes.l0 kj8 l0 x4_1 ji29 ji30 (wrap64 (x7_1 + 1)) t140 t141 t142 t143 t144)))))) else (none)) else (none)) = some r := by rw [if_pos rfl] at H; exact H
                    clear H
                    have H := H1
                    clear H1
                    by_cases c33 : t142 = x4_1
                    · rw [if_pos c33] at H
                      have c33b0 : (t142 == x4_1) = true := beq_iff_eq.mpr c33
                      have c33b1 : (t142 != x4_1) = false := bne_eq_false_iff_eq.mpr c33
                      clear c33
                      by_cases c34 : t141 = (wrap64 ((rd_T27 l0 x7_1).f0))
                      · rw [if_pos c34] at H
                        have c34b0 : (t141 == (wrap64 ((rd_T27 l0 x7_1).f0))) = true := beq_iff_eq.mpr c34
                        have c34b1 : (t141 != (wrap64 ((rd_T27 l0 x7_1).f0))) = false := bne_eq_false_iff_eq.mpr c34
                        clear c34
                        by_cases c35 : t143 < (wrap64 (x4_1 - (ji30)))
                        · rw [if_pos c35] at H
                          exact absurd H (by simp)
                        · rw [if_neg c35] at H
                          have c35b0 : decide (t143 < (wrap64 (x4_1 - (ji30)))) = false := decide_eq_false c35
                          clear c35
                          by_cases c36 : t143 > (ji29)
                          · rw [if_pos c36] at H
                            exact absurd H (by simp)
                          · rw [if_neg c36] at H
                            have c36b0 : decide ((ji29) < t143) = false := decide_eq_false c36
                            clear c36
                            by_cases c37 : t143 < 0
                            · rw [if_pos c37] at H
                              exact absurd H (by simp)
                            · rw [if_neg c37] at H
                              have c37b0 : decide (t143 < 0) = false := decide_eq_false c37
                              clear c37
                              by_cases c38 : t144 < 0
                              · rw [if_pos c38] at H
                                exact absurd H (by simp)
                              · rw [if_neg c38] at H
                                have c38b0 : decide (t144 < 0) = false := decide_eq_false c38
                                clear c38
                                by_cases c39 : t144 > (wrap64 ((ji29) + (ji30)))
                                · rw [if_pos c39] at H
                                  exact absurd H (by simp)
                                · rw [if_neg c39] at H
                                  have c39b0 : decide ((wrap64 ((ji29) + (ji30))) < t144) = false := decide_eq_false c39
                                  clear c39
                                  have H' := Aside0.mk H
                                  clear H
                                  have hcz40_0 : wc.cell? ⟨gb136, 0, none⟩ = some (.bool t140) := (blk_cell BK136.out 0).trans rfl
                                  have hcz40_1 : wc.cell? ⟨gb136, 1, none⟩ = some (.int .i64 t141) := (blk_cell BK136.out 1).trans rfl
                                  have hcz40_2 : wc.cell? ⟨gb136, 2, none⟩ = some (.int .i64 t142) := (blk_cell BK136.out 2).trans rfl
                                  have hcz40_3 : wc.cell? ⟨gb136, 3, none⟩ = some (.int .i64 t143) := (blk_cell BK136.out 3).trans rfl
                                  have hcz40_4 : wc.cell? ⟨gb136, 4, none⟩ = some (.int .i64 t144) := (blk_cell BK136.out 4).trans rfl
                                  have hfz40_0 := blk_frozen BK136.out 0
                                  have hfz40_1 := blk_frozen BK136.out 1
                                  have hfz40_2 := blk_frozen BK136.out 2
                                  have hfz40_3 := blk_frozen BK136.out 3
                                  have hfz40_4 := blk_frozen BK136.out 4
                                  go_wp2_with (first | (go_at_call 17; (with_reducible refine (rtt_Check.calls t140 t141 t142 t143 t144 true _ A31.out).mono ?_); rintro e w41 ⟨rfl, hb⟩; have n0_ := Aside0.mk (blk_below (g := gb136) (o := .cells #[.bool t140, .int .i64 t141, .int .i64 t142, .int .i64 t143, .int .i64 t144] 25 (0, 0)) (by (with_reducible repeat (first | refine blk_drewN ?_ _ | refine blk_drew ?_ | refine blk_alloc ?_ _)); exact BK136.out) hb); have n1_ := Aside0.mk (below_step (by repeat (first | (with_reducible first | exact HB.out | apply below_alloc | apply pw_below_drewN | apply below_drew1 | refine below_set ?_ GE136.out) | exact HB.out)) hb); clear BK136; clear HB; have BK136 := n0_; have HB := n1_; clear n0_ n1_; (try clear hb); (try clear hb2); (try clear hk); (try clear hi); have hcz42_0 : w41.cell? ⟨gb136, 0, none⟩ = some (.bool t140) := (blk_cell BK136.out 0).trans rfl; have hcz42_1 : w41.cell? ⟨gb136, 1, none⟩ = some (.int .i64 t141) := (blk_cell BK136.out 1).trans rfl; have hcz42_2 : w41.cell? ⟨gb136, 2, none⟩ = some (.int .i64 t142) := (blk_cell BK136.out 2).trans rfl; have hcz42_3 : w41.cell? ⟨gb136, 3, none⟩ = some (.int .i64 t143) := (blk_cell BK136.out 3).trans rfl; have hcz42_4 : w41.cell? ⟨gb136, 4, none⟩ = some (.int .i64 t144) := (blk_cell BK136.out 4).trans rfl; have hfz42_0 := blk_frozen BK136.out 0; have hfz42_1 := blk_frozen BK136.out 1; have hfz42_2 := blk_frozen BK136.out 2; have hfz42_3 := blk_frozen BK136.out 3; have hfz42_4 := blk_frozen BK136.out 4))
                                  repeat (go_quiet (first | (go_at_call 17; (with_reducible refine (rtt_Check.calls t140 t141 t142 t143 t144 true _ A31.out).mono ?_); rintro e w41 ⟨rfl, hb⟩; have n0_ := Aside0.mk (blk_below (g := gb136) (o := .cells #[.bool t140, .int .i64 t141, .int .i64 t142, .int .i64 t143, .int .i64 t144] 25 (0, 0)) (by (with_reducible repeat (first | refine blk_drewN ?_ _ | refine blk_drew ?_ | refine blk_alloc ?_ _)); exact BK136.out) hb); have n1_ := Aside0.mk (below_step (by repeat (first | (with_reducible first | exact HB.out | apply below_alloc | apply pw_below_drewN | apply below_drew1 | refine below_set ?_ GE136.out) | exact HB.out)) hb); clear BK136; clear HB; have BK136 := n0_; have HB := n1_; clear n0_ n1_; (try clear hb); (try clear hb2); (try clear hk); (try clear hi); have hcz42_0 : w41.cell? ⟨gb136, 0, none⟩ = some (.bool t140) := (blk_cell BK136.out 0).trans rfl; have hcz42_1 : w41.cell? ⟨gb136, 1, none⟩ = some (.int .i64 t141) := (blk_cell BK136.out 1).trans rfl; have hcz42_2 : w41.cell? ⟨gb136, 2, none⟩ = some (.int .i64 t142) := (blk_cell BK136.out 2).trans rfl; have hcz42_3 : w41.cell? ⟨gb136, 3, none⟩ = some (.int .i64 t143) := (blk_cell BK136.out 3).trans rfl; have hcz42_4 : w41.cell? ⟨gb136, 4, none⟩ = some (.int .i64 t144) := (blk_cell BK136.out 4).trans rfl; have hfz42_0 := blk_frozen BK136.out 0; have hfz42_1 := blk_frozen BK136.out 1; have hfz42_2 := blk_frozen BK136.out 2; have hfz42_3 := blk_frozen BK136.out 3; have hfz42_4 := blk_frozen BK136.out 4)); try go_wp2_with (first | (go_at_call 17; (with_reducible refine (rtt_Check.calls t140 t141 t142 t143 t144 true _ A31.out).mono ?_); rintro e w41 ⟨rfl, hb⟩; have n0_ := Aside0.mk (blk_below (g := gb136) (o := .cells #[.bool t140, .int .i64 t141, .int .i64 t142, .int .i64 t143, .int .i64 t144] 25 (0, 0)) (by (with_reducible repeat (first | refine blk_drewN ?_ _ | refine blk_drew ?_ | refine blk_alloc ?_ _)); exact BK136.out) hb); have n1_ := Aside0.mk (below_step (by repeat (first | (with_reducible first | exact HB.out | apply below_alloc | apply pw_below_drewN | apply below_drew1 | refine below_set ?_ GE136.out) | exact HB.out)) hb); clear BK136; clear HB; have BK136 := n0_; have HB := n1_; clear n0_ n1_; (try clear hb); (try clear hb2); (try clear hk); (try clear hi); have hcz42_0 : w41.cell? ⟨gb136, 0, none⟩ = some (.bool t140) := (blk_cell BK136.out 0).trans rfl; have hcz42_1 : w41.cell? ⟨gb136, 1, none⟩ = some (.int .i64 t141) := (blk_cell BK136.out 1).trans rfl; have hcz42_2 : w41.cell? ⟨gb136, 2, none⟩ = some (.int .i64 t142) := (blk_cell BK136.out 2).trans rfl; have hcz42_3 : w41.cell? ⟨gb136, 3, none⟩ = some (.int .i64 t143) := (blk_cell BK136.out 3).trans rfl; have hcz42_4 : w41.cell? ⟨gb136, 4, none⟩ = some (.int .i64 t144) := (blk_cell BK136.out 4).trans rfl; have hfz42_0 := blk_frozen BK136.out 0; have hfz42_1 := blk_frozen BK136.out 1; have hfz42_2 := blk_frozen BK136.out 2; have hfz42_3 := blk_frozen BK136.out 3; have hfz42_4 := blk_frozen BK136.out 4)))
                                  go_roundg kj8
                                  case measure => have := HK1.out; have := HJ8.out; omega
                                  case rel => exact ⟨(x4_1), (ji29), (ji30), (wrap64 (x7_1 + 1)), (t140), (t141), (t142), (t143), (t144), (by first | rfl | (simp; done) | (simp [*]; done)), (by first | rfl | (simp; done) | (simp only [← hji29] <;> (first | rfl | simp)) | (simp [*]; done)), (by first | rfl | (simp; done) | (simp only [← hji30] <;> (first | rfl | simp)) | (simp [*]; done)), (by first | rfl | (simp; done) | (simp [*]; done)), H', ⟨by have := HK1.out; have := HJ8.out; omega⟩, ⟨by (with_reducible repeat (first | refine blk_drewN ?_ _ | refine blk_drew ?_ | refine blk_alloc ?_ _)); exact BK136.out⟩, ⟨by repeat (first | (with_reducible first | exact HB.out | apply below_alloc | apply pw_below_drewN | apply below_drew1 | refine below_set ?_ GE136.out) | exact HB.out)⟩⟩
                      · rw [if_neg c34] at H
                        exact absurd H (by simp)
                    · rw [if_neg c33] at H
                      exact absurd H (by simp)
                  · replace c32 := Bool.eq_false_iff.mpr c32
                    subst c32
                    have H1 : (none) = some r := by rw [if_neg (show ¬ (false = true) by decide)] at H; exact H
                    clear H
                    have H := H1
                    clear H1
                    exact absurd H (by simp)
          · rw [if_neg c7] at H
            exact absurd H (by simp)
        · rw [if_neg c6] at H
          have c6b0 : decide (x7_1 < (l0.length : Int)) = false := decide_eq_false c6
          clear c6
          replace H := Option.bind_eq_some_iff.mp H
          obtain ⟨t137, A430, H⟩ := H
          replace H : (some t137) = some r := H
          have A43 := Aside0.mk A430
          clear A430
          obtain rfl := Option.some.inj H
          go_wp2_with (first | (go_at_call 15; (with_reducible refine (sumpterlaw20_awake.calls k1  t137 _ A43.out).mono ?_); rintro e w44 ⟨rfl, hb⟩; have n0_ := Aside0.mk (blk_below (g := gb136) (o := .cells #[.bool x137000_1, .int .i64 x137001_1, .int .i64 x137002_1, .int .i64 x137003_1, .int .i64 x137004_1] 25 (0, 0)) (by (with_reducible repeat (first | refine blk_drewN ?_ _ | refine blk_drew ?_ | refine blk_alloc ?_ _)); exact BK136.out) hb); have n1_ := Aside0.mk (below_step (by repeat (first | (with_reducible first | exact HB.out | apply below_alloc | apply pw_below_drewN | apply below_drew1 | refine below_set ?_ GE136.out) | exact HB.out)) hb); clear BK136; clear HB; have BK136 := n0_; have HB := n1_; clear n0_ n1_; (try clear hb); (try clear hb2); (try clear hk); (try clear hi)))
          repeat (go_quiet (first | (go_at_call 15; (with_reducible refine (sumpterlaw20_awake.calls k1  t137 _ A43.out).mono ?_); rintro e w44 ⟨rfl, hb⟩; have n0_ := Aside0.mk (blk_below (g := gb136) (o := .cells #[.bool x137000_1, .int .i64 x137001_1, .int .i64 x137002_1, .int .i64 x137003_1, .int .i64 x137004_1] 25 (0, 0)) (by (with_reducible repeat (first | refine blk_drewN ?_ _ | refine blk_drew ?_ | refine blk_alloc ?_ _)); exact BK136.out) hb); have n1_ := Aside0.mk (below_step (by repeat (first | (with_reducible first | exact HB.out | apply below_alloc | apply pw_below_drewN | apply below_drew1 | refine below_set ?_ GE136.out) | exact HB.out)) hb); clear BK136; clear HB; have BK136 := n0_; have HB := n1_; clear n0_ n1_; (try clear hb); (try clear hb2); (try clear hk); (try clear hi))); try go_wp2_with (first | (go_at_call 15; (with_reducible refine (sumpterlaw20_awake.calls k1  t137 _ A43.out).mono ?_); rintro e w44 ⟨rfl, hb⟩; have n0_ := Aside0.mk (blk_below (g := gb136) (o := .cells #[.bool x137000_1, .int .i64 x137001_1, .int .i64 x137002_1, .int .i64 x137003_1, .int .i64 x137004_1] 25 (0, 0)) (by (with_reducible repeat (first | refine blk_drewN ?_ _ | refine blk_drew ?_ | refine blk_alloc ?_ _)); exact BK136.out) hb); have n1_ := Aside0.mk (below_step (by repeat (first | (with_reducible first | exact HB.out | apply below_alloc | apply pw_below_drewN | apply below_drew1 | refine below_set ?_ GE136.out) | exact HB.out)) hb); clear BK136; clear HB; have BK136 := n0_; have HB := n1_; clear n0_ n1_; (try clear hb); (try clear hb2); (try clear hk); (try clear hi))))
          go_ret
          exact ⟨by first | rfl | (simp [errW_none, errW_some] <;> rfl) | (simp [*, errW_none, errW_some] <;> rfl), by repeat (first | (with_reducible first | exact HB.out | apply below_alloc | apply pw_below_drewN | apply below_drew1 | refine below_set ?_ GE136.out) | exact HB.out)⟩

end Go.Proofs.Ytifidkeohcbdlaa.QRttMakes
