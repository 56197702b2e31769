/- Contracts and plain laws for the statement RecordPuts, part b: several texts of this session behind one another. No condition. -/
import Derived.Test.YtiohgpcbdefokaaDoorMRecordPutsa
import Derived.Test.YtiohgpcbdefokaaDoorWEqStruct
import Derived.Stop.BytesEq
import Derived.Lib.Hide
import Derived.WalkSpells
import Derived.Laws.CopyOwn
import Derived.Laws.AppendOwn
import Derived.Lib.AppendZerosOnto
import Derived.Lib.Overlaps
import Derived.Below
import Derived.WalkKit
import Derived.StillTailTactics
import Derived.Deep.RegionHeld3
import Derived.Test.YtiohgpcbdefokaaDoorWLast
import Derived.Test.YtiohgpcbdefokaaDoorWMore
import Derived.Deep.DeepCutAuto
/- Contracts of the functions that a statement of the given program reaches, written by a program of this session over the kit's print. No condition. -/
namespace Go.Proofs.YtiohgpcbdefokaaDoor.B
open Go.RowKit Go.Proofs.YtiohgpcbdefokaaDoorW.PrintWords Go.Proofs.YtiohgpcbdefokaaDoorW.PrintLast Go.Proofs.YtiohgpcbdefokaaDoorW.PrintMore
attribute [local go_sem] max2_int min2_int max_two min_two max_three min_three max_four min_four -- for this text's walks alone
set_option linter.unusedVariables false
set_option linter.unusedSimpArgs false

/-! ### sumpterref07_Split: function 138 -/
def sumpterref07_Split.l0 : Nat → ByteArray → List ByteArray → Int → Int → Option (List ByteArray)
  | 0, _, _, _, _ => none
  | k + 1, x0, x3, x4, x5 => if x5 ≤ (x0.size : Int) then (if x5 = (x0.size : Int) then (if 0 ≤ x4 then (if x4 ≤ x5 then (if x3.length < 8796093022208 then (sumpterref07_Split.l0 k x0 (x3 ++ [x0.extract (x4 : Int).toNat (x5 : Int).toNat]) (wrap64 (x5 + 1)) (wrap64 (x5 + 1))) else (none)) else (none)) else (none)) else (if 0 ≤ x5 then (if x5 < (x0.size : Int) then (if (bt x0 x5) = 47 then (if 0 ≤ x4 then (if x4 ≤ x5 then (if x3.length < 8796093022208 then (sumpterref07_Split.l0 k x0 (x3 ++ [x0.extract (x4 : Int).toNat (x5 : Int).toNat]) (wrap64 (x5 + 1)) (wrap64 (x5 + 1))) else (none)) else (none)) else (none)) else (sumpterref07_Split.l0 k x0 x3 x4 (wrap64 (x5 + 1)))) else (none)) else (none))) else (some x3)
def sumpterref07_Split.f (k : Nat) (a0 : ByteArray) : Option (List ByteArray) := if a0.toList = ([] : List UInt8) then (some ([] : List ByteArray)) else (sumpterref07_Split.l0 k a0 ([] : List ByteArray) 0 0)
set_option maxHeartbeats 8000000 in
set_option maxRecDepth 100000 in
theorem sumpterref07_Split.calls (k : Nat) (a0 : ByteArray) (r : List ByteArray) (w : World) (h : sumpterref07_Split.f k a0 = some r) :
    Calls Tryd.prog 138 #[.string a0] w fun e w' => ∃ v0_ : Value, e = .returned (v0_) ∧ Kd.R Kd.string 9 w' w.heap.size (fun _ => True) v0_ r ∧ Below w.heap.size w w' := by
  have HB := Aside0.mk (Below.refl w.heap.size w)
  have H : (if a0.toList = ([] : List UInt8) then (some ([] : List ByteArray)) else (sumpterref07_Split.l0 k a0 ([] : List ByteArray) 0 0)) = some r := h
  clear h
  by_cases c2 : a0.toList = ([] : List UInt8)
  · rw [if_pos c2] at H
    have c2b0 : (a0.toList == ([] : List UInt8)) = true := beq_iff_eq.mpr c2
    have c2b1 : (a0.toList != ([] : List UInt8)) = false := bne_eq_false_iff_eq.mpr c2
    clear c2
    obtain rfl := Option.some.inj H
    go_enter Tryd.func138, Tryd.ntmps138
    go_wp2
    go_ret
    exact ⟨_, by first | rfl | (simp [errW_none, errW_some] <;> rfl) | (simp [*, errW_none, errW_some] <;> rfl) | (simp_all; done) | (exfalso; simp_all; done) | (exfalso; simp_all [bne]; done), by first | exact Kd.R_nil _ _ _ _ _ | exact Kd.N_nil _ _ _ _ _ | exact Kd.V_nil _ _ _ _ _ | exact Kd.Q_nil _ _ _ _ _ | exact Kd.S_nil _ _ _ _ _, by repeat (first | (with_reducible first | exact HB.out | apply below_alloc | apply pw_below_drewN | apply below_drew1) | exact HB.out)⟩
  · rw [if_neg c2] at H
    have c2b0 : (a0.toList == ([] : List UInt8)) = false := beq_eq_false_iff_ne.mpr c2
    have c2b1 : (a0.toList != ([] : List UInt8)) = true := bne_iff_ne.mpr c2
    have H' := Aside0.mk H
    clear H
    go_enter Tryd.func138, Tryd.ntmps138
    go_wp2
    go_loopg [3, 4, 5] k (fun kq v3 v4 v5 w' => ∃ (x3_1 : List ByteArray) (x4_1 : Int) (x5_1 : Int), v4 = .int .i64 x4_1 ∧ v5 = .int .i64 x5_1 ∧ Aside0 (sumpterref07_Split.l0 kq a0 x3_1 x4_1 x5_1 = some r) ∧ Aside0 (kq ≤ k) ∧ Aside0 (Kd.R Kd.string 9 w' w.heap.size (fun _ => True) v3 x3_1) ∧ Aside0 (Below w.heap.size w w'))
    case atStart => exact ⟨(([] : List ByteArray)), (0), (0), (by first | rfl | (simp; done) | (simp [*]; done) | (simp [*, bne]; done) | (simp_all; done) | (exfalso; simp_all; done) | (exfalso; simp_all [bne]; done)), (by first | rfl | (simp; done) | (simp [*]; done) | (simp [*, bne]; done) | (simp_all; done) | (exfalso; simp_all; done) | (exfalso; simp_all [bne]; done)), H', ⟨Nat.le_refl _⟩, ⟨by first | exact Kd.R_nil _ _ _ _ _ | exact Kd.N_nil _ _ _ _ _ | exact Kd.V_nil _ _ _ _ _ | exact Kd.Q_nil _ _ _ _ _ | exact Kd.S_nil _ _ _ _ _⟩, ⟨by repeat (first | (with_reducible first | exact HB.out | apply below_alloc | apply pw_below_drewN | apply below_drew1) | exact HB.out)⟩⟩
    case round =>
      clear H'
      try clear c1
      try clear c2
      try clear c2b0
      try clear c2b1
      try clear p2
      obtain ⟨x3_1, x4_1, x5_1, rfl, rfl, HA, HK1, HO_3, HB⟩ := hrel
      cases gk with
      | zero => exact absurd HA.out (by simp [sumpterref07_Split.l0])
      | succ k1 =>
        have H := HA.out
        clear HA
        simp only [sumpterref07_Split.l0] at H
        by_cases c3 : x5_1 ≤ (a0.size : Int)
        · rw [if_pos c3] at H
          have c3b0 : decide (x5_1 ≤ (a0.size : Int)) = true := decide_eq_true c3
          clear c3
          by_cases c4 : x5_1 = (a0.size : Int)
          · rw [if_pos c4] at H
            have c4b0 : (x5_1 == (a0.size : Int)) = true := beq_iff_eq.mpr c4
            have c4b1 : (x5_1 != (a0.size : Int)) = false := bne_eq_false_iff_eq.mpr c4
            clear c4
            by_cases c5 : 0 ≤ x4_1
            · rw [if_pos c5] at H
              have c5b0 := eq_true c5
              have c5b1 : decide (0 ≤ x4_1) = true := decide_eq_true c5
              clear c5
              by_cases c6 : x4_1 ≤ x5_1
              · rw [if_pos c6] at H
                have c6b0 := eq_true c6
                have c6b1 : decide (x4_1 ≤ x5_1) = true := decide_eq_true c6
                clear c6
                have c7b0 := eq_true (of_decide_eq_true (by first | (with_reducible assumption) | assumption) : x5_1 ≤ (a0.size : Int))
                by_cases c8 : x3_1.length < 8796093022208
                · rw [if_pos c8] at H
                  have LMc8 := Aside0.mk c8
                  clear c8
                  obtain ⟨y165, hy165⟩ : ∃ y_ : List ByteArray, y_ = (x3_1 ++ [a0.extract (x4_1 : Int).toNat (x5_1 : Int).toNat]) := ⟨_, rfl⟩
                  replace H : (sumpterref07_Split.l0 k1 a0 y165 (wrap64 (x5_1 + 1)) (wrap64 (x5_1 + 1))) = some r := by first | (rw [hy165]; with_reducible exact H) | (have H2_ := (Option.bind_some _ _).symm.trans H; rw [hy165]; with_reducible exact H2_) | (have H2_ := (Option.bind_some _ _).symm.trans H; with_reducible exact H2_) | with_reducible exact H | (rw [hy165]; exact H) | exact H
                  have Ny165 := Aside0.mk hy165
                  clear hy165
                  have H' := Aside0.mk H
                  clear H
                  go_wp2_with (first | ((with_reducible refine gate_builtin (b := .append) (xs := #[.tmp 24, .tmp 29]) rfl ?_); at_builtin; refine Kd.R_append Kd.string (w0 := w) w.heap.size rfl (.tmp 24) (.tmp 29) 157 9 (.string ⟨#[]⟩) 16 rfl Tryd.underlying157 info9 rfl (by decide) (by omega) u3 x3_1 (a0.extract (x4_1 : Int).toNat (x5_1 : Int).toNat) [.string (a0.extract (x4_1 : Int).toNat (x5_1 : Int).toNat)] (fun _ => True) (fun _ => False) rfl rfl ?aP (fun _ hk => hk.elim) ?aF ?aO ?aB ?aS ?aL ?_; (case aP => exact rfl); (case aB => exact (by repeat (first | (with_reducible first | exact HB.out | apply below_alloc | apply pw_below_drewN | apply below_drew1) | exact HB.out))); (case aF => exact (fun _ _ => trivial)); (case aO => exact (by (with_reducible repeat (first | apply Kd.R_alloc | apply Kd.R_drewN | apply Kd.R_drew)); exact HO_3.out)); (case aS => exact (below_size (by repeat (first | (with_reducible first | exact HB.out | apply below_alloc | apply pw_below_drewN | apply below_drew1) | exact HB.out)))); (case aL => have := LMc8.out; omega); intro v166 w9 ho hb hg hat; rw [← Ny165.out] at ho; have n0_ := Aside0.mk (hb); have n1_ := Aside0.mk (ho); clear HB; clear HO_3; have HB := n0_; have HO167 := n1_; clear n0_ n1_; clear ho hb hg hat))
                  go_roundg k1
                  case measure => have := HK1.out; omega
                  case rel => exact ⟨(y165), (wrap64 (x5_1 + 1)), (wrap64 (x5_1 + 1)), (by first | rfl | (simp; done) | (simp [*]; done) | (simp [*, bne]; done) | (simp_all; done) | (exfalso; simp_all; done) | (exfalso; simp_all [bne]; done)), (by first | rfl | (simp; done) | (simp [*]; done) | (simp [*, bne]; done) | (simp_all; done) | (exfalso; simp_all; done) | (exfalso; simp_all [bne]; done)), H', ⟨by have := HK1.out; omega⟩, ⟨by (with_reducible repeat (first | apply Kd.R_alloc | apply Kd.R_drewN | apply Kd.R_drew)); exact HO167.out⟩, ⟨by repeat (first | (with_reducible first | exact HB.out | apply below_alloc | apply pw_below_drewN | apply below_drew1) | exact HB.out)⟩⟩
                · rw [if_neg c8] at H
                  exact absurd H (by simp)
              · rw [if_neg c6] at H
                exact absurd H (by simp)
            · rw [if_neg c5] at H
              exact absurd H (by simp)
          · rw [if_neg c4] at H
            have c4b0 : (x5_1 == (a0.size : Int)) = false := beq_eq_false_iff_ne.mpr c4
            have c4b1 : (x5_1 != (a0.size : Int)) = true := bne_iff_ne.mpr c4
            by_cases c10 : 0 ≤ x5_1
            · rw [if_pos c10] at H
              have c10b0 : decide (0 ≤ x5_1) = true := decide_eq_true c10
              clear c10
              by_cases c11 : x5_1 < (a0.size : Int)
              · rw [if_pos c11] at H
                have c11b0 : decide (x5_1 < (a0.size : Int)) = true := decide_eq_true c11
                clear c11
                by_cases c13 : (bt a0 x5_1) = 47
                · rw [if_pos c13] at H
                  have c13b0 : ((bt a0 x5_1) == 47) = true := beq_iff_eq.mpr c13
                  have c13b1 : ((bt a0 x5_1) != 47) = false := bne_eq_false_iff_eq.mpr c13
                  clear c13
                  by_cases c14 : 0 ≤ x4_1
                  · rw [if_pos c14] at H
                    have c14b0 := eq_true c14
                    have c14b1 : decide (0 ≤ x4_1) = true := decide_eq_true c14
                    clear c14
                    by_cases c15 : x4_1 ≤ x5_1
                    · rw [if_pos c15] at H
                      have c15b0 := eq_true c15
                      have c15b1 : decide (x4_1 ≤ x5_1) = true := decide_eq_true c15
                      clear c15
                      have c16b0 := eq_true (of_decide_eq_true (by first | (with_reducible assumption) | assumption) : x5_1 ≤ (a0.size : Int))
                      by_cases c17 : x3_1.length < 8796093022208
                      · rw [if_pos c17] at H
                        have LMc17 := Aside0.mk c17
                        clear c17
                        obtain ⟨y168, hy168⟩ : ∃ y_ : List ByteArray, y_ = (x3_1 ++ [a0.extract (x4_1 : Int).toNat (x5_1 : Int).toNat]) := ⟨_, rfl⟩
                        replace H : (sumpterref07_Split.l0 k1 a0 y168 (wrap64 (x5_1 + 1)) (wrap64 (x5_1 + 1))) = some r := by first | (rw [hy168]; with_reducible exact H) | (have H2_ := (Option.bind_some _ _).symm.trans H; rw [hy168]; with_reducible exact H2_) | (have H2_ := (Option.bind_some _ _).symm.trans H; with_reducible exact H2_) | with_reducible exact H | (rw [hy168]; exact H) | exact H
                        have Ny168 := Aside0.mk hy168
                        clear hy168
                        have H' := Aside0.mk H
                        clear H
                        have p12 : 0 ≤ (x5_1 : Int) := of_decide_eq_true (by first | (with_reducible assumption) | assumption)
                        have q12 : x5_1 < (a0.size : Int) := of_decide_eq_true (by first | (with_reducible assumption) | assumption)
                        have hx12 := bt_at a0 x5_1
                        replace p12 := eq_true p12
                        replace q12 := eq_true q12
                        go_wp2_with (first | ((with_reducible refine gate_builtin (b := .append) (xs := #[.tmp 24, .tmp 29]) rfl ?_); at_builtin; refine Kd.R_append Kd.string (w0 := w) w.heap.size rfl (.tmp 24) (.tmp 29) 157 9 (.string ⟨#[]⟩) 16 rfl Tryd.underlying157 info9 rfl (by decide) (by omega) u3 x3_1 (a0.extract (x4_1 : Int).toNat (x5_1 : Int).toNat) [.string (a0.extract (x4_1 : Int).toNat (x5_1 : Int).toNat)] (fun _ => True) (fun _ => False) rfl rfl ?aP (fun _ hk => hk.elim) ?aF ?aO ?aB ?aS ?aL ?_; (case aP => exact rfl); (case aB => exact (by repeat (first | (with_reducible first | exact HB.out | apply below_alloc | apply pw_below_drewN | apply below_drew1) | exact HB.out))); (case aF => exact (fun _ _ => trivial)); (case aO => exact (by (with_reducible repeat (first | apply Kd.R_alloc | apply Kd.R_drewN | apply Kd.R_drew)); exact HO_3.out)); (case aS => exact (below_size (by repeat (first | (with_reducible first | exact HB.out | apply below_alloc | apply pw_below_drewN | apply below_drew1) | exact HB.out)))); (case aL => have := LMc17.out; omega); intro v169 w18 ho hb hg hat; rw [← Ny168.out] at ho; have n0_ := Aside0.mk (hb); have n1_ := Aside0.mk (ho); clear HB; clear HO_3; have HB := n0_; have HO170 := n1_; clear n0_ n1_; clear ho hb hg hat))
                        go_roundg k1
                        case measure => have := HK1.out; omega
                        case rel => exact ⟨(y168), (wrap64 (x5_1 + 1)), (wrap64 (x5_1 + 1)), (by first | rfl | (simp; done) | (simp [*]; done) | (simp [*, bne]; done) | (simp_all; done) | (exfalso; simp_all; done) | (exfalso; simp_all [bne]; done)), (by first | rfl | (simp; done) | (simp [*]; done) | (simp [*, bne]; done) | (simp_all; done) | (exfalso; simp_all; done) | (exfalso; simp_all [bne]; done)), H', ⟨by have := HK1.out; omega⟩, ⟨by (with_reducible repeat (first | apply Kd.R_alloc | apply Kd.R_drewN | apply Kd.R_drew)); exact HO170.out⟩, ⟨by repeat (first | (with_reducible first | exact HB.out | apply below_alloc | apply pw_below_drewN | apply below_drew1) | exact HB.out)⟩⟩
                      · rw [if_neg c17] at H
                        exact absurd H (by simp)
                    · rw [if_neg c15] at H
                      exact absurd H (by simp)
                  · rw [if_neg c14] at H
                    exact absurd H (by simp)
                · rw [if_neg c13] at H
                  have c13b0 : ((bt a0 x5_1) == 47) = false := beq_eq_false_iff_ne.mpr c13
                  have c13b1 : ((bt a0 x5_1) != 47) = true := bne_iff_ne.mpr c13
                  have H' := Aside0.mk H
                  clear H
                  have p12 : 0 ≤ (x5_1 : Int) := of_decide_eq_true (by first | (with_reducible assumption) | assumption)
                  have q12 : x5_1 < (a0.size : Int) := of_decide_eq_true (by first | (with_reducible assumption) | assumption)
                  have hx12 := bt_at a0 x5_1
                  replace p12 := eq_true p12
                  replace q12 := eq_true q12
                  go_wp2
                  go_roundg k1
                  case measure => have := HK1.out; omega
                  case rel => exact ⟨(x3_1), (x4_1), (wrap64 (x5_1 + 1)), (by first | rfl | (simp; done) | (simp [*]; done) | (simp [*, bne]; done) | (simp_all; done) | (exfalso; simp_all; done) | (exfalso; simp_all [bne]; done)), (by first | rfl | (simp; done) | (simp [*]; done) | (simp [*, bne]; done) | (simp_all; done) | (exfalso; simp_all; done) | (exfalso; simp_all [bne]; done)), H', ⟨by have := HK1.out; omega⟩, ⟨by (with_reducible repeat (first | apply Kd.R_alloc | apply Kd.R_drewN | apply Kd.R_drew)); exact HO_3.out⟩, ⟨by repeat (first | (with_reducible first | exact HB.out | apply below_alloc | apply pw_below_drewN | apply below_drew1) | exact HB.out)⟩⟩
              · rw [if_neg c11] at H
                exact absurd H (by simp)
            · rw [if_neg c10] at H
              exact absurd H (by simp)
        · rw [if_neg c3] at H
          have c3b0 : decide (x5_1 ≤ (a0.size : Int)) = false := decide_eq_false c3
          clear c3
          obtain rfl := Option.some.inj H
          go_wp2
          go_ret
          exact ⟨_, by first | rfl | (simp [errW_none, errW_some] <;> rfl) | (simp [*, errW_none, errW_some] <;> rfl) | (simp_all; done) | (exfalso; simp_all; done) | (exfalso; simp_all [bne]; done), by (with_reducible repeat (first | apply Kd.R_alloc | apply Kd.R_drewN | apply Kd.R_drew)); exact HO_3.out, by repeat (first | (with_reducible first | exact HB.out | apply below_alloc | apply pw_below_drewN | apply below_drew1) | exact HB.out)⟩

/-! ### sumpterref07_Name: function 139 -/
mutual
def sumpterref07_Name.j0 : Nat → ByteArray → Bool → Option (Bool)
  | 0, _, _ => none
  | k + 1, x0, x19 => if x19 = true then (some false) else (sumpterref07_Name.l0 k x0 0)
def sumpterref07_Name.l0 : Nat → ByteArray → Int → Option (Bool)
  | 0, _, _ => none
  | k + 1, x0, x3 => if x3 < (x0.size : Int) then (if 0 ≤ x3 then (if (bt x0 x3) = 47 then (some false) else (if (bt x0 x3) < 33 then (some false) else (if (bt x0 x3) > 126 then (some false) else (sumpterref07_Name.l0 k x0 (wrap64 (x3 + 1)))))) else (none)) else (some true)
end
def sumpterref07_Name.f (k : Nat) (a0 : ByteArray) : Option (Bool) := if (a0.size : Int) < 1 then (sumpterref07_Name.j0 k a0 true) else (if (a0.size : Int) > 32 then (sumpterref07_Name.j0 k a0 true) else (if a0.toList = ([46] : List UInt8) then (sumpterref07_Name.j0 k a0 true) else (sumpterref07_Name.j0 k a0 (a0.toList == ([46, 46] : List UInt8)))))
set_option maxHeartbeats 8000000 in
set_option maxRecDepth 100000 in
theorem sumpterref07_Name.calls (k : Nat) (a0 : ByteArray) (r : Bool) (w : World) (h : sumpterref07_Name.f k a0 = some r) :
    Calls Tryd.prog 139 #[.string a0] w fun e w' => e = .returned (.bool r) ∧ Drawn0 w w' := by
  have H : (if (a0.size : Int) < 1 then (sumpterref07_Name.j0 k a0 true) else (if (a0.size : Int) > 32 then (sumpterref07_Name.j0 k a0 true) else (if a0.toList = ([46] : List UInt8) then (sumpterref07_Name.j0 k a0 true) else (sumpterref07_Name.j0 k a0 (a0.toList == ([46, 46] : List UInt8)))))) = some r := h
  clear h
  have HC2 := Aside0.mk H
  clear H
  go_enter Tryd.func139, Tryd.ntmps139
  go_upto_region 1 with (fail)
  go_cut [19] (fun v19 wc => ∃ (kq : Nat) (x19_1 : Bool), v19 = .bool x19_1 ∧ Aside0 (sumpterref07_Name.j0 kq a0 x19_1 = some r) ∧ Aside0 (kq ≤ k) ∧ Drawn0 w wc)
  case first =>
    have H := HC2.out
    clear HC2
    by_cases c3 : (a0.size : Int) < 1
    · rw [if_pos c3] at H
      have c3b0 : decide ((a0.size : Int) < 1) = true := decide_eq_true c3
      have c3b1 : decide (a0.size < 1) = true := decide_eq_true (by omega)
      clear c3
      (first | rw [c3b0] | (simp only [i64_w, i32_w]; rw [c3b0]) | skip)
      have H' := Aside0.mk H
      clear H
      go_wp2
      go_meet
      case rel => exact ⟨_, (true), (by first | rfl | (simp; done) | (simp [*]; done) | (simp [*, bne]; done) | (simp_all; done) | (exfalso; simp_all; done) | (exfalso; simp_all [bne]; done)), H', ⟨by first | omega | exact Nat.le_refl _⟩, by repeat (first | exact Drawn0.refl _ | apply Drawn0.step)⟩
    · rw [if_neg c3] at H
      have c3b0 : decide ((a0.size : Int) < 1) = false := decide_eq_false c3
      have c3b1 : decide (a0.size < 1) = false := decide_eq_false (by omega)
      clear c3
      (first | rw [c3b0] | (simp only [i64_w, i32_w]; rw [c3b0]) | skip)
      by_cases c4 : (a0.size : Int) > 32
      · rw [if_pos c4] at H
        have c4b0 : decide (32 < (a0.size : Int)) = true := decide_eq_true c4
        have c4b1 : decide (32 < a0.size) = true := decide_eq_true (by omega)
        clear c4
        have H' := Aside0.mk H
        clear H
        go_wp2
        go_meet
        case rel => exact ⟨_, (true), (by first | rfl | (simp; done) | (simp [*]; done) | (simp [*, bne]; done) | (simp_all; done) | (exfalso; simp_all; done) | (exfalso; simp_all [bne]; done)), H', ⟨by first | omega | exact Nat.le_refl _⟩, by repeat (first | exact Drawn0.refl _ | apply Drawn0.step)⟩
      · rw [if_neg c4] at H
        have c4b0 : decide (32 < (a0.size : Int)) = false := decide_eq_false c4
        have c4b1 : decide (32 < a0.size) = false := decide_eq_false (by omega)
        clear c4
        by_cases c5 : a0.toList = ([46] : List UInt8)
        · rw [if_pos c5] at H
          have c5b0 : (a0.toList == ([46] : List UInt8)) = true := beq_iff_eq.mpr c5
          have c5b1 : (a0.toList != ([46] : List UInt8)) = false := bne_eq_false_iff_eq.mpr c5
          clear c5
          have H' := Aside0.mk H
          clear H
          go_wp2
          go_meet
          case rel => exact ⟨_, (true), (by first | rfl | (simp; done) | (simp [*]; done) | (simp [*, bne]; done) | (simp_all; done) | (exfalso; simp_all; done) | (exfalso; simp_all [bne]; done)), H', ⟨by first | omega | exact Nat.le_refl _⟩, by repeat (first | exact Drawn0.refl _ | apply Drawn0.step)⟩
        · rw [if_neg c5] at H
          have c5b0 : (a0.toList == ([46] : List UInt8)) = false := beq_eq_false_iff_ne.mpr c5
          have c5b1 : (a0.toList != ([46] : List UInt8)) = true := bne_iff_ne.mpr c5
          have H' := Aside0.mk H
          clear H
          go_wp2
          go_meet
          case rel => exact ⟨_, ((a0.toList == ([46, 46] : List UInt8))), (by first | rfl | (simp; done) | (simp [*]; done) | (simp [*, bne]; done) | (simp_all; done) | (exfalso; simp_all; done) | (exfalso; simp_all [bne]; done)), H', ⟨by first | omega | exact Nat.le_refl _⟩, by repeat (first | exact Drawn0.refl _ | apply Drawn0.step)⟩
  case rest =>
    clear HC2
    try clear c1
    try clear p2
    try clear c3
    try clear c3b0
    try clear c3b1
    try clear c4
    try clear c4b0
    try clear c4b1
    try clear c5
    try clear c5b0
    try clear c5b1
    obtain ⟨kq, x19_1, rfl, HA, HJ1, ⟨mc1, rfl⟩⟩ := hcut
    cases kq with
    | zero => exact absurd HA.out (by simp [sumpterref07_Name.j0])
    | succ kj1 =>
      have H := HA.out
      clear HA
      simp only [sumpterref07_Name.j0] at H
      by_cases c6 : x19_1 = true
      · subst c6
        have H1 : (some false) = some r := by rw [if_pos rfl] at H; exact H
        clear H
        have H := H1
        clear H1
        obtain rfl := Option.some.inj H
        go_wp2
        go_ret
        exact ⟨by first | rfl | (simp; done) | (simp [*]; done) | (simp [*, bne]; done) | (simp_all; done) | (exfalso; simp_all; done) | (exfalso; simp_all [bne]; done), by repeat (first | exact Drawn0.refl _ | apply Drawn0.step)⟩
      · replace c6 := Bool.eq_false_iff.mpr c6
        subst c6
        have H1 : (sumpterref07_Name.l0 kj1 a0 0) = some r := by rw [if_neg (show ¬ (false = true) by decide)] at H; exact H
        clear H
        have H := H1
        clear H1
        have H' := Aside0.mk H
        clear H
        go_wp2
        go_loopg [3] kj1 (fun kq v3 w' => ∃ (x3_2 : Int), v3 = .int .i64 x3_2 ∧ Aside0 (sumpterref07_Name.l0 kq a0 x3_2 = some r) ∧ Aside0 (kq ≤ kj1) ∧ Drawn0 w w')
        case atStart => exact ⟨(0), (by first | rfl | (simp; done) | (simp [*]; done) | (simp [*, bne]; done) | (simp_all; done) | (exfalso; simp_all; done) | (exfalso; simp_all [bne]; done)), H', ⟨Nat.le_refl _⟩, by repeat (first | exact Drawn0.refl _ | apply Drawn0.step)⟩
        case round =>
          clear H'
          try clear c1
          try clear p2
          try clear c3
          try clear c3b0
          try clear c3b1
          try clear c4
          try clear c4b0
          try clear c4b1
          try clear c5
          try clear c5b0
          try clear c5b1
          try clear c6
          try clear p2
          obtain ⟨x3_2, rfl, HA, HK2, ⟨m2, rfl⟩⟩ := hrel
          cases gk with
          | zero => exact absurd HA.out (by simp [sumpterref07_Name.l0])
          | succ k2 =>
            have H := HA.out
            clear HA
            simp only [sumpterref07_Name.l0] at H
            by_cases c7 : x3_2 < (a0.size : Int)
            · rw [if_pos c7] at H
              have c7b0 : decide (x3_2 < (a0.size : Int)) = true := decide_eq_true c7
              clear c7
              by_cases c8 : 0 ≤ x3_2
              · rw [if_pos c8] at H
                have c8b0 : decide (0 ≤ x3_2) = true := decide_eq_true c8
                clear c8
                by_cases c10 : (bt a0 x3_2) = 47
                · rw [if_pos c10] at H
                  have c10b0 : ((bt a0 x3_2) == 47) = true := beq_iff_eq.mpr c10
                  have c10b1 : ((bt a0 x3_2) != 47) = false := bne_eq_false_iff_eq.mpr c10
                  clear c10
                  obtain rfl := Option.some.inj H
                  have p9 : 0 ≤ (x3_2 : Int) := of_decide_eq_true (by first | (with_reducible assumption) | assumption)
                  have q9 : x3_2 < (a0.size : Int) := of_decide_eq_true (by first | (with_reducible assumption) | assumption)
                  have hx9 := bt_at a0 x3_2
                  replace p9 := eq_true p9
                  replace q9 := eq_true q9
                  go_wp2
                  go_ret
                  exact ⟨by first | rfl | (simp; done) | (simp [*]; done) | (simp [*, bne]; done) | (simp_all; done) | (exfalso; simp_all; done) | (exfalso; simp_all [bne]; done), by repeat (first | exact Drawn0.refl _ | apply Drawn0.step)⟩
                · rw [if_neg c10] at H
                  have c10b0 : ((bt a0 x3_2) == 47) = false := beq_eq_false_iff_ne.mpr c10
                  have c10b1 : ((bt a0 x3_2) != 47) = true := bne_iff_ne.mpr c10
                  by_cases c12 : (bt a0 x3_2) < 33
                  · rw [if_pos c12] at H
                    have c12b0 : decide ((bt a0 x3_2) < 33) = true := decide_eq_true c12
                    clear c12
                    obtain rfl := Option.some.inj H
                    have p9 : 0 ≤ (x3_2 : Int) := of_decide_eq_true (by first | (with_reducible assumption) | assumption)
                    have q9 : x3_2 < (a0.size : Int) := of_decide_eq_true (by first | (with_reducible assumption) | assumption)
                    have hx9 := bt_at a0 x3_2
                    replace p9 := eq_true p9
                    replace q9 := eq_true q9
                    have p11 : 0 ≤ (x3_2 : Int) := of_decide_eq_true (by first | (with_reducible assumption) | assumption)
                    have q11 : x3_2 < (a0.size : Int) := of_decide_eq_true (by first | (with_reducible assumption) | assumption)
                    have hx11 := bt_at a0 x3_2
                    replace p11 := eq_true p11
                    replace q11 := eq_true q11
                    go_wp2
                    go_ret
                    exact ⟨by first | rfl | (simp; done) | (simp [*]; done) | (simp [*, bne]; done) | (simp_all; done) | (exfalso; simp_all; done) | (exfalso; simp_all [bne]; done), by repeat (first | exact Drawn0.refl _ | apply Drawn0.step)⟩
                  · rw [if_neg c12] at H
                    have c12b0 : decide ((bt a0 x3_2) < 33) = false := decide_eq_false c12
                    clear c12
                    by_cases c14 : (bt a0 x3_2) > 126
                    · rw [if_pos c14] at H
                      have c14b0 : decide (126 < (bt a0 x3_2)) = true := decide_eq_true c14
                      clear c14
                      obtain rfl := Option.some.inj H
                      have p9 : 0 ≤ (x3_2 : Int) := of_decide_eq_true (by first | (with_reducible assumption) | assumption)
                      have q9 : x3_2 < (a0.size : Int) := of_decide_eq_true (by first | (with_reducible assumption) | assumption)
                      have hx9 := bt_at a0 x3_2
                      replace p9 := eq_true p9
                      replace q9 := eq_true q9
                      have p11 : 0 ≤ (x3_2 : Int) := of_decide_eq_true (by first | (with_reducible assumption) | assumption)
                      have q11 : x3_2 < (a0.size : Int) := of_decide_eq_true (by first | (with_reducible assumption) | assumption)
                      have hx11 := bt_at a0 x3_2
                      replace p11 := eq_true p11
                      replace q11 := eq_true q11
                      have p13 : 0 ≤ (x3_2 : Int) := of_decide_eq_true (by first | (with_reducible assumption) | assumption)
                      have q13 : x3_2 < (a0.size : Int) := of_decide_eq_true (by first | (with_reducible assumption) | assumption)
                      have hx13 := bt_at a0 x3_2
                      replace p13 := eq_true p13
                      replace q13 := eq_true q13
                      go_wp2
                      go_ret
                      exact ⟨by first | rfl | (simp; done) | (simp [*]; done) | (simp [*, bne]; done) | (simp_all; done) | (exfalso; simp_all; done) | (exfalso; simp_all [bne]; done), by repeat (first | exact Drawn0.refl _ | apply Drawn0.step)⟩
                    · rw [if_neg c14] at H
                      have c14b0 : decide (126 < (bt a0 x3_2)) = false := decide_eq_false c14
                      clear c14
                      have H' := Aside0.mk H
                      clear H
                      have p9 : 0 ≤ (x3_2 : Int) := of_decide_eq_true (by first | (with_reducible assumption) | assumption)
                      have q9 : x3_2 < (a0.size : Int) := of_decide_eq_true (by first | (with_reducible assumption) | assumption)
                      have hx9 := bt_at a0 x3_2
                      replace p9 := eq_true p9
                      replace q9 := eq_true q9
                      have p11 : 0 ≤ (x3_2 : Int) := of_decide_eq_true (by first | (with_reducible assumption) | assumption)
                      have q11 : x3_2 < (a0.size : Int) := of_decide_eq_true (by first | (with_reducible assumption) | assumption)
                      have hx11 := bt_at a0 x3_2
                      replace p11 := eq_true p11
                      replace q11 := eq_true q11
                      have p13 : 0 ≤ (x3_2 : Int) := of_decide_eq_true (by first | (with_reducible assumption) | assumption)
                      have q13 : x3_2 < (a0.size : Int) := of_decide_eq_true (by first | (with_reducible assumption) | assumption)
                      have hx13 := bt_at a0 x3_2
                      replace p13 := eq_true p13
                      replace q13 := eq_true q13
                      go_wp2
                      go_roundg k2
                      case measure => have := HJ1.out; have := HK2.out; omega
                      case rel => exact ⟨(wrap64 (x3_2 + 1)), (by first | rfl | (simp; done) | (simp [*]; done) | (simp [*, bne]; done) | (simp_all; done) | (exfalso; simp_all; done) | (exfalso; simp_all [bne]; done)), H', ⟨by have := HJ1.out; have := HK2.out; omega⟩, by repeat (first | exact Drawn0.refl _ | apply Drawn0.step)⟩
              · rw [if_neg c8] at H
                exact absurd H (by simp)
            · rw [if_neg c7] at H
              have c7b0 : decide (x3_2 < (a0.size : Int)) = false := decide_eq_false c7
              clear c7
              obtain rfl := Option.some.inj H
              go_wp2
              go_ret
              exact ⟨by first | rfl | (simp; done) | (simp [*]; done) | (simp [*, bne]; done) | (simp_all; done) | (exfalso; simp_all; done) | (exfalso; simp_all [bne]; done), by repeat (first | exact Drawn0.refl _ | apply Drawn0.step)⟩

/-! ### sumpterref07_Check: function 104 -/
def sumpterref07_Check.l0 : Nat → List ByteArray → Int → Option (Int)
  | 0, _, _ => none
  | k + 1, x3, x4 => if x4 < (x3.length : Int) then (if 0 ≤ x4 then ((sumpterref07_Name.f k (rdOf ByteArray.empty x3 x4)).bind fun t175 => (if t175 = true then (sumpterref07_Check.l0 k x3 (wrap64 (x4 + 1))) else (some 6))) else (none)) else (if (x3.length : Int) = 0 then (some 6) else (if (x3.length : Int) > 8 then (some 5) else (some 0)))
def sumpterref07_Check.f (k : Nat) (a0 : ByteArray) : Option (Int) := if (a0.size : Int) > 128 then (some 5) else ((sumpterref07_Split.f k a0).bind fun t171 => (sumpterref07_Check.l0 k t171 0))
set_option maxHeartbeats 8000000 in
set_option maxRecDepth 100000 in
theorem sumpterref07_Check.calls (k : Nat) (a0 : ByteArray) (r : Int) (w : World) (h : sumpterref07_Check.f k a0 = some r) :
    Calls Tryd.prog 104 #[.string a0] w fun e w' => e = .returned (.int .i64 r) ∧ Below w.heap.size w w' := by
  have HB := Aside0.mk (Below.refl w.heap.size w)
  have H : (if (a0.size : Int) > 128 then (some 5) else ((sumpterref07_Split.f k a0).bind fun t171 => (sumpterref07_Check.l0 k t171 0))) = some r := h
  clear h
  by_cases c2 : (a0.size : Int) > 128
  · rw [if_pos c2] at H
    have c2b0 : decide (128 < (a0.size : Int)) = true := decide_eq_true c2
    have c2b1 : decide (128 < a0.size) = true := decide_eq_true (by omega)
    clear c2
    obtain rfl := Option.some.inj H
    go_enter Tryd.func104, Tryd.ntmps104
    go_wp2
    go_ret
    exact ⟨by first | rfl | (simp [errW_none, errW_some] <;> rfl) | (simp [*, errW_none, errW_some] <;> rfl) | (simp_all; done) | (exfalso; simp_all; done) | (exfalso; simp_all [bne]; done), by repeat (first | (with_reducible first | exact HB.out | apply below_alloc | apply pw_below_drewN | apply below_drew1) | exact HB.out)⟩
  · rw [if_neg c2] at H
    have c2b0 : decide (128 < (a0.size : Int)) = false := decide_eq_false c2
    have c2b1 : decide (128 < a0.size) = false := decide_eq_false (by omega)
    clear c2
    replace H := Option.bind_eq_some_iff.mp H
    obtain ⟨t171, A30, H⟩ := H
    replace H : (sumpterref07_Check.l0 k t171 0) = some r := H
    have A3 := Aside0.mk A30
    clear A30
    have H' := Aside0.mk H
    clear H
    go_enter Tryd.func104, Tryd.ntmps104
    go_wp2_with (first | ((with_reducible refine gate_callee (f := 138) rfl ?_); refine goesL_ (some 9) rfl rfl Tryd.func138 (by kernel_rfl) rfl #[.string a0] rfl (by (try simp only [List.map_toArray, List.map_cons, List.map_nil]); first | done | rfl | (simp only [List.length_drop, List.length_take]; rfl)) ?_; (with_reducible refine (sumpterref07_Split.calls k a0 t171 _ A3.out).mono ?_); rintro e w4 ⟨v172, rfl, ho0, hb⟩; refine ⟨_, rfl, ?_⟩; have n0_ := Aside0.mk (Kd.R_lower ho0 (below_size (by repeat (first | (with_reducible first | exact HB.out | apply below_alloc | apply pw_below_drewN | apply below_drew1) | exact HB.out)))); have n1_ := Aside0.mk (below_step (by repeat (first | (with_reducible first | exact HB.out | apply below_alloc | apply pw_below_drewN | apply below_drew1) | exact HB.out)) hb); clear HB; have HO173 := n0_; have HB := n1_; clear n0_ n1_; (try clear hb); (try clear hb2); (try clear hk); (try clear hi); (try clear ho0)))
    go_loopg [4] k (fun kq v4 w' => ∃ (x4_1 : Int), v4 = .int .i64 x4_1 ∧ Aside0 (sumpterref07_Check.l0 kq t171 x4_1 = some r) ∧ Aside0 (kq ≤ k) ∧ Aside0 (Kd.R Kd.string 9 w' w.heap.size (fun _ => True) v172 t171) ∧ Aside0 (Below w.heap.size w w'))
    case atStart => exact ⟨(0), (by first | rfl | (simp; done) | (simp [*]; done) | (simp [*, bne]; done) | (simp_all; done) | (exfalso; simp_all; done) | (exfalso; simp_all [bne]; done)), H', ⟨Nat.le_refl _⟩, ⟨by (with_reducible repeat (first | apply Kd.R_alloc | apply Kd.R_drewN | apply Kd.R_drew)); exact HO173.out⟩, ⟨by repeat (first | (with_reducible first | exact HB.out | apply below_alloc | apply pw_below_drewN | apply below_drew1) | exact HB.out)⟩⟩
    case round =>
      clear H'
      try clear c1
      try clear c2
      try clear c2b0
      try clear c2b1
      try clear p2
      obtain ⟨x4_1, rfl, HA, HK1, HO_3, HB⟩ := hrel
      cases gk with
      | zero => exact absurd HA.out (by simp [sumpterref07_Check.l0])
      | succ k1 =>
        have H := HA.out
        clear HA
        simp only [sumpterref07_Check.l0] at H
        by_cases c5 : x4_1 < (t171.length : Int)
        · rw [if_pos c5] at H
          have c5b0 : decide (x4_1 < (t171.length : Int)) = true := decide_eq_true c5
          clear c5
          by_cases c6 : 0 ≤ x4_1
          · rw [if_pos c6] at H
            have c6b0 : decide (0 ≤ x4_1) = true := decide_eq_true c6
            clear c6
            replace H := Option.bind_eq_some_iff.mp H
            obtain ⟨t175, A70, H⟩ := H
            replace H : (if t175 = true then (sumpterref07_Check.l0 k1 t171 (wrap64 (x4_1 + 1))) else (some 6)) = some r := H
            have A7 := Aside0.mk A70
            clear A70
            by_cases c8 : t175 = true
            · subst c8
              have H1 : (sumpterref07_Check.l0 k1 t171 (wrap64 (x4_1 + 1))) = some r := by rw [if_pos rfl] at H; exact H
              clear H
              have H := H1
              clear H1
              have H' := Aside0.mk H
              clear H
              obtain ⟨Ao9, co9, eo9⟩ := Kd.R_slice HO_3.out
              subst eo9
              have p174 : 0 ≤ (x4_1 : Int) := of_decide_eq_true (by first | (with_reducible assumption) | assumption)
              have q174 : x4_1 < (t171.length : Int) := of_decide_eq_true (by first | (with_reducible assumption) | assumption)
              obtain ⟨ad174, e174, hx174_0⟩ := Kd.at_string (Kd.R_reads' HO_3.out).2.2 x4_1 p174 q174
              cases e174
              replace p174 := eq_true p174
              replace q174 := eq_true q174
              go_wp2_with (first | ((with_reducible refine gate_callee (f := 139) rfl ?_); refine goesL_ (some 20) rfl rfl Tryd.func139 (by kernel_rfl) rfl #[.string (rdOf ByteArray.empty t171 x4_1)] rfl (by (try simp only [List.map_toArray, List.map_cons, List.map_nil]); first | done | rfl | (simp only [List.length_drop, List.length_take]; rfl)) ?_; (with_reducible refine (sumpterref07_Name.calls k1 (rdOf ByteArray.empty t171 x4_1) true _ A7.out).mono ?_); rintro e w' ⟨rfl, ⟨nd, rfl⟩⟩; refine ⟨_, rfl, ?_⟩))
              go_roundg k1
              case measure => have := HK1.out; omega
              case rel => exact ⟨(wrap64 (x4_1 + 1)), (by first | rfl | (simp; done) | (simp [*]; done) | (simp [*, bne]; done) | (simp_all; done) | (exfalso; simp_all; done) | (exfalso; simp_all [bne]; done)), H', ⟨by have := HK1.out; omega⟩, ⟨by (with_reducible repeat (first | apply Kd.R_alloc | apply Kd.R_drewN | apply Kd.R_drew)); exact HO_3.out⟩, ⟨by repeat (first | (with_reducible first | exact HB.out | apply below_alloc | apply pw_below_drewN | apply below_drew1) | exact HB.out)⟩⟩
            · replace c8 := Bool.eq_false_iff.mpr c8
              subst c8
              have H1 : (some 6) = some r := by rw [if_neg (show ¬ (false = true) by decide)] at H; exact H
              clear H
              have H := H1
              clear H1
              obtain rfl := Option.some.inj H
              obtain ⟨Ao10, co10, eo10⟩ := Kd.R_slice HO_3.out
              subst eo10
              have p174 : 0 ≤ (x4_1 : Int) := of_decide_eq_true (by first | (with_reducible assumption) | assumption)
              have q174 : x4_1 < (t171.length : Int) := of_decide_eq_true (by first | (with_reducible assumption) | assumption)
              obtain ⟨ad174, e174, hx174_0⟩ := Kd.at_string (Kd.R_reads' HO_3.out).2.2 x4_1 p174 q174
              cases e174
              replace p174 := eq_true p174
              replace q174 := eq_true q174
              go_wp2_with (first | ((with_reducible refine gate_callee (f := 139) rfl ?_); refine goesL_ (some 20) rfl rfl Tryd.func139 (by kernel_rfl) rfl #[.string (rdOf ByteArray.empty t171 x4_1)] rfl (by (try simp only [List.map_toArray, List.map_cons, List.map_nil]); first | done | rfl | (simp only [List.length_drop, List.length_take]; rfl)) ?_; (with_reducible refine (sumpterref07_Name.calls k1 (rdOf ByteArray.empty t171 x4_1) false _ A7.out).mono ?_); rintro e w' ⟨rfl, ⟨nd, rfl⟩⟩; refine ⟨_, rfl, ?_⟩))
              go_ret
              exact ⟨by first | rfl | (simp [errW_none, errW_some] <;> rfl) | (simp [*, errW_none, errW_some] <;> rfl) | (simp_all; done) | (exfalso; simp_all; done) | (exfalso; simp_all [bne]; done), by repeat (first | (with_reducible first | exact HB.out | apply below_alloc | apply pw_below_drewN | apply below_drew1) | exact HB.out)⟩
          · rw [if_neg c6] at H
            exact absurd H (by simp)
        · rw [if_neg c5] at H
          have c5b0 : decide (x4_1 < (t171.length : Int)) = false := decide_eq_false c5
          clear c5
          by_cases c11 : (t171.length : Int) = 0
          · rw [if_pos c11] at H
            have c11b0 : ((t171.length : Int) == 0) = true := beq_iff_eq.mpr c11
            have c11b1 : ((t171.length : Int) != 0) = false := bne_eq_false_iff_eq.mpr c11
            clear c11
            obtain rfl := Option.some.inj H
            obtain ⟨Ao12, co12, eo12⟩ := Kd.R_slice HO_3.out
            subst eo12
            go_wp2
            go_ret
            exact ⟨by first | rfl | (simp [errW_none, errW_some] <;> rfl) | (simp [*, errW_none, errW_some] <;> rfl) | (simp_all; done) | (exfalso; simp_all; done) | (exfalso; simp_all [bne]; done), by repeat (first | (with_reducible first | exact HB.out | apply below_alloc | apply pw_below_drewN | apply below_drew1) | exact HB.out)⟩
          · rw [if_neg c11] at H
            have c11b0 : ((t171.length : Int) == 0) = false := beq_eq_false_iff_ne.mpr c11
            have c11b1 : ((t171.length : Int) != 0) = true := bne_iff_ne.mpr c11
            have c11b2 : ¬ (t171 = []) := fun h_ => c11 (by rw [h_]; rfl)
            by_cases c13 : (t171.length : Int) > 8
            · rw [if_pos c13] at H
              have c13b0 : decide (8 < (t171.length : Int)) = true := decide_eq_true c13
              have c13b1 : decide (8 < t171.length) = true := decide_eq_true (by omega)
              clear c13
              obtain rfl := Option.some.inj H
              obtain ⟨Ao14, co14, eo14⟩ := Kd.R_slice HO_3.out
              subst eo14
              go_wp2
              go_ret
              exact ⟨by first | rfl | (simp [errW_none, errW_some] <;> rfl) | (simp [*, errW_none, errW_some] <;> rfl) | (simp_all; done) | (exfalso; simp_all; done) | (exfalso; simp_all [bne]; done), by repeat (first | (with_reducible first | exact HB.out | apply below_alloc | apply pw_below_drewN | apply below_drew1) | exact HB.out)⟩
            · rw [if_neg c13] at H
              have c13b0 : decide (8 < (t171.length : Int)) = false := decide_eq_false c13
              have c13b1 : decide (8 < t171.length) = false := decide_eq_false (by omega)
              clear c13
              obtain rfl := Option.some.inj H
              obtain ⟨Ao15, co15, eo15⟩ := Kd.R_slice HO_3.out
              subst eo15
              go_wp2
              go_ret
              exact ⟨by first | rfl | (simp [errW_none, errW_some] <;> rfl) | (simp [*, errW_none, errW_some] <;> rfl) | (simp_all; done) | (exfalso; simp_all; done) | (exfalso; simp_all [bne]; done), by repeat (first | (with_reducible first | exact HB.out | apply below_alloc | apply pw_below_drewN | apply below_drew1) | exact HB.out)⟩

/-! ### sumpterref07_Reserved: function 105 -/
def sumpterref07_Reserved.f (a0 : ByteArray) : Option (Bool) := if (a0.size : Int) ≥ 8 then (if 0 ≤ 8 then (if 8 ≤ (a0.size : Int) then (some ((a0.extract 0 8).toList == ([46, 115, 117, 109, 112, 116, 101, 114] : List UInt8))) else (none)) else (none)) else (some false)
set_option maxHeartbeats 8000000 in
set_option maxRecDepth 100000 in
theorem sumpterref07_Reserved.calls (a0 : ByteArray) (r : Bool) (w : World) (h : sumpterref07_Reserved.f a0 = some r) :
    Calls Tryd.prog 105 #[.string a0] w fun e w' => e = .returned (.bool r) ∧ Drawn0 w w' := by
  have H : (if (a0.size : Int) ≥ 8 then (if 0 ≤ 8 then (if 8 ≤ (a0.size : Int) then (some ((a0.extract 0 8).toList == ([46, 115, 117, 109, 112, 116, 101, 114] : List UInt8))) else (none)) else (none)) else (some false)) = some r := h
  clear h
  by_cases c2 : (a0.size : Int) ≥ 8
  · rw [if_pos c2] at H
    have c2b0 : decide (8 ≤ (a0.size : Int)) = true := decide_eq_true c2
    have c2b1 : decide (8 ≤ a0.size) = true := decide_eq_true (by omega)
    clear c2
    by_cases c3 : 0 ≤ 8
    · rw [if_pos c3] at H
      have c3b0 := eq_true c3
      have c3b1 : decide (0 ≤ 8) = true := decide_eq_true c3
      clear c3
      by_cases c4 : 8 ≤ (a0.size : Int)
      · rw [if_pos c4] at H
        have c4b0 := eq_true c4
        have c4b1 : decide (8 ≤ (a0.size : Int)) = true := decide_eq_true c4
        clear c4
        obtain rfl := Option.some.inj H
        go_enter Tryd.func105, Tryd.ntmps105
        go_wp2
        go_ret
        exact ⟨by first | rfl | (simp; done) | (simp [*]; done) | (simp [*, bne]; done) | (simp_all; done) | (exfalso; simp_all; done) | (exfalso; simp_all [bne]; done), by repeat (first | exact Drawn0.refl _ | apply Drawn0.step)⟩
      · rw [if_neg c4] at H
        exact absurd H (by simp)
    · rw [if_neg c3] at H
      exact absurd H (by simp)
  · rw [if_neg c2] at H
    have c2b0 : decide (8 ≤ (a0.size : Int)) = false := decide_eq_false c2
    have c2b1 : decide (8 ≤ a0.size) = false := decide_eq_false (by omega)
    clear c2
    obtain rfl := Option.some.inj H
    go_enter Tryd.func105, Tryd.ntmps105
    go_wp2
    go_ret
    exact ⟨by first | rfl | (simp; done) | (simp [*]; done) | (simp [*, bne]; done) | (simp_all; done) | (exfalso; simp_all; done) | (exfalso; simp_all [bne]; done), by repeat (first | exact Drawn0.refl _ | apply Drawn0.step)⟩

/-! ### sumpterref15_size: function 120 -/
def sumpterref15_size.f (a0 : Int) : Option (Bool) := if a0 ≥ 0 then (some (decide (a0 ≤ 65536))) else (some false)
set_option maxHeartbeats 8000000 in
set_option maxRecDepth 100000 in
theorem sumpterref15_size.calls (a0 : Int) (r : Bool) (w : World) (h : sumpterref15_size.f a0 = some r) :
    Calls Tryd.prog 120 #[.int .i64 a0] w fun e w' => e = .returned (.bool r) ∧ Drawn0 w w' := by
  have H : (if a0 ≥ 0 then (some (decide (a0 ≤ 65536))) else (some false)) = some r := h
  clear h
  by_cases c2 : a0 ≥ 0
  · rw [if_pos c2] at H
    have c2b0 : decide (0 ≤ a0) = true := decide_eq_true c2
    clear c2
    obtain rfl := Option.some.inj H
    go_enter Tryd.func120, Tryd.ntmps120
    go_wp2
    go_ret
    exact ⟨by first | rfl | (simp; done) | (simp [*]; done) | (simp [*, bne]; done) | (simp_all; done) | (exfalso; simp_all; done) | (exfalso; simp_all [bne]; done), by repeat (first | exact Drawn0.refl _ | apply Drawn0.step)⟩
  · rw [if_neg c2] at H
    have c2b0 : decide (0 ≤ a0) = false := decide_eq_false c2
    clear c2
    obtain rfl := Option.some.inj H
    go_enter Tryd.func120, Tryd.ntmps120
    go_wp2
    go_ret
    exact ⟨by first | rfl | (simp; done) | (simp [*]; done) | (simp [*, bne]; done) | (simp_all; done) | (exfalso; simp_all; done) | (exfalso; simp_all [bne]; done), by repeat (first | exact Drawn0.refl _ | apply Drawn0.step)⟩

-- NOT PRINTED: function 73 (sumpterref15_Check)

/-! ### sumpterref01_room: function 164 -/
def sumpterref01_room.f (a0 : Int) (a1 : Int) : Option (Bool) := if a1 = 1 then (if a0 ≥ 0 then (some (decide (a0 < 64))) else (some false)) else (if a1 = 2 then (if a0 ≥ 0 then (some (decide (a0 < 16384))) else (some false)) else (if a1 = 4 then (if a0 ≥ 0 then (some (decide (a0 < 1073741824))) else (some false)) else (if a0 ≥ 0 then (some (decide (a0 ≤ 4611686018427387903))) else (some false))))
set_option maxHeartbeats 8000000 in
set_option maxRecDepth 100000 in
theorem sumpterref01_room.calls (a0 : Int) (a1 : Int) (r : Bool) (w : World) (h : sumpterref01_room.f a0 a1 = some r) :
    Calls Tryd.prog 164 #[.int .i64 a0, .int .i64 a1] w fun e w' => e = .returned (.bool r) ∧ Drawn0 w w' := by
  have H : (if a1 = 1 then (if a0 ≥ 0 then (some (decide (a0 < 64))) else (some false)) else (if a1 = 2 then (if a0 ≥ 0 then (some (decide (a0 < 16384))) else (some false)) else (if a1 = 4 then (if a0 ≥ 0 then (some (decide (a0 < 1073741824))) else (some false)) else (if a0 ≥ 0 then (some (decide (a0 ≤ 4611686018427387903))) else (some false))))) = some r := h
  clear h
  by_cases c3 : a1 = 1
  · rw [if_pos c3] at H
    have c3b0 : (a1 == 1) = true := beq_iff_eq.mpr c3
    have c3b1 : (a1 != 1) = false := bne_eq_false_iff_eq.mpr c3
    clear c3
    by_cases c4 : a0 ≥ 0
    · rw [if_pos c4] at H
      have c4b0 : decide (0 ≤ a0) = true := decide_eq_true c4
      clear c4
      obtain rfl := Option.some.inj H
      go_enter Tryd.func164, Tryd.ntmps164
      go_wp2
      go_ret
      exact ⟨by first | rfl | (simp; done) | (simp [*]; done) | (simp [*, bne]; done) | (simp_all; done) | (exfalso; simp_all; done) | (exfalso; simp_all [bne]; done), by repeat (first | exact Drawn0.refl _ | apply Drawn0.step)⟩
    · rw [if_neg c4] at H
      have c4b0 : decide (0 ≤ a0) = false := decide_eq_false c4
      clear c4
      obtain rfl := Option.some.inj H
      go_enter Tryd.func164, Tryd.ntmps164
      go_wp2
      go_ret
      exact ⟨by first | rfl | (simp; done) | (simp [*]; done) | (simp [*, bne]; done) | (simp_all; done) | (exfalso; simp_all; done) | (exfalso; simp_all [bne]; done), by repeat (first | exact Drawn0.refl _ | apply Drawn0.step)⟩
  · rw [if_neg c3] at H
    have c3b0 : (a1 == 1) = false := beq_eq_false_iff_ne.mpr c3
    have c3b1 : (a1 != 1) = true := bne_iff_ne.mpr c3
    by_cases c5 : a1 = 2
    · rw [if_pos c5] at H
      have c5b0 : (a1 == 2) = true := beq_iff_eq.mpr c5
      have c5b1 : (a1 != 2) = false := bne_eq_false_iff_eq.mpr c5
      clear c5
      by_cases c6 : a0 ≥ 0
      · rw [if_pos c6] at H
        have c6b0 : decide (0 ≤ a0) = true := decide_eq_true c6
        clear c6
        obtain rfl := Option.some.inj H
        go_enter Tryd.func164, Tryd.ntmps164
        go_wp2
        go_ret
        exact ⟨by first | rfl | (simp; done) | (simp [*]; done) | (simp [*, bne]; done) | (simp_all; done) | (exfalso; simp_all; done) | (exfalso; simp_all [bne]; done), by repeat (first | exact Drawn0.refl _ | apply Drawn0.step)⟩
      · rw [if_neg c6] at H
        have c6b0 : decide (0 ≤ a0) = false := decide_eq_false c6
        clear c6
        obtain rfl := Option.some.inj H
        go_enter Tryd.func164, Tryd.ntmps164
        go_wp2
        go_ret
        exact ⟨by first | rfl | (simp; done) | (simp [*]; done) | (simp [*, bne]; done) | (simp_all; done) | (exfalso; simp_all; done) | (exfalso; simp_all [bne]; done), by repeat (first | exact Drawn0.refl _ | apply Drawn0.step)⟩
    · rw [if_neg c5] at H
      have c5b0 : (a1 == 2) = false := beq_eq_false_iff_ne.mpr c5
      have c5b1 : (a1 != 2) = true := bne_iff_ne.mpr c5
      by_cases c7 : a1 = 4
      · rw [if_pos c7] at H
        have c7b0 : (a1 == 4) = true := beq_iff_eq.mpr c7
        have c7b1 : (a1 != 4) = false := bne_eq_false_iff_eq.mpr c7
        clear c7
        by_cases c8 : a0 ≥ 0
        · rw [if_pos c8] at H
          have c8b0 : decide (0 ≤ a0) = true := decide_eq_true c8
          clear c8
          obtain rfl := Option.some.inj H
          go_enter Tryd.func164, Tryd.ntmps164
          go_wp2
          go_ret
          exact ⟨by first | rfl | (simp; done) | (simp [*]; done) | (simp [*, bne]; done) | (simp_all; done) | (exfalso; simp_all; done) | (exfalso; simp_all [bne]; done), by repeat (first | exact Drawn0.refl _ | apply Drawn0.step)⟩
        · rw [if_neg c8] at H
          have c8b0 : decide (0 ≤ a0) = false := decide_eq_false c8
          clear c8
          obtain rfl := Option.some.inj H
          go_enter Tryd.func164, Tryd.ntmps164
          go_wp2
          go_ret
          exact ⟨by first | rfl | (simp; done) | (simp [*]; done) | (simp [*, bne]; done) | (simp_all; done) | (exfalso; simp_all; done) | (exfalso; simp_all [bne]; done), by repeat (first | exact Drawn0.refl _ | apply Drawn0.step)⟩
      · rw [if_neg c7] at H
        have c7b0 : (a1 == 4) = false := beq_eq_false_iff_ne.mpr c7
        have c7b1 : (a1 != 4) = true := bne_iff_ne.mpr c7
        by_cases c9 : a0 ≥ 0
        · rw [if_pos c9] at H
          have c9b0 : decide (0 ≤ a0) = true := decide_eq_true c9
          clear c9
          obtain rfl := Option.some.inj H
          go_enter Tryd.func164, Tryd.ntmps164
          go_wp2
          go_ret
          exact ⟨by first | rfl | (simp; done) | (simp [*]; done) | (simp [*, bne]; done) | (simp_all; done) | (exfalso; simp_all; done) | (exfalso; simp_all [bne]; done), by repeat (first | exact Drawn0.refl _ | apply Drawn0.step)⟩
        · rw [if_neg c9] at H
          have c9b0 : decide (0 ≤ a0) = false := decide_eq_false c9
          clear c9
          obtain rfl := Option.some.inj H
          go_enter Tryd.func164, Tryd.ntmps164
          go_wp2
          go_ret
          exact ⟨by first | rfl | (simp; done) | (simp [*]; done) | (simp [*, bne]; done) | (simp_all; done) | (exfalso; simp_all; done) | (exfalso; simp_all [bne]; done), by repeat (first | exact Drawn0.refl _ | apply Drawn0.step)⟩

end Go.Proofs.YtiohgpcbdefokaaDoor.B
/- Contracts of the functions that a statement of the given program reaches, written by a program of this session over the kit's print. No condition. -/
namespace Go.Proofs.YtiohgpcbdefokaaDoor.B
open Go.RowKit Go.Proofs.YtiohgpcbdefokaaDoorW.PrintWords Go.Proofs.YtiohgpcbdefokaaDoorW.PrintLast Go.Proofs.YtiohgpcbdefokaaDoorW.PrintMore
attribute [local go_sem] max2_int min2_int max_two min_two max_three min_three max_four min_four -- for this text's walks alone
set_option linter.unusedVariables false
set_option linter.unusedSimpArgs false

/-! ### sumpterref01_Len: function 145 -/
def sumpterref01_Len.l0 : Nat → Int → Int → Option (Int)
  | 0, _, _ => none
  | k + 1, x0, x3 => if x3 ≤ 8 then ((sumpterref01_room.f x0 x3).bind fun t176 => (if t176 = true then (some x3) else (sumpterref01_Len.l0 k x0 (wrap64 (2 * x3))))) else (some 0)
def sumpterref01_Len.f (k : Nat) (a0 : Int) : Option (Int) := sumpterref01_Len.l0 k a0 1
theorem sumpterref01_Len.mono_l : ∀ k, (∀ y0 y1, LeO (sumpterref01_Len.l0 k y0 y1) (sumpterref01_Len.l0 (k + 1) y0 y1))
  | 0 => fun _ _ r h => by simp [sumpterref01_Len.l0] at h
  | k + 1 => by
    have ih0 := sumpterref01_Len.mono_l k
    · intro y0 y1
      unfold sumpterref01_Len.l0
      repeat' first
      | (with_reducible exact ih0 _ _)
      | (with_reducible exact LeO.refl _)
      | (with_reducible exact LeO.none _)
      | (with_reducible refine LeO.ite ?_ ?_)
      | (with_reducible refine LeO.bind ?_ (fun _ => ?_))
      | exact ih0 _ _
      | exact LeO.none _
      | refine LeO.ite ?_ ?_
      | refine LeO.bind ?_ (fun _ => ?_)
theorem sumpterref01_Len.mono : ∀ a0 k, LeO (sumpterref01_Len.f k a0) (sumpterref01_Len.f (k + 1) a0) := by
  intro a0 k
  have ih0 := sumpterref01_Len.mono_l k
  unfold sumpterref01_Len.f
  repeat' first
      | (with_reducible exact ih0 _ _)
      | (with_reducible exact LeO.refl _)
      | (with_reducible exact LeO.none _)
      | (with_reducible refine LeO.ite ?_ ?_)
      | (with_reducible refine LeO.bind ?_ (fun _ => ?_))
      | exact ih0 _ _
      | exact LeO.none _
      | refine LeO.ite ?_ ?_
      | refine LeO.bind ?_ (fun _ => ?_)
set_option maxHeartbeats 8000000 in
set_option maxRecDepth 100000 in
theorem sumpterref01_Len.calls (k : Nat) (a0 : Int) (r : Int) (w : World) (h : sumpterref01_Len.f k a0 = some r) :
    Calls Tryd.prog 145 #[.int .i64 a0] w fun e w' => e = .returned (.int .i64 r) ∧ Drawn0 w w' := by
  have H : (sumpterref01_Len.l0 k a0 1) = some r := h
  clear h
  have H' := Aside0.mk H
  clear H
  go_enter Tryd.func145, Tryd.ntmps145
  go_wp2
  go_loopg [3] k (fun kq v3 w' => ∃ (x3_1 : Int), v3 = .int .i64 x3_1 ∧ Aside0 (sumpterref01_Len.l0 kq a0 x3_1 = some r) ∧ Aside0 (kq ≤ k) ∧ Drawn0 w w')
  case atStart => exact ⟨(1), (by first | rfl | (simp; done) | (simp [*]; done) | (simp [*, bne]; done) | (simp_all; done) | (exfalso; simp_all; done) | (exfalso; simp_all [bne]; done)), H', ⟨Nat.le_refl _⟩, by repeat (first | exact Drawn0.refl _ | apply Drawn0.step)⟩
  case round =>
    clear H'
    try clear c1
    obtain ⟨x3_1, rfl, HA, HK1, ⟨m1, rfl⟩⟩ := hrel
    cases gk with
    | zero => exact absurd HA.out (by simp [sumpterref01_Len.l0])
    | succ k1 =>
      have H := HA.out
      clear HA
      simp only [sumpterref01_Len.l0] at H
      by_cases c2 : x3_1 ≤ 8
      · rw [if_pos c2] at H
        have c2b0 : decide (x3_1 ≤ 8) = true := decide_eq_true c2
        clear c2
        replace H := Option.bind_eq_some_iff.mp H
        obtain ⟨t176, A30, H⟩ := H
        replace H : (if t176 = true then (some x3_1) else (sumpterref01_Len.l0 k1 a0 (wrap64 (2 * x3_1)))) = some r := H
        have A3 := Aside0.mk A30
        clear A30
        by_cases c4 : t176 = true
        · subst c4
          have H1 : (some x3_1) = some r := by rw [if_pos rfl] at H; exact H
          clear H
          have H := H1
          clear H1
          obtain rfl := Option.some.inj H
          go_wp2_with (first | ((with_reducible refine gate_callee (f := 164) rfl ?_); refine goesL_ (some 10) rfl rfl Tryd.func164 (by kernel_rfl) rfl #[.int .i64 a0, .int .i64 x3_1] rfl (by (try simp only [List.map_toArray, List.map_cons, List.map_nil]); first | done | rfl | (simp only [List.length_drop, List.length_take]; rfl)) ?_; (with_reducible refine (sumpterref01_room.calls a0 x3_1 true _ A3.out).mono ?_); rintro e w' ⟨rfl, ⟨nd, rfl⟩⟩; refine ⟨_, rfl, ?_⟩))
          go_ret
          exact ⟨by first | rfl | (simp; done) | (simp [*]; done) | (simp [*, bne]; done) | (simp_all; done) | (exfalso; simp_all; done) | (exfalso; simp_all [bne]; done), by repeat (first | exact Drawn0.refl _ | apply Drawn0.step)⟩
        · replace c4 := Bool.eq_false_iff.mpr c4
          subst c4
          have H1 : (sumpterref01_Len.l0 k1 a0 (wrap64 (2 * x3_1))) = some r := by rw [if_neg (show ¬ (false = true) by decide)] at H; exact H
          clear H
          have H := H1
          clear H1
          have H' := Aside0.mk H
          clear H
          go_wp2_with (first | ((with_reducible refine gate_callee (f := 164) rfl ?_); refine goesL_ (some 10) rfl rfl Tryd.func164 (by kernel_rfl) rfl #[.int .i64 a0, .int .i64 x3_1] rfl (by (try simp only [List.map_toArray, List.map_cons, List.map_nil]); first | done | rfl | (simp only [List.length_drop, List.length_take]; rfl)) ?_; (with_reducible refine (sumpterref01_room.calls a0 x3_1 false _ A3.out).mono ?_); rintro e w' ⟨rfl, ⟨nd, rfl⟩⟩; refine ⟨_, rfl, ?_⟩))
          go_roundg k1
          case measure => have := HK1.out; omega
          case rel => exact ⟨(wrap64 (2 * x3_1)), (by first | rfl | (simp; done) | (simp [*]; done) | (simp [*, bne]; done) | (simp_all; done) | (exfalso; simp_all; done) | (exfalso; simp_all [bne]; done)), H', ⟨by have := HK1.out; omega⟩, by repeat (first | exact Drawn0.refl _ | apply Drawn0.step)⟩
      · rw [if_neg c2] at H
        have c2b0 : decide (x3_1 ≤ 8) = false := decide_eq_false c2
        clear c2
        obtain rfl := Option.some.inj H
        go_wp2
        go_ret
        exact ⟨by first | rfl | (simp; done) | (simp [*]; done) | (simp [*, bne]; done) | (simp_all; done) | (exfalso; simp_all; done) | (exfalso; simp_all [bne]; done), by repeat (first | exact Drawn0.refl _ | apply Drawn0.step)⟩

/-! ### sumpterref01_bits: function 165 -/
def sumpterref01_bits.f (a0 : Int) : Option (Int) := if a0 = 1 then (some 0) else (if a0 = 2 then (some 64) else (if a0 = 4 then (some 128) else (some 192)))
set_option maxHeartbeats 8000000 in
set_option maxRecDepth 100000 in
theorem sumpterref01_bits.calls (a0 : Int) (r : Int) (w : World) (h : sumpterref01_bits.f a0 = some r) :
    Calls Tryd.prog 165 #[.int .i64 a0] w fun e w' => e = .returned (.int .u8 r) ∧ Drawn0 w w' := by
  have H : (if a0 = 1 then (some 0) else (if a0 = 2 then (some 64) else (if a0 = 4 then (some 128) else (some 192)))) = some r := h
  clear h
  by_cases c2 : a0 = 1
  · rw [if_pos c2] at H
    have c2b0 : (a0 == 1) = true := beq_iff_eq.mpr c2
    have c2b1 : (a0 != 1) = false := bne_eq_false_iff_eq.mpr c2
    clear c2
    obtain rfl := Option.some.inj H
    go_enter Tryd.func165, Tryd.ntmps165
    go_wp2
    go_ret
    exact ⟨by first | rfl | (simp; done) | (simp [*]; done) | (simp [*, bne]; done) | (simp_all; done) | (exfalso; simp_all; done) | (exfalso; simp_all [bne]; done), by repeat (first | exact Drawn0.refl _ | apply Drawn0.step)⟩
  · rw [if_neg c2] at H
    have c2b0 : (a0 == 1) = false := beq_eq_false_iff_ne.mpr c2
    have c2b1 : (a0 != 1) = true := bne_iff_ne.mpr c2
    by_cases c3 : a0 = 2
    · rw [if_pos c3] at H
      have c3b0 : (a0 == 2) = true := beq_iff_eq.mpr c3
      have c3b1 : (a0 != 2) = false := bne_eq_false_iff_eq.mpr c3
      clear c3
      obtain rfl := Option.some.inj H
      go_enter Tryd.func165, Tryd.ntmps165
      go_wp2
      go_ret
      exact ⟨by first | rfl | (simp; done) | (simp [*]; done) | (simp [*, bne]; done) | (simp_all; done) | (exfalso; simp_all; done) | (exfalso; simp_all [bne]; done), by repeat (first | exact Drawn0.refl _ | apply Drawn0.step)⟩
    · rw [if_neg c3] at H
      have c3b0 : (a0 == 2) = false := beq_eq_false_iff_ne.mpr c3
      have c3b1 : (a0 != 2) = true := bne_iff_ne.mpr c3
      by_cases c4 : a0 = 4
      · rw [if_pos c4] at H
        have c4b0 : (a0 == 4) = true := beq_iff_eq.mpr c4
        have c4b1 : (a0 != 4) = false := bne_eq_false_iff_eq.mpr c4
        clear c4
        obtain rfl := Option.some.inj H
        go_enter Tryd.func165, Tryd.ntmps165
        go_wp2
        go_ret
        exact ⟨by first | rfl | (simp; done) | (simp [*]; done) | (simp [*, bne]; done) | (simp_all; done) | (exfalso; simp_all; done) | (exfalso; simp_all [bne]; done), by repeat (first | exact Drawn0.refl _ | apply Drawn0.step)⟩
      · rw [if_neg c4] at H
        have c4b0 : (a0 == 4) = false := beq_eq_false_iff_ne.mpr c4
        have c4b1 : (a0 != 4) = true := bne_iff_ne.mpr c4
        obtain rfl := Option.some.inj H
        go_enter Tryd.func165, Tryd.ntmps165
        go_wp2
        go_ret
        exact ⟨by first | rfl | (simp; done) | (simp [*]; done) | (simp [*, bne]; done) | (simp_all; done) | (exfalso; simp_all; done) | (exfalso; simp_all [bne]; done), by repeat (first | exact Drawn0.refl _ | apply Drawn0.step)⟩

/-! ### sumpterref01_PutIn: function 147 -/
mutual
def sumpterref01_PutIn.j0 : Nat → Int → Int → Bool → Option (List Int × Int)
  | 0, _, _, _ => none
  | k + 1, x0, x1, x21 => if x21 = true then (some (([] : List Int), 2)) else ((sumpterref01_room.f x0 x1).bind fun t177 => (if t177 = true then (sumpterref01_PutIn.l0 k x0 x1 ([] : List Int) (wrap64 (x1 - 1))) else (some (([] : List Int), 13))))
def sumpterref01_PutIn.l0 : Nat → Int → Int → List Int → Int → Option (List Int × Int)
  | 0, _, _, _, _ => none
  | k + 1, x0, x1, x6, x7 => if x7 ≥ 0 then (if 0 ≤ (wrap64 (8 * x7)) then (if x6.length < 140737488355328 then (sumpterref01_PutIn.l0 k x0 x1 (x6 ++ [(Go.bits .and .i64 (shr .i64 x0 (wrap64 (8 * x7))) 255) % 256]) (wrap64 (x7 - 1))) else (none)) else (none)) else (if 0 < (x6.length : Int) then ((sumpterref01_bits.f x1).bind fun t182 => (some ((x6.set (0 : Int).toNat (((rd x6 0) + t182) % 256)), 0))) else (none))
end
def sumpterref01_PutIn.f (k : Nat) (a0 : Int) (a1 : Int) : Option (List Int × Int) := if a1 = 1 then (sumpterref01_PutIn.j0 k a0 a1 false) else (if a1 = 2 then (sumpterref01_PutIn.j0 k a0 a1 false) else (if a1 = 4 then (sumpterref01_PutIn.j0 k a0 a1 false) else (sumpterref01_PutIn.j0 k a0 a1 (a1 != 8))))
theorem sumpterref01_PutIn.mono_l : ∀ k, (∀ y0 y1 y2, LeO (sumpterref01_PutIn.j0 k y0 y1 y2) (sumpterref01_PutIn.j0 (k + 1) y0 y1 y2)) ∧ (∀ y0 y1 y2 y3, LeO (sumpterref01_PutIn.l0 k y0 y1 y2 y3) (sumpterref01_PutIn.l0 (k + 1) y0 y1 y2 y3))
  | 0 => ⟨fun _ _ _ r h => by simp [sumpterref01_PutIn.j0] at h, fun _ _ _ _ r h => by simp [sumpterref01_PutIn.l0] at h⟩
  | k + 1 => by
    obtain ⟨ih0, ih1⟩ := sumpterref01_PutIn.mono_l k
    refine ⟨?_, ?_⟩
    · intro y0 y1 y2
      unfold sumpterref01_PutIn.j0
      repeat' first
      | (with_reducible exact ih0 _ _ _)
      | (with_reducible exact ih1 _ _ _ _)
      | (with_reducible exact LeO.refl _)
      | (with_reducible exact LeO.none _)
      | (with_reducible refine LeO.ite ?_ ?_)
      | (with_reducible refine LeO.bind ?_ (fun _ => ?_))
      | exact ih0 _ _ _
      | exact ih1 _ _ _ _
      | exact LeO.none _
      | refine LeO.ite ?_ ?_
      | refine LeO.bind ?_ (fun _ => ?_)
    · intro y0 y1 y2 y3
      unfold sumpterref01_PutIn.l0
      repeat' first
      | (with_reducible exact ih0 _ _ _)
      | (with_reducible exact ih1 _ _ _ _)
      | (with_reducible exact LeO.refl _)
      | (with_reducible exact LeO.none _)
      | (with_reducible refine LeO.ite ?_ ?_)
      | (with_reducible refine LeO.bind ?_ (fun _ => ?_))
      | exact ih0 _ _ _
      | exact ih1 _ _ _ _
      | exact LeO.none _
      | refine LeO.ite ?_ ?_
      | refine LeO.bind ?_ (fun _ => ?_)
theorem sumpterref01_PutIn.mono : ∀ a0 a1 k, LeO (sumpterref01_PutIn.f k a0 a1) (sumpterref01_PutIn.f (k + 1) a0 a1) := by
  intro a0 a1 k
  obtain ⟨ih0, ih1⟩ := sumpterref01_PutIn.mono_l k
  unfold sumpterref01_PutIn.f
  repeat' first
      | (with_reducible exact ih0 _ _ _)
      | (with_reducible exact ih1 _ _ _ _)
      | (with_reducible exact LeO.refl _)
      | (with_reducible exact LeO.none _)
      | (with_reducible refine LeO.ite ?_ ?_)
      | (with_reducible refine LeO.bind ?_ (fun _ => ?_))
      | exact ih0 _ _ _
      | exact ih1 _ _ _ _
      | exact LeO.none _
      | refine LeO.ite ?_ ?_
      | refine LeO.bind ?_ (fun _ => ?_)
def sumpterref01_PutIn.T10 : Bool × List (List Nat × List Nat) := (true, [([], []), ([0], [0]), ([1], [1]), ([], []), ([3], [3]), ([2, 4], [2, 4]), ([0, 0, 1, 2, 3, 4, 5], [0]), ([6, 5, 4, 0, 1, 2, 3, 4, 5], [5, 6])])
def sumpterref01_PutIn.B10 : List Nat := [0, 1, 3, 0, 8, 31, 63, 127]
theorem sumpterref01_PutIn.tab10 : rtab .any (opsOf Tryd.f147 10) = sumpterref01_PutIn.T10 := by kernel_rfl
theorem sumpterref01_PutIn.bits10 : waitsOk sumpterref01_PutIn.T10.2 sumpterref01_PutIn.B10 = true := by kernel_rfl
set_option maxHeartbeats 8000000 in
set_option maxRecDepth 100000 in
theorem sumpterref01_PutIn.calls (k : Nat) (a0 : Int) (a1 : Int) (r1 : List Int) (r2 : Int) (w : World) (h : sumpterref01_PutIn.f k a0 a1 = some (r1, r2)) :
    Calls Tryd.prog 147 #[.int .i64 a0, .int .i64 a1] w fun e w' => ∃ v0_ : Value, e = .returned (.tuple #[v0_, .int .i64 r2]) ∧ Kd.R (Kd.int .u8) 5 w' w.heap.size (fun _ => True) v0_ r1 ∧ Below w.heap.size w w' := by
  have HB := Aside0.mk (Below.refl w.heap.size w)
  have H : (if a1 = 1 then (sumpterref01_PutIn.j0 k a0 a1 false) else (if a1 = 2 then (sumpterref01_PutIn.j0 k a0 a1 false) else (if a1 = 4 then (sumpterref01_PutIn.j0 k a0 a1 false) else (sumpterref01_PutIn.j0 k a0 a1 (a1 != 8))))) = some (r1, r2) := h
  clear h
  have HC3 := Aside0.mk H
  clear H
  go_enter Tryd.func147, Tryd.ntmps147
  go_upto_region 1 with (fail)
  go_cut [21] (fun v21 wc => ∃ (kq : Nat) (x21_2 : Bool), v21 = .bool x21_2 ∧ Aside0 (sumpterref01_PutIn.j0 kq a0 a1 x21_2 = some (r1, r2)) ∧ Aside0 (kq ≤ k) ∧ Aside0 (Below w.heap.size w wc))
  case first =>
    have H := HC3.out
    clear HC3
    by_cases c4 : a1 = 1
    · rw [if_pos c4] at H
      have c4b0 : (a1 == 1) = true := beq_iff_eq.mpr c4
      have c4b1 : (a1 != 1) = false := bne_eq_false_iff_eq.mpr c4
      clear c4
      (first | rw [c4b0] | (simp only [i64_w, i32_w]; rw [c4b0]) | skip)
      have H' := Aside0.mk H
      clear H
      go_wp2
      go_meet
      case rel => exact ⟨_, (false), (by first | rfl | (simp; done) | (simp [*]; done) | (simp [*, bne]; done) | (simp_all; done) | (exfalso; simp_all; done) | (exfalso; simp_all [bne]; done)), H', ⟨by first | omega | exact Nat.le_refl _⟩, ⟨by repeat (first | (with_reducible first | exact HB.out | apply below_alloc | apply pw_below_drewN | apply below_drew1) | exact HB.out)⟩⟩
    · rw [if_neg c4] at H
      have c4b0 : (a1 == 1) = false := beq_eq_false_iff_ne.mpr c4
      have c4b1 : (a1 != 1) = true := bne_iff_ne.mpr c4
      (first | rw [c4b0] | (simp only [i64_w, i32_w]; rw [c4b0]) | skip)
      by_cases c5 : a1 = 2
      · rw [if_pos c5] at H
        have c5b0 : (a1 == 2) = true := beq_iff_eq.mpr c5
        have c5b1 : (a1 != 2) = false := bne_eq_false_iff_eq.mpr c5
        clear c5
        have H' := Aside0.mk H
        clear H
        go_wp2
        go_meet
        case rel => exact ⟨_, (false), (by first | rfl | (simp; done) | (simp [*]; done) | (simp [*, bne]; done) | (simp_all; done) | (exfalso; simp_all; done) | (exfalso; simp_all [bne]; done)), H', ⟨by first | omega | exact Nat.le_refl _⟩, ⟨by repeat (first | (with_reducible first | exact HB.out | apply below_alloc | apply pw_below_drewN | apply below_drew1) | exact HB.out)⟩⟩
      · rw [if_neg c5] at H
        have c5b0 : (a1 == 2) = false := beq_eq_false_iff_ne.mpr c5
        have c5b1 : (a1 != 2) = true := bne_iff_ne.mpr c5
        by_cases c6 : a1 = 4
        · rw [if_pos c6] at H
          have c6b0 : (a1 == 4) = true := beq_iff_eq.mpr c6
          have c6b1 : (a1 != 4) = false := bne_eq_false_iff_eq.mpr c6
          clear c6
          have H' := Aside0.mk H
          clear H
          go_wp2
          go_meet
          case rel => exact ⟨_, (false), (by first | rfl | (simp; done) | (simp [*]; done) | (simp [*, bne]; done) | (simp_all; done) | (exfalso; simp_all; done) | (exfalso; simp_all [bne]; done)), H', ⟨by first | omega | exact Nat.le_refl _⟩, ⟨by repeat (first | (with_reducible first | exact HB.out | apply below_alloc | apply pw_below_drewN | apply below_drew1) | exact HB.out)⟩⟩
        · rw [if_neg c6] at H
          have c6b0 : (a1 == 4) = false := beq_eq_false_iff_ne.mpr c6
          have c6b1 : (a1 != 4) = true := bne_iff_ne.mpr c6
          have H' := Aside0.mk H
          clear H
          go_wp2
          go_meet
          case rel => exact ⟨_, ((a1 != 8)), (by first | rfl | (simp; done) | (simp [*]; done) | (simp [*, bne]; done) | (simp_all; done) | (exfalso; simp_all; done) | (exfalso; simp_all [bne]; done)), H', ⟨by first | omega | exact Nat.le_refl _⟩, ⟨by repeat (first | (with_reducible first | exact HB.out | apply below_alloc | apply pw_below_drewN | apply below_drew1) | exact HB.out)⟩⟩
  case rest =>
    clear HC3
    try clear c1
    try clear p2
    try clear c4
    try clear c4b0
    try clear c4b1
    try clear c5
    try clear c5b0
    try clear c5b1
    try clear c6
    try clear c6b0
    try clear c6b1
    obtain ⟨kq, x21_2, rfl, HA, HJ2, HB⟩ := hcut
    cases kq with
    | zero => exact absurd HA.out (by simp [sumpterref01_PutIn.j0])
    | succ kj2 =>
      have H := HA.out
      clear HA
      simp only [sumpterref01_PutIn.j0] at H
      by_cases c7 : x21_2 = true
      · subst c7
        have H1 : (some (([] : List Int), 2)) = some (r1, r2) := by rw [if_pos rfl] at H; exact H
        clear H
        have H := H1
        clear H1
        simp only [Option.some.injEq, Prod.mk.injEq] at H
        obtain ⟨rfl, rfl⟩ := H
        go_wp2
        go_ret2
        exact ⟨_, by first | rfl | (simp [errW_none, errW_some] <;> rfl) | (simp [*, errW_none, errW_some] <;> rfl) | (simp_all; done) | (exfalso; simp_all; done) | (exfalso; simp_all [bne]; done), by first | exact Kd.R_nil _ _ _ _ _ | exact Kd.N_nil _ _ _ _ _ | exact Kd.V_nil _ _ _ _ _ | exact Kd.Q_nil _ _ _ _ _ | exact Kd.S_nil _ _ _ _ _, by repeat (first | (with_reducible first | exact HB.out | apply below_alloc | apply pw_below_drewN | apply below_drew1) | exact HB.out)⟩
      · replace c7 := Bool.eq_false_iff.mpr c7
        subst c7
        have H1 : ((sumpterref01_room.f a0 a1).bind fun t177 => (if t177 = true then (sumpterref01_PutIn.l0 kj2 a0 a1 ([] : List Int) (wrap64 (a1 - 1))) else (some (([] : List Int), 13)))) = some (r1, r2) := by rw [if_neg (show ¬ (false = true) by decide)] at H; exact H
        clear H
        have H := H1
        clear H1
        replace H := Option.bind_eq_some_iff.mp H
        obtain ⟨t177, A80, H⟩ := H
        replace H : (if t177 = true then (sumpterref01_PutIn.l0 kj2 a0 a1 ([] : List Int) (wrap64 (a1 - 1))) else (some (([] : List Int), 13))) = some (r1, r2) := H
        have A8 := Aside0.mk A80
        clear A80
        by_cases c9 : t177 = true
        · subst c9
          have H1 : (sumpterref01_PutIn.l0 kj2 a0 a1 ([] : List Int) (wrap64 (a1 - 1))) = some (r1, r2) := by rw [if_pos rfl] at H; exact H
          clear H
          have H := H1
          clear H1
          have H' := Aside0.mk H
          clear H
          go_wp2_with (first | ((with_reducible refine gate_callee (f := 164) rfl ?_); refine goesL_ (some 24) rfl rfl Tryd.func164 (by kernel_rfl) rfl #[.int .i64 a0, .int .i64 a1] rfl (by (try simp only [List.map_toArray, List.map_cons, List.map_nil]); first | done | rfl | (simp only [List.length_drop, List.length_take]; rfl)) ?_; (with_reducible refine (sumpterref01_room.calls a0 a1 true _ A8.out).mono ?_); rintro e w' ⟨rfl, ⟨nd, rfl⟩⟩; refine ⟨_, rfl, ?_⟩))
          go_loopg [6, 7] kj2 (fun kq v6 v7 w' => ∃ (x6_2 : List Int) (x7_2 : Int), v7 = .int .i64 x7_2 ∧ Aside0 (sumpterref01_PutIn.l0 kq a0 a1 x6_2 x7_2 = some (r1, r2)) ∧ Aside0 (kq ≤ kj2) ∧ Aside0 (Kd.R (Kd.int .u8) 5 w' w.heap.size (fun _ => True) v6 x6_2) ∧ Aside0 (Below w.heap.size w w'))
          case atStart => exact ⟨(([] : List Int)), (wrap64 (a1 - 1)), (by first | rfl | (simp; done) | (simp [*]; done) | (simp [*, bne]; done) | (simp_all; done) | (exfalso; simp_all; done) | (exfalso; simp_all [bne]; done)), H', ⟨Nat.le_refl _⟩, ⟨by first | exact Kd.R_nil _ _ _ _ _ | exact Kd.N_nil _ _ _ _ _ | exact Kd.V_nil _ _ _ _ _ | exact Kd.Q_nil _ _ _ _ _ | exact Kd.S_nil _ _ _ _ _⟩, ⟨by repeat (first | (with_reducible first | exact HB.out | apply below_alloc | apply pw_below_drewN | apply below_drew1) | exact HB.out)⟩⟩
          case round =>
            clear H'
            try clear c1
            try clear p2
            try clear c4
            try clear c4b0
            try clear c4b1
            try clear c5
            try clear c5b0
            try clear c5b1
            try clear c6
            try clear c6b0
            try clear c6b1
            try clear p6
            try clear c7
            try clear c9
            try clear p2
            obtain ⟨x6_2, x7_2, rfl, HA, HK2, HO_6, HB⟩ := hrel
            cases gk with
            | zero => exact absurd HA.out (by simp [sumpterref01_PutIn.l0])
            | succ k2 =>
              have H := HA.out
              clear HA
              simp only [sumpterref01_PutIn.l0] at H
              by_cases c10 : x7_2 ≥ 0
              · rw [if_pos c10] at H
                have c10b0 : decide (0 ≤ x7_2) = true := decide_eq_true c10
                clear c10
                obtain ⟨ji11, hji11⟩ : ∃ j_ : Int, (wrap64 (8 * x7_2)) = j_ := ⟨_, rfl⟩
                replace H : (if 0 ≤ (ji11) then (if x6_2.length < 140737488355328 then (sumpterref01_PutIn.l0 k2 a0 a1 (x6_2 ++ [(Go.bits .and .i64 (shr .i64 a0 (ji11)) 255) % 256]) (wrap64 (x7_2 - 1))) else (none)) else (none)) = some (r1, r2) := by first | (rw [hji11] at H; exact H) | (simp only [hji11] at H ⊢; exact H)
                have hji11w : (IntKind.i64.wrap (8 * x7_2)) = ji11 := (i64_w _).trans hji11
                by_cases c12 : 0 ≤ (ji11)
                · rw [if_pos c12] at H
                  have c12b0 := eq_true c12
                  have c12b1 : decide (0 ≤ (ji11)) = true := decide_eq_true c12
                  clear c12
                  obtain ⟨ji13, hji13⟩ : ∃ j_ : Int, (shr .i64 a0 (ji11)) = j_ := ⟨_, rfl⟩
                  replace H : (if x6_2.length < 140737488355328 then (sumpterref01_PutIn.l0 k2 a0 a1 (x6_2 ++ [(Go.bits .and .i64 (ji13) 255) % 256]) (wrap64 (x7_2 - 1))) else (none)) = some (r1, r2) := by first | (rw [hji13] at H; exact H) | (simp only [hji13] at H ⊢; exact H)
                  have hji13_ : (a0 / 2 ^ min (ji11).toNat 64) = ji13 := hji13
                  have hji13z : (ji11) ≤ 64 → (a0 / 2 ^ (ji11).toNat) = ji13 := shr_small hji13
                  by_cases c14 : x6_2.length < 140737488355328
                  · rw [if_pos c14] at H
                    have LMc14 := Aside0.mk c14
                    clear c14
                    obtain ⟨y178, hy178⟩ : ∃ y_ : List Int, y_ = (x6_2 ++ [(Go.bits .and .i64 (ji13) 255) % 256]) := ⟨_, rfl⟩
                    replace H : (sumpterref01_PutIn.l0 k2 a0 a1 y178 (wrap64 (x7_2 - 1))) = some (r1, r2) := by first | (rw [hy178]; with_reducible exact H) | (have H2_ := (Option.bind_some _ _).symm.trans H; rw [hy178]; with_reducible exact H2_) | (have H2_ := (Option.bind_some _ _).symm.trans H; with_reducible exact H2_) | with_reducible exact H | (rw [hy178]; exact H) | exact H
                    have Ny178 := Aside0.mk hy178
                    clear hy178
                    have H' := Aside0.mk H
                    clear H
                    go_wp2_with (first | ((with_reducible refine gate_builtin (b := .append) (xs := #[.tmp 32, .tmp 39]) rfl ?_); at_builtin; refine Kd.R_append (Kd.int .u8) (w0 := w) w.heap.size rfl (.tmp 32) (.tmp 39) 22 5 (.int .u8 0) 1 rfl Tryd.underlying22 info5 rfl (by decide) (by omega) u6 x6_2 ((Go.bits .and .i64 (ji13) 255) % 256) [.int .u8 ((Go.bits .and .i64 (ji13) 255) % 256)] (fun _ => True) (fun _ => False) rfl rfl ?aP (fun _ hk => hk.elim) ?aF ?aO ?aB ?aS ?aL ?_; (case aP => exact rfl); (case aB => exact (by repeat (first | (with_reducible first | exact HB.out | apply below_alloc | apply pw_below_drewN | apply below_drew1) | exact HB.out))); (case aF => exact (fun _ _ => trivial)); (case aO => exact (by (with_reducible repeat (first | apply Kd.R_alloc | apply Kd.R_drewN | apply Kd.R_drew)); exact HO_6.out)); (case aS => exact (below_size (by repeat (first | (with_reducible first | exact HB.out | apply below_alloc | apply pw_below_drewN | apply below_drew1) | exact HB.out)))); (case aL => have := LMc14.out; omega); intro v179 w15 ho hb hg hat; rw [← Ny178.out] at ho; have n0_ := Aside0.mk (hb); have n1_ := Aside0.mk (ho); clear HB; clear HO_6; have HB := n0_; have HO180 := n1_; clear n0_ n1_; clear ho hb hg hat))
                    go_roundg k2
                    case measure => have := HJ2.out; have := HK2.out; omega
                    case rel => exact ⟨(y178), (wrap64 (x7_2 - 1)), (by first | rfl | (simp; done) | (simp [*]; done) | (simp [*, bne]; done) | (simp_all; done) | (exfalso; simp_all; done) | (exfalso; simp_all [bne]; done)), H', ⟨by have := HJ2.out; have := HK2.out; omega⟩, ⟨by (with_reducible repeat (first | apply Kd.R_alloc | apply Kd.R_drewN | apply Kd.R_drew)); exact HO180.out⟩, ⟨by repeat (first | (with_reducible first | exact HB.out | apply below_alloc | apply pw_below_drewN | apply below_drew1) | exact HB.out)⟩⟩
                  · rw [if_neg c14] at H
                    exact absurd H (by simp)
                · rw [if_neg c12] at H
                  exact absurd H (by simp)
              · rw [if_neg c10] at H
                have c10b0 : decide (0 ≤ x7_2) = false := decide_eq_false c10
                clear c10
                by_cases c16 : 0 < (x6_2.length : Int)
                · rw [if_pos c16] at H
                  have c16b0 : decide (0 < (x6_2.length : Int)) = true := decide_eq_true c16
                  have c16b1 : decide (0 < x6_2.length) = true := decide_eq_true (by omega)
                  clear c16
                  replace H := Option.bind_eq_some_iff.mp H
                  obtain ⟨t182, A170, H⟩ := H
                  replace H : (some ((x6_2.set (0 : Int).toNat (((rd x6_2 0) + t182) % 256)), 0)) = some (r1, r2) := H
                  have A17 := Aside0.mk A170
                  clear A170
                  obtain ⟨y183, hy183⟩ : ∃ y_ : List Int, y_ = (x6_2.set (0 : Int).toNat (((rd x6_2 0) + t182) % 256)) := ⟨_, rfl⟩
                  replace H : (some (y183, 0)) = some (r1, r2) := by first | (rw [hy183]; with_reducible exact H) | (have H2_ := (Option.bind_some _ _).symm.trans H; rw [hy183]; with_reducible exact H2_) | (have H2_ := (Option.bind_some _ _).symm.trans H; with_reducible exact H2_) | with_reducible exact H | (rw [hy183]; exact H) | exact H
                  have Ny183 := Aside0.mk hy183
                  clear hy183
                  simp only [Option.some.injEq, Prod.mk.injEq] at H
                  obtain ⟨rfl, rfl⟩ := H
                  try go_wp2
                  have n0_ := Aside0.mk (Kd.R_drew HO_6.out)
                  have n1_ := Aside0.mk (below_drew1 HB.out)
                  clear HO_6
                  clear HB
                  have HO_6 := n0_
                  have HB := n1_
                  clear n0_ n1_
                  obtain ⟨Ao20, co20, eo20⟩ := Kd.R_slice HO_6.out
                  (first | subst eo20 | (injection eo20 with f1_ f2_ f3_; have f4_ := f1_.symm; have f5_ := f3_.symm; clear f1_ f2_ f3_; subst f4_; subst f5_))
                  have p181 : 0 ≤ (0 : Int) := (by omega)
                  have q181 : 0 < (x6_2.length : Int) := of_decide_eq_true (by first | (with_reducible assumption) | assumption)
                  obtain ⟨ad181, e181, hx181_0⟩ := Kd.at_int (Kd.R_reads' HO_6.out).2.2 0 p181 q181
                  cases e181
                  have qi181 : (0 < x6_2.length) = True := eq_true (by omega)
                  (try rw [show ((0 : Int)).toNat = 0 from rfl] at hx181_0)
                  (try rw [Addr.add_zero'] at hx181_0)
                  replace p181 := eq_true p181
                  replace q181 := eq_true q181
                  refine start_ (n := 8) (S := fun w' => w'.cell? ad181 = some (.int .u8 (rd x6_2 0))) (ds := [7]) #[false, false, false, false, false, false, false, false] (by kernel_rfl) rfl rfl (hx181_0) (fun hHeld => ?_); refine with_tabW sumpterref01_PutIn.tab10 sumpterref01_PutIn.bits10 (fun HT_ HW_ => ?_)
                  generalize wr.drew = w19 at HO_6 HB hx181_0 hHeld ⊢
                  refine pure_ (i := 0) (N := some 41) (v := ?_) (a' := ?_) #[true, false, false, false, false, false, false, false] rfl rfl (any_of HT_.out (by kernel_rfl)) (fun _ _ _ h => h) (Or.inl ⟨by rfl, ?_⟩) ?_ ?_
                  rotate_left
                  · intro w'
                    go_simp
                    with_reducible rfl
                  rotate_left
                  · simp only [Act.put, List.setIfInBounds_toArray, List.set_cons_zero, List.set_cons_succ, i64_w, i32_w]
                    rfl
                  refine pure_ (i := 1) (N := some 42) (v := ?_) (a' := ?_) #[true, true, false, false, false, false, false, false] rfl rfl (any_of HT_.out (by kernel_rfl)) (fun _ _ _ h => h) (Or.inl ⟨by rfl, ?_⟩) ?_ ?_
                  rotate_left
                  · intro w'
                    go_simp
                    with_reducible rfl
                  rotate_left
                  · simp only [Act.put, List.setIfInBounds_toArray, List.set_cons_zero, List.set_cons_succ, i64_w, i32_w]
                    rfl
                  refine pure_ (i := 3) (N := some 44) (v := ?_) (a' := ?_) #[true, true, false, true, false, false, false, false] rfl rfl (any_of HT_.out (by kernel_rfl)) (fun _ _ _ h => h) (Or.inl ⟨by rfl, ?_⟩) ?_ ?_
                  rotate_left
                  · intro w'
                    go_simp
                    with_reducible rfl
                  rotate_left
                  · simp only [Act.put, List.setIfInBounds_toArray, List.set_cons_zero, List.set_cons_succ, i64_w, i32_w]
                    rfl
                  refine take_ (i := 2) (N := some 43) (v := ?_) (a' := ?_) #[true, true, true, true, false, false, false, false] rfl rfl (take_ofW HT_.out HW_.out (by kernel_rfl)) (fun _ _ _ h => h) (Or.inl ⟨by rfl, ?_⟩) hHeld ?_ ?_
                  rotate_left
                  · intro w' s0
                    go_simp
                    with_reducible rfl
                  rotate_left
                  · simp only [Act.put, List.setIfInBounds_toArray, List.set_cons_zero, List.set_cons_succ, i64_w, i32_w]
                    rfl
                  refine one_ (i := 4) (N := some 45) #[true, true, true, true, true, false, false, false] rfl rfl (one_of HT_.out (by kernel_rfl)) (by decide) (fun K hK => ?_)
                  refine goes_ Tryd.func165 (by kernel_rfl) rfl #[.int .i64 a1] (by rfl) rfl rfl (by (try simp only [List.map_toArray, List.map_cons, List.map_nil]); first | done | rfl | (simp only [List.length_drop, List.length_take]; rfl)) ?_
                  with_reducible refine (sumpterref01_bits.calls a1 t182 _ A17.out).mono ?_
                  rintro e w' ⟨rfl, ⟨nd, rfl⟩⟩
                  refine ⟨_, rfl, ?_⟩
                  have p18 : 0 ≤ (0 : Int) := (by omega)
                  have q18 : (0 : Int) < ((x6_2.length : Int) : Int) := of_decide_eq_true (by first | (with_reducible assumption) | assumption)
                  have qi18 : (0 < x6_2.length) = True := eq_true (by omega)
                  obtain ⟨go18, co18, eo18, gb18, gl18, cl18, HG18⟩ := Kd.R_form HO_6.out (by omega)
                  (first | cases eo18 | (injection eo18 with ea_ en_ ec_; (first | subst ea_ | (injection ea_ with ea_; subst ea_)); subst ec_; clear en_))
                  have GB18 := Aside0.mk gb18
                  have GG18 := Aside0.mk HG18
                  clear gb18 gl18 HG18
                  (first | simp only [add_plain] at hx181_0 | skip)
                  obtain ⟨hx18_0, hf18_0⟩ := Kd.R_celln 0 HO_6.out (0 : Int) p18 q18
                  (try rw [show ((0 : Int)).toNat = 0 from rfl] at hx18_0)
                  (try simp only [Nat.reduceMul, Nat.zero_mul, Nat.zero_add, Nat.reduceAdd] at hx18_0)
                  (try rw [show ((0 : Int)).toNat = 0 from rfl] at hf18_0)
                  (try simp only [Nat.reduceMul, Nat.zero_mul, Nat.zero_add, Nat.reduceAdd] at hf18_0)
                  replace p18 := eq_true p18
                  replace q18 := eq_true q18
                  have HP21 := Kd.R_putn HO_6.out (0 : Int) (((rd x6_2 0) + t182) % 256)
                  rw [← Ny183.out] at HP21
                  have HQ21 := Aside0.mk HP21
                  clear HP21
                  refine hK.out _ _ (hHeld) (fun hHeld => ?_)
                  clear hK K
                  refine norm_ (a' := ?_) ?_ ?_
                  rotate_left
                  · show Act.put _ (some 45) _ = _
                    simp only [Act.put, List.setIfInBounds_toArray, List.set_cons_zero, List.set_cons_succ, i64_w, i32_w]
                    rfl
                  refine pure_ (i := 5) (N := some 46) (v := ?_) (a' := ?_) #[true, true, true, true, true, true, false, false] rfl rfl (any_of HT_.out (by kernel_rfl)) (fun _ _ _ h => h) (Or.inl ⟨by rfl, ?_⟩) ?_ ?_
                  rotate_left
                  · intro w'
                    go_simp
                    with_reducible rfl
                  rotate_left
                  · simp only [Act.put, List.setIfInBounds_toArray, List.set_cons_zero, List.set_cons_succ, i64_w, i32_w]
                    rfl
                  refine pure_ (i := 6) (N := some 47) (v := ?_) (a' := ?_) #[true, true, true, true, true, true, true, false] rfl rfl (any_of HT_.out (by kernel_rfl)) (fun _ _ _ h => h) (Or.inl ⟨by rfl, ?_⟩) ?_ ?_
                  rotate_left
                  · intro w'
                    go_simp
                    with_reducible rfl
                  rotate_left
                  · simp only [Act.put, List.setIfInBounds_toArray, List.set_cons_zero, List.set_cons_succ, i64_w, i32_w]
                    rfl
                  refine last_ (i := 7) (N := none) #[true, true, true, true, true, true, true, true] rfl rfl (one_of HT_.out (by kernel_rfl)) (by decide) (fun K hK => ?_)
                  refine skip_ (w1 := ?_) (by rfl) rfl ?_ ?_
                  rotate_left
                  · go_simp
                    rfl
                  refine hK.out _ _ ?_
                  clear hK K
                  refine done_ (done_of HT_.out (by kernel_rfl)) ?_
                  try go_wp2
                  go_ret2
                  exact ⟨_, by first | rfl | (simp [errW_none, errW_some] <;> rfl) | (simp [*, errW_none, errW_some] <;> rfl) | (simp_all; done) | (exfalso; simp_all; done) | (exfalso; simp_all [bne]; done), by (with_reducible repeat (first | apply Kd.R_alloc | apply Kd.R_drewN | apply Kd.R_drew)); exact HQ21.out, by repeat (first | (with_reducible first | exact HB.out | apply below_alloc | apply pw_below_drewN | apply below_drew1 | refine below_set ?_ GB18.out) | exact HB.out)⟩
                · rw [if_neg c16] at H
                  exact absurd H (by simp)
        · replace c9 := Bool.eq_false_iff.mpr c9
          subst c9
          have H1 : (some (([] : List Int), 13)) = some (r1, r2) := by rw [if_neg (show ¬ (false = true) by decide)] at H; exact H
          clear H
          have H := H1
          clear H1
          simp only [Option.some.injEq, Prod.mk.injEq] at H
          obtain ⟨rfl, rfl⟩ := H
          go_wp2_with (first | ((with_reducible refine gate_callee (f := 164) rfl ?_); refine goesL_ (some 24) rfl rfl Tryd.func164 (by kernel_rfl) rfl #[.int .i64 a0, .int .i64 a1] rfl (by (try simp only [List.map_toArray, List.map_cons, List.map_nil]); first | done | rfl | (simp only [List.length_drop, List.length_take]; rfl)) ?_; (with_reducible refine (sumpterref01_room.calls a0 a1 false _ A8.out).mono ?_); rintro e w' ⟨rfl, ⟨nd, rfl⟩⟩; refine ⟨_, rfl, ?_⟩))
          go_ret2
          exact ⟨_, by first | rfl | (simp [errW_none, errW_some] <;> rfl) | (simp [*, errW_none, errW_some] <;> rfl) | (simp_all; done) | (exfalso; simp_all; done) | (exfalso; simp_all [bne]; done), by first | exact Kd.R_nil _ _ _ _ _ | exact Kd.N_nil _ _ _ _ _ | exact Kd.V_nil _ _ _ _ _ | exact Kd.Q_nil _ _ _ _ _ | exact Kd.S_nil _ _ _ _ _, by repeat (first | (with_reducible first | exact HB.out | apply below_alloc | apply pw_below_drewN | apply below_drew1) | exact HB.out)⟩

/-! ### sumpterref01_Put: function 121 -/
def sumpterref01_Put.f (k : Nat) (a0 : Int) : Option (List Int × Int) := (sumpterref01_Len.f k a0).bind fun t184 => (if t184 = 0 then (some (([] : List Int), 13)) else ((sumpterref01_Len.f k a0).bind fun t185 => ((sumpterref01_PutIn.f k a0 t185).bind fun bt186 => (some (bt186.1, bt186.2)))))
theorem sumpterref01_Put.mono : ∀ a0 k, LeO (sumpterref01_Put.f k a0) (sumpterref01_Put.f (k + 1) a0) := by
  intro a0 k
  unfold sumpterref01_Put.f
  repeat' first
      | (with_reducible exact sumpterref01_Len.mono _ _)
      | (with_reducible exact sumpterref01_PutIn.mono _ _ _)
      | (with_reducible exact LeO.refl _)
      | (with_reducible exact LeO.none _)
      | (with_reducible refine LeO.ite ?_ ?_)
      | (with_reducible refine LeO.bind ?_ (fun _ => ?_))
      | exact sumpterref01_Len.mono _ _
      | exact sumpterref01_PutIn.mono _ _ _
      | exact LeO.none _
      | refine LeO.ite ?_ ?_
      | refine LeO.bind ?_ (fun _ => ?_)
set_option maxHeartbeats 8000000 in
set_option maxRecDepth 100000 in
theorem sumpterref01_Put.calls (k : Nat) (a0 : Int) (r1 : List Int) (r2 : Int) (w : World) (h : sumpterref01_Put.f k a0 = some (r1, r2)) :
    Calls Tryd.prog 121 #[.int .i64 a0] w fun e w' => ∃ v0_ : Value, e = .returned (.tuple #[v0_, .int .i64 r2]) ∧ Kd.R (Kd.int .u8) 5 w' w.heap.size (fun _ => True) v0_ r1 ∧ Below w.heap.size w w' := by
  have HB := Aside0.mk (Below.refl w.heap.size w)
  have H : ((sumpterref01_Len.f k a0).bind fun t184 => (if t184 = 0 then (some (([] : List Int), 13)) else ((sumpterref01_Len.f k a0).bind fun t185 => ((sumpterref01_PutIn.f k a0 t185).bind fun bt186 => (some (bt186.1, bt186.2)))))) = some (r1, r2) := h
  clear h
  replace H := Option.bind_eq_some_iff.mp H
  obtain ⟨t184, A20, H⟩ := H
  replace H : (if t184 = 0 then (some (([] : List Int), 13)) else ((sumpterref01_Len.f k a0).bind fun t185 => ((sumpterref01_PutIn.f k a0 t185).bind fun bt186 => (some (bt186.1, bt186.2))))) = some (r1, r2) := H
  have A2 := Aside0.mk A20
  clear A20
  by_cases c3 : t184 = 0
  · rw [if_pos c3] at H
    have c3b0 : (t184 == 0) = true := beq_iff_eq.mpr c3
    have c3b1 : (t184 != 0) = false := bne_eq_false_iff_eq.mpr c3
    clear c3
    simp only [Option.some.injEq, Prod.mk.injEq] at H
    obtain ⟨rfl, rfl⟩ := H
    go_enter Tryd.func121, Tryd.ntmps121
    go_wp2_with (first | ((with_reducible refine gate_callee (f := 145) rfl ?_); refine goesL_ (some 5) rfl rfl Tryd.func145 (by kernel_rfl) rfl #[.int .i64 a0] rfl (by (try simp only [List.map_toArray, List.map_cons, List.map_nil]); first | done | rfl | (simp only [List.length_drop, List.length_take]; rfl)) ?_; (with_reducible refine (sumpterref01_Len.calls k a0 t184 _ A2.out).mono ?_); rintro e w' ⟨rfl, ⟨nd, rfl⟩⟩; refine ⟨_, rfl, ?_⟩))
    go_ret2
    exact ⟨_, by first | rfl | (simp [errW_none, errW_some] <;> rfl) | (simp [*, errW_none, errW_some] <;> rfl) | (simp_all; done) | (exfalso; simp_all; done) | (exfalso; simp_all [bne]; done), by first | exact Kd.R_nil _ _ _ _ _ | exact Kd.N_nil _ _ _ _ _ | exact Kd.V_nil _ _ _ _ _ | exact Kd.Q_nil _ _ _ _ _ | exact Kd.S_nil _ _ _ _ _, by repeat (first | (with_reducible first | exact HB.out | apply below_alloc | apply pw_below_drewN | apply below_drew1) | exact HB.out)⟩
  · rw [if_neg c3] at H
    have c3b0 : (t184 == 0) = false := beq_eq_false_iff_ne.mpr c3
    have c3b1 : (t184 != 0) = true := bne_iff_ne.mpr c3
    replace H := Option.bind_eq_some_iff.mp H
    obtain ⟨t185, A40, H⟩ := H
    replace H : ((sumpterref01_PutIn.f k a0 t185).bind fun bt186 => (some (bt186.1, bt186.2))) = some (r1, r2) := H
    have A4 := Aside0.mk A40
    clear A40
    replace H := Option.bind_eq_some_iff.mp H
    obtain ⟨⟨t186, t187⟩, A50, H⟩ := H
    replace H : (some (t186, t187)) = some (r1, r2) := H
    have A5 := Aside0.mk A50
    clear A50
    simp only [Option.some.injEq, Prod.mk.injEq] at H
    obtain ⟨rfl, rfl⟩ := H
    go_enter Tryd.func121, Tryd.ntmps121
    go_wp2_with (first | ((with_reducible refine gate_callee (f := 145) rfl ?_); refine goesL_ (some 5) rfl rfl Tryd.func145 (by kernel_rfl) rfl #[.int .i64 a0] rfl (by (try simp only [List.map_toArray, List.map_cons, List.map_nil]); first | done | rfl | (simp only [List.length_drop, List.length_take]; rfl)) ?_; (with_reducible refine (sumpterref01_Len.calls k a0 t184 _ A2.out).mono ?_); rintro e w' ⟨rfl, ⟨nd, rfl⟩⟩; refine ⟨_, rfl, ?_⟩) | ((with_reducible refine gate_callee (f := 145) rfl ?_); refine goesL_ (some 9) rfl rfl Tryd.func145 (by kernel_rfl) rfl #[.int .i64 a0] rfl (by (try simp only [List.map_toArray, List.map_cons, List.map_nil]); first | done | rfl | (simp only [List.length_drop, List.length_take]; rfl)) ?_; (with_reducible refine (sumpterref01_Len.calls k a0 t185 _ A4.out).mono ?_); rintro e w' ⟨rfl, ⟨nd, rfl⟩⟩; refine ⟨_, rfl, ?_⟩) | ((with_reducible refine gate_callee (f := 147) rfl ?_); refine goesL_ (some 10) rfl rfl Tryd.func147 (by kernel_rfl) rfl #[.int .i64 a0, .int .i64 t185] rfl (by (try simp only [List.map_toArray, List.map_cons, List.map_nil]); first | done | rfl | (simp only [List.length_drop, List.length_take]; rfl)) ?_; (with_reducible refine (sumpterref01_PutIn.calls k a0 t185 t186 t187 _ A5.out).mono ?_); rintro e w6 ⟨v188, rfl, ho0, hb⟩; refine ⟨_, rfl, ?_⟩; have n0_ := Aside0.mk (Kd.R_lower ho0 (below_size (by repeat (first | (with_reducible first | exact HB.out | apply below_alloc | apply pw_below_drewN | apply below_drew1) | exact HB.out)))); have n1_ := Aside0.mk (below_step (by repeat (first | (with_reducible first | exact HB.out | apply below_alloc | apply pw_below_drewN | apply below_drew1) | exact HB.out)) hb); clear HB; have HO189 := n0_; have HB := n1_; clear n0_ n1_; (try clear hb); (try clear hb2); (try clear hk); (try clear hi); (try clear ho0)))
    go_ret2
    exact ⟨_, by first | rfl | (simp [errW_none, errW_some] <;> rfl) | (simp [*, errW_none, errW_some] <;> rfl) | (simp_all; done) | (exfalso; simp_all; done) | (exfalso; simp_all [bne]; done), by (with_reducible repeat (first | apply Kd.R_alloc | apply Kd.R_drewN | apply Kd.R_drew)); exact HO189.out, by repeat (first | (with_reducible first | exact HB.out | apply below_alloc | apply pw_below_drewN | apply below_drew1) | exact HB.out)⟩

/-! ### sumpterref02_Num: function 74 -/
def sumpterref02_Num.f (k : Nat) (a0 : Int) : Option (List Int) := (sumpterref01_Put.f k a0).bind fun bt190 => (some bt190.1)
theorem sumpterref02_Num.mono : ∀ a0 k, LeO (sumpterref02_Num.f k a0) (sumpterref02_Num.f (k + 1) a0) := by
  intro a0 k
  unfold sumpterref02_Num.f
  repeat' first
      | (with_reducible exact sumpterref01_Put.mono _ _)
      | (with_reducible exact LeO.refl _)
      | (with_reducible exact LeO.none _)
      | (with_reducible refine LeO.ite ?_ ?_)
      | (with_reducible refine LeO.bind ?_ (fun _ => ?_))
      | exact sumpterref01_Put.mono _ _
      | exact LeO.none _
      | refine LeO.ite ?_ ?_
      | refine LeO.bind ?_ (fun _ => ?_)
set_option maxHeartbeats 8000000 in
set_option maxRecDepth 100000 in
theorem sumpterref02_Num.calls (k : Nat) (a0 : Int) (r : List Int) (w : World) (h : sumpterref02_Num.f k a0 = some r) :
    Calls Tryd.prog 74 #[.int .i64 a0] w fun e w' => ∃ v0_ : Value, e = .returned (v0_) ∧ Kd.R (Kd.int .u8) 5 w' w.heap.size (fun _ => True) v0_ r ∧ Below w.heap.size w w' := by
  have HB := Aside0.mk (Below.refl w.heap.size w)
  have H : ((sumpterref01_Put.f k a0).bind fun bt190 => (some bt190.1)) = some r := h
  clear h
  replace H := Option.bind_eq_some_iff.mp H
  obtain ⟨⟨t190, t191⟩, A20, H⟩ := H
  replace H : (some t190) = some r := H
  have A2 := Aside0.mk A20
  clear A20
  obtain rfl := Option.some.inj H
  go_enter Tryd.func74, Tryd.ntmps74
  go_wp2_with (first | ((with_reducible refine gate_callee (f := 121) rfl ?_); refine goesL_ (some 7) rfl rfl Tryd.func121 (by kernel_rfl) rfl #[.int .i64 a0] rfl (by (try simp only [List.map_toArray, List.map_cons, List.map_nil]); first | done | rfl | (simp only [List.length_drop, List.length_take]; rfl)) ?_; (with_reducible refine (sumpterref01_Put.calls k a0 t190 t191 _ A2.out).mono ?_); rintro e w3 ⟨v192, rfl, ho0, hb⟩; refine ⟨_, rfl, ?_⟩; have n0_ := Aside0.mk (Kd.R_lower ho0 (below_size (by repeat (first | (with_reducible first | exact HB.out | apply below_alloc | apply pw_below_drewN | apply below_drew1) | exact HB.out)))); have n1_ := Aside0.mk (below_step (by repeat (first | (with_reducible first | exact HB.out | apply below_alloc | apply pw_below_drewN | apply below_drew1) | exact HB.out)) hb); clear HB; have HO193 := n0_; have HB := n1_; clear n0_ n1_; (try clear hb); (try clear hb2); (try clear hk); (try clear hi); (try clear ho0)))
  go_ret
  exact ⟨_, by first | rfl | (simp [errW_none, errW_some] <;> rfl) | (simp [*, errW_none, errW_some] <;> rfl) | (simp_all; done) | (exfalso; simp_all; done) | (exfalso; simp_all [bne]; done), by (with_reducible repeat (first | apply Kd.R_alloc | apply Kd.R_drewN | apply Kd.R_drew)); exact HO193.out, by repeat (first | (with_reducible first | exact HB.out | apply below_alloc | apply pw_below_drewN | apply below_drew1) | exact HB.out)⟩

/-! ### sumpterref02_Text: function 75 -/
def sumpterref02_Text.f (k : Nat) (a0 : ByteArray) : Option (List Int) := (sumpterref02_Num.f k (a0.size : Int)).bind fun t194 => (if t194.length + a0.size < 140737488355328 then (some (t194 ++ bytesOf a0)) else (none))
set_option maxHeartbeats 8000000 in
set_option maxRecDepth 100000 in
theorem sumpterref02_Text.calls (k : Nat) (a0 : ByteArray) (r : List Int) (w : World) (h : sumpterref02_Text.f k a0 = some r) :
    Calls Tryd.prog 75 #[.string a0] w fun e w' => ∃ v0_ : Value, e = .returned (v0_) ∧ Kd.R (Kd.int .u8) 5 w' w.heap.size (fun _ => True) v0_ r ∧ Below w.heap.size w w' := by
  have HB := Aside0.mk (Below.refl w.heap.size w)
  have H : ((sumpterref02_Num.f k (a0.size : Int)).bind fun t194 => (if t194.length + a0.size < 140737488355328 then (some (t194 ++ bytesOf a0)) else (none))) = some r := h
  clear h
  replace H := Option.bind_eq_some_iff.mp H
  obtain ⟨t194, A20, H⟩ := H
  replace H : (if t194.length + a0.size < 140737488355328 then (some (t194 ++ bytesOf a0)) else (none)) = some r := H
  have A2 := Aside0.mk A20
  clear A20
  by_cases c3 : t194.length + a0.size < 140737488355328
  · rw [if_pos c3] at H
    have LMc3 := Aside0.mk c3
    clear c3
    obtain ⟨y197, hy197⟩ : ∃ y_ : List Int, y_ = (t194 ++ bytesOf a0) := ⟨_, rfl⟩
    replace H : (some y197) = some r := by first | (rw [hy197]; with_reducible exact H) | (have H2_ := (Option.bind_some _ _).symm.trans H; rw [hy197]; with_reducible exact H2_) | (have H2_ := (Option.bind_some _ _).symm.trans H; with_reducible exact H2_) | with_reducible exact H | (rw [hy197]; exact H) | exact H
    have Ny197 := Aside0.mk hy197
    clear hy197
    obtain rfl := Option.some.inj H
    go_enter Tryd.func75, Tryd.ntmps75
    go_wp2_with (first | ((with_reducible refine gate_callee (f := 74) rfl ?_); refine goesL_ (some 5) rfl rfl Tryd.func74 (by kernel_rfl) rfl #[.int .i64 (a0.size : Int)] rfl (by (try simp only [List.map_toArray, List.map_cons, List.map_nil]); first | done | rfl | (simp only [List.length_drop, List.length_take]; rfl)) ?_; (with_reducible refine (sumpterref02_Num.calls k (a0.size : Int) t194 _ A2.out).mono ?_); rintro e w4 ⟨v195, rfl, ho0, hb⟩; refine ⟨_, rfl, ?_⟩; have n0_ := Aside0.mk (Kd.R_lower ho0 (below_size (by repeat (first | (with_reducible first | exact HB.out | apply below_alloc | apply pw_below_drewN | apply below_drew1) | exact HB.out)))); have n1_ := Aside0.mk (below_step (by repeat (first | (with_reducible first | exact HB.out | apply below_alloc | apply pw_below_drewN | apply below_drew1) | exact HB.out)) hb); clear HB; have HO196 := n0_; have HB := n1_; clear n0_ n1_; (try clear hb); (try clear hb2); (try clear hk); (try clear hi); (try clear ho0)) | (at_builtin; refine print_append_str (w0 := w) w.heap.size rfl (.tmp 5) _ 22 9 5 rfl Tryd.underlying22 Tryd.underlying9 info5 v195 t194 a0 rfl rfl ?aO ?aB ?aS ?aL ?_; (case aB => exact (by repeat (first | (with_reducible first | exact HB.out | apply below_alloc | apply pw_below_drewN | apply below_drew1) | exact HB.out))); (case aO => exact (Kd.own_of_R (by (with_reducible repeat (first | apply Kd.R_alloc | apply Kd.R_drewN | apply Kd.R_drew)); exact HO196.out))); (case aS => exact (below_size (by repeat (first | (with_reducible first | exact HB.out | apply below_alloc | apply pw_below_drewN | apply below_drew1) | exact HB.out)))); (case aL => have := LMc3.out; omega); intro v198 w5 ho0 hb hg; have ho := Kd.R_of_own (h1 := fun _ => rfl) (ok := fun _ => True) ho0 (fun _ _ => trivial); clear ho0; have hat := True.intro; rw [← Ny197.out] at ho; change Kd.R (Kd.int .u8) 5 w5 w.heap.size (fun _ => True) v198 y197 at ho; have n0_ := Aside0.mk (hb); have n1_ := Aside0.mk (ho); clear HB; clear HO196; have HB := n0_; have HO199 := n1_; clear n0_ n1_; clear ho hb hg hat))
    go_ret
    exact ⟨_, by first | rfl | (simp [errW_none, errW_some] <;> rfl) | (simp [*, errW_none, errW_some] <;> rfl) | (simp_all; done) | (exfalso; simp_all; done) | (exfalso; simp_all [bne]; done), by (with_reducible repeat (first | apply Kd.R_alloc | apply Kd.R_drewN | apply Kd.R_drew)); exact HO199.out, by repeat (first | (with_reducible first | exact HB.out | apply below_alloc | apply pw_below_drewN | apply below_drew1) | exact HB.out)⟩
  · rw [if_neg c3] at H
    exact absurd H (by simp)

/-! ### sumpterref03_Bytes: function 122 -/
def sumpterref03_Bytes.f (a0 : Int) : Option (List Int) := some (([(a0) % 256, (a0 / 256) % 256, (a0 / 65536) % 256, (a0 / 16777216) % 256] : List Int))
set_option maxHeartbeats 8000000 in
set_option maxRecDepth 100000 in
theorem sumpterref03_Bytes.calls (a0 : Int) (r : List Int) (w : World) (h : sumpterref03_Bytes.f a0 = some r) :
    Calls Tryd.prog 122 #[.int .u32 a0] w fun e w' => ∃ v0_ : Value, e = .returned (v0_) ∧ Kd.R (Kd.int .u8) 5 w' w.heap.size (fun _ => True) v0_ r ∧ Below w.heap.size w w' := by
  have HB := Aside0.mk (Below.refl w.heap.size w)
  have H : (some (([(a0) % 256, (a0 / 256) % 256, (a0 / 65536) % 256, (a0 / 16777216) % 256] : List Int))) = some r := h
  clear h
  obtain ⟨y200, hy200⟩ : ∃ y_ : List Int, y_ = (([(a0) % 256, (a0 / 256) % 256, (a0 / 65536) % 256, (a0 / 16777216) % 256] : List Int)) := ⟨_, rfl⟩
  replace H : (some y200) = some r := by first | (rw [hy200]; with_reducible exact H) | (have H2_ := (Option.bind_some _ _).symm.trans H; rw [hy200]; with_reducible exact H2_) | (have H2_ := (Option.bind_some _ _).symm.trans H; with_reducible exact H2_) | with_reducible exact H | (rw [hy200]; exact H) | exact H
  have Ny200 := Aside0.mk hy200
  clear hy200
  obtain rfl := Option.some.inj H
  go_enter Tryd.func122, Tryd.ntmps122
  go_wp2_with (first | ((with_reducible refine gate_dst (N := 14) rfl ?_); refine Kd.R_lit (Kd.int .u8) _ 5 ?hg (N := 14) ?hd (xs := ([(a0) % 256, (a0 / 256) % 256, (a0 / 65536) % 256, (a0 / 16777216) % 256] : List Int)) (inner := [.int .u8 ((a0) % 256), .int .u8 ((a0 / 256) % 256), .int .u8 ((a0 / 65536) % 256), .int .u8 ((a0 / 16777216) % 256)]) (ok := fun _ => True) (okp := fun _ => True) ?hr ?hp (fun _ hk => hk) trivial (Below.refl _ _) (Nat.le_refl _) (by simp) ?_; (case hd => rfl); (case hg => rfl); (case hr => first | (go_simp; done) | (go_simp; rfl)); (case hp => exact (Reps.one (show Kd.M (Kd.int .u8) _ _ _ ((a0) % 256) [.int .u8 ((a0) % 256)] from rfl) (Reps.one (show Kd.M (Kd.int .u8) _ _ _ ((a0 / 256) % 256) [.int .u8 ((a0 / 256) % 256)] from rfl) (Reps.one (show Kd.M (Kd.int .u8) _ _ _ ((a0 / 65536) % 256) [.int .u8 ((a0 / 65536) % 256)] from rfl) (Reps.one (show Kd.M (Kd.int .u8) _ _ _ ((a0 / 16777216) % 256) [.int .u8 ((a0 / 16777216) % 256)] from rfl) (Reps.none _ _)))))); intro v201 w2 ho3 hb hg_ hnew_; clear hg_ hnew_; (first | rw [← Ny200.out] at ho3 | (simp only [Int.reduceToNat] at ho3; rw [← Ny200.out] at ho3)); have n0_ := Aside0.mk (Kd.R_lower ho3 (below_size (by repeat (first | (with_reducible first | exact HB.out | apply below_alloc | apply pw_below_drewN | apply below_drew1) | exact HB.out)))); have n1_ := Aside0.mk (below_step (by repeat (first | (with_reducible first | exact HB.out | apply below_alloc | apply pw_below_drewN | apply below_drew1) | exact HB.out)) hb); clear HB; have HO202 := n0_; have HB := n1_; clear n0_ n1_; clear hb ho3))
  go_ret
  exact ⟨_, by first | rfl | (simp [errW_none, errW_some] <;> rfl) | (simp [*, errW_none, errW_some] <;> rfl) | (simp_all; done) | (exfalso; simp_all; done) | (exfalso; simp_all [bne]; done), by (with_reducible repeat (first | apply Kd.R_alloc | apply Kd.R_drewN | apply Kd.R_drew)); exact HO202.out, by repeat (first | (with_reducible first | exact HB.out | apply below_alloc | apply pw_below_drewN | apply below_drew1) | exact HB.out)⟩

/-! ### sumpterref03_run: function 148 -/
mutual
def sumpterref03_run.l0 : Nat → Int → List Int → Int → Option (Int)
  | 0, _, _, _ => none
  | k + 1, x0, x1, x5 => if x5 < (x1.length : Int) then (if 0 ≤ x5 then (sumpterref03_run.l1 k (Go.bits .xor .u32 x0 ((rd x1 x5) % 4294967296)) x1 x5 0) else (none)) else (some x0)
def sumpterref03_run.l1 : Nat → Int → List Int → Int → Int → Option (Int)
  | 0, _, _, _, _ => none
  | k + 1, x0, x1, x5, x6 => if x6 < 8 then (if (Int.tmod x0 2) = 1 then (sumpterref03_run.l1 k (Go.bits .xor .u32 ((Int.tdiv x0 2) % 4294967296) 3988292384) x1 x5 (wrap64 (x6 + 1))) else (sumpterref03_run.l1 k ((Int.tdiv x0 2) % 4294967296) x1 x5 (wrap64 (x6 + 1)))) else (sumpterref03_run.l0 k x0 x1 (wrap64 (x5 + 1)))
end
def sumpterref03_run.f (k : Nat) (a0 : Int) (l1 : List Int) : Option (Int) := sumpterref03_run.l0 k a0 l1 0
set_option maxHeartbeats 8000000 in
set_option maxRecDepth 100000 in
theorem sumpterref03_run.calls (k : Nat) (a0 : Int) (A1 : Option Addr) (c1 : Nat) (l1 : List Int) (r : Int) (w : World) (hr1 : Kd.C (Kd.int .u8) w A1 l1.length l1) (hc1 : l1.length ≤ c1) (h : sumpterref03_run.f k a0 l1 = some r) :
    Calls Tryd.prog 148 #[.int .u32 a0, .slice A1 l1.length c1] w fun e w' => e = .returned (.int .u32 r) ∧ Drawn0 w w' := by
  have HR1 := Aside0.mk hr1
  have HC1 := Aside0.mk hc1
  clear hr1 hc1
  have H : (sumpterref03_run.l0 k a0 l1 0) = some r := h
  clear h
  have H' := Aside0.mk H
  clear H
  go_enter Tryd.func148, Tryd.ntmps148
  go_wp2
  go_loopg [0, 5] k (fun kq v0 v5 w' => ∃ (x0_1 : Int) (x5_1 : Int), v0 = .int .u32 x0_1 ∧ v5 = .int .i64 x5_1 ∧ Aside0 (sumpterref03_run.l0 kq x0_1 l1 x5_1 = some r) ∧ Aside0 (kq ≤ k) ∧ Drawn0 w w')
  case atStart => exact ⟨(a0), (0), (by first | rfl | (simp; done) | (simp [*]; done) | (simp [*, bne]; done) | (simp_all; done) | (exfalso; simp_all; done) | (exfalso; simp_all [bne]; done)), (by first | rfl | (simp; done) | (simp [*]; done) | (simp [*, bne]; done) | (simp_all; done) | (exfalso; simp_all; done) | (exfalso; simp_all [bne]; done)), H', ⟨Nat.le_refl _⟩, by repeat (first | exact Drawn0.refl _ | apply Drawn0.step)⟩
  case round =>
    clear H'
    try clear c1
    try clear p2
    obtain ⟨x0_1, x5_1, rfl, rfl, HA, HK1, ⟨m1, rfl⟩⟩ := hrel
    cases gk with
    | zero => exact absurd HA.out (by simp [sumpterref03_run.l0])
    | succ k1 =>
      have H := HA.out
      clear HA
      simp only [sumpterref03_run.l0] at H
      by_cases c3 : x5_1 < (l1.length : Int)
      · rw [if_pos c3] at H
        have c3b0 : decide (x5_1 < (l1.length : Int)) = true := decide_eq_true c3
        clear c3
        by_cases c4 : 0 ≤ x5_1
        · rw [if_pos c4] at H
          have c4b0 : decide (0 ≤ x5_1) = true := decide_eq_true c4
          clear c4
          have H' := Aside0.mk H
          clear H
          have p203 : 0 ≤ (x5_1 : Int) := of_decide_eq_true (by first | (with_reducible assumption) | assumption)
          have q203 : x5_1 < (l1.length : Int) := of_decide_eq_true (by first | (with_reducible assumption) | assumption)
          obtain ⟨ad203, e203, hx203_0⟩ := Kd.at_int HR1.out x5_1 p203 q203
          cases e203
          replace p203 := eq_true p203
          replace q203 := eq_true q203
          go_wp2
          go_loopg [0, 6] k1 (fun kq v0 v6 w' => ∃ (x0_2 : Int) (x6_2 : Int), v0 = .int .u32 x0_2 ∧ v6 = .int .i64 x6_2 ∧ Aside0 (sumpterref03_run.l1 kq x0_2 l1 x5_1 x6_2 = some r) ∧ Aside0 (kq ≤ k1) ∧ Drawn0 w w')
          case atStart => exact ⟨(Go.bits .xor .u32 x0_1 ((rd l1 x5_1) % 4294967296)), (0), (by first | rfl | (simp; done) | (simp [*]; done) | (simp [*, bne]; done) | (simp_all; done) | (exfalso; simp_all; done) | (exfalso; simp_all [bne]; done)), (by first | rfl | (simp; done) | (simp [*]; done) | (simp [*, bne]; done) | (simp_all; done) | (exfalso; simp_all; done) | (exfalso; simp_all [bne]; done)), H', ⟨Nat.le_refl _⟩, by repeat (first | exact Drawn0.refl _ | apply Drawn0.step)⟩
          case round =>
            clear H'
            try clear c1
            try clear p2
            try clear q2
            try clear hx2
            try clear c3
            try clear c3b0
            try clear c4
            try clear c4b0
            try clear hx203_0
            try clear p2
            try clear p203
            try clear q203
            obtain ⟨x0_2, x6_2, rfl, rfl, HA, HK2, ⟨m2, rfl⟩⟩ := hrel
            cases gk with
            | zero => exact absurd HA.out (by simp [sumpterref03_run.l1])
            | succ k2 =>
              have H := HA.out
              clear HA
              simp only [sumpterref03_run.l1] at H
              by_cases c5 : x6_2 < 8
              · rw [if_pos c5] at H
                have c5b0 : decide (x6_2 < 8) = true := decide_eq_true c5
                clear c5
                by_cases c6 : (Int.tmod x0_2 2) = 1
                · rw [if_pos c6] at H
                  have c6b0 : ((Int.tmod x0_2 2) == 1) = true := beq_iff_eq.mpr c6
                  have c6b1 : ((Int.tmod x0_2 2) != 1) = false := bne_eq_false_iff_eq.mpr c6
                  clear c6
                  have H' := Aside0.mk H
                  clear H
                  go_wp2
                  go_roundg k2
                  case measure => have := HK1.out; have := HK2.out; omega
                  case rel => exact ⟨(Go.bits .xor .u32 ((Int.tdiv x0_2 2) % 4294967296) 3988292384), (wrap64 (x6_2 + 1)), (by first | rfl | (simp; done) | (simp [*]; done) | (simp [*, bne]; done) | (simp_all; done) | (exfalso; simp_all; done) | (exfalso; simp_all [bne]; done)), (by first | rfl | (simp; done) | (simp [*]; done) | (simp [*, bne]; done) | (simp_all; done) | (exfalso; simp_all; done) | (exfalso; simp_all [bne]; done)), H', ⟨by have := HK1.out; have := HK2.out; omega⟩, by repeat (first | exact Drawn0.refl _ | apply Drawn0.step)⟩
                · rw [if_neg c6] at H
                  have c6b0 : ((Int.tmod x0_2 2) == 1) = false := beq_eq_false_iff_ne.mpr c6
                  have c6b1 : ((Int.tmod x0_2 2) != 1) = true := bne_iff_ne.mpr c6
                  have H' := Aside0.mk H
                  clear H
                  go_wp2
                  go_roundg k2
                  case measure => have := HK1.out; have := HK2.out; omega
                  case rel => exact ⟨((Int.tdiv x0_2 2) % 4294967296), (wrap64 (x6_2 + 1)), (by first | rfl | (simp; done) | (simp [*]; done) | (simp [*, bne]; done) | (simp_all; done) | (exfalso; simp_all; done) | (exfalso; simp_all [bne]; done)), (by first | rfl | (simp; done) | (simp [*]; done) | (simp [*, bne]; done) | (simp_all; done) | (exfalso; simp_all; done) | (exfalso; simp_all [bne]; done)), H', ⟨by have := HK1.out; have := HK2.out; omega⟩, by repeat (first | exact Drawn0.refl _ | apply Drawn0.step)⟩
              · rw [if_neg c5] at H
                have c5b0 : decide (x6_2 < 8) = false := decide_eq_false c5
                clear c5
                have H' := Aside0.mk H
                clear H
                go_wp2
                go_roundg k2
                case measure => have := HK1.out; have := HK2.out; omega
                case rel => exact ⟨(x0_2), (wrap64 (x5_1 + 1)), (by first | rfl | (simp; done) | (simp [*]; done) | (simp [*, bne]; done) | (simp_all; done) | (exfalso; simp_all; done) | (exfalso; simp_all [bne]; done)), (by first | rfl | (simp; done) | (simp [*]; done) | (simp [*, bne]; done) | (simp_all; done) | (exfalso; simp_all; done) | (exfalso; simp_all [bne]; done)), H', ⟨by have := HK1.out; have := HK2.out; omega⟩, by repeat (first | exact Drawn0.refl _ | apply Drawn0.step)⟩
        · rw [if_neg c4] at H
          exact absurd H (by simp)
      · rw [if_neg c3] at H
        have c3b0 : decide (x5_1 < (l1.length : Int)) = false := decide_eq_false c3
        clear c3
        obtain rfl := Option.some.inj H
        go_wp2
        go_ret
        exact ⟨by first | rfl | (simp; done) | (simp [*]; done) | (simp [*, bne]; done) | (simp_all; done) | (exfalso; simp_all; done) | (exfalso; simp_all [bne]; done), by repeat (first | exact Drawn0.refl _ | apply Drawn0.step)⟩

/-! ### sumpterref03_Of: function 123 -/
def sumpterref03_Of.f (k : Nat) (l0 : List Int) : Option (Int) := (sumpterref03_run.f k 4294967295 l0).bind fun t204 => (some (Go.bits .xor .u32 IntKind.u32.max t204))
set_option maxHeartbeats 8000000 in
set_option maxRecDepth 100000 in
theorem sumpterref03_Of.calls (k : Nat) (A0 : Option Addr) (c0 : Nat) (l0 : List Int) (r : Int) (w : World) (hr0 : Kd.C (Kd.int .u8) w A0 l0.length l0) (hc0 : l0.length ≤ c0) (h : sumpterref03_Of.f k l0 = some r) :
    Calls Tryd.prog 123 #[.slice A0 l0.length c0] w fun e w' => e = .returned (.int .u32 r) ∧ Drawn0 w w' := by
  have HR0 := Aside0.mk hr0
  have HC0 := Aside0.mk hc0
  clear hr0 hc0
  have H : ((sumpterref03_run.f k 4294967295 l0).bind fun t204 => (some (Go.bits .xor .u32 IntKind.u32.max t204))) = some r := h
  clear h
  replace H := Option.bind_eq_some_iff.mp H
  obtain ⟨t204, A20, H⟩ := H
  replace H : (some (Go.bits .xor .u32 IntKind.u32.max t204)) = some r := H
  have A2 := Aside0.mk A20
  clear A20
  obtain rfl := Option.some.inj H
  go_enter Tryd.func123, Tryd.ntmps123
  go_wp2_with (first | ((with_reducible refine gate_callee (f := 148) rfl ?_); refine goesL_ (some 4) rfl rfl Tryd.func148 (by kernel_rfl) rfl #[.int .u32 4294967295, .slice A0 l0.length c0] rfl (by (try simp only [List.map_toArray, List.map_cons, List.map_nil]); first | done | rfl | (simp only [List.length_drop, List.length_take]; rfl)) ?_; (with_reducible refine (sumpterref03_run.calls k 4294967295 _ _ l0 t204 _ ?side1 ?side2 A2.out).mono ?_); (case side1 => repeat (first | exact HR0.out | (with_reducible refine Kd.C_alloc ?_ _) | (with_reducible refine Kd.C_drewN ?_ _) | (with_reducible refine Kd.C_drew ?_))); (case side2 => exact HC0.out); rintro e w' ⟨rfl, ⟨nd, rfl⟩⟩; refine ⟨_, rfl, ?_⟩))
  go_ret
  exact ⟨by first | rfl | (simp; done) | (simp [*]; done) | (simp [*, bne]; done) | (simp_all; done) | (exfalso; simp_all; done) | (exfalso; simp_all [bne]; done), by repeat (first | exact Drawn0.refl _ | apply Drawn0.step)⟩

end Go.Proofs.YtiohgpcbdefokaaDoor.B
/- Contracts of the functions that a statement of the given program reaches, written by a program of this session over the kit's print. No condition. -/
namespace Go.Proofs.YtiohgpcbdefokaaDoor.B
open Go.RowKit Go.Proofs.YtiohgpcbdefokaaDoorW.PrintWords Go.Proofs.YtiohgpcbdefokaaDoorW.PrintLast Go.Proofs.YtiohgpcbdefokaaDoorW.PrintMore
attribute [local go_sem] max2_int min2_int max_two min_two max_three min_three max_four min_four -- for this text's walks alone
set_option linter.unusedVariables false
set_option linter.unusedSimpArgs false

/-! ### sumpterref03_Seal: function 76 -/
def sumpterref03_Seal.f (k : Nat) (l0 : List Int) : Option (List Int) := (some (([] : List Int) : List Int)).bind fun y205 => (if y205.length + l0.length < 140737488355328 then ((some (y205 ++ l0 : List Int)).bind fun y208 => ((sumpterref03_Of.f k l0).bind fun t211 => ((sumpterref03_Bytes.f t211).bind fun t212 => (if y208.length + t212.length < 140737488355328 then (some (y208 ++ t212)) else (none))))) else (none))
set_option maxHeartbeats 8000000 in
set_option maxRecDepth 100000 in
theorem sumpterref03_Seal.calls (k : Nat) (A0 : Option Addr) (c0 : Nat) (l0 : List Int) (r : List Int) (w : World) (hr0 : Kd.C (Kd.int .u8) w A0 l0.length l0) (hc0 : l0.length ≤ c0) (h : sumpterref03_Seal.f k l0 = some r) :
    Calls Tryd.prog 76 #[.slice A0 l0.length c0] w fun e w' => ∃ v0_ : Value, e = .returned (v0_) ∧ Kd.R (Kd.int .u8) 5 w' w.heap.size (fun _ => True) v0_ r ∧ Below w.heap.size w w' := by
  have HR0 := Aside0.mk hr0
  have HC0 := Aside0.mk hc0
  clear hr0 hc0
  have HB := Aside0.mk (Below.refl w.heap.size w)
  have H : ((some (([] : List Int) : List Int)).bind fun y205 => (if y205.length + l0.length < 140737488355328 then ((some (y205 ++ l0 : List Int)).bind fun y208 => ((sumpterref03_Of.f k l0).bind fun t211 => ((sumpterref03_Bytes.f t211).bind fun t212 => (if y208.length + t212.length < 140737488355328 then (some (y208 ++ t212)) else (none))))) else (none))) = some r := h
  clear h
  obtain ⟨y205, hy205⟩ : ∃ y_ : List Int, y_ = (([] : List Int)) := ⟨_, rfl⟩
  replace H : (if y205.length + l0.length < 140737488355328 then ((some (y205 ++ l0 : List Int)).bind fun y208 => ((sumpterref03_Of.f k l0).bind fun t211 => ((sumpterref03_Bytes.f t211).bind fun t212 => (if y208.length + t212.length < 140737488355328 then (some (y208 ++ t212)) else (none))))) else (none)) = some r := by first | (rw [hy205]; with_reducible exact H) | (have H2_ := (Option.bind_some _ _).symm.trans H; rw [hy205]; with_reducible exact H2_) | (have H2_ := (Option.bind_some _ _).symm.trans H; with_reducible exact H2_) | with_reducible exact H | (rw [hy205]; exact H) | exact H
  have Ny205 := Aside0.mk hy205
  clear hy205
  by_cases c2 : y205.length + l0.length < 140737488355328
  · rw [if_pos c2] at H
    have LMc2 := Aside0.mk c2
    clear c2
    obtain ⟨y208, hy208⟩ : ∃ y_ : List Int, y_ = (y205 ++ l0) := ⟨_, rfl⟩
    replace H : ((sumpterref03_Of.f k l0).bind fun t211 => ((sumpterref03_Bytes.f t211).bind fun t212 => (if y208.length + t212.length < 140737488355328 then (some (y208 ++ t212)) else (none)))) = some r := by first | (rw [hy208]; with_reducible exact H) | (have H2_ := (Option.bind_some _ _).symm.trans H; rw [hy208]; with_reducible exact H2_) | (have H2_ := (Option.bind_some _ _).symm.trans H; with_reducible exact H2_) | with_reducible exact H | (rw [hy208]; exact H) | exact H
    have Ny208 := Aside0.mk hy208
    clear hy208
    replace H := Option.bind_eq_some_iff.mp H
    obtain ⟨t211, A30, H⟩ := H
    replace H : ((sumpterref03_Bytes.f t211).bind fun t212 => (if y208.length + t212.length < 140737488355328 then (some (y208 ++ t212)) else (none))) = some r := H
    have A3 := Aside0.mk A30
    clear A30
    replace H := Option.bind_eq_some_iff.mp H
    obtain ⟨t212, A40, H⟩ := H
    replace H : (if y208.length + t212.length < 140737488355328 then (some (y208 ++ t212)) else (none)) = some r := H
    have A4 := Aside0.mk A40
    clear A40
    by_cases c5 : y208.length + t212.length < 140737488355328
    · rw [if_pos c5] at H
      have LMc5 := Aside0.mk c5
      clear c5
      obtain ⟨y215, hy215⟩ : ∃ y_ : List Int, y_ = (y208 ++ t212) := ⟨_, rfl⟩
      replace H : (some y215) = some r := by first | (rw [hy215]; with_reducible exact H) | (have H2_ := (Option.bind_some _ _).symm.trans H; rw [hy215]; with_reducible exact H2_) | (have H2_ := (Option.bind_some _ _).symm.trans H; with_reducible exact H2_) | with_reducible exact H | (rw [hy215]; exact H) | exact H
      have Ny215 := Aside0.mk hy215
      clear hy215
      obtain rfl := Option.some.inj H
      go_enter Tryd.func76, Tryd.ntmps76
      go_wp2_with (first | ((with_reducible refine gate_dst (N := 3) rfl ?_); refine Kd.R_lit (Kd.int .u8) _ 5 ?hg (N := 3) ?hd (xs := ([] : List Int)) (inner := []) (ok := fun _ => True) (okp := fun _ => True) ?hr ?hp (fun _ hk => hk) trivial (Below.refl _ _) (Nat.le_refl _) (by simp) ?_; (case hd => rfl); (case hg => rfl); (case hr => first | (go_simp; done) | (go_simp; rfl)); (case hp => exact (Reps.none _ _)); intro v206 w6 ho7 hb hg_ hnew_; clear hg_ hnew_; (first | rw [← Ny205.out] at ho7 | (simp only [Int.reduceToNat] at ho7; rw [← Ny205.out] at ho7)); have n0_ := Aside0.mk (Kd.R_lower ho7 (below_size (by repeat (first | (with_reducible first | exact HB.out | apply below_alloc | apply pw_below_drewN | apply below_drew1) | exact HB.out)))); have n1_ := Aside0.mk (below_step (by repeat (first | (with_reducible first | exact HB.out | apply below_alloc | apply pw_below_drewN | apply below_drew1) | exact HB.out)) hb); clear HB; have HO207 := n0_; have HB := n1_; clear n0_ n1_; clear hb ho7) | ((with_reducible refine gate_builtin (b := .append) (xs := #[.tmp 3, .tmp 4]) rfl ?_); at_builtin; refine Kd.R_append_rows (Kd.int .u8) (w0 := w) w.heap.size rfl (.tmp 3) (.tmp 4) 22 5 (.int .u8 0) 1 rfl Tryd.underlying22 info5 rfl (by decide) (by omega) v206 y205 l0 _ _ _ (fun _ => True) (fun _ => False) rfl rfl ?aO ?aR (fun _ _ h => h) (fun _ h => h.elim) ?aF ?aB ?aS ?aL ?_; (case aR => repeat (first | exact (Kd.C_below HR0.out HB.out) | (with_reducible refine Kd.C_alloc ?_ _) | (with_reducible refine Kd.C_drewN ?_ _) | (with_reducible refine Kd.C_drew ?_))); (case aB => exact (by repeat (first | (with_reducible first | exact HB.out | apply below_alloc | apply pw_below_drewN | apply below_drew1) | exact HB.out))); (case aF => exact (fun _ _ => trivial)); (case aO => exact (by (with_reducible repeat (first | apply Kd.R_alloc | apply Kd.R_drewN | apply Kd.R_drew)); exact HO207.out)); (case aS => exact (below_size (by repeat (first | (with_reducible first | exact HB.out | apply below_alloc | apply pw_below_drewN | apply below_drew1) | exact HB.out)))); (case aL => have := LMc2.out; omega); intro v209 w8 ho hb hg hat; rw [← Ny208.out] at ho; have n0_ := Aside0.mk (hb); have n1_ := Aside0.mk (ho); clear HB; clear HO207; have HB := n0_; have HO210 := n1_; clear n0_ n1_; clear ho hb hg hat) | ((with_reducible refine gate_callee (f := 123) rfl ?_); refine goesL_ (some 7) rfl rfl Tryd.func123 (by kernel_rfl) rfl #[.slice A0 l0.length c0] rfl (by (try simp only [List.map_toArray, List.map_cons, List.map_nil]); first | done | rfl | (simp only [List.length_drop, List.length_take]; rfl)) ?_; (with_reducible refine (sumpterref03_Of.calls k _ _ l0 t211 _ ?side1 ?side2 A3.out).mono ?_); (case side1 => repeat (first | exact (Kd.C_below HR0.out HB.out) | (with_reducible refine Kd.C_alloc ?_ _) | (with_reducible refine Kd.C_drewN ?_ _) | (with_reducible refine Kd.C_drew ?_))); (case side2 => exact HC0.out); rintro e w' ⟨rfl, ⟨nd, rfl⟩⟩; refine ⟨_, rfl, ?_⟩) | ((with_reducible refine gate_callee (f := 122) rfl ?_); refine goesL_ (some 8) rfl rfl Tryd.func122 (by kernel_rfl) rfl #[.int .u32 t211] rfl (by (try simp only [List.map_toArray, List.map_cons, List.map_nil]); first | done | rfl | (simp only [List.length_drop, List.length_take]; rfl)) ?_; (with_reducible refine (sumpterref03_Bytes.calls t211 t212 _ A4.out).mono ?_); rintro e w9 ⟨v213, rfl, ho0, hb⟩; refine ⟨_, rfl, ?_⟩; have n0_ := Aside0.mk (Kd.R_elder' (by (with_reducible repeat (first | apply Kd.R_alloc | apply Kd.R_drewN | apply Kd.R_drew)); exact HO210.out) (Kd.R_base ho0) hb); have n1_ := Aside0.mk (Kd.R_lower (Kd.R_new' ho0 (Kd.R_lt (by (with_reducible repeat (first | apply Kd.R_alloc | apply Kd.R_drewN | apply Kd.R_drew)); exact HO210.out))) (below_size (by repeat (first | (with_reducible first | exact HB.out | apply below_alloc | apply pw_below_drewN | apply below_drew1) | exact HB.out)))); have n2_ := Aside0.mk (below_step (by repeat (first | (with_reducible first | exact HB.out | apply below_alloc | apply pw_below_drewN | apply below_drew1) | exact HB.out)) hb); clear HO210; clear HB; have HO210 := n0_; have HO214 := n1_; have HB := n2_; clear n0_ n1_ n2_; (try clear hb); (try clear hb2); (try clear hk); (try clear hi); (try clear ho0); obtain ⟨Ao11, co11, eo11⟩ := Kd.R_slice HO214.out; subst eo11) | ((with_reducible refine gate_builtin (b := .append) (xs := #[.tmp 5, .tmp 8]) rfl ?_); at_builtin; refine Kd.R_append_rows (Kd.int .u8) (w0 := w) w.heap.size rfl (.tmp 5) (.tmp 8) 22 5 (.int .u8 0) 1 rfl Tryd.underlying22 info5 rfl (by decide) (by omega) v209 y208 t212 _ _ _ (fun k_ => some k_ ≠ (.slice Ao11 t212.length co11 : Value).ownBlock) (fun _ => False) rfl rfl ?aO ?aR (fun _ _ h => h) (fun _ h => h.elim) ?aF ?aB ?aS ?aL ?_; (case aR => repeat (first | exact (Kd.R_reads' HO214.out).2.2 | (with_reducible refine Kd.C_alloc ?_ _) | (with_reducible refine Kd.C_drewN ?_ _) | (with_reducible refine Kd.C_drew ?_))); (case aB => exact (by repeat (first | (with_reducible first | exact HB.out | apply below_alloc | apply pw_below_drewN | apply below_drew1) | exact HB.out))); (case aF => exact (fun k_ hk => Kd.fresh' (Kd.R_lt (by (with_reducible repeat (first | apply Kd.R_alloc | apply Kd.R_drewN | apply Kd.R_drew)); exact HO214.out)) k_ hk)); (case aO => exact (by (with_reducible repeat (first | apply Kd.R_alloc | apply Kd.R_drewN | apply Kd.R_drew)); exact Kd.R_mono HO210.out (fun _ hk => hk.2))); (case aS => exact (below_size (by repeat (first | (with_reducible first | exact HB.out | apply below_alloc | apply pw_below_drewN | apply below_drew1) | exact HB.out)))); (case aL => have := LMc5.out; omega); intro v216 w10 ho hb hg hat; rw [← Ny215.out] at ho; have n0_ := Aside0.mk (Kd.R_after (ok := (fun _ => True)) (by (with_reducible repeat (first | apply Kd.R_alloc | apply Kd.R_drewN | apply Kd.R_drew)); exact HO214.out) hg hat); have n1_ := Aside0.mk (hb); have n2_ := Aside0.mk (ho); clear HO214; clear HB; clear HO210; have HO214 := n0_; have HB := n1_; have HO217 := n2_; clear n0_ n1_ n2_; clear ho hb hg hat))
      go_ret
      exact ⟨_, by first | rfl | (simp [errW_none, errW_some] <;> rfl) | (simp [*, errW_none, errW_some] <;> rfl) | (simp_all; done) | (exfalso; simp_all; done) | (exfalso; simp_all [bne]; done), by (with_reducible repeat (first | apply Kd.R_alloc | apply Kd.R_drewN | apply Kd.R_drew)); exact Kd.R_mono HO217.out (fun _ hk => trivial), by repeat (first | (with_reducible first | exact HB.out | apply below_alloc | apply pw_below_drewN | apply below_drew1) | exact HB.out)⟩
    · rw [if_neg c5] at H
      exact absurd H (by simp)
  · rw [if_neg c2] at H
    exact absurd H (by simp)

-- NOT PRINTED: function 25 (sumpterref15_Put)

-- NOT PRINTED: function 7 (sumpterlaw15_RecordPuts)

end Go.Proofs.YtiohgpcbdefokaaDoor.B
/- Contracts of the functions that a statement of the given program reaches, written by a program of this session over the kit's print. No condition. -/
namespace Go.Proofs.YtiohgpcbdefokaaDoor.B
open Go.RowKit Go.Proofs.YtiohgpcbdefokaaDoorW.PrintWords Go.Proofs.YtiohgpcbdefokaaDoorW.PrintLast Go.Proofs.YtiohgpcbdefokaaDoorW.PrintMore
attribute [local go_sem] max2_int min2_int max_two min_two max_three min_three max_four min_four -- for this text's walks alone
set_option linter.unusedVariables false
set_option linter.unusedSimpArgs false

end Go.Proofs.YtiohgpcbdefokaaDoor.B
/- Structs that bear 32 bytes, as lists of cells that stay shut: what a load, a store, a field, a literal and '==' make of them. No condition. -/
namespace Go.Proofs.YtiohgpcbdefokaaDoor.B
open Go.RowKit Go.Proofs.YtiohgpcbdefokaaDoorW.PrintWords
/-- 32 bytes. -/
def Hs : Type := { l : List UInt8 // l.length = 32 }
instance : DecidableEq Hs := fun a b => if h : a.1 = b.1 then .isTrue (Subtype.ext h) else .isFalse (fun e => h (by rw [e]))
def Hs.zero : Hs := ⟨List.replicate 32 0, by simp⟩
instance : Inhabited Hs := ⟨Hs.zero⟩
def hsL (h : Hs) : List Value := h.1.map Extern.Stop.cell
theorem hs_lit (h : Hs) : ∃ b0 b1 b2 b3 b4 b5 b6 b7 b8 b9 b10 b11 b12 b13 b14 b15 b16 b17 b18 b19 b20 b21 b22 b23 b24 b25 b26 b27 b28 b29 b30 b31 : UInt8, hsL h = [Extern.Stop.cell b0, Extern.Stop.cell b1, Extern.Stop.cell b2, Extern.Stop.cell b3, Extern.Stop.cell b4, Extern.Stop.cell b5, Extern.Stop.cell b6, Extern.Stop.cell b7, Extern.Stop.cell b8, Extern.Stop.cell b9, Extern.Stop.cell b10, Extern.Stop.cell b11, Extern.Stop.cell b12, Extern.Stop.cell b13, Extern.Stop.cell b14, Extern.Stop.cell b15, Extern.Stop.cell b16, Extern.Stop.cell b17, Extern.Stop.cell b18, Extern.Stop.cell b19, Extern.Stop.cell b20, Extern.Stop.cell b21, Extern.Stop.cell b22, Extern.Stop.cell b23, Extern.Stop.cell b24, Extern.Stop.cell b25, Extern.Stop.cell b26, Extern.Stop.cell b27, Extern.Stop.cell b28, Extern.Stop.cell b29, Extern.Stop.cell b30, Extern.Stop.cell b31] := by
  obtain ⟨l, hl⟩ := h
  match l, hl with
  | [b0, b1, b2, b3, b4, b5, b6, b7, b8, b9, b10, b11, b12, b13, b14, b15, b16, b17, b18, b19, b20, b21, b22, b23, b24, b25, b26, b27, b28, b29, b30, b31], _ => exact ⟨b0, b1, b2, b3, b4, b5, b6, b7, b8, b9, b10, b11, b12, b13, b14, b15, b16, b17, b18, b19, b20, b21, b22, b23, b24, b25, b26, b27, b28, b29, b30, b31, rfl⟩
theorem hsL_len (h : Hs) : (hsL h).length = 32 := by simp [hsL, h.2]
theorem hsL_one (h : Hs) : ∀ v ∈ hsL h, v.oneCell' = true := by
  intro v hv
  obtain ⟨x, _, rfl⟩ := List.mem_map.1 hv
  rfl
theorem okL_hs (h : Hs) : okL (hsL h) 32 = true := by unfold okL; simp [hsL_len]; exact hsL_one h
theorem beq_hs (a b : Hs) : (a.1 == b.1) = decide (a = b) := by
  by_cases h : a = b
  · subst h; simp
  · have : a.1 ≠ b.1 := fun e => h (Subtype.ext e)
    simp [h, this]
theorem eqA_hs (d : Nat) (a b : Hs) (w : World) : (Op.equalIn (d + 2) 24 (.agg (hsL a).toArray) (.agg (hsL b).toArray)).run Tryd.prog w = .ok (decide (a = b)) w := by
  rw [← beq_hs]
  exact run_equalIn_bytes w d 24 5 32 (by kernel_rfl) (by kernel_rfl) (fun w => Tryd.sizeOf5 w) a.1 b.1 a.2 b.2
theorem str_eq (a b : ByteArray) : (a.toList == b.toList) = decide (a = b) := by
  rw [ByteArray.toList_eq, ByteArray.toList_eq]
  by_cases h : a = b
  · subst h; simp
  · have : a.data.toList ≠ b.data.toList := fun e => h (ByteArray.ext (Array.ext' e))
    simp only [h, decide_false, beq_eq_false_iff_ne]; exact this
theorem beq_bool (a b : Bool) : (a == b) = decide (a = b) := by cases a <;> cases b <;> rfl
theorem lvO_hs (a : Addr) : loadVar 24 a = lvRow 24 a := rfl
theorem ldV_hs (a : Addr) (w : World) : (lvRow 24 a).run Tryd.prog w = rowRun Tryd.prog 24 a w (rowAt w a 32) := loadVar_row Tryd.underlying24 rfl (by kernel_rfl) a w
theorem ldO_hs (v : Value) : Instr.loadAt 24 v = ldRow 24 v := rfl
theorem stO_hs (p v : Value) : Instr.storeAt 24 p v = stRow 24 p v := rfl
theorem ldA_hs (a : Addr) (w : World) : (ldRow 24 (.pointer (some a))).run Tryd.prog w = rowRun Tryd.prog 24 a w (rowAt w a 32) := loadAt_row Tryd.underlying24 rfl (by kernel_rfl) a w
theorem stA_hs (g : Nat) (l : List Value) (w : World) (h1 : isRow w g 32 = true) (h2 : okL l 32 = true) : (stRow 24 (.pointer (some ⟨g, 0, none⟩)) (.agg l.toArray)).run Tryd.prog w = .ok () (w.setRow g l.toArray) := storeAt_row (by kernel_rfl) g l w h1 h2

/-- A struct by value. -/
structure Pt where
  id : Int
  path : ByteArray
  sum : Hs
  size : Int
  off : Int
deriving DecidableEq
def Pt.zero : Pt := ⟨0, ByteArray.empty, Hs.zero, 0, 0⟩
instance : Inhabited Pt := ⟨Pt.zero⟩
def ptL (x : Pt) : List Value := [.int .i64 x.id, .string x.path] ++ (hsL x.sum ++ ([.int .i64 x.size, .int .i64 x.off]))
theorem ptL_len (x : Pt) : (ptL x).length = 36 := by simp [ptL, hsL_len]
theorem ptL_one (x : Pt) : ∀ v ∈ ptL x, v.oneCell' = true := by
  intro v hv
  simp only [ptL, List.mem_append, List.mem_cons, List.not_mem_nil, or_false] at hv
  rcases hv with (rfl | rfl) | (hv | (rfl | rfl)) <;> first | rfl | exact hsL_one _ v hv
theorem okL_pt (x : Pt) : okL (ptL x) 36 = true := by unfold okL; simp only [ptL_len, beq_self_eq_true, Bool.true_and, List.all_eq_true]; exact ptL_one x
theorem size_pt (x : Pt) : (ptL x).toArray.size = 36 := by simp [ptL_len]
theorem get_pt_id (x : Pt) : (ptL x)[0]? = some (.int .i64 x.id) := by
  simp [ptL]
theorem get_pt_path (x : Pt) : (ptL x)[1]? = some (.string x.path) := by
  simp [ptL]
theorem cut_pt_sum (x : Pt) : cutL (ptL x).toArray 2 32 = some (hsL x.sum) := by
  obtain ⟨a0, a1, a2, a3, a4, a5, a6, a7, a8, a9, a10, a11, a12, a13, a14, a15, a16, a17, a18, a19, a20, a21, a22, a23, a24, a25, a26, a27, a28, a29, a30, a31, e0⟩ := hs_lit x.sum
  simp [cutL, ptL, e0]
theorem get_pt_size (x : Pt) : (ptL x)[34]? = some (.int .i64 x.size) := by
  obtain ⟨a0, a1, a2, a3, a4, a5, a6, a7, a8, a9, a10, a11, a12, a13, a14, a15, a16, a17, a18, a19, a20, a21, a22, a23, a24, a25, a26, a27, a28, a29, a30, a31, e0⟩ := hs_lit x.sum
  simp [ptL, e0]
theorem get_pt_off (x : Pt) : (ptL x)[35]? = some (.int .i64 x.off) := by
  obtain ⟨a0, a1, a2, a3, a4, a5, a6, a7, a8, a9, a10, a11, a12, a13, a14, a15, a16, a17, a18, a19, a20, a21, a22, a23, a24, a25, a26, a27, a28, a29, a30, a31, e0⟩ := hs_lit x.sum
  simp [ptL, e0]
theorem cut_pt (x : Pt) : cutL (ptL x).toArray 0 36 = some (ptL x) := by simp [cutL, ptL_len, List.take_of_length_le (Nat.le_of_eq (ptL_len x))]
theorem eta_pt (x : Pt) : Pt.mk x.id x.path x.sum x.size x.off = x := rfl
theorem lenb_pt (x : Pt) : ((ptL x).length == 36) = true := by simp [ptL_len]
theorem lvO_pt (a : Addr) : loadVar 75 a = lvRow 75 a := rfl
theorem ldV_pt (a : Addr) (w : World) : (lvRow 75 a).run Tryd.prog w = rowRun Tryd.prog 75 a w (rowAt w a 36) := loadVar_row Tryd.underlying75 rfl (by kernel_rfl) a w
theorem ldO_pt (v : Value) : Instr.loadAt 75 v = ldRow 75 v := rfl
theorem stO_pt (p v : Value) : Instr.storeAt 75 p v = stRow 75 p v := rfl
theorem ldA_pt (a : Addr) (w : World) : (ldRow 75 (.pointer (some a))).run Tryd.prog w = rowRun Tryd.prog 75 a w (rowAt w a 36) := loadAt_row Tryd.underlying75 rfl (by kernel_rfl) a w
theorem stA_pt (g : Nat) (l : List Value) (w : World) (h1 : isRow w g 36 = true) (h2 : okL l 36 = true) : (stRow 75 (.pointer (some ⟨g, 0, none⟩)) (.agg l.toArray)).run Tryd.prog w = .ok () (w.setRow g l.toArray) := storeAt_row (by kernel_rfl) g l w h1 h2
theorem lv_pt {a : Addr} {w : World} {l : List Value} (h : rowAt w a 36 = some l) : (loadVar 75 a).run Tryd.prog w = .ok (.agg l.toArray) w := by rw [loadVar_row Tryd.underlying75 rfl (by kernel_rfl) a w, h, rowRun_some]
theorem zero_pt (w : World) : (zeroValue 75).run Tryd.prog w = .ok (.agg (ptL Pt.zero).toArray) w := by kernel_rfl
theorem part_pt_id (x : Pt) (w : World) : (part 3 (ptL x).toArray 0).run Tryd.prog w = .ok (.int .i64 x.id) w := by
  obtain ⟨a0, a1, a2, a3, a4, a5, a6, a7, a8, a9, a10, a11, a12, a13, a14, a15, a16, a17, a18, a19, a20, a21, a22, a23, a24, a25, a26, a27, a28, a29, a30, a31, e0⟩ := hs_lit x.sum
  simp only [ptL, e0]
  kernel_rfl
theorem part_pt_path (x : Pt) (w : World) : (part 9 (ptL x).toArray 1).run Tryd.prog w = .ok (.string x.path) w := by
  obtain ⟨a0, a1, a2, a3, a4, a5, a6, a7, a8, a9, a10, a11, a12, a13, a14, a15, a16, a17, a18, a19, a20, a21, a22, a23, a24, a25, a26, a27, a28, a29, a30, a31, e0⟩ := hs_lit x.sum
  simp only [ptL, e0]
  kernel_rfl
theorem part_pt_sum (x : Pt) (w : World) : (part 24 (ptL x).toArray 2).run Tryd.prog w = .ok (.agg (hsL x.sum).toArray) w := by
  obtain ⟨a0, a1, a2, a3, a4, a5, a6, a7, a8, a9, a10, a11, a12, a13, a14, a15, a16, a17, a18, a19, a20, a21, a22, a23, a24, a25, a26, a27, a28, a29, a30, a31, e0⟩ := hs_lit x.sum
  simp only [ptL, e0]
  kernel_rfl
theorem part_pt_size (x : Pt) (w : World) : (part 3 (ptL x).toArray 34).run Tryd.prog w = .ok (.int .i64 x.size) w := by
  obtain ⟨a0, a1, a2, a3, a4, a5, a6, a7, a8, a9, a10, a11, a12, a13, a14, a15, a16, a17, a18, a19, a20, a21, a22, a23, a24, a25, a26, a27, a28, a29, a30, a31, e0⟩ := hs_lit x.sum
  simp only [ptL, e0]
  kernel_rfl
theorem part_pt_off (x : Pt) (w : World) : (part 3 (ptL x).toArray 35).run Tryd.prog w = .ok (.int .i64 x.off) w := by
  obtain ⟨a0, a1, a2, a3, a4, a5, a6, a7, a8, a9, a10, a11, a12, a13, a14, a15, a16, a17, a18, a19, a20, a21, a22, a23, a24, a25, a26, a27, a28, a29, a30, a31, e0⟩ := hs_lit x.sum
  simp only [ptL, e0]
  kernel_rfl
theorem eqA_pt (d : Nat) (a b : Pt) (w : World) : (Op.equalIn (d + 4) 75 (.agg (ptL a).toArray) (.agg (ptL b).toArray)).run Tryd.prog w = .ok (decide (a = b)) w := by
  have e : decide (a = b) = (decide (a.id = b.id) && (decide (a.path = b.path) && (decide (a.sum = b.sum) && (decide (a.size = b.size) && (decide (a.off = b.off)))))) := by
    cases a; cases b; simp
  rw [e]
  refine eqA_of Tryd.underlying75 (by kernel_rfl) ?_
  refine eqf_cons (by rfl) (part_pt_id a w) (part_pt_id b w) (by go_simp; rfl) ?_
  refine eqf_cons (by rfl) (part_pt_path a w) (part_pt_path b w) (by rw [← str_eq]; go_simp) ?_
  refine eqf_cons (by rfl) (part_pt_sum a w) (part_pt_sum b w) (eqA_hs (d + 1) a.sum b.sum w) ?_
  refine eqf_cons (by rfl) (part_pt_size a w) (part_pt_size b w) (by go_simp; rfl) ?_
  exact eqf_last (by rfl) (part_pt_off a w) (part_pt_off b w) (by go_simp; rfl)
theorem lvO_ptR (a : Addr) : loadVar 78 a = lvRow 78 a := rfl
theorem ldV_ptR (a : Addr) (w : World) : (lvRow 78 a).run Tryd.prog w = rowRun Tryd.prog 78 a w (rowAt w a 36) := loadVar_row Tryd.underlying78 rfl (by kernel_rfl) a w
theorem ldO_ptR (v : Value) : Instr.loadAt 78 v = ldRow 78 v := rfl
theorem stO_ptR (p v : Value) : Instr.storeAt 78 p v = stRow 78 p v := rfl
theorem ldA_ptR (a : Addr) (w : World) : (ldRow 78 (.pointer (some a))).run Tryd.prog w = rowRun Tryd.prog 78 a w (rowAt w a 36) := loadAt_row Tryd.underlying78 rfl (by kernel_rfl) a w
theorem stA_ptR (g : Nat) (l : List Value) (w : World) (h1 : isRow w g 36 = true) (h2 : okL l 36 = true) : (stRow 78 (.pointer (some ⟨g, 0, none⟩)) (.agg l.toArray)).run Tryd.prog w = .ok () (w.setRow g l.toArray) := storeAt_row (by kernel_rfl) g l w h1 h2
theorem zero_ptR (w : World) : (zeroValue 78).run Tryd.prog w = .ok (.agg (ptL Pt.zero).toArray) w := by kernel_rfl
theorem part_ptR_id (x : Pt) (w : World) : (part 3 (ptL x).toArray 0).run Tryd.prog w = .ok (.int .i64 x.id) w := by
  obtain ⟨a0, a1, a2, a3, a4, a5, a6, a7, a8, a9, a10, a11, a12, a13, a14, a15, a16, a17, a18, a19, a20, a21, a22, a23, a24, a25, a26, a27, a28, a29, a30, a31, e0⟩ := hs_lit x.sum
  simp only [ptL, e0]
  kernel_rfl
theorem part_ptR_path (x : Pt) (w : World) : (part 9 (ptL x).toArray 1).run Tryd.prog w = .ok (.string x.path) w := by
  obtain ⟨a0, a1, a2, a3, a4, a5, a6, a7, a8, a9, a10, a11, a12, a13, a14, a15, a16, a17, a18, a19, a20, a21, a22, a23, a24, a25, a26, a27, a28, a29, a30, a31, e0⟩ := hs_lit x.sum
  simp only [ptL, e0]
  kernel_rfl
theorem part_ptR_sum (x : Pt) (w : World) : (part 24 (ptL x).toArray 2).run Tryd.prog w = .ok (.agg (hsL x.sum).toArray) w := by
  obtain ⟨a0, a1, a2, a3, a4, a5, a6, a7, a8, a9, a10, a11, a12, a13, a14, a15, a16, a17, a18, a19, a20, a21, a22, a23, a24, a25, a26, a27, a28, a29, a30, a31, e0⟩ := hs_lit x.sum
  simp only [ptL, e0]
  kernel_rfl
theorem part_ptR_size (x : Pt) (w : World) : (part 3 (ptL x).toArray 34).run Tryd.prog w = .ok (.int .i64 x.size) w := by
  obtain ⟨a0, a1, a2, a3, a4, a5, a6, a7, a8, a9, a10, a11, a12, a13, a14, a15, a16, a17, a18, a19, a20, a21, a22, a23, a24, a25, a26, a27, a28, a29, a30, a31, e0⟩ := hs_lit x.sum
  simp only [ptL, e0]
  kernel_rfl
theorem part_ptR_off (x : Pt) (w : World) : (part 3 (ptL x).toArray 35).run Tryd.prog w = .ok (.int .i64 x.off) w := by
  obtain ⟨a0, a1, a2, a3, a4, a5, a6, a7, a8, a9, a10, a11, a12, a13, a14, a15, a16, a17, a18, a19, a20, a21, a22, a23, a24, a25, a26, a27, a28, a29, a30, a31, e0⟩ := hs_lit x.sum
  simp only [ptL, e0]
  kernel_rfl
theorem eqA_ptR (d : Nat) (a b : Pt) (w : World) : (Op.equalIn (d + 4) 78 (.agg (ptL a).toArray) (.agg (ptL b).toArray)).run Tryd.prog w = .ok (decide (a = b)) w := by
  have e : decide (a = b) = (decide (a.id = b.id) && (decide (a.path = b.path) && (decide (a.sum = b.sum) && (decide (a.size = b.size) && (decide (a.off = b.off)))))) := by
    cases a; cases b; simp
  rw [e]
  refine eqA_of Tryd.underlying78 (by kernel_rfl) ?_
  refine eqf_cons (by rfl) (part_ptR_id a w) (part_ptR_id b w) (by go_simp; rfl) ?_
  refine eqf_cons (by rfl) (part_ptR_path a w) (part_ptR_path b w) (by rw [← str_eq]; go_simp) ?_
  refine eqf_cons (by rfl) (part_ptR_sum a w) (part_ptR_sum b w) (eqA_hs (d + 1) a.sum b.sum w) ?_
  refine eqf_cons (by rfl) (part_ptR_size a w) (part_ptR_size b w) (by go_simp; rfl) ?_
  exact eqf_last (by rfl) (part_ptR_off a w) (part_ptR_off b w) (by go_simp; rfl)
/-- A struct by value. -/
structure Rc where
  kind : Int
  id : Int
  path : ByteArray
  sum : Hs
  size : Int
  off : Int
deriving DecidableEq
def Rc.zero : Rc := ⟨0, 0, ByteArray.empty, Hs.zero, 0, 0⟩
instance : Inhabited Rc := ⟨Rc.zero⟩
def rcL (x : Rc) : List Value := [.int .u8 x.kind, .int .i64 x.id, .string x.path] ++ (hsL x.sum ++ ([.int .i64 x.size, .int .i64 x.off]))
theorem rcL_len (x : Rc) : (rcL x).length = 37 := by simp [rcL, hsL_len]
theorem rcL_one (x : Rc) : ∀ v ∈ rcL x, v.oneCell' = true := by
  intro v hv
  simp only [rcL, List.mem_append, List.mem_cons, List.not_mem_nil, or_false] at hv
  rcases hv with (rfl | rfl | rfl) | (hv | (rfl | rfl)) <;> first | rfl | exact hsL_one _ v hv
theorem okL_rc (x : Rc) : okL (rcL x) 37 = true := by unfold okL; simp only [rcL_len, beq_self_eq_true, Bool.true_and, List.all_eq_true]; exact rcL_one x
theorem size_rc (x : Rc) : (rcL x).toArray.size = 37 := by simp [rcL_len]
theorem get_rc_kind (x : Rc) : (rcL x)[0]? = some (.int .u8 x.kind) := by
  simp [rcL]
theorem get_rc_id (x : Rc) : (rcL x)[1]? = some (.int .i64 x.id) := by
  simp [rcL]
theorem get_rc_path (x : Rc) : (rcL x)[2]? = some (.string x.path) := by
  simp [rcL]
theorem cut_rc_sum (x : Rc) : cutL (rcL x).toArray 3 32 = some (hsL x.sum) := by
  obtain ⟨a0, a1, a2, a3, a4, a5, a6, a7, a8, a9, a10, a11, a12, a13, a14, a15, a16, a17, a18, a19, a20, a21, a22, a23, a24, a25, a26, a27, a28, a29, a30, a31, e0⟩ := hs_lit x.sum
  simp [cutL, rcL, e0]
theorem get_rc_size (x : Rc) : (rcL x)[35]? = some (.int .i64 x.size) := by
  obtain ⟨a0, a1, a2, a3, a4, a5, a6, a7, a8, a9, a10, a11, a12, a13, a14, a15, a16, a17, a18, a19, a20, a21, a22, a23, a24, a25, a26, a27, a28, a29, a30, a31, e0⟩ := hs_lit x.sum
  simp [rcL, e0]
theorem get_rc_off (x : Rc) : (rcL x)[36]? = some (.int .i64 x.off) := by
  obtain ⟨a0, a1, a2, a3, a4, a5, a6, a7, a8, a9, a10, a11, a12, a13, a14, a15, a16, a17, a18, a19, a20, a21, a22, a23, a24, a25, a26, a27, a28, a29, a30, a31, e0⟩ := hs_lit x.sum
  simp [rcL, e0]
theorem cut_rc (x : Rc) : cutL (rcL x).toArray 0 37 = some (rcL x) := by simp [cutL, rcL_len, List.take_of_length_le (Nat.le_of_eq (rcL_len x))]
theorem eta_rc (x : Rc) : Rc.mk x.kind x.id x.path x.sum x.size x.off = x := rfl
theorem lenb_rc (x : Rc) : ((rcL x).length == 37) = true := by simp [rcL_len]
theorem lvO_rc (a : Addr) : loadVar 51 a = lvRow 51 a := rfl
theorem ldV_rc (a : Addr) (w : World) : (lvRow 51 a).run Tryd.prog w = rowRun Tryd.prog 51 a w (rowAt w a 37) := loadVar_row Tryd.underlying51 rfl (by kernel_rfl) a w
theorem ldO_rc (v : Value) : Instr.loadAt 51 v = ldRow 51 v := rfl
theorem stO_rc (p v : Value) : Instr.storeAt 51 p v = stRow 51 p v := rfl
theorem ldA_rc (a : Addr) (w : World) : (ldRow 51 (.pointer (some a))).run Tryd.prog w = rowRun Tryd.prog 51 a w (rowAt w a 37) := loadAt_row Tryd.underlying51 rfl (by kernel_rfl) a w
theorem stA_rc (g : Nat) (l : List Value) (w : World) (h1 : isRow w g 37 = true) (h2 : okL l 37 = true) : (stRow 51 (.pointer (some ⟨g, 0, none⟩)) (.agg l.toArray)).run Tryd.prog w = .ok () (w.setRow g l.toArray) := storeAt_row (by kernel_rfl) g l w h1 h2
theorem lv_rc {a : Addr} {w : World} {l : List Value} (h : rowAt w a 37 = some l) : (loadVar 51 a).run Tryd.prog w = .ok (.agg l.toArray) w := by rw [loadVar_row Tryd.underlying51 rfl (by kernel_rfl) a w, h, rowRun_some]
theorem zero_rc (w : World) : (zeroValue 51).run Tryd.prog w = .ok (.agg (rcL Rc.zero).toArray) w := by kernel_rfl
theorem part_rc_kind (x : Rc) (w : World) : (part 49 (rcL x).toArray 0).run Tryd.prog w = .ok (.int .u8 x.kind) w := by
  obtain ⟨a0, a1, a2, a3, a4, a5, a6, a7, a8, a9, a10, a11, a12, a13, a14, a15, a16, a17, a18, a19, a20, a21, a22, a23, a24, a25, a26, a27, a28, a29, a30, a31, e0⟩ := hs_lit x.sum
  simp only [rcL, e0]
  kernel_rfl
theorem part_rc_id (x : Rc) (w : World) : (part 3 (rcL x).toArray 1).run Tryd.prog w = .ok (.int .i64 x.id) w := by
  obtain ⟨a0, a1, a2, a3, a4, a5, a6, a7, a8, a9, a10, a11, a12, a13, a14, a15, a16, a17, a18, a19, a20, a21, a22, a23, a24, a25, a26, a27, a28, a29, a30, a31, e0⟩ := hs_lit x.sum
  simp only [rcL, e0]
  kernel_rfl
theorem part_rc_path (x : Rc) (w : World) : (part 9 (rcL x).toArray 2).run Tryd.prog w = .ok (.string x.path) w := by
  obtain ⟨a0, a1, a2, a3, a4, a5, a6, a7, a8, a9, a10, a11, a12, a13, a14, a15, a16, a17, a18, a19, a20, a21, a22, a23, a24, a25, a26, a27, a28, a29, a30, a31, e0⟩ := hs_lit x.sum
  simp only [rcL, e0]
  kernel_rfl
theorem part_rc_sum (x : Rc) (w : World) : (part 24 (rcL x).toArray 3).run Tryd.prog w = .ok (.agg (hsL x.sum).toArray) w := by
  obtain ⟨a0, a1, a2, a3, a4, a5, a6, a7, a8, a9, a10, a11, a12, a13, a14, a15, a16, a17, a18, a19, a20, a21, a22, a23, a24, a25, a26, a27, a28, a29, a30, a31, e0⟩ := hs_lit x.sum
  simp only [rcL, e0]
  kernel_rfl
theorem part_rc_size (x : Rc) (w : World) : (part 3 (rcL x).toArray 35).run Tryd.prog w = .ok (.int .i64 x.size) w := by
  obtain ⟨a0, a1, a2, a3, a4, a5, a6, a7, a8, a9, a10, a11, a12, a13, a14, a15, a16, a17, a18, a19, a20, a21, a22, a23, a24, a25, a26, a27, a28, a29, a30, a31, e0⟩ := hs_lit x.sum
  simp only [rcL, e0]
  kernel_rfl
theorem part_rc_off (x : Rc) (w : World) : (part 3 (rcL x).toArray 36).run Tryd.prog w = .ok (.int .i64 x.off) w := by
  obtain ⟨a0, a1, a2, a3, a4, a5, a6, a7, a8, a9, a10, a11, a12, a13, a14, a15, a16, a17, a18, a19, a20, a21, a22, a23, a24, a25, a26, a27, a28, a29, a30, a31, e0⟩ := hs_lit x.sum
  simp only [rcL, e0]
  kernel_rfl
theorem eqA_rc (d : Nat) (a b : Rc) (w : World) : (Op.equalIn (d + 4) 51 (.agg (rcL a).toArray) (.agg (rcL b).toArray)).run Tryd.prog w = .ok (decide (a = b)) w := by
  have e : decide (a = b) = (decide (a.kind = b.kind) && (decide (a.id = b.id) && (decide (a.path = b.path) && (decide (a.sum = b.sum) && (decide (a.size = b.size) && (decide (a.off = b.off))))))) := by
    cases a; cases b; simp
  rw [e]
  refine eqA_of Tryd.underlying51 (by kernel_rfl) ?_
  refine eqf_cons (by rfl) (part_rc_kind a w) (part_rc_kind b w) (by go_simp; rfl) ?_
  refine eqf_cons (by rfl) (part_rc_id a w) (part_rc_id b w) (by go_simp; rfl) ?_
  refine eqf_cons (by rfl) (part_rc_path a w) (part_rc_path b w) (by rw [← str_eq]; go_simp) ?_
  refine eqf_cons (by rfl) (part_rc_sum a w) (part_rc_sum b w) (eqA_hs (d + 1) a.sum b.sum w) ?_
  refine eqf_cons (by rfl) (part_rc_size a w) (part_rc_size b w) (by go_simp; rfl) ?_
  exact eqf_last (by rfl) (part_rc_off a w) (part_rc_off b w) (by go_simp; rfl)
theorem lvO_rcR (a : Addr) : loadVar 47 a = lvRow 47 a := rfl
theorem ldV_rcR (a : Addr) (w : World) : (lvRow 47 a).run Tryd.prog w = rowRun Tryd.prog 47 a w (rowAt w a 37) := loadVar_row Tryd.underlying47 rfl (by kernel_rfl) a w
theorem ldO_rcR (v : Value) : Instr.loadAt 47 v = ldRow 47 v := rfl
theorem stO_rcR (p v : Value) : Instr.storeAt 47 p v = stRow 47 p v := rfl
theorem ldA_rcR (a : Addr) (w : World) : (ldRow 47 (.pointer (some a))).run Tryd.prog w = rowRun Tryd.prog 47 a w (rowAt w a 37) := loadAt_row Tryd.underlying47 rfl (by kernel_rfl) a w
theorem stA_rcR (g : Nat) (l : List Value) (w : World) (h1 : isRow w g 37 = true) (h2 : okL l 37 = true) : (stRow 47 (.pointer (some ⟨g, 0, none⟩)) (.agg l.toArray)).run Tryd.prog w = .ok () (w.setRow g l.toArray) := storeAt_row (by kernel_rfl) g l w h1 h2
theorem zero_rcR (w : World) : (zeroValue 47).run Tryd.prog w = .ok (.agg (rcL Rc.zero).toArray) w := by kernel_rfl
theorem part_rcR_kind (x : Rc) (w : World) : (part 5 (rcL x).toArray 0).run Tryd.prog w = .ok (.int .u8 x.kind) w := by
  obtain ⟨a0, a1, a2, a3, a4, a5, a6, a7, a8, a9, a10, a11, a12, a13, a14, a15, a16, a17, a18, a19, a20, a21, a22, a23, a24, a25, a26, a27, a28, a29, a30, a31, e0⟩ := hs_lit x.sum
  simp only [rcL, e0]
  kernel_rfl
theorem part_rcR_id (x : Rc) (w : World) : (part 3 (rcL x).toArray 1).run Tryd.prog w = .ok (.int .i64 x.id) w := by
  obtain ⟨a0, a1, a2, a3, a4, a5, a6, a7, a8, a9, a10, a11, a12, a13, a14, a15, a16, a17, a18, a19, a20, a21, a22, a23, a24, a25, a26, a27, a28, a29, a30, a31, e0⟩ := hs_lit x.sum
  simp only [rcL, e0]
  kernel_rfl
theorem part_rcR_path (x : Rc) (w : World) : (part 9 (rcL x).toArray 2).run Tryd.prog w = .ok (.string x.path) w := by
  obtain ⟨a0, a1, a2, a3, a4, a5, a6, a7, a8, a9, a10, a11, a12, a13, a14, a15, a16, a17, a18, a19, a20, a21, a22, a23, a24, a25, a26, a27, a28, a29, a30, a31, e0⟩ := hs_lit x.sum
  simp only [rcL, e0]
  kernel_rfl
theorem part_rcR_sum (x : Rc) (w : World) : (part 24 (rcL x).toArray 3).run Tryd.prog w = .ok (.agg (hsL x.sum).toArray) w := by
  obtain ⟨a0, a1, a2, a3, a4, a5, a6, a7, a8, a9, a10, a11, a12, a13, a14, a15, a16, a17, a18, a19, a20, a21, a22, a23, a24, a25, a26, a27, a28, a29, a30, a31, e0⟩ := hs_lit x.sum
  simp only [rcL, e0]
  kernel_rfl
theorem part_rcR_size (x : Rc) (w : World) : (part 3 (rcL x).toArray 35).run Tryd.prog w = .ok (.int .i64 x.size) w := by
  obtain ⟨a0, a1, a2, a3, a4, a5, a6, a7, a8, a9, a10, a11, a12, a13, a14, a15, a16, a17, a18, a19, a20, a21, a22, a23, a24, a25, a26, a27, a28, a29, a30, a31, e0⟩ := hs_lit x.sum
  simp only [rcL, e0]
  kernel_rfl
theorem part_rcR_off (x : Rc) (w : World) : (part 3 (rcL x).toArray 36).run Tryd.prog w = .ok (.int .i64 x.off) w := by
  obtain ⟨a0, a1, a2, a3, a4, a5, a6, a7, a8, a9, a10, a11, a12, a13, a14, a15, a16, a17, a18, a19, a20, a21, a22, a23, a24, a25, a26, a27, a28, a29, a30, a31, e0⟩ := hs_lit x.sum
  simp only [rcL, e0]
  kernel_rfl
theorem eqA_rcR (d : Nat) (a b : Rc) (w : World) : (Op.equalIn (d + 4) 47 (.agg (rcL a).toArray) (.agg (rcL b).toArray)).run Tryd.prog w = .ok (decide (a = b)) w := by
  have e : decide (a = b) = (decide (a.kind = b.kind) && (decide (a.id = b.id) && (decide (a.path = b.path) && (decide (a.sum = b.sum) && (decide (a.size = b.size) && (decide (a.off = b.off))))))) := by
    cases a; cases b; simp
  rw [e]
  refine eqA_of Tryd.underlying47 (by kernel_rfl) ?_
  refine eqf_cons (by rfl) (part_rcR_kind a w) (part_rcR_kind b w) (by go_simp; rfl) ?_
  refine eqf_cons (by rfl) (part_rcR_id a w) (part_rcR_id b w) (by go_simp; rfl) ?_
  refine eqf_cons (by rfl) (part_rcR_path a w) (part_rcR_path b w) (by rw [← str_eq]; go_simp) ?_
  refine eqf_cons (by rfl) (part_rcR_sum a w) (part_rcR_sum b w) (eqA_hs (d + 1) a.sum b.sum w) ?_
  refine eqf_cons (by rfl) (part_rcR_size a w) (part_rcR_size b w) (by go_simp; rfl) ?_
  exact eqf_last (by rfl) (part_rcR_off a w) (part_rcR_off b w) (by go_simp; rfl)
/-- A struct by value. -/
structure Tk where
  path : ByteArray
  sum : Hs
  size : Int
  off : Int
  old : Hs
deriving DecidableEq
def Tk.zero : Tk := ⟨ByteArray.empty, Hs.zero, 0, 0, Hs.zero⟩
instance : Inhabited Tk := ⟨Tk.zero⟩
def tkL (x : Tk) : List Value := [.string x.path] ++ (hsL x.sum ++ ([.int .i64 x.size, .int .i64 x.off] ++ (hsL x.old)))
theorem tkL_len (x : Tk) : (tkL x).length = 67 := by simp [tkL, hsL_len]
theorem tkL_one (x : Tk) : ∀ v ∈ tkL x, v.oneCell' = true := by
  intro v hv
  simp only [tkL, List.mem_append, List.mem_cons, List.not_mem_nil, or_false] at hv
  rcases hv with rfl | (hv | ((rfl | rfl) | (hv))) <;> first | rfl | exact hsL_one _ v hv
theorem okL_tk (x : Tk) : okL (tkL x) 67 = true := by unfold okL; simp only [tkL_len, beq_self_eq_true, Bool.true_and, List.all_eq_true]; exact tkL_one x
theorem size_tk (x : Tk) : (tkL x).toArray.size = 67 := by simp [tkL_len]
theorem get_tk_path (x : Tk) : (tkL x)[0]? = some (.string x.path) := by
  simp [tkL]
theorem cut_tk_sum (x : Tk) : cutL (tkL x).toArray 1 32 = some (hsL x.sum) := by
  obtain ⟨a0, a1, a2, a3, a4, a5, a6, a7, a8, a9, a10, a11, a12, a13, a14, a15, a16, a17, a18, a19, a20, a21, a22, a23, a24, a25, a26, a27, a28, a29, a30, a31, e0⟩ := hs_lit x.sum; obtain ⟨b0, b1, b2, b3, b4, b5, b6, b7, b8, b9, b10, b11, b12, b13, b14, b15, b16, b17, b18, b19, b20, b21, b22, b23, b24, b25, b26, b27, b28, b29, b30, b31, e1⟩ := hs_lit x.old
  simp [cutL, tkL, e0, e1]
theorem get_tk_size (x : Tk) : (tkL x)[33]? = some (.int .i64 x.size) := by
  obtain ⟨a0, a1, a2, a3, a4, a5, a6, a7, a8, a9, a10, a11, a12, a13, a14, a15, a16, a17, a18, a19, a20, a21, a22, a23, a24, a25, a26, a27, a28, a29, a30, a31, e0⟩ := hs_lit x.sum; obtain ⟨b0, b1, b2, b3, b4, b5, b6, b7, b8, b9, b10, b11, b12, b13, b14, b15, b16, b17, b18, b19, b20, b21, b22, b23, b24, b25, b26, b27, b28, b29, b30, b31, e1⟩ := hs_lit x.old
  simp [tkL, e0, e1]
theorem get_tk_off (x : Tk) : (tkL x)[34]? = some (.int .i64 x.off) := by
  obtain ⟨a0, a1, a2, a3, a4, a5, a6, a7, a8, a9, a10, a11, a12, a13, a14, a15, a16, a17, a18, a19, a20, a21, a22, a23, a24, a25, a26, a27, a28, a29, a30, a31, e0⟩ := hs_lit x.sum; obtain ⟨b0, b1, b2, b3, b4, b5, b6, b7, b8, b9, b10, b11, b12, b13, b14, b15, b16, b17, b18, b19, b20, b21, b22, b23, b24, b25, b26, b27, b28, b29, b30, b31, e1⟩ := hs_lit x.old
  simp [tkL, e0, e1]
theorem cut_tk_old (x : Tk) : cutL (tkL x).toArray 35 32 = some (hsL x.old) := by
  obtain ⟨a0, a1, a2, a3, a4, a5, a6, a7, a8, a9, a10, a11, a12, a13, a14, a15, a16, a17, a18, a19, a20, a21, a22, a23, a24, a25, a26, a27, a28, a29, a30, a31, e0⟩ := hs_lit x.sum; obtain ⟨b0, b1, b2, b3, b4, b5, b6, b7, b8, b9, b10, b11, b12, b13, b14, b15, b16, b17, b18, b19, b20, b21, b22, b23, b24, b25, b26, b27, b28, b29, b30, b31, e1⟩ := hs_lit x.old
  simp [cutL, tkL, e0, e1]
theorem cut_tk (x : Tk) : cutL (tkL x).toArray 0 67 = some (tkL x) := by simp [cutL, tkL_len, List.take_of_length_le (Nat.le_of_eq (tkL_len x))]
theorem eta_tk (x : Tk) : Tk.mk x.path x.sum x.size x.off x.old = x := rfl
theorem lenb_tk (x : Tk) : ((tkL x).length == 67) = true := by simp [tkL_len]
theorem lvO_tk (a : Addr) : loadVar 33 a = lvRow 33 a := rfl
theorem ldV_tk (a : Addr) (w : World) : (lvRow 33 a).run Tryd.prog w = rowRun Tryd.prog 33 a w (rowAt w a 67) := loadVar_row Tryd.underlying33 rfl (by kernel_rfl) a w
theorem ldO_tk (v : Value) : Instr.loadAt 33 v = ldRow 33 v := rfl
theorem stO_tk (p v : Value) : Instr.storeAt 33 p v = stRow 33 p v := rfl
theorem ldA_tk (a : Addr) (w : World) : (ldRow 33 (.pointer (some a))).run Tryd.prog w = rowRun Tryd.prog 33 a w (rowAt w a 67) := loadAt_row Tryd.underlying33 rfl (by kernel_rfl) a w
theorem stA_tk (g : Nat) (l : List Value) (w : World) (h1 : isRow w g 67 = true) (h2 : okL l 67 = true) : (stRow 33 (.pointer (some ⟨g, 0, none⟩)) (.agg l.toArray)).run Tryd.prog w = .ok () (w.setRow g l.toArray) := storeAt_row (by kernel_rfl) g l w h1 h2
theorem zero_tk (w : World) : (zeroValue 33).run Tryd.prog w = .ok (.agg (tkL Tk.zero).toArray) w := by kernel_rfl
theorem part_tk_path (x : Tk) (w : World) : (part 9 (tkL x).toArray 0).run Tryd.prog w = .ok (.string x.path) w := by
  obtain ⟨a0, a1, a2, a3, a4, a5, a6, a7, a8, a9, a10, a11, a12, a13, a14, a15, a16, a17, a18, a19, a20, a21, a22, a23, a24, a25, a26, a27, a28, a29, a30, a31, e0⟩ := hs_lit x.sum; obtain ⟨b0, b1, b2, b3, b4, b5, b6, b7, b8, b9, b10, b11, b12, b13, b14, b15, b16, b17, b18, b19, b20, b21, b22, b23, b24, b25, b26, b27, b28, b29, b30, b31, e1⟩ := hs_lit x.old
  simp only [tkL, e0, e1]
  kernel_rfl
theorem part_tk_sum (x : Tk) (w : World) : (part 24 (tkL x).toArray 1).run Tryd.prog w = .ok (.agg (hsL x.sum).toArray) w := by
  obtain ⟨a0, a1, a2, a3, a4, a5, a6, a7, a8, a9, a10, a11, a12, a13, a14, a15, a16, a17, a18, a19, a20, a21, a22, a23, a24, a25, a26, a27, a28, a29, a30, a31, e0⟩ := hs_lit x.sum; obtain ⟨b0, b1, b2, b3, b4, b5, b6, b7, b8, b9, b10, b11, b12, b13, b14, b15, b16, b17, b18, b19, b20, b21, b22, b23, b24, b25, b26, b27, b28, b29, b30, b31, e1⟩ := hs_lit x.old
  simp only [tkL, e0, e1]
  kernel_rfl
theorem part_tk_size (x : Tk) (w : World) : (part 3 (tkL x).toArray 33).run Tryd.prog w = .ok (.int .i64 x.size) w := by
  obtain ⟨a0, a1, a2, a3, a4, a5, a6, a7, a8, a9, a10, a11, a12, a13, a14, a15, a16, a17, a18, a19, a20, a21, a22, a23, a24, a25, a26, a27, a28, a29, a30, a31, e0⟩ := hs_lit x.sum; obtain ⟨b0, b1, b2, b3, b4, b5, b6, b7, b8, b9, b10, b11, b12, b13, b14, b15, b16, b17, b18, b19, b20, b21, b22, b23, b24, b25, b26, b27, b28, b29, b30, b31, e1⟩ := hs_lit x.old
  simp only [tkL, e0, e1]
  kernel_rfl
theorem part_tk_off (x : Tk) (w : World) : (part 3 (tkL x).toArray 34).run Tryd.prog w = .ok (.int .i64 x.off) w := by
  obtain ⟨a0, a1, a2, a3, a4, a5, a6, a7, a8, a9, a10, a11, a12, a13, a14, a15, a16, a17, a18, a19, a20, a21, a22, a23, a24, a25, a26, a27, a28, a29, a30, a31, e0⟩ := hs_lit x.sum; obtain ⟨b0, b1, b2, b3, b4, b5, b6, b7, b8, b9, b10, b11, b12, b13, b14, b15, b16, b17, b18, b19, b20, b21, b22, b23, b24, b25, b26, b27, b28, b29, b30, b31, e1⟩ := hs_lit x.old
  simp only [tkL, e0, e1]
  kernel_rfl
theorem part_tk_old (x : Tk) (w : World) : (part 24 (tkL x).toArray 35).run Tryd.prog w = .ok (.agg (hsL x.old).toArray) w := by
  obtain ⟨a0, a1, a2, a3, a4, a5, a6, a7, a8, a9, a10, a11, a12, a13, a14, a15, a16, a17, a18, a19, a20, a21, a22, a23, a24, a25, a26, a27, a28, a29, a30, a31, e0⟩ := hs_lit x.sum; obtain ⟨b0, b1, b2, b3, b4, b5, b6, b7, b8, b9, b10, b11, b12, b13, b14, b15, b16, b17, b18, b19, b20, b21, b22, b23, b24, b25, b26, b27, b28, b29, b30, b31, e1⟩ := hs_lit x.old
  simp only [tkL, e0, e1]
  kernel_rfl
theorem eqA_tk (d : Nat) (a b : Tk) (w : World) : (Op.equalIn (d + 4) 33 (.agg (tkL a).toArray) (.agg (tkL b).toArray)).run Tryd.prog w = .ok (decide (a = b)) w := by
  have e : decide (a = b) = (decide (a.path = b.path) && (decide (a.sum = b.sum) && (decide (a.size = b.size) && (decide (a.off = b.off) && (decide (a.old = b.old)))))) := by
    cases a; cases b; simp
  rw [e]
  refine eqA_of Tryd.underlying33 (by kernel_rfl) ?_
  refine eqf_cons (by rfl) (part_tk_path a w) (part_tk_path b w) (by rw [← str_eq]; go_simp) ?_
  refine eqf_cons (by rfl) (part_tk_sum a w) (part_tk_sum b w) (eqA_hs (d + 1) a.sum b.sum w) ?_
  refine eqf_cons (by rfl) (part_tk_size a w) (part_tk_size b w) (by go_simp; rfl) ?_
  refine eqf_cons (by rfl) (part_tk_off a w) (part_tk_off b w) (by go_simp; rfl) ?_
  exact eqf_last (by rfl) (part_tk_old a w) (part_tk_old b w) (eqA_hs (d + 1) a.old b.old w)
theorem lvO_tkR (a : Addr) : loadVar 26 a = lvRow 26 a := rfl
theorem ldV_tkR (a : Addr) (w : World) : (lvRow 26 a).run Tryd.prog w = rowRun Tryd.prog 26 a w (rowAt w a 67) := loadVar_row Tryd.underlying26 rfl (by kernel_rfl) a w
theorem ldO_tkR (v : Value) : Instr.loadAt 26 v = ldRow 26 v := rfl
theorem stO_tkR (p v : Value) : Instr.storeAt 26 p v = stRow 26 p v := rfl
theorem ldA_tkR (a : Addr) (w : World) : (ldRow 26 (.pointer (some a))).run Tryd.prog w = rowRun Tryd.prog 26 a w (rowAt w a 67) := loadAt_row Tryd.underlying26 rfl (by kernel_rfl) a w
theorem stA_tkR (g : Nat) (l : List Value) (w : World) (h1 : isRow w g 67 = true) (h2 : okL l 67 = true) : (stRow 26 (.pointer (some ⟨g, 0, none⟩)) (.agg l.toArray)).run Tryd.prog w = .ok () (w.setRow g l.toArray) := storeAt_row (by kernel_rfl) g l w h1 h2
theorem zero_tkR (w : World) : (zeroValue 26).run Tryd.prog w = .ok (.agg (tkL Tk.zero).toArray) w := by kernel_rfl
theorem part_tkR_path (x : Tk) (w : World) : (part 9 (tkL x).toArray 0).run Tryd.prog w = .ok (.string x.path) w := by
  obtain ⟨a0, a1, a2, a3, a4, a5, a6, a7, a8, a9, a10, a11, a12, a13, a14, a15, a16, a17, a18, a19, a20, a21, a22, a23, a24, a25, a26, a27, a28, a29, a30, a31, e0⟩ := hs_lit x.sum; obtain ⟨b0, b1, b2, b3, b4, b5, b6, b7, b8, b9, b10, b11, b12, b13, b14, b15, b16, b17, b18, b19, b20, b21, b22, b23, b24, b25, b26, b27, b28, b29, b30, b31, e1⟩ := hs_lit x.old
  simp only [tkL, e0, e1]
  kernel_rfl
theorem part_tkR_sum (x : Tk) (w : World) : (part 24 (tkL x).toArray 1).run Tryd.prog w = .ok (.agg (hsL x.sum).toArray) w := by
  obtain ⟨a0, a1, a2, a3, a4, a5, a6, a7, a8, a9, a10, a11, a12, a13, a14, a15, a16, a17, a18, a19, a20, a21, a22, a23, a24, a25, a26, a27, a28, a29, a30, a31, e0⟩ := hs_lit x.sum; obtain ⟨b0, b1, b2, b3, b4, b5, b6, b7, b8, b9, b10, b11, b12, b13, b14, b15, b16, b17, b18, b19, b20, b21, b22, b23, b24, b25, b26, b27, b28, b29, b30, b31, e1⟩ := hs_lit x.old
  simp only [tkL, e0, e1]
  kernel_rfl
theorem part_tkR_size (x : Tk) (w : World) : (part 3 (tkL x).toArray 33).run Tryd.prog w = .ok (.int .i64 x.size) w := by
  obtain ⟨a0, a1, a2, a3, a4, a5, a6, a7, a8, a9, a10, a11, a12, a13, a14, a15, a16, a17, a18, a19, a20, a21, a22, a23, a24, a25, a26, a27, a28, a29, a30, a31, e0⟩ := hs_lit x.sum; obtain ⟨b0, b1, b2, b3, b4, b5, b6, b7, b8, b9, b10, b11, b12, b13, b14, b15, b16, b17, b18, b19, b20, b21, b22, b23, b24, b25, b26, b27, b28, b29, b30, b31, e1⟩ := hs_lit x.old
  simp only [tkL, e0, e1]
  kernel_rfl
theorem part_tkR_off (x : Tk) (w : World) : (part 3 (tkL x).toArray 34).run Tryd.prog w = .ok (.int .i64 x.off) w := by
  obtain ⟨a0, a1, a2, a3, a4, a5, a6, a7, a8, a9, a10, a11, a12, a13, a14, a15, a16, a17, a18, a19, a20, a21, a22, a23, a24, a25, a26, a27, a28, a29, a30, a31, e0⟩ := hs_lit x.sum; obtain ⟨b0, b1, b2, b3, b4, b5, b6, b7, b8, b9, b10, b11, b12, b13, b14, b15, b16, b17, b18, b19, b20, b21, b22, b23, b24, b25, b26, b27, b28, b29, b30, b31, e1⟩ := hs_lit x.old
  simp only [tkL, e0, e1]
  kernel_rfl
theorem part_tkR_old (x : Tk) (w : World) : (part 24 (tkL x).toArray 35).run Tryd.prog w = .ok (.agg (hsL x.old).toArray) w := by
  obtain ⟨a0, a1, a2, a3, a4, a5, a6, a7, a8, a9, a10, a11, a12, a13, a14, a15, a16, a17, a18, a19, a20, a21, a22, a23, a24, a25, a26, a27, a28, a29, a30, a31, e0⟩ := hs_lit x.sum; obtain ⟨b0, b1, b2, b3, b4, b5, b6, b7, b8, b9, b10, b11, b12, b13, b14, b15, b16, b17, b18, b19, b20, b21, b22, b23, b24, b25, b26, b27, b28, b29, b30, b31, e1⟩ := hs_lit x.old
  simp only [tkL, e0, e1]
  kernel_rfl
theorem eqA_tkR (d : Nat) (a b : Tk) (w : World) : (Op.equalIn (d + 4) 26 (.agg (tkL a).toArray) (.agg (tkL b).toArray)).run Tryd.prog w = .ok (decide (a = b)) w := by
  have e : decide (a = b) = (decide (a.path = b.path) && (decide (a.sum = b.sum) && (decide (a.size = b.size) && (decide (a.off = b.off) && (decide (a.old = b.old)))))) := by
    cases a; cases b; simp
  rw [e]
  refine eqA_of Tryd.underlying26 (by kernel_rfl) ?_
  refine eqf_cons (by rfl) (part_tkR_path a w) (part_tkR_path b w) (by rw [← str_eq]; go_simp) ?_
  refine eqf_cons (by rfl) (part_tkR_sum a w) (part_tkR_sum b w) (eqA_hs (d + 1) a.sum b.sum w) ?_
  refine eqf_cons (by rfl) (part_tkR_size a w) (part_tkR_size b w) (by go_simp; rfl) ?_
  refine eqf_cons (by rfl) (part_tkR_off a w) (part_tkR_off b w) (by go_simp; rfl) ?_
  exact eqf_last (by rfl) (part_tkR_old a w) (part_tkR_old b w) (eqA_hs (d + 1) a.old b.old w)
/-- A struct by value. -/
structure It where
  path : ByteArray
  dir : Bool
  size : Int
  sum : Hs
deriving DecidableEq
def It.zero : It := ⟨ByteArray.empty, false, 0, Hs.zero⟩
instance : Inhabited It := ⟨It.zero⟩
def itL (x : It) : List Value := [.string x.path, .bool x.dir, .int .i64 x.size] ++ (hsL x.sum)
theorem itL_len (x : It) : (itL x).length = 35 := by simp [itL, hsL_len]
theorem itL_one (x : It) : ∀ v ∈ itL x, v.oneCell' = true := by
  intro v hv
  simp only [itL, List.mem_append, List.mem_cons, List.not_mem_nil, or_false] at hv
  rcases hv with (rfl | rfl | rfl) | (hv) <;> first | rfl | exact hsL_one _ v hv
theorem okL_it (x : It) : okL (itL x) 35 = true := by unfold okL; simp only [itL_len, beq_self_eq_true, Bool.true_and, List.all_eq_true]; exact itL_one x
theorem size_it (x : It) : (itL x).toArray.size = 35 := by simp [itL_len]
theorem get_it_path (x : It) : (itL x)[0]? = some (.string x.path) := by
  simp [itL]
theorem get_it_dir (x : It) : (itL x)[1]? = some (.bool x.dir) := by
  simp [itL]
theorem get_it_size (x : It) : (itL x)[2]? = some (.int .i64 x.size) := by
  simp [itL]
theorem cut_it_sum (x : It) : cutL (itL x).toArray 3 32 = some (hsL x.sum) := by
  obtain ⟨a0, a1, a2, a3, a4, a5, a6, a7, a8, a9, a10, a11, a12, a13, a14, a15, a16, a17, a18, a19, a20, a21, a22, a23, a24, a25, a26, a27, a28, a29, a30, a31, e0⟩ := hs_lit x.sum
  simp [cutL, itL, e0]
theorem cut_it (x : It) : cutL (itL x).toArray 0 35 = some (itL x) := by simp [cutL, itL_len, List.take_of_length_le (Nat.le_of_eq (itL_len x))]
theorem eta_it (x : It) : It.mk x.path x.dir x.size x.sum = x := rfl
theorem lenb_it (x : It) : ((itL x).length == 35) = true := by simp [itL_len]
theorem lvO_it (a : Addr) : loadVar 28 a = lvRow 28 a := rfl
theorem ldV_it (a : Addr) (w : World) : (lvRow 28 a).run Tryd.prog w = rowRun Tryd.prog 28 a w (rowAt w a 35) := loadVar_row Tryd.underlying28 rfl (by kernel_rfl) a w
theorem ldO_it (v : Value) : Instr.loadAt 28 v = ldRow 28 v := rfl
theorem stO_it (p v : Value) : Instr.storeAt 28 p v = stRow 28 p v := rfl
theorem ldA_it (a : Addr) (w : World) : (ldRow 28 (.pointer (some a))).run Tryd.prog w = rowRun Tryd.prog 28 a w (rowAt w a 35) := loadAt_row Tryd.underlying28 rfl (by kernel_rfl) a w
theorem stA_it (g : Nat) (l : List Value) (w : World) (h1 : isRow w g 35 = true) (h2 : okL l 35 = true) : (stRow 28 (.pointer (some ⟨g, 0, none⟩)) (.agg l.toArray)).run Tryd.prog w = .ok () (w.setRow g l.toArray) := storeAt_row (by kernel_rfl) g l w h1 h2
theorem zero_it (w : World) : (zeroValue 28).run Tryd.prog w = .ok (.agg (itL It.zero).toArray) w := by kernel_rfl
theorem part_it_path (x : It) (w : World) : (part 9 (itL x).toArray 0).run Tryd.prog w = .ok (.string x.path) w := by
  obtain ⟨a0, a1, a2, a3, a4, a5, a6, a7, a8, a9, a10, a11, a12, a13, a14, a15, a16, a17, a18, a19, a20, a21, a22, a23, a24, a25, a26, a27, a28, a29, a30, a31, e0⟩ := hs_lit x.sum
  simp only [itL, e0]
  kernel_rfl
theorem part_it_dir (x : It) (w : World) : (part 4 (itL x).toArray 1).run Tryd.prog w = .ok (.bool x.dir) w := by
  obtain ⟨a0, a1, a2, a3, a4, a5, a6, a7, a8, a9, a10, a11, a12, a13, a14, a15, a16, a17, a18, a19, a20, a21, a22, a23, a24, a25, a26, a27, a28, a29, a30, a31, e0⟩ := hs_lit x.sum
  simp only [itL, e0]
  kernel_rfl
theorem part_it_size (x : It) (w : World) : (part 3 (itL x).toArray 2).run Tryd.prog w = .ok (.int .i64 x.size) w := by
  obtain ⟨a0, a1, a2, a3, a4, a5, a6, a7, a8, a9, a10, a11, a12, a13, a14, a15, a16, a17, a18, a19, a20, a21, a22, a23, a24, a25, a26, a27, a28, a29, a30, a31, e0⟩ := hs_lit x.sum
  simp only [itL, e0]
  kernel_rfl
theorem part_it_sum (x : It) (w : World) : (part 24 (itL x).toArray 3).run Tryd.prog w = .ok (.agg (hsL x.sum).toArray) w := by
  obtain ⟨a0, a1, a2, a3, a4, a5, a6, a7, a8, a9, a10, a11, a12, a13, a14, a15, a16, a17, a18, a19, a20, a21, a22, a23, a24, a25, a26, a27, a28, a29, a30, a31, e0⟩ := hs_lit x.sum
  simp only [itL, e0]
  kernel_rfl
theorem eqA_it (d : Nat) (a b : It) (w : World) : (Op.equalIn (d + 4) 28 (.agg (itL a).toArray) (.agg (itL b).toArray)).run Tryd.prog w = .ok (decide (a = b)) w := by
  have e : decide (a = b) = (decide (a.path = b.path) && (decide (a.dir = b.dir) && (decide (a.size = b.size) && (decide (a.sum = b.sum))))) := by
    cases a; cases b; simp
  rw [e]
  refine eqA_of Tryd.underlying28 (by kernel_rfl) ?_
  refine eqf_cons (by rfl) (part_it_path a w) (part_it_path b w) (by rw [← str_eq]; go_simp) ?_
  refine eqf_cons (by rfl) (part_it_dir a w) (part_it_dir b w) (by go_simp; exact beq_bool _ _) ?_
  refine eqf_cons (by rfl) (part_it_size a w) (part_it_size b w) (by go_simp; rfl) ?_
  exact eqf_last (by rfl) (part_it_sum a w) (part_it_sum b w) (eqA_hs (d + 1) a.sum b.sum w)
theorem bld_pt_01234 (x0 : Int) (x1 : ByteArray) (x2 : Hs) (x3 : Int) (x4 : Int) (w : World) : (bldRow 75 #[(0, .int .i64 x0), (1, .string x1), (2, .agg (hsL x2).toArray), (3, .int .i64 x3), (4, .int .i64 x4)]).run Tryd.prog w = .ok (.agg (ptL ⟨x0, x1, x2, x3, x4⟩).toArray) w := by
  obtain ⟨a0, a1, a2, a3, a4, a5, a6, a7, a8, a9, a10, a11, a12, a13, a14, a15, a16, a17, a18, a19, a20, a21, a22, a23, a24, a25, a26, a27, a28, a29, a30, a31, e0⟩ := hs_lit x2
  simp only [ptL, e0]
  kernel_rfl
theorem bld_pt_0123 (x0 : Int) (x1 : ByteArray) (x2 : Hs) (x3 : Int) (w : World) : (bldRow 75 #[(0, .int .i64 x0), (1, .string x1), (2, .agg (hsL x2).toArray), (3, .int .i64 x3)]).run Tryd.prog w = .ok (.agg (ptL ⟨x0, x1, x2, x3, 0⟩).toArray) w := by
  obtain ⟨a0, a1, a2, a3, a4, a5, a6, a7, a8, a9, a10, a11, a12, a13, a14, a15, a16, a17, a18, a19, a20, a21, a22, a23, a24, a25, a26, a27, a28, a29, a30, a31, e0⟩ := hs_lit x2
  simp only [ptL, e0]
  kernel_rfl
theorem bld_pt_z  (w : World) : (bldRow 75 #[]).run Tryd.prog w = .ok (.agg (ptL ⟨0, ByteArray.empty, Hs.zero, 0, 0⟩).toArray) w := by
  simp only [ptL]
  kernel_rfl
theorem blO_pt (ps : Array (Nat × Value)) : Instr.build 75 ps = bldRow 75 ps := rfl
theorem bld_ptR_01234 (x0 : Int) (x1 : ByteArray) (x2 : Hs) (x3 : Int) (x4 : Int) (w : World) : (bldRow 78 #[(0, .int .i64 x0), (1, .string x1), (2, .agg (hsL x2).toArray), (3, .int .i64 x3), (4, .int .i64 x4)]).run Tryd.prog w = .ok (.agg (ptL ⟨x0, x1, x2, x3, x4⟩).toArray) w := by
  obtain ⟨a0, a1, a2, a3, a4, a5, a6, a7, a8, a9, a10, a11, a12, a13, a14, a15, a16, a17, a18, a19, a20, a21, a22, a23, a24, a25, a26, a27, a28, a29, a30, a31, e0⟩ := hs_lit x2
  simp only [ptL, e0]
  kernel_rfl
theorem bld_ptR_0123 (x0 : Int) (x1 : ByteArray) (x2 : Hs) (x3 : Int) (w : World) : (bldRow 78 #[(0, .int .i64 x0), (1, .string x1), (2, .agg (hsL x2).toArray), (3, .int .i64 x3)]).run Tryd.prog w = .ok (.agg (ptL ⟨x0, x1, x2, x3, 0⟩).toArray) w := by
  obtain ⟨a0, a1, a2, a3, a4, a5, a6, a7, a8, a9, a10, a11, a12, a13, a14, a15, a16, a17, a18, a19, a20, a21, a22, a23, a24, a25, a26, a27, a28, a29, a30, a31, e0⟩ := hs_lit x2
  simp only [ptL, e0]
  kernel_rfl
theorem bld_ptR_z  (w : World) : (bldRow 78 #[]).run Tryd.prog w = .ok (.agg (ptL ⟨0, ByteArray.empty, Hs.zero, 0, 0⟩).toArray) w := by
  simp only [ptL]
  kernel_rfl
theorem blO_ptR (ps : Array (Nat × Value)) : Instr.build 78 ps = bldRow 78 ps := rfl
theorem bld_rc_012345 (x0 : Int) (x1 : Int) (x2 : ByteArray) (x3 : Hs) (x4 : Int) (x5 : Int) (w : World) : (bldRow 51 #[(0, .int .u8 x0), (1, .int .i64 x1), (2, .string x2), (3, .agg (hsL x3).toArray), (4, .int .i64 x4), (5, .int .i64 x5)]).run Tryd.prog w = .ok (.agg (rcL ⟨x0, x1, x2, x3, x4, x5⟩).toArray) w := by
  obtain ⟨a0, a1, a2, a3, a4, a5, a6, a7, a8, a9, a10, a11, a12, a13, a14, a15, a16, a17, a18, a19, a20, a21, a22, a23, a24, a25, a26, a27, a28, a29, a30, a31, e0⟩ := hs_lit x3
  simp only [rcL, e0]
  kernel_rfl
theorem bld_rc_015 (x0 : Int) (x1 : Int) (x5 : Int) (w : World) : (bldRow 51 #[(0, .int .u8 x0), (1, .int .i64 x1), (5, .int .i64 x5)]).run Tryd.prog w = .ok (.agg (rcL ⟨x0, x1, ByteArray.empty, Hs.zero, 0, x5⟩).toArray) w := by
  simp only [rcL]
  kernel_rfl
theorem bld_rc_01 (x0 : Int) (x1 : Int) (w : World) : (bldRow 51 #[(0, .int .u8 x0), (1, .int .i64 x1)]).run Tryd.prog w = .ok (.agg (rcL ⟨x0, x1, ByteArray.empty, Hs.zero, 0, 0⟩).toArray) w := by
  simp only [rcL]
  kernel_rfl
theorem bld_rc_z  (w : World) : (bldRow 51 #[]).run Tryd.prog w = .ok (.agg (rcL ⟨0, 0, ByteArray.empty, Hs.zero, 0, 0⟩).toArray) w := by
  simp only [rcL]
  kernel_rfl
theorem bld_rc_01234 (x0 : Int) (x1 : Int) (x2 : ByteArray) (x3 : Hs) (x4 : Int) (w : World) : (bldRow 51 #[(0, .int .u8 x0), (1, .int .i64 x1), (2, .string x2), (3, .agg (hsL x3).toArray), (4, .int .i64 x4)]).run Tryd.prog w = .ok (.agg (rcL ⟨x0, x1, x2, x3, x4, 0⟩).toArray) w := by
  obtain ⟨a0, a1, a2, a3, a4, a5, a6, a7, a8, a9, a10, a11, a12, a13, a14, a15, a16, a17, a18, a19, a20, a21, a22, a23, a24, a25, a26, a27, a28, a29, a30, a31, e0⟩ := hs_lit x3
  simp only [rcL, e0]
  kernel_rfl
theorem bld_rc_24 (x2 : ByteArray) (x4 : Int) (w : World) : (bldRow 51 #[(2, .string x2), (4, .int .i64 x4)]).run Tryd.prog w = .ok (.agg (rcL ⟨0, 0, x2, Hs.zero, x4, 0⟩).toArray) w := by
  simp only [rcL]
  kernel_rfl
theorem bld_rc_05 (x0 : Int) (x5 : Int) (w : World) : (bldRow 51 #[(0, .int .u8 x0), (5, .int .i64 x5)]).run Tryd.prog w = .ok (.agg (rcL ⟨x0, 0, ByteArray.empty, Hs.zero, 0, x5⟩).toArray) w := by
  simp only [rcL]
  kernel_rfl
theorem bld_rc_0 (x0 : Int) (w : World) : (bldRow 51 #[(0, .int .u8 x0)]).run Tryd.prog w = .ok (.agg (rcL ⟨x0, 0, ByteArray.empty, Hs.zero, 0, 0⟩).toArray) w := by
  simp only [rcL]
  kernel_rfl
theorem blO_rc (ps : Array (Nat × Value)) : Instr.build 51 ps = bldRow 51 ps := rfl
theorem bld_rcR_012345 (x0 : Int) (x1 : Int) (x2 : ByteArray) (x3 : Hs) (x4 : Int) (x5 : Int) (w : World) : (bldRow 47 #[(0, .int .u8 x0), (1, .int .i64 x1), (2, .string x2), (3, .agg (hsL x3).toArray), (4, .int .i64 x4), (5, .int .i64 x5)]).run Tryd.prog w = .ok (.agg (rcL ⟨x0, x1, x2, x3, x4, x5⟩).toArray) w := by
  obtain ⟨a0, a1, a2, a3, a4, a5, a6, a7, a8, a9, a10, a11, a12, a13, a14, a15, a16, a17, a18, a19, a20, a21, a22, a23, a24, a25, a26, a27, a28, a29, a30, a31, e0⟩ := hs_lit x3
  simp only [rcL, e0]
  kernel_rfl
theorem bld_rcR_015 (x0 : Int) (x1 : Int) (x5 : Int) (w : World) : (bldRow 47 #[(0, .int .u8 x0), (1, .int .i64 x1), (5, .int .i64 x5)]).run Tryd.prog w = .ok (.agg (rcL ⟨x0, x1, ByteArray.empty, Hs.zero, 0, x5⟩).toArray) w := by
  simp only [rcL]
  kernel_rfl
theorem bld_rcR_01 (x0 : Int) (x1 : Int) (w : World) : (bldRow 47 #[(0, .int .u8 x0), (1, .int .i64 x1)]).run Tryd.prog w = .ok (.agg (rcL ⟨x0, x1, ByteArray.empty, Hs.zero, 0, 0⟩).toArray) w := by
  simp only [rcL]
  kernel_rfl
theorem bld_rcR_z  (w : World) : (bldRow 47 #[]).run Tryd.prog w = .ok (.agg (rcL ⟨0, 0, ByteArray.empty, Hs.zero, 0, 0⟩).toArray) w := by
  simp only [rcL]
  kernel_rfl
theorem bld_rcR_01234 (x0 : Int) (x1 : Int) (x2 : ByteArray) (x3 : Hs) (x4 : Int) (w : World) : (bldRow 47 #[(0, .int .u8 x0), (1, .int .i64 x1), (2, .string x2), (3, .agg (hsL x3).toArray), (4, .int .i64 x4)]).run Tryd.prog w = .ok (.agg (rcL ⟨x0, x1, x2, x3, x4, 0⟩).toArray) w := by
  obtain ⟨a0, a1, a2, a3, a4, a5, a6, a7, a8, a9, a10, a11, a12, a13, a14, a15, a16, a17, a18, a19, a20, a21, a22, a23, a24, a25, a26, a27, a28, a29, a30, a31, e0⟩ := hs_lit x3
  simp only [rcL, e0]
  kernel_rfl
theorem bld_rcR_24 (x2 : ByteArray) (x4 : Int) (w : World) : (bldRow 47 #[(2, .string x2), (4, .int .i64 x4)]).run Tryd.prog w = .ok (.agg (rcL ⟨0, 0, x2, Hs.zero, x4, 0⟩).toArray) w := by
  simp only [rcL]
  kernel_rfl
theorem bld_rcR_05 (x0 : Int) (x5 : Int) (w : World) : (bldRow 47 #[(0, .int .u8 x0), (5, .int .i64 x5)]).run Tryd.prog w = .ok (.agg (rcL ⟨x0, 0, ByteArray.empty, Hs.zero, 0, x5⟩).toArray) w := by
  simp only [rcL]
  kernel_rfl
theorem bld_rcR_0 (x0 : Int) (w : World) : (bldRow 47 #[(0, .int .u8 x0)]).run Tryd.prog w = .ok (.agg (rcL ⟨x0, 0, ByteArray.empty, Hs.zero, 0, 0⟩).toArray) w := by
  simp only [rcL]
  kernel_rfl
theorem blO_rcR (ps : Array (Nat × Value)) : Instr.build 47 ps = bldRow 47 ps := rfl
theorem bld_tk_01234 (x0 : ByteArray) (x1 : Hs) (x2 : Int) (x3 : Int) (x4 : Hs) (w : World) : (bldRow 33 #[(0, .string x0), (1, .agg (hsL x1).toArray), (2, .int .i64 x2), (3, .int .i64 x3), (4, .agg (hsL x4).toArray)]).run Tryd.prog w = .ok (.agg (tkL ⟨x0, x1, x2, x3, x4⟩).toArray) w := by
  obtain ⟨a0, a1, a2, a3, a4, a5, a6, a7, a8, a9, a10, a11, a12, a13, a14, a15, a16, a17, a18, a19, a20, a21, a22, a23, a24, a25, a26, a27, a28, a29, a30, a31, e0⟩ := hs_lit x1
  obtain ⟨b0, b1, b2, b3, b4, b5, b6, b7, b8, b9, b10, b11, b12, b13, b14, b15, b16, b17, b18, b19, b20, b21, b22, b23, b24, b25, b26, b27, b28, b29, b30, b31, e1⟩ := hs_lit x4
  simp only [tkL, e0, e1]
  kernel_rfl
theorem bld_tk_0 (x0 : ByteArray) (w : World) : (bldRow 33 #[(0, .string x0)]).run Tryd.prog w = .ok (.agg (tkL ⟨x0, Hs.zero, 0, 0, Hs.zero⟩).toArray) w := by
  simp only [tkL]
  kernel_rfl
theorem bld_tk_z  (w : World) : (bldRow 33 #[]).run Tryd.prog w = .ok (.agg (tkL ⟨ByteArray.empty, Hs.zero, 0, 0, Hs.zero⟩).toArray) w := by
  simp only [tkL]
  kernel_rfl
theorem blO_tk (ps : Array (Nat × Value)) : Instr.build 33 ps = bldRow 33 ps := rfl
theorem bld_tkR_01234 (x0 : ByteArray) (x1 : Hs) (x2 : Int) (x3 : Int) (x4 : Hs) (w : World) : (bldRow 26 #[(0, .string x0), (1, .agg (hsL x1).toArray), (2, .int .i64 x2), (3, .int .i64 x3), (4, .agg (hsL x4).toArray)]).run Tryd.prog w = .ok (.agg (tkL ⟨x0, x1, x2, x3, x4⟩).toArray) w := by
  obtain ⟨a0, a1, a2, a3, a4, a5, a6, a7, a8, a9, a10, a11, a12, a13, a14, a15, a16, a17, a18, a19, a20, a21, a22, a23, a24, a25, a26, a27, a28, a29, a30, a31, e0⟩ := hs_lit x1
  obtain ⟨b0, b1, b2, b3, b4, b5, b6, b7, b8, b9, b10, b11, b12, b13, b14, b15, b16, b17, b18, b19, b20, b21, b22, b23, b24, b25, b26, b27, b28, b29, b30, b31, e1⟩ := hs_lit x4
  simp only [tkL, e0, e1]
  kernel_rfl
theorem bld_tkR_0 (x0 : ByteArray) (w : World) : (bldRow 26 #[(0, .string x0)]).run Tryd.prog w = .ok (.agg (tkL ⟨x0, Hs.zero, 0, 0, Hs.zero⟩).toArray) w := by
  simp only [tkL]
  kernel_rfl
theorem bld_tkR_z  (w : World) : (bldRow 26 #[]).run Tryd.prog w = .ok (.agg (tkL ⟨ByteArray.empty, Hs.zero, 0, 0, Hs.zero⟩).toArray) w := by
  simp only [tkL]
  kernel_rfl
theorem blO_tkR (ps : Array (Nat × Value)) : Instr.build 26 ps = bldRow 26 ps := rfl
theorem bld_it_0123 (x0 : ByteArray) (x1 : Bool) (x2 : Int) (x3 : Hs) (w : World) : (bldRow 28 #[(0, .string x0), (1, .bool x1), (2, .int .i64 x2), (3, .agg (hsL x3).toArray)]).run Tryd.prog w = .ok (.agg (itL ⟨x0, x1, x2, x3⟩).toArray) w := by
  obtain ⟨a0, a1, a2, a3, a4, a5, a6, a7, a8, a9, a10, a11, a12, a13, a14, a15, a16, a17, a18, a19, a20, a21, a22, a23, a24, a25, a26, a27, a28, a29, a30, a31, e0⟩ := hs_lit x3
  simp only [itL, e0]
  kernel_rfl
theorem bld_it_023 (x0 : ByteArray) (x2 : Int) (x3 : Hs) (w : World) : (bldRow 28 #[(0, .string x0), (2, .int .i64 x2), (3, .agg (hsL x3).toArray)]).run Tryd.prog w = .ok (.agg (itL ⟨x0, false, x2, x3⟩).toArray) w := by
  obtain ⟨a0, a1, a2, a3, a4, a5, a6, a7, a8, a9, a10, a11, a12, a13, a14, a15, a16, a17, a18, a19, a20, a21, a22, a23, a24, a25, a26, a27, a28, a29, a30, a31, e0⟩ := hs_lit x3
  simp only [itL, e0]
  kernel_rfl
theorem bld_it_01 (x0 : ByteArray) (x1 : Bool) (w : World) : (bldRow 28 #[(0, .string x0), (1, .bool x1)]).run Tryd.prog w = .ok (.agg (itL ⟨x0, x1, 0, Hs.zero⟩).toArray) w := by
  simp only [itL]
  kernel_rfl
theorem bld_it_0 (x0 : ByteArray) (w : World) : (bldRow 28 #[(0, .string x0)]).run Tryd.prog w = .ok (.agg (itL ⟨x0, false, 0, Hs.zero⟩).toArray) w := by
  simp only [itL]
  kernel_rfl
theorem bld_it_z  (w : World) : (bldRow 28 #[]).run Tryd.prog w = .ok (.agg (itL ⟨ByteArray.empty, false, 0, Hs.zero⟩).toArray) w := by
  simp only [itL]
  kernel_rfl
theorem blO_it (ps : Array (Nat × Value)) : Instr.build 28 ps = bldRow 28 ps := rfl
theorem bsO_pt (n : Nat) (ps : Array (Nat × Value)) : Instr.buildSlice 58 n ps = bslRow 58 n ps := rfl
theorem bs0_pt (w : World) : (bslRow 58 0 #[]).run Tryd.prog w = .ok (.slice (some ⟨w.heap.size, 0, none⟩) 0 0) (w.alloc (.cells #[] 75)) := by kernel_rfl
theorem bs1_pt (x : Pt) (w : World) : (bslRow 58 1 #[(0, .agg (ptL x).toArray)]).run Tryd.prog w = .ok (.slice (some ⟨w.heap.size, 0, none⟩) 1 1) (w.alloc (.cells (ptL x).toArray 75)) := by
  obtain ⟨a0, a1, a2, a3, a4, a5, a6, a7, a8, a9, a10, a11, a12, a13, a14, a15, a16, a17, a18, a19, a20, a21, a22, a23, a24, a25, a26, a27, a28, a29, a30, a31, e0⟩ := hs_lit x.sum
  simp only [ptL, e0]
  kernel_rfl
theorem bsO_ptR (n : Nat) (ps : Array (Nat × Value)) : Instr.buildSlice 61 n ps = bslRow 61 n ps := rfl
theorem bs0_ptR (w : World) : (bslRow 61 0 #[]).run Tryd.prog w = .ok (.slice (some ⟨w.heap.size, 0, none⟩) 0 0) (w.alloc (.cells #[] 78)) := by kernel_rfl
theorem bs1_ptR (x : Pt) (w : World) : (bslRow 61 1 #[(0, .agg (ptL x).toArray)]).run Tryd.prog w = .ok (.slice (some ⟨w.heap.size, 0, none⟩) 1 1) (w.alloc (.cells (ptL x).toArray 78)) := by
  obtain ⟨a0, a1, a2, a3, a4, a5, a6, a7, a8, a9, a10, a11, a12, a13, a14, a15, a16, a17, a18, a19, a20, a21, a22, a23, a24, a25, a26, a27, a28, a29, a30, a31, e0⟩ := hs_lit x.sum
  simp only [ptL, e0]
  kernel_rfl
theorem bsO_rc (n : Nat) (ps : Array (Nat × Value)) : Instr.buildSlice 57 n ps = bslRow 57 n ps := rfl
theorem bs0_rc (w : World) : (bslRow 57 0 #[]).run Tryd.prog w = .ok (.slice (some ⟨w.heap.size, 0, none⟩) 0 0) (w.alloc (.cells #[] 51)) := by kernel_rfl
theorem bs1_rc (x : Rc) (w : World) : (bslRow 57 1 #[(0, .agg (rcL x).toArray)]).run Tryd.prog w = .ok (.slice (some ⟨w.heap.size, 0, none⟩) 1 1) (w.alloc (.cells (rcL x).toArray 51)) := by
  obtain ⟨a0, a1, a2, a3, a4, a5, a6, a7, a8, a9, a10, a11, a12, a13, a14, a15, a16, a17, a18, a19, a20, a21, a22, a23, a24, a25, a26, a27, a28, a29, a30, a31, e0⟩ := hs_lit x.sum
  simp only [rcL, e0]
  kernel_rfl
theorem bsO_rcR (n : Nat) (ps : Array (Nat × Value)) : Instr.buildSlice 56 n ps = bslRow 56 n ps := rfl
theorem bs0_rcR (w : World) : (bslRow 56 0 #[]).run Tryd.prog w = .ok (.slice (some ⟨w.heap.size, 0, none⟩) 0 0) (w.alloc (.cells #[] 47)) := by kernel_rfl
theorem bs1_rcR (x : Rc) (w : World) : (bslRow 56 1 #[(0, .agg (rcL x).toArray)]).run Tryd.prog w = .ok (.slice (some ⟨w.heap.size, 0, none⟩) 1 1) (w.alloc (.cells (rcL x).toArray 47)) := by
  obtain ⟨a0, a1, a2, a3, a4, a5, a6, a7, a8, a9, a10, a11, a12, a13, a14, a15, a16, a17, a18, a19, a20, a21, a22, a23, a24, a25, a26, a27, a28, a29, a30, a31, e0⟩ := hs_lit x.sum
  simp only [rcL, e0]
  kernel_rfl
theorem bsO_it (n : Nat) (ps : Array (Nat × Value)) : Instr.buildSlice 91 n ps = bslRow 91 n ps := rfl
theorem bs0_it (w : World) : (bslRow 91 0 #[]).run Tryd.prog w = .ok (.slice (some ⟨w.heap.size, 0, none⟩) 0 0) (w.alloc (.cells #[] 28)) := by kernel_rfl
theorem bs1_it (x : It) (w : World) : (bslRow 91 1 #[(0, .agg (itL x).toArray)]).run Tryd.prog w = .ok (.slice (some ⟨w.heap.size, 0, none⟩) 1 1) (w.alloc (.cells (itL x).toArray 28)) := by
  obtain ⟨a0, a1, a2, a3, a4, a5, a6, a7, a8, a9, a10, a11, a12, a13, a14, a15, a16, a17, a18, a19, a20, a21, a22, a23, a24, a25, a26, a27, a28, a29, a30, a31, e0⟩ := hs_lit x.sum
  simp only [itL, e0]
  kernel_rfl
end Go.Proofs.YtiohgpcbdefokaaDoor.B
/- Records and the states that they make, in plain words; the kinds of their rows in memory. No condition. -/
namespace Go.Proofs.YtiohgpcbdefokaaDoor.B
open Go.RowKit Go.Proofs.YtiohgpcbdefokaaDoorW.PrintWords
theorem adds (a : Addr) (i j : Nat) : (a.add i).add j = a.add (i + j) := by
  obtain ⟨b, o, s⟩ := a
  cases s <;> unfold Addr.add <;> (repeat' split) <;> simp_all <;> omega
/-- A kind whose elements are lists of cells of one length. -/
def flat {α : Type} (n : Nat) (enc : α → List Value) (hl : ∀ x, (enc x).length = n) (h1 : ∀ x, ∀ v ∈ enc x, v.oneCell' = true) : Kd α where
  sz := n
  E := []
  K := fun _ x cs => cs = enc x
  M := fun _ _ _ x cs => cs = enc x
  K_len := fun h => by rw [h]; exact hl _
  K_one := fun h u hu => by rw [h] at hu; exact h1 _ u hu
  K_below := fun _ h => h
  K_of_M := fun h => h
  M_mono := fun _ h => h
  M_bound := fun h => h
  M_move := fun _ h => h
  M_lower := fun _ h => h
def kPt : Kd Pt := flat 36 ptL ptL_len ptL_one
def kRc : Kd Rc := flat 37 rcL rcL_len rcL_one
theorem flat_row {α : Type} {n : Nat} {enc : α → List Value} {hl : ∀ x, (enc x).length = n} {h1 : ∀ x, ∀ v ∈ enc x, v.oneCell' = true} {w : World} {A : Option Addr} {m : Nat} {xs : List α} (h : Kd.C (flat n enc hl h1) w A m xs) (i : Nat) (hi : i < m) :
    ∃ ad, A = some ad ∧ ∀ (hi' : i < xs.length), rowAt w (ad.add (i * n)) n = some (enc xs[i]) := by
  obtain ⟨h0, _, h2⟩ := h
  obtain ⟨ad, rfl, hc⟩ := h2 (by omega)
  refine ⟨ad, rfl, fun hi' => ?_⟩
  obtain ⟨cs, hcl, hk, hu⟩ := hc i xs[i] (List.getElem?_eq_getElem hi')
  have hk : cs = enc xs[i] := hk
  subst hk
  exact rowAt_of (hl _) fun j v hv => by rw [adds]; exact hu j v hv
/-- A slice that reads: its address is plain, its elements lie there. -/
theorem flat_at {α : Type} {n : Nat} {enc : α → List Value} {hl : ∀ x, (enc x).length = n} {h1 : ∀ x, ∀ v ∈ enc x, v.oneCell' = true} {w : World} {A : Option Addr} {m : Nat} {xs : List α} (h : Kd.C (flat n enc hl h1) w A m xs) (hn : 0 < n) (hm : 0 < m) :
    ∃ b o, A = some ⟨b, o, none⟩ ∧ b < w.heap.size ∧ ∀ i (hi : i < xs.length), rowAt w ⟨b, o + i * n, none⟩ n = some (enc xs[i]) ∧ ∀ j v, (enc xs[i])[j]? = some v → w.cell? ⟨b, o + i * n + j, none⟩ = some v := by
  have hx := h.1
  obtain ⟨ad, rfl, hr⟩ := flat_row h 0 hm
  have h0 := (rowAt_some (hr (by omega))).2 0 _ (List.getElem?_eq_getElem (show 0 < (enc xs[0]).length by rw [hl]; exact hn))
  have e0 : (ad.add (0 * n)).add 0 = ad := by simp [Addr.add]
  rw [e0] at h0
  have hsp : ad.spot = none := by
    unfold World.cell? at h0
    split at h0
    · split at h0
      · cases h0
      · rename_i hs; simpa using hs
    · cases h0
  obtain ⟨b, o, sp⟩ := ad
  obtain rfl : sp = none := hsp
  refine ⟨b, o, rfl, World.block_lt_of_cell? _ _ h0, fun i hi => ?_⟩
  obtain ⟨ad2, e2, hr2⟩ := flat_row h i (by omega)
  injection e2 with e2
  subst e2
  have := hr2 hi
  rw [Addr.add_mid] at this
  refine ⟨this, fun j v hv => ?_⟩
  have h3 := (rowAt_some this).2 j v hv
  rwa [Addr.add_mid] at h3
end Go.Proofs.YtiohgpcbdefokaaDoor.B
/- How law 15's arguments are read: a row of records. No condition. -/
namespace Go.Proofs.YtiohgpcbdefokaaDoor.B
open Go.RowKit Go.Proofs.YtiohgpcbdefokaaDoorW.PrintWords Go.Proofs.YtiohgpcbdefokaaDoor.Opens Go.ChangeShapes Go.WideShapes
def kHs : Kd Hs := flat 32 hsL hsL_len hsL_one
theorem hs_of {cs : List Value} (hl : cs.length = 32) (h : ∀ i (hi : i < cs.length), ∃ b : UInt8, cs[i] = Extern.Stop.cell b) : ∃ x : Hs, hsL x = cs := by
  have hh : ∀ i : Fin 32, ∃ b : UInt8, cs[i.1]'(by omega) = Extern.Stop.cell b := fun i => h i.1 (by omega)
  let f : Fin 32 → UInt8 := fun i => Classical.choose (hh i)
  have hf : ∀ i : Fin 32, cs[i.1]'(by omega) = Extern.Stop.cell (f i) := fun i => Classical.choose_spec (hh i)
  obtain ⟨y, hy⟩ : ∃ y : Hs, y.1 = List.ofFn f := ⟨⟨List.ofFn f, by simp⟩, rfl⟩
  refine ⟨y, ?_⟩
  have e : hsL y = (List.ofFn f).map Extern.Stop.cell := by unfold hsL; rw [hy]
  rw [e]
  refine List.ext_getElem (by simp [hl]) fun i h1 h2 => ?_
  have hi : i < 32 := by rw [hl] at h2; exact h2
  rw [List.getElem_map, List.getElem_ofFn]
  exact (hf ⟨i, hi⟩).symm
set_option maxRecDepth 100000 in
theorem opens_hs : Opens Tryd.prog 24 kHs (fun _ => True) := by
  intro H enc W base spare held fuel cs x hx
  cases fuel with
  | zero => simp [DataW.trod] at hx
  | succ n =>
    unfold DataW.trod at hx
    rw [Tryd.underlying24] at hx
    simp only at hx
    split at hx
    · rename_i hl
      obtain ⟨xs, hxs, _⟩ := Option.map_eq_some_iff.1 hx
      have hl32 : cs.length = 32 := by
        have : Tryd.prog.cellsOf 24 = 32 := by kernel_rfl
        simpa [this] using hl
      have he : Tryd.prog.cellsOf 5 = 1 := by kernel_rfl
      obtain ⟨y, hy⟩ := hs_of hl32 fun i hi => by
        obtain ⟨z, hz⟩ := mapM_each hxs i (by simp; omega)
        simp only [he, Nat.mul_one] at hz
        obtain ⟨m, hm, _, hw⟩ := DataW.trod_int Tryd.underlying5 hz
        have e1 : cs[i] = .int .u8 m := by
          have : (cs.drop i).take 1 = [cs[i]] := by rw [List.drop_eq_getElem_cons hi]; rfl
          rw [this] at hm
          injection hm
        have h8 := bounds_u8 hw
        refine ⟨m.toNat.toUInt8, ?_⟩
        rw [e1]
        show Value.int .u8 m = Value.int .u8 ((m.toNat.toUInt8).toNat : Int)
        congr 1
        rw [UInt8.toNat_ofNat']
        omega
      exact ⟨y, hy.symm, trivial⟩
    · cases hx
abbrev RcT := Int × Int × ByteArray × Hs × Int × Int
def toRc (x : RcT) : Rc := ⟨x.1, x.2.1, x.2.2.1, x.2.2.2.1, x.2.2.2.2.1, x.2.2.2.2.2⟩
def kRT : Kd RcT := Kd.pair (Kd.int .u8) (Kd.pair (Kd.int .i64) (Kd.pair Kd.string (Kd.pair kHs (Kd.pair (Kd.int .i64) (Kd.int .i64)))))
def okRT (x : RcT) : Prop := (Lit.int .u8 x.1).wf = true ∧ (Lit.int .i64 x.2.1).wf = true ∧ x.2.2.1.size ≤ 9223372036854775807 ∧ True ∧ (Lit.int .i64 x.2.2.2.2.1).wf = true ∧ (Lit.int .i64 x.2.2.2.2.2).wf = true
theorem kRT_open {w : World} {x : RcT} {cs : List Value} (h : kRT.K w x cs) : cs = rcL (toRc x) := by
  obtain ⟨c1, c2, e, h1, c3, c4, e2, h2, c5, c6, e3, h3, c7, c8, e4, h4, c9, c10, e5, h5, h6⟩ := h
  have h1' : c1 = [.int .u8 x.1] := h1
  have h2' : c3 = [.int .i64 x.2.1] := h2
  have h3' : c5 = [.string x.2.2.1] := h3
  have h4' : c7 = hsL x.2.2.2.1 := h4
  have h5' : c9 = [.int .i64 x.2.2.2.2.1] := h5
  have h6' : c10 = [.int .i64 x.2.2.2.2.2] := h6
  rw [e, e2, e3, e4, e5, h1', h2', h3', h4', h5', h6']
  simp [rcL, toRc]
theorem opens_rc : Opens Tryd.prog 47 kRT okRT :=
  opens_struct (fun x : RcT => x) (fun y => y) (fun _ => rfl) Tryd.underlying47 (by kernel_rfl) (at_cons (off := 0) (off' := 1) (opens_int Tryd.underlying5) (at_cons (off := 1) (off' := 2) (opens_int Tryd.underlying3) (at_cons (off := 2) (off' := 3) (opens_string Tryd.underlying9) (at_cons (off := 3) (off' := 35) opens_hs (at_cons (off := 35) (off' := 36) (opens_int Tryd.underlying3) (at_last (off := 36) (opens_int Tryd.underlying3) (by kernel_rfl)) (by kernel_rfl)) (by kernel_rfl)) (by kernel_rfl)) (by kernel_rfl)) (by kernel_rfl))
end Go.Proofs.YtiohgpcbdefokaaDoor.B
/- record.Check: whether a record may be. No condition. -/
namespace Go.Proofs.YtiohgpcbdefokaaDoor.B
open Go.RowKit Go.Proofs.YtiohgpcbdefokaaDoorW.PrintWords
attribute [local go_sem ↓ high] lvO_hs ldO_hs stO_hs lvO_pt ldO_pt stO_pt zero_pt eqA_pt lvO_ptR ldO_ptR stO_ptR zero_ptR eqA_ptR lvO_rc ldO_rc stO_rc zero_rc eqA_rc lvO_rcR ldO_rcR stO_rcR zero_rcR eqA_rcR lvO_tk ldO_tk stO_tk zero_tk eqA_tk lvO_tkR ldO_tkR stO_tkR zero_tkR eqA_tkR lvO_it ldO_it stO_it zero_it eqA_it blO_pt blO_ptR blO_rc blO_rcR blO_tk blO_tkR blO_it bsO_pt bsO_ptR bsO_rc bsO_rcR bsO_it
attribute [local go_sem high] rowAt_setCell rowAt_setRow cell_setRow_ne isRow_setRow_ne rowAt_alloc rowAt_drew isRow_alloc isRow_drew isRow_setCell rowRun_some okL_hs ldV_hs ldA_hs stA_hs setRow_alloc get_pt_id get_pt_path cut_pt_sum get_pt_size get_pt_off cut_pt okL_pt size_pt lenb_pt eta_pt ldV_pt ldA_pt stA_pt ldV_ptR ldA_ptR stA_ptR get_rc_kind get_rc_id get_rc_path cut_rc_sum get_rc_size get_rc_off cut_rc okL_rc size_rc lenb_rc eta_rc ldV_rc ldA_rc stA_rc ldV_rcR ldA_rcR stA_rcR get_tk_path cut_tk_sum get_tk_size get_tk_off cut_tk_old cut_tk okL_tk size_tk lenb_tk eta_tk ldV_tk ldA_tk stA_tk ldV_tkR ldA_tkR stA_tkR get_it_path get_it_dir get_it_size cut_it_sum cut_it okL_it size_it lenb_it eta_it ldV_it ldA_it stA_it bld_pt_01234 bld_pt_0123 bld_pt_z bld_ptR_01234 bld_ptR_0123 bld_ptR_z bld_rc_012345 bld_rc_015 bld_rc_01 bld_rc_z bld_rc_01234 bld_rc_24 bld_rc_05 bld_rc_0 bld_rcR_012345 bld_rcR_015 bld_rcR_01 bld_rcR_z bld_rcR_01234 bld_rcR_24 bld_rcR_05 bld_rcR_0 bld_tk_01234 bld_tk_0 bld_tk_z bld_tkR_01234 bld_tkR_0 bld_tkR_z bld_it_0123 bld_it_023 bld_it_01 bld_it_0 bld_it_z bs0_pt bs1_pt bs0_ptR bs1_ptR bs0_rc bs1_rc bs0_rcR bs1_rcR bs0_it bs1_it
theorem split_total (s : ByteArray) (hs : s.size < 4294967281) : ∃ l : List ByteArray, path_Split.f s = some l := by
  unfold path_Split.f
  by_cases h : s.toList = []
  · rw [if_pos h]; exact ⟨_, rfl⟩
  · rw [if_neg h]
    unfold strings_Split.f
    rw [if_pos hs, if_pos (by decide), Option.bind_some]
    exact ⟨_, rfl⟩
theorem check_total (p : ByteArray) : ∃ e, path_Check.f p = some e := by
  unfold path_Check.f
  by_cases h : (p.size : Int) > 128
  · rw [if_pos h]; exact ⟨_, rfl⟩
  · rw [if_neg h]
    obtain ⟨l, hl⟩ := split_total p (by omega)
    rw [hl, Option.bind_some]
    split
    · exact ⟨_, rfl⟩
    · split
      · exact ⟨_, rfl⟩
      · split <;> exact ⟨_, rfl⟩
theorem resv_total (p : ByteArray) : ∃ b, path_Reserved.f p = some b := by
  unfold path_Reserved.f strings_HasPrefix.f stringslite_HasPrefix.f
  have h0 : (⟨#[46, 115, 117, 109, 112, 116, 101, 114]⟩ : ByteArray).size = 8 := rfl
  by_cases h : (p.size : Int) ≥ ((⟨#[46, 115, 117, 109, 112, 116, 101, 114]⟩ : ByteArray).size : Int)
  · rw [if_pos h, if_pos (by omega), if_pos (by omega), Option.bind_some]
    exact ⟨_, rfl⟩
  · rw [if_neg h, Option.bind_some]
    exact ⟨_, rfl⟩
/-- What path.Check, path.Reserved tell of a path. -/
def pathE (p : ByteArray) : Int := (path_Check.f p).getD 0
def resv (p : ByteArray) : Bool := (path_Reserved.f p).getD false
theorem pathE_eq (p : ByteArray) : path_Check.f p = some (pathE p) := by
  obtain ⟨e, he⟩ := check_total p
  unfold pathE; rw [he]; rfl
theorem resv_eq (p : ByteArray) : path_Reserved.f p = some (resv p) := by
  obtain ⟨e, he⟩ := resv_total p
  unfold resv; rw [he]; rfl
def sizeB (n : Int) : Bool := decide (0 ≤ n ∧ n ≤ 65536)
theorem sizeB_eq (n : Int) : record_size.f n = some (sizeB n) := by
  unfold record_size.f sizeB
  by_cases h : n ≥ 0
  · rw [if_pos h]; simp [h]
  · rw [if_neg h]; simp; omega
def beginE (r : Rc) : Int := if pathE r.path = 0 then (if resv r.path = true then 6 else if sizeB r.size = true then 0 else 13) else pathE r.path
def offE (r : Rc) : Int := if sizeB r.off = true then (if r.off = 0 ∨ r.kind = 1 then 0 else 4) else 13
def bareRc (r : Rc) : Rc := ⟨r.kind, r.id, ByteArray.empty, Hs.zero, 0, r.off⟩
def chkE (r : Rc) : Int := if 4 < r.kind ∨ r.id < 0 ∨ 1099511627776 < r.id then 2 else if r.kind = 0 then (if beginE r = 0 then offE r else beginE r) else if r = bareRc r then offE r else 4
theorem bcell0 {W w1 : World} (hb : Below W.heap.size W w1) : (∀ b o, b < W.heap.size → w1.cell? ⟨b, o, none⟩ = W.cell? ⟨b, o, none⟩) ∧ (∀ b o, b < W.heap.size → w1.frozen? ⟨b, o, none⟩ = W.frozen? ⟨b, o, none⟩) :=
  ⟨fun b o h => hb.cell (p := ⟨b, o, none⟩) h, fun b o h => hb.frozen (p := ⟨b, o, none⟩) h⟩
set_option linter.unusedVariables false in
set_option maxHeartbeats 4000000 in
set_option maxRecDepth 100000 in
theorem begin_calls (r : Rc) (w : World) (hT : TabOK w) :
    Calls Tryd.prog 77 #[.agg (rcL r).toArray] w fun e w' => e = .returned (.int .i64 (beginE r)) ∧ Below w.heap.size w w' := by
  have HT := Aside0.mk hT
  clear hT
  have hp := pathE_eq r.path
  by_cases h0 : pathE r.path = 0
  · rw [h0] at hp
    have HP := Aside0.mk hp
    clear hp
    have hr := resv_eq r.path
    cases h1 : resv r.path with
    | true =>
      rw [h1] at hr
      have HR := Aside0.mk hr
      have HE := Aside0.mk (show beginE r = 6 by unfold beginE; rw [if_pos h0, if_pos h1])
      clear hr h0 h1
      go_enter Tryd.func77, Tryd.ntmps77
      go_wp2_with (first | (go_at_call 59; refine (path_Check.calls r.path 0 _ (HT.out.below ?_) HP.out).mono ?_; (exact below_alloc (Below.refl _ _) _); rintro e w2 ⟨rfl, hb2⟩; obtain ⟨hcl, hfz⟩ := bcell0 hb2; have c2_2 : w2.cell? ⟨w.heap.size, 2, none⟩ = some (.string r.path) := (by rw [hcl _ _ (by simp)]; first | (go_simp; done) | (simp [*]; done)); have c2_4 : w2.cell? ⟨w.heap.size, 35, none⟩ = some (.int .i64 r.size) := (by rw [hcl _ _ (by simp)]; first | (go_simp; done) | (simp [*]; done)); have HB2 := Aside0.mk (Below.trans (below_alloc (Below.refl w.heap.size w) _) (hb2.mono (by simp))); clear hb2 hcl hfz) | (go_at_call 60; refine (path_Reserved.calls r.path true _ HR.out).mono ?_; rintro e w3 ⟨rfl, ⟨n3, rfl⟩⟩))
      go_ret
      exact ⟨by rw [HE.out]; rfl, by (repeat' (first | exact HB2.out | (with_reducible refine below_setCell ?_ ?_ _) | (with_reducible refine below_setRow ?_ ?_ _) | (with_reducible refine Below.alloc ?_ ?_ _) | (with_reducible refine below_drew ?_) | (with_reducible refine pw_below_drewN ?_ _) | (with_reducible exact Below.refl _ _) | omega | (simp; done) | (simp; omega)))⟩
    | false =>
      rw [h1] at hr
      have HR := Aside0.mk hr
      have hs := sizeB_eq r.size
      cases h2 : sizeB r.size with
      | true =>
        rw [h2] at hs
        have HS := Aside0.mk hs
        have HE := Aside0.mk (show beginE r = 0 by unfold beginE; rw [if_pos h0, if_neg (by rw [h1]; decide), if_pos h2])
        clear hr h0 h1 h2 hs
        go_enter Tryd.func77, Tryd.ntmps77
        go_wp2_with (first | (go_at_call 59; refine (path_Check.calls r.path 0 _ (HT.out.below ?_) HP.out).mono ?_; (exact below_alloc (Below.refl _ _) _); rintro e w2 ⟨rfl, hb2⟩; obtain ⟨hcl, hfz⟩ := bcell0 hb2; have c2_2 : w2.cell? ⟨w.heap.size, 2, none⟩ = some (.string r.path) := (by rw [hcl _ _ (by simp)]; first | (go_simp; done) | (simp [*]; done)); have c2_4 : w2.cell? ⟨w.heap.size, 35, none⟩ = some (.int .i64 r.size) := (by rw [hcl _ _ (by simp)]; first | (go_simp; done) | (simp [*]; done)); have HB2 := Aside0.mk (Below.trans (below_alloc (Below.refl w.heap.size w) _) (hb2.mono (by simp))); clear hb2 hcl hfz) | (go_at_call 60; refine (path_Reserved.calls r.path false _ HR.out).mono ?_; rintro e w3 ⟨rfl, ⟨n3, rfl⟩⟩) | (go_at_call 78; refine (record_size.calls r.size true _ HS.out).mono ?_; rintro e w4 ⟨rfl, ⟨n4, rfl⟩⟩))
        go_ret
        exact ⟨by rw [HE.out]; rfl, by (repeat' (first | exact HB2.out | (with_reducible refine below_setCell ?_ ?_ _) | (with_reducible refine below_setRow ?_ ?_ _) | (with_reducible refine Below.alloc ?_ ?_ _) | (with_reducible refine below_drew ?_) | (with_reducible refine pw_below_drewN ?_ _) | (with_reducible exact Below.refl _ _) | omega | (simp; done) | (simp; omega)))⟩
      | false =>
        rw [h2] at hs
        have HS := Aside0.mk hs
        have HE := Aside0.mk (show beginE r = 13 by unfold beginE; rw [if_pos h0, if_neg (by rw [h1]; decide), if_neg (by rw [h2]; decide)])
        clear hr h0 h1 h2 hs
        go_enter Tryd.func77, Tryd.ntmps77
        go_wp2_with (first | (go_at_call 59; refine (path_Check.calls r.path 0 _ (HT.out.below ?_) HP.out).mono ?_; (exact below_alloc (Below.refl _ _) _); rintro e w2 ⟨rfl, hb2⟩; obtain ⟨hcl, hfz⟩ := bcell0 hb2; have c2_2 : w2.cell? ⟨w.heap.size, 2, none⟩ = some (.string r.path) := (by rw [hcl _ _ (by simp)]; first | (go_simp; done) | (simp [*]; done)); have c2_4 : w2.cell? ⟨w.heap.size, 35, none⟩ = some (.int .i64 r.size) := (by rw [hcl _ _ (by simp)]; first | (go_simp; done) | (simp [*]; done)); have HB2 := Aside0.mk (Below.trans (below_alloc (Below.refl w.heap.size w) _) (hb2.mono (by simp))); clear hb2 hcl hfz) | (go_at_call 60; refine (path_Reserved.calls r.path false _ HR.out).mono ?_; rintro e w3 ⟨rfl, ⟨n3, rfl⟩⟩) | (go_at_call 78; refine (record_size.calls r.size false _ HS.out).mono ?_; rintro e w4 ⟨rfl, ⟨n4, rfl⟩⟩))
        go_ret
        exact ⟨by rw [HE.out]; rfl, by (repeat' (first | exact HB2.out | (with_reducible refine below_setCell ?_ ?_ _) | (with_reducible refine below_setRow ?_ ?_ _) | (with_reducible refine Below.alloc ?_ ?_ _) | (with_reducible refine below_drew ?_) | (with_reducible refine pw_below_drewN ?_ _) | (with_reducible exact Below.refl _ _) | omega | (simp; done) | (simp; omega)))⟩
  · have HP := Aside0.mk hp
    have hd : decide (pathE r.path = 0) = false := decide_eq_false h0
    have hdn : (pathE r.path != 0) = true := bne_iff_ne.2 h0
    have HE := Aside0.mk (show beginE r = pathE r.path by unfold beginE; rw [if_neg h0])
    clear hp h0
    go_enter Tryd.func77, Tryd.ntmps77
    go_wp2_with (first | (go_at_call 59; refine (path_Check.calls r.path (pathE r.path) _ (HT.out.below ?_) HP.out).mono ?_; (exact below_alloc (Below.refl _ _) _); rintro e w2 ⟨rfl, hb2⟩; obtain ⟨hcl, hfz⟩ := bcell0 hb2; have c2_2 : w2.cell? ⟨w.heap.size, 2, none⟩ = some (.string r.path) := (by rw [hcl _ _ (by simp)]; first | (go_simp; done) | (simp [*]; done)); have c2_4 : w2.cell? ⟨w.heap.size, 35, none⟩ = some (.int .i64 r.size) := (by rw [hcl _ _ (by simp)]; first | (go_simp; done) | (simp [*]; done)); have HB2 := Aside0.mk (Below.trans (below_alloc (Below.refl w.heap.size w) _) (hb2.mono (by simp))); clear hb2 hcl hfz))
    go_ret
    exact ⟨by rw [HE.out]; rfl, by (repeat' (first | exact HB2.out | (with_reducible refine below_setCell ?_ ?_ _) | (with_reducible refine below_setRow ?_ ?_ _) | (with_reducible refine Below.alloc ?_ ?_ _) | (with_reducible refine below_drew ?_) | (with_reducible refine pw_below_drewN ?_ _) | (with_reducible exact Below.refl _ _) | omega | (simp; done) | (simp; omega)))⟩
set_option linter.unusedVariables false in
set_option maxHeartbeats 4000000 in
set_option maxRecDepth 100000 in
theorem Check_kind (r : Rc) (w : World) (h : 4 < r.kind) :
    Calls Tryd.prog 26 #[.agg (rcL r).toArray] w fun e w' => e = .returned (.int .i64 (chkE r)) ∧ Below w.heap.size w w' := by
  have HE := Aside0.mk (show chkE r = 2 by unfold chkE; rw [if_pos (.inl h)])
  have hd : decide (4 < r.kind) = true := decide_eq_true h
  clear h
  go_enter Tryd.func26, Tryd.ntmps26
  go_wp2
  go_ret
  exact ⟨by rw [HE.out]; rfl, by (repeat' (first | exact Below.refl _ _ | (with_reducible refine below_setCell ?_ ?_ _) | (with_reducible refine below_setRow ?_ ?_ _) | (with_reducible refine Below.alloc ?_ ?_ _) | (with_reducible refine below_drew ?_) | (with_reducible refine pw_below_drewN ?_ _) | (with_reducible exact Below.refl _ _) | omega | (simp; done) | (simp; omega)))⟩
set_option linter.unusedVariables false in
set_option maxHeartbeats 4000000 in
set_option maxRecDepth 100000 in
theorem Check_low (r : Rc) (w : World) (h0 : ¬ 4 < r.kind) (h : r.id < 0) :
    Calls Tryd.prog 26 #[.agg (rcL r).toArray] w fun e w' => e = .returned (.int .i64 (chkE r)) ∧ Below w.heap.size w w' := by
  have HE := Aside0.mk (show chkE r = 2 by unfold chkE; rw [if_pos (.inr (.inl h))])
  have hd : decide (4 < r.kind) = false := decide_eq_false h0
  have hd2 : decide (r.id < 0) = true := decide_eq_true h
  clear h h0
  go_enter Tryd.func26, Tryd.ntmps26
  go_wp2
  go_ret
  exact ⟨by rw [HE.out]; rfl, by (repeat' (first | exact Below.refl _ _ | (with_reducible refine below_setCell ?_ ?_ _) | (with_reducible refine below_setRow ?_ ?_ _) | (with_reducible refine Below.alloc ?_ ?_ _) | (with_reducible refine below_drew ?_) | (with_reducible refine pw_below_drewN ?_ _) | (with_reducible exact Below.refl _ _) | omega | (simp; done) | (simp; omega)))⟩
set_option linter.unusedVariables false in
set_option maxHeartbeats 4000000 in
set_option maxRecDepth 100000 in
theorem Check_high (r : Rc) (w : World) (h0 : ¬ 4 < r.kind) (h1 : ¬ r.id < 0) (h : 1099511627776 < r.id) :
    Calls Tryd.prog 26 #[.agg (rcL r).toArray] w fun e w' => e = .returned (.int .i64 (chkE r)) ∧ Below w.heap.size w w' := by
  have HE := Aside0.mk (show chkE r = 2 by unfold chkE; rw [if_pos (.inr (.inr h))])
  have hd : decide (4 < r.kind) = false := decide_eq_false h0
  have hd2 : decide (r.id < 0) = false := decide_eq_false h1
  have hd3 : decide (1099511627776 < r.id) = true := decide_eq_true h
  clear h h0 h1
  go_enter Tryd.func26, Tryd.ntmps26
  go_wp2
  go_ret
  exact ⟨by rw [HE.out]; rfl, by (repeat' (first | exact Below.refl _ _ | (with_reducible refine below_setCell ?_ ?_ _) | (with_reducible refine below_setRow ?_ ?_ _) | (with_reducible refine Below.alloc ?_ ?_ _) | (with_reducible refine below_drew ?_) | (with_reducible refine pw_below_drewN ?_ _) | (with_reducible exact Below.refl _ _) | omega | (simp; done) | (simp; omega)))⟩
set_option linter.unusedVariables false in
set_option maxHeartbeats 4000000 in
set_option maxRecDepth 100000 in
theorem Check_b1 (r : Rc) (w : World) (hT : TabOK w) (h0 : ¬ 4 < r.kind) (h1 : ¬ r.id < 0) (h2 : ¬ 1099511627776 < r.id) (hk : r.kind = 0) (hb : ¬ beginE r = 0) :
    Calls Tryd.prog 26 #[.agg (rcL r).toArray] w fun e w' => e = .returned (.int .i64 (chkE r)) ∧ Below w.heap.size w w' := by
  have HT := Aside0.mk hT
  clear hT
  have HE := Aside0.mk (show chkE r = beginE r by unfold chkE; rw [if_neg (fun h => h.elim h0 (fun h => h.elim h1 h2))]; rw [if_pos hk, if_neg hb])
  have HBE := Aside0.mk (show beginE r = beginE r from rfl)
  have hd4 : decide (beginE r = 0) = false := decide_eq_false hb
  have hd4n : (beginE r != 0) = true := bne_iff_ne.2 hb
  clear hb
  have hd : decide (4 < r.kind) = false := decide_eq_false h0
  have hd2 : decide (r.id < 0) = false := decide_eq_false h1
  have hd3 : decide (1099511627776 < r.id) = false := decide_eq_false h2
  clear h0 h1 h2
  go_enter Tryd.func26, Tryd.ntmps26
  go_wp2_with (first | (go_at_call 77; refine (begin_calls r _ (HT.out.below ?_)).mono ?_; (exact below_alloc (below_alloc (Below.refl _ _) _) _); rintro e w2 ⟨rfl, hb2⟩; rw [HBE.out]; obtain ⟨hcl, hfz⟩ := bcell0 hb2; have c2_0 : w2.cell? ⟨w.heap.size, 0, none⟩ = some (.int .u8 r.kind) := (by rw [hcl _ _ (by simp; try omega)]; first | (go_simp; done) | (simp [*]; done)); have c2_5 : w2.cell? ⟨w.heap.size, 36, none⟩ = some (.int .i64 r.off) := (by rw [hcl _ _ (by simp; try omega)]; first | (go_simp; done) | (simp [*]; done)); have HB2 := Aside0.mk (Below.trans (below_alloc (below_alloc (Below.refl w.heap.size w) _) _) (hb2.mono (by simp; try omega))); clear hb2 hcl hfz))
  go_ret
  exact ⟨by rw [HE.out]; rfl, by (repeat' (first | exact HB2.out | (with_reducible refine below_setCell ?_ ?_ _) | (with_reducible refine below_setRow ?_ ?_ _) | (with_reducible refine Below.alloc ?_ ?_ _) | (with_reducible refine below_drew ?_) | (with_reducible refine pw_below_drewN ?_ _) | (with_reducible exact Below.refl _ _) | omega | (simp; done) | (simp; omega)))⟩
set_option linter.unusedVariables false in
set_option maxHeartbeats 4000000 in
set_option maxRecDepth 100000 in
theorem Check_b2 (r : Rc) (w : World) (hT : TabOK w) (h0 : ¬ 4 < r.kind) (h1 : ¬ r.id < 0) (h2 : ¬ 1099511627776 < r.id) (hk : r.kind = 0) (hb : beginE r = 0) (hs0 : sizeB r.off = false) :
    Calls Tryd.prog 26 #[.agg (rcL r).toArray] w fun e w' => e = .returned (.int .i64 (chkE r)) ∧ Below w.heap.size w w' := by
  have HT := Aside0.mk hT
  clear hT
  have HE := Aside0.mk (show chkE r = 13 by unfold chkE; rw [if_neg (fun h => h.elim h0 (fun h => h.elim h1 h2))]; rw [if_pos hk, if_pos hb]; unfold offE; rw [if_neg (by rw [hs0]; decide)])
  have HBE := Aside0.mk hb
  clear hb
  have hd : decide (4 < r.kind) = false := decide_eq_false h0
  have hd2 : decide (r.id < 0) = false := decide_eq_false h1
  have hd3 : decide (1099511627776 < r.id) = false := decide_eq_false h2
  clear h0 h1 h2
  have hs := sizeB_eq r.off
  rw [hs0] at hs
  have HS := Aside0.mk hs
  clear hs hs0
  go_enter Tryd.func26, Tryd.ntmps26
  go_wp2_with (first | (go_at_call 77; refine (begin_calls r _ (HT.out.below ?_)).mono ?_; (exact below_alloc (below_alloc (Below.refl _ _) _) _); rintro e w2 ⟨rfl, hb2⟩; rw [HBE.out]; obtain ⟨hcl, hfz⟩ := bcell0 hb2; have c2_0 : w2.cell? ⟨w.heap.size, 0, none⟩ = some (.int .u8 r.kind) := (by rw [hcl _ _ (by simp; try omega)]; first | (go_simp; done) | (simp [*]; done)); have c2_5 : w2.cell? ⟨w.heap.size, 36, none⟩ = some (.int .i64 r.off) := (by rw [hcl _ _ (by simp; try omega)]; first | (go_simp; done) | (simp [*]; done)); have HB2 := Aside0.mk (Below.trans (below_alloc (below_alloc (Below.refl w.heap.size w) _) _) (hb2.mono (by simp; try omega))); clear hb2 hcl hfz) | (go_at_call 78; refine (record_size.calls r.off false _ HS.out).mono ?_; rintro e w4 ⟨rfl, ⟨n4, rfl⟩⟩))
  go_ret
  exact ⟨by rw [HE.out]; rfl, by (repeat' (first | exact HB2.out | (with_reducible refine below_setCell ?_ ?_ _) | (with_reducible refine below_setRow ?_ ?_ _) | (with_reducible refine Below.alloc ?_ ?_ _) | (with_reducible refine below_drew ?_) | (with_reducible refine pw_below_drewN ?_ _) | (with_reducible exact Below.refl _ _) | omega | (simp; done) | (simp; omega)))⟩
set_option linter.unusedVariables false in
set_option maxHeartbeats 4000000 in
set_option maxRecDepth 100000 in
theorem Check_b3 (r : Rc) (w : World) (hT : TabOK w) (h0 : ¬ 4 < r.kind) (h1 : ¬ r.id < 0) (h2 : ¬ 1099511627776 < r.id) (hk : r.kind = 0) (hb : beginE r = 0) (hs0 : sizeB r.off = true) (hz : ¬ r.off = 0) :
    Calls Tryd.prog 26 #[.agg (rcL r).toArray] w fun e w' => e = .returned (.int .i64 (chkE r)) ∧ Below w.heap.size w w' := by
  have HT := Aside0.mk hT
  clear hT
  have HE := Aside0.mk (show chkE r = 4 by unfold chkE; rw [if_neg (fun h => h.elim h0 (fun h => h.elim h1 h2))]; rw [if_pos hk, if_pos hb]; unfold offE; rw [if_pos hs0, if_neg (fun h => h.elim hz (fun h => by omega))])
  have HBE := Aside0.mk hb
  have hd5 : decide (r.off = 0) = false := decide_eq_false hz
  have hd5n : (r.off != 0) = true := bne_iff_ne.2 hz
  clear hb hz
  have hd : decide (4 < r.kind) = false := decide_eq_false h0
  have hd2 : decide (r.id < 0) = false := decide_eq_false h1
  have hd3 : decide (1099511627776 < r.id) = false := decide_eq_false h2
  clear h0 h1 h2
  have hs := sizeB_eq r.off
  rw [hs0] at hs
  have HS := Aside0.mk hs
  clear hs hs0
  go_enter Tryd.func26, Tryd.ntmps26
  go_wp2_with (first | (go_at_call 77; refine (begin_calls r _ (HT.out.below ?_)).mono ?_; (exact below_alloc (below_alloc (Below.refl _ _) _) _); rintro e w2 ⟨rfl, hb2⟩; rw [HBE.out]; obtain ⟨hcl, hfz⟩ := bcell0 hb2; have c2_0 : w2.cell? ⟨w.heap.size, 0, none⟩ = some (.int .u8 r.kind) := (by rw [hcl _ _ (by simp; try omega)]; first | (go_simp; done) | (simp [*]; done)); have c2_5 : w2.cell? ⟨w.heap.size, 36, none⟩ = some (.int .i64 r.off) := (by rw [hcl _ _ (by simp; try omega)]; first | (go_simp; done) | (simp [*]; done)); have HB2 := Aside0.mk (Below.trans (below_alloc (below_alloc (Below.refl w.heap.size w) _) _) (hb2.mono (by simp; try omega))); clear hb2 hcl hfz) | (go_at_call 78; refine (record_size.calls r.off true _ HS.out).mono ?_; rintro e w4 ⟨rfl, ⟨n4, rfl⟩⟩))
  go_ret
  exact ⟨by rw [HE.out]; rfl, by (repeat' (first | exact HB2.out | (with_reducible refine below_setCell ?_ ?_ _) | (with_reducible refine below_setRow ?_ ?_ _) | (with_reducible refine Below.alloc ?_ ?_ _) | (with_reducible refine below_drew ?_) | (with_reducible refine pw_below_drewN ?_ _) | (with_reducible exact Below.refl _ _) | omega | (simp; done) | (simp; omega)))⟩
set_option linter.unusedVariables false in
set_option maxHeartbeats 4000000 in
set_option maxRecDepth 100000 in
theorem Check_b4 (r : Rc) (w : World) (hT : TabOK w) (h0 : ¬ 4 < r.kind) (h1 : ¬ r.id < 0) (h2 : ¬ 1099511627776 < r.id) (hk : r.kind = 0) (hb : beginE r = 0) (hs0 : sizeB r.off = true) (hz : r.off = 0) :
    Calls Tryd.prog 26 #[.agg (rcL r).toArray] w fun e w' => e = .returned (.int .i64 (chkE r)) ∧ Below w.heap.size w w' := by
  have HT := Aside0.mk hT
  clear hT
  have HE := Aside0.mk (show chkE r = 0 by unfold chkE; rw [if_neg (fun h => h.elim h0 (fun h => h.elim h1 h2))]; rw [if_pos hk, if_pos hb]; unfold offE; rw [if_pos hs0, if_pos (.inl hz)])
  have HBE := Aside0.mk hb
  clear hb
  have hd5 : decide (r.off = 0) = true := decide_eq_true hz
  have hd5n : (r.off != 0) = false := by simp [hz]
  clear hz
  have hd : decide (4 < r.kind) = false := decide_eq_false h0
  have hd2 : decide (r.id < 0) = false := decide_eq_false h1
  have hd3 : decide (1099511627776 < r.id) = false := decide_eq_false h2
  clear h0 h1 h2
  have hs := sizeB_eq r.off
  rw [hs0] at hs
  have HS := Aside0.mk hs
  clear hs hs0
  go_enter Tryd.func26, Tryd.ntmps26
  go_wp2_with (first | (go_at_call 77; refine (begin_calls r _ (HT.out.below ?_)).mono ?_; (exact below_alloc (below_alloc (Below.refl _ _) _) _); rintro e w2 ⟨rfl, hb2⟩; rw [HBE.out]; obtain ⟨hcl, hfz⟩ := bcell0 hb2; have c2_0 : w2.cell? ⟨w.heap.size, 0, none⟩ = some (.int .u8 r.kind) := (by rw [hcl _ _ (by simp; try omega)]; first | (go_simp; done) | (simp [*]; done)); have c2_5 : w2.cell? ⟨w.heap.size, 36, none⟩ = some (.int .i64 r.off) := (by rw [hcl _ _ (by simp; try omega)]; first | (go_simp; done) | (simp [*]; done)); have HB2 := Aside0.mk (Below.trans (below_alloc (below_alloc (Below.refl w.heap.size w) _) _) (hb2.mono (by simp; try omega))); clear hb2 hcl hfz) | (go_at_call 78; refine (record_size.calls r.off true _ HS.out).mono ?_; rintro e w4 ⟨rfl, ⟨n4, rfl⟩⟩))
  go_ret
  exact ⟨by rw [HE.out]; rfl, by (repeat' (first | exact HB2.out | (with_reducible refine below_setCell ?_ ?_ _) | (with_reducible refine below_setRow ?_ ?_ _) | (with_reducible refine Below.alloc ?_ ?_ _) | (with_reducible refine below_drew ?_) | (with_reducible refine pw_below_drewN ?_ _) | (with_reducible exact Below.refl _ _) | omega | (simp; done) | (simp; omega)))⟩
set_option linter.unusedVariables false in
set_option maxHeartbeats 4000000 in
set_option maxRecDepth 100000 in
theorem Check_n1 (r : Rc) (w : World) (h0 : ¬ 4 < r.kind) (h1 : ¬ r.id < 0) (h2 : ¬ 1099511627776 < r.id) (hk : ¬ r.kind = 0) (hb : ¬ r = bareRc r) :
    Calls Tryd.prog 26 #[.agg (rcL r).toArray] w fun e w' => e = .returned (.int .i64 (chkE r)) ∧ Below w.heap.size w w' := by
  have HE := Aside0.mk (show chkE r = 4 by unfold chkE; rw [if_neg (fun h => h.elim h0 (fun h => h.elim h1 h2))]; rw [if_neg hk, if_neg hb])
  have hd7 : decide (r = ⟨r.kind, r.id, ByteArray.empty, Hs.zero, 0, r.off⟩) = false := decide_eq_false hb
  clear hb
  have hd : decide (4 < r.kind) = false := decide_eq_false h0
  have hd2 : decide (r.id < 0) = false := decide_eq_false h1
  have hd3 : decide (1099511627776 < r.id) = false := decide_eq_false h2
  clear h0 h1 h2
  have hd6 : decide (r.kind = 0) = false := decide_eq_false hk
  have hd6n : (r.kind != 0) = true := bne_iff_ne.2 hk
  clear hk
  go_enter Tryd.func26, Tryd.ntmps26
  go_wp2
  go_ret
  exact ⟨by rw [HE.out]; rfl, by (repeat' (first | exact Below.refl _ _ | (with_reducible refine below_setCell ?_ ?_ _) | (with_reducible refine below_setRow ?_ ?_ _) | (with_reducible refine Below.alloc ?_ ?_ _) | (with_reducible refine below_drew ?_) | (with_reducible refine pw_below_drewN ?_ _) | (with_reducible exact Below.refl _ _) | omega | (simp; done) | (simp; omega)))⟩
set_option linter.unusedVariables false in
set_option maxHeartbeats 4000000 in
set_option maxRecDepth 100000 in
theorem Check_n2 (r : Rc) (w : World) (h0 : ¬ 4 < r.kind) (h1 : ¬ r.id < 0) (h2 : ¬ 1099511627776 < r.id) (hk : ¬ r.kind = 0) (hb : r = bareRc r) (hs0 : sizeB r.off = false) :
    Calls Tryd.prog 26 #[.agg (rcL r).toArray] w fun e w' => e = .returned (.int .i64 (chkE r)) ∧ Below w.heap.size w w' := by
  have HE := Aside0.mk (show chkE r = 13 by unfold chkE; rw [if_neg (fun h => h.elim h0 (fun h => h.elim h1 h2))]; rw [if_neg hk, if_pos hb]; unfold offE; rw [if_neg (by rw [hs0]; decide)])
  have hd7 : decide (r = ⟨r.kind, r.id, ByteArray.empty, Hs.zero, 0, r.off⟩) = true := decide_eq_true hb
  clear hb
  have hd : decide (4 < r.kind) = false := decide_eq_false h0
  have hd2 : decide (r.id < 0) = false := decide_eq_false h1
  have hd3 : decide (1099511627776 < r.id) = false := decide_eq_false h2
  clear h0 h1 h2
  have hd6 : decide (r.kind = 0) = false := decide_eq_false hk
  have hd6n : (r.kind != 0) = true := bne_iff_ne.2 hk
  clear hk
  have hs := sizeB_eq r.off
  rw [hs0] at hs
  have HS := Aside0.mk hs
  clear hs hs0
  go_enter Tryd.func26, Tryd.ntmps26
  go_wp2_with (first | (go_at_call 78; refine (record_size.calls r.off false _ HS.out).mono ?_; rintro e w4 ⟨rfl, ⟨n4, rfl⟩⟩))
  go_ret
  exact ⟨by rw [HE.out]; rfl, by (repeat' (first | exact Below.refl _ _ | (with_reducible refine below_setCell ?_ ?_ _) | (with_reducible refine below_setRow ?_ ?_ _) | (with_reducible refine Below.alloc ?_ ?_ _) | (with_reducible refine below_drew ?_) | (with_reducible refine pw_below_drewN ?_ _) | (with_reducible exact Below.refl _ _) | omega | (simp; done) | (simp; omega)))⟩
set_option linter.unusedVariables false in
set_option maxHeartbeats 4000000 in
set_option maxRecDepth 100000 in
theorem Check_n3 (r : Rc) (w : World) (h0 : ¬ 4 < r.kind) (h1 : ¬ r.id < 0) (h2 : ¬ 1099511627776 < r.id) (hk : ¬ r.kind = 0) (hb : r = bareRc r) (hs0 : sizeB r.off = true) (hz : ¬ r.off = 0) (h7 : ¬ r.kind = 1) :
    Calls Tryd.prog 26 #[.agg (rcL r).toArray] w fun e w' => e = .returned (.int .i64 (chkE r)) ∧ Below w.heap.size w w' := by
  have HE := Aside0.mk (show chkE r = 4 by unfold chkE; rw [if_neg (fun h => h.elim h0 (fun h => h.elim h1 h2))]; rw [if_neg hk, if_pos hb]; unfold offE; rw [if_pos hs0, if_neg (fun h => h.elim hz h7)])
  have hd5 : decide (r.off = 0) = false := decide_eq_false hz
  have hd5n : (r.off != 0) = true := bne_iff_ne.2 hz
  have hd8 : decide (r.kind = 1) = false := decide_eq_false h7
  have hd8n : (r.kind != 1) = true := bne_iff_ne.2 h7
  clear hz h7
  have hd7 : decide (r = ⟨r.kind, r.id, ByteArray.empty, Hs.zero, 0, r.off⟩) = true := decide_eq_true hb
  clear hb
  have hd : decide (4 < r.kind) = false := decide_eq_false h0
  have hd2 : decide (r.id < 0) = false := decide_eq_false h1
  have hd3 : decide (1099511627776 < r.id) = false := decide_eq_false h2
  clear h0 h1 h2
  have hd6 : decide (r.kind = 0) = false := decide_eq_false hk
  have hd6n : (r.kind != 0) = true := bne_iff_ne.2 hk
  clear hk
  have hs := sizeB_eq r.off
  rw [hs0] at hs
  have HS := Aside0.mk hs
  clear hs hs0
  go_enter Tryd.func26, Tryd.ntmps26
  go_wp2_with (first | (go_at_call 78; refine (record_size.calls r.off true _ HS.out).mono ?_; rintro e w4 ⟨rfl, ⟨n4, rfl⟩⟩))
  go_ret
  exact ⟨by rw [HE.out]; rfl, by (repeat' (first | exact Below.refl _ _ | (with_reducible refine below_setCell ?_ ?_ _) | (with_reducible refine below_setRow ?_ ?_ _) | (with_reducible refine Below.alloc ?_ ?_ _) | (with_reducible refine below_drew ?_) | (with_reducible refine pw_below_drewN ?_ _) | (with_reducible exact Below.refl _ _) | omega | (simp; done) | (simp; omega)))⟩
set_option linter.unusedVariables false in
set_option maxHeartbeats 4000000 in
set_option maxRecDepth 100000 in
theorem Check_n4 (r : Rc) (w : World) (h0 : ¬ 4 < r.kind) (h1 : ¬ r.id < 0) (h2 : ¬ 1099511627776 < r.id) (hk : ¬ r.kind = 0) (hb : r = bareRc r) (hs0 : sizeB r.off = true) (hz : ¬ r.off = 0) (h7 : r.kind = 1) :
    Calls Tryd.prog 26 #[.agg (rcL r).toArray] w fun e w' => e = .returned (.int .i64 (chkE r)) ∧ Below w.heap.size w w' := by
  have HE := Aside0.mk (show chkE r = 0 by unfold chkE; rw [if_neg (fun h => h.elim h0 (fun h => h.elim h1 h2))]; rw [if_neg hk, if_pos hb]; unfold offE; rw [if_pos hs0, if_pos (.inr h7)])
  have hd5 : decide (r.off = 0) = false := decide_eq_false hz
  have hd5n : (r.off != 0) = true := bne_iff_ne.2 hz
  have hd8 : decide (r.kind = 1) = true := decide_eq_true h7
  have hd8n : (r.kind != 1) = false := by simp [h7]
  clear hz h7
  have hd7 : decide (r = ⟨r.kind, r.id, ByteArray.empty, Hs.zero, 0, r.off⟩) = true := decide_eq_true hb
  clear hb
  have hd : decide (4 < r.kind) = false := decide_eq_false h0
  have hd2 : decide (r.id < 0) = false := decide_eq_false h1
  have hd3 : decide (1099511627776 < r.id) = false := decide_eq_false h2
  clear h0 h1 h2
  have hd6 : decide (r.kind = 0) = false := decide_eq_false hk
  have hd6n : (r.kind != 0) = true := bne_iff_ne.2 hk
  clear hk
  have hs := sizeB_eq r.off
  rw [hs0] at hs
  have HS := Aside0.mk hs
  clear hs hs0
  go_enter Tryd.func26, Tryd.ntmps26
  go_wp2_with (first | (go_at_call 78; refine (record_size.calls r.off true _ HS.out).mono ?_; rintro e w4 ⟨rfl, ⟨n4, rfl⟩⟩))
  go_ret
  exact ⟨by rw [HE.out]; rfl, by (repeat' (first | exact Below.refl _ _ | (with_reducible refine below_setCell ?_ ?_ _) | (with_reducible refine below_setRow ?_ ?_ _) | (with_reducible refine Below.alloc ?_ ?_ _) | (with_reducible refine below_drew ?_) | (with_reducible refine pw_below_drewN ?_ _) | (with_reducible exact Below.refl _ _) | omega | (simp; done) | (simp; omega)))⟩
set_option linter.unusedVariables false in
set_option maxHeartbeats 4000000 in
set_option maxRecDepth 100000 in
theorem Check_n5 (r : Rc) (w : World) (h0 : ¬ 4 < r.kind) (h1 : ¬ r.id < 0) (h2 : ¬ 1099511627776 < r.id) (hk : ¬ r.kind = 0) (hb : r = bareRc r) (hs0 : sizeB r.off = true) (hz : r.off = 0) :
    Calls Tryd.prog 26 #[.agg (rcL r).toArray] w fun e w' => e = .returned (.int .i64 (chkE r)) ∧ Below w.heap.size w w' := by
  have HE := Aside0.mk (show chkE r = 0 by unfold chkE; rw [if_neg (fun h => h.elim h0 (fun h => h.elim h1 h2))]; rw [if_neg hk, if_pos hb]; unfold offE; rw [if_pos hs0, if_pos (.inl hz)])
  have hd5 : decide (r.off = 0) = true := decide_eq_true hz
  have hd5n : (r.off != 0) = false := by simp [hz]
  clear hz
  have hd7 : decide (r = ⟨r.kind, r.id, ByteArray.empty, Hs.zero, 0, r.off⟩) = true := decide_eq_true hb
  clear hb
  have hd : decide (4 < r.kind) = false := decide_eq_false h0
  have hd2 : decide (r.id < 0) = false := decide_eq_false h1
  have hd3 : decide (1099511627776 < r.id) = false := decide_eq_false h2
  clear h0 h1 h2
  have hd6 : decide (r.kind = 0) = false := decide_eq_false hk
  have hd6n : (r.kind != 0) = true := bne_iff_ne.2 hk
  clear hk
  have hs := sizeB_eq r.off
  rw [hs0] at hs
  have HS := Aside0.mk hs
  clear hs hs0
  go_enter Tryd.func26, Tryd.ntmps26
  go_wp2_with (first | (go_at_call 78; refine (record_size.calls r.off true _ HS.out).mono ?_; rintro e w4 ⟨rfl, ⟨n4, rfl⟩⟩))
  go_ret
  exact ⟨by rw [HE.out]; rfl, by (repeat' (first | exact Below.refl _ _ | (with_reducible refine below_setCell ?_ ?_ _) | (with_reducible refine below_setRow ?_ ?_ _) | (with_reducible refine Below.alloc ?_ ?_ _) | (with_reducible refine below_drew ?_) | (with_reducible refine pw_below_drewN ?_ _) | (with_reducible exact Below.refl _ _) | omega | (simp; done) | (simp; omega)))⟩
theorem Check_calls (r : Rc) (w : World) (hT : TabOK w) :
    Calls Tryd.prog 26 #[.agg (rcL r).toArray] w fun e w' => e = .returned (.int .i64 (chkE r)) ∧ Below w.heap.size w w' := by
  by_cases h0 : 4 < r.kind
  · exact Check_kind r w h0
  by_cases h1 : r.id < 0
  · exact Check_low r w h0 h1
  by_cases h2 : 1099511627776 < r.id
  · exact Check_high r w h0 h1 h2
  by_cases hk : r.kind = 0
  · by_cases hb : beginE r = 0
    · cases hs : sizeB r.off with
      | false => exact Check_b2 r w hT h0 h1 h2 hk hb hs
      | true =>
        by_cases hz : r.off = 0
        · exact Check_b4 r w hT h0 h1 h2 hk hb hs hz
        · exact Check_b3 r w hT h0 h1 h2 hk hb hs hz
    · exact Check_b1 r w hT h0 h1 h2 hk hb
  · by_cases hb : r = bareRc r
    · cases hs : sizeB r.off with
      | false => exact Check_n2 r w h0 h1 h2 hk hb hs
      | true =>
        by_cases hz : r.off = 0
        · exact Check_n5 r w h0 h1 h2 hk hb hs hz
        · by_cases h7 : r.kind = 1
          · exact Check_n4 r w h0 h1 h2 hk hb hs hz h7
          · exact Check_n3 r w h0 h1 h2 hk hb hs hz h7
    · exact Check_n1 r w h0 h1 h2 hk hb
end Go.Proofs.YtiohgpcbdefokaaDoor.B
/- Laws for the walk on rows of cells that are known whole (copy, clear, append in place, append of zeros), and what a call turns of one block alone. No condition. -/
namespace Go.Proofs.YtiohgpcbdefokaaDoor.RowLaws
open Go.RowKit
/-- What a call on what lies at block g leaves: all other blocks that were there are as they were. -/
abbrev Only (g : Nat) (w w' : World) : Prop := w.grownBy w' (some g)
theorem Only.refl (g : Nat) (w : World) : Only g w w := ⟨rfl, rfl, rfl, Nat.le_refl _, fun _ _ _ => rfl⟩
theorem Only.trans {g : Nat} {a b c : World} (h : Only g a b) (k : Only g b c) : Only g a c :=
  ⟨k.os.trans h.os, k.tape.trans h.tape, k.output.trans h.output, Nat.le_trans h.size k.size, fun i hi hn => (k.block i (Nat.lt_of_lt_of_le hi h.size) hn).trans (h.block i hi hn)⟩
theorem Only.of_below {g : Nat} {w w' : World} (h : Below w.heap.size w w') : Only g w w' := ⟨h.os, h.tape, h.output, h.size, fun i hi _ => h.block i hi⟩
theorem Only.below {g n : Nat} {w w' : World} (h : Only g w w') (hn : n ≤ g) (hs : n ≤ w.heap.size) : Below n w w' := ⟨h.os, h.tape, h.output, h.size, fun i hi => h.block i (by omega) (by intro e; injection e; omega)⟩
theorem Only.cell {g : Nat} {w w' : World} (h : Only g w w') {p : Addr} {v : Value} (hp : p.block ≠ g) (hv : w.cell? p = some v) : w'.cell? p = some v :=
  (World.cell?_of_block (h.block p.block (World.block_lt_of_cell? _ _ hv) (by intro e; injection e; exact hp ‹_›))).trans hv
theorem Only.frozen {g : Nat} {w w' : World} (h : Only g w w') {p : Addr} (hl : p.block < w.heap.size) (hp : p.block ≠ g) : w'.frozen? p = w.frozen? p :=
  World.frozen?_of_block (h.block p.block hl (by intro e; injection e; exact hp ‹_›))
theorem Only.setCell {g : Nat} {a w : World} (h : Only g a w) {p : Addr} (hp : p.block = g) (u : Value) : Only g a (w.setCell p u) :=
  h.trans ⟨rfl, rfl, rfl, by simp [World.setCell], fun k _ hn => Below.heap_setCell _ _ _ _ (by intro e; subst e; exact hn (by rw [hp]))⟩
theorem Only.setRow {g : Nat} {a w : World} (h : Only g a w) (cs : Array Value) : Only g a (w.setRow g cs) :=
  h.trans ⟨rfl, rfl, rfl, by simp [World.setRow], fun k _ hn => setRow_other w g k cs (by intro e; exact hn (by rw [e]))⟩
theorem Only.alloc {g : Nat} {a w : World} (h : Only g a w) (o : Obj) : Only g a (w.alloc o) := h.trans (Only.of_below ((Below.refl _ _).alloc (Nat.le_refl _) o))
theorem Only.drew {g : Nat} {a w : World} (h : Only g a w) : Only g a w.drew := h.trans ⟨rfl, rfl, rfl, Nat.le_refl _, fun _ _ _ => rfl⟩
theorem Only.step {g : Nat} {a b c : World} (h : Only g a b) (k : Below b.heap.size b c) : Only g a c := h.trans (Only.of_below k)
/-- a turn of what was made since is none of what was there -/
theorem Only.fresh {g : Nat} {a b c : World} (h : Below a.heap.size a b) (k : Only g b c) (hg : a.heap.size ≤ g) : Below a.heap.size a c :=
  h.trans (k.below hg h.size)

section
variable {P : Program} {w : World} {ops : Array Oper} {rest : List Oper} {o : Oper} {a : Act} {Q : Exit → Act → World → Prop}
theorem gate_stepb {K : Act → World → Prop} {E : Prop} {b : Builtin} {xs : Array Operand} {ts : Array TypeId} (_ho : o.op = .call { callee := .builtin b, args := xs, argTypes := ts }) (h : if Region.wanted o (yielded ops a.tmps) = true then Oper.wp P o a w K Q else E) : if Region.wanted o (yielded ops a.tmps) = true then Oper.wp P o a w K Q else E := h
theorem run_clear_rows (w : World) (t e ty : TypeId) (z : Value) (sz : Nat) (ht : P.underlying t = some (.slice e)) (hv : ∀ w, (zeroValue e).run P w = .ok z w) (hz : z.cells.size = sz) (h1 : ∀ u ∈ z.cells.toList, u.oneCell' = true) (g off n c : Nat) (hn : 0 < n)
    (cur : Array Value) (tt : TypeId) (hg : w.heap[g]? = some (.cells cur tt (0, 0))) (hfit : off + n * sz ≤ cur.size) :
    ∃ Z : List Value, Z.length = n * sz ∧ (Builtin.clear_ #[t] ty #[.slice (some ⟨g, off, none⟩) n c]).run P w = .ok (.tuple #[]) (w.setRow g (cur.toList.take off ++ Z ++ cur.toList.drop (off + Z.length)).toArray) := by
  have hzl : (Builtin.zeroCells z.cells n).toList.length = n * sz := by simp [Builtin.zeroCells, hz]
  have hst := run_storeCells_at P g off tt (Builtin.zeroCells z.cells n).toList 0 cur w hg (by simpa [hzl] using hfit) (by
    intro v hv'
    obtain ⟨i, hi, rfl⟩ := List.getElem_of_mem hv'
    have hi' : i < n * z.cells.size := by simpa [Builtin.zeroCells] using hi
    have hpos : 0 < z.cells.size := Nat.pos_of_ne_zero (fun h => by rw [h] at hi'; simp at hi')
    have hlt : i % z.cells.size < z.cells.size := Nat.mod_lt _ hpos
    have e : (Builtin.zeroCells z.cells n).toList[i] = z.cells.toList[i % z.cells.size]'(by simpa using hlt) := by
      simp [Builtin.zeroCells, hlt]
    rw [e]
    exact h1 _ (List.getElem_mem _))
  simp only [Nat.add_zero] at hst
  refine ⟨_, hzl, ?_⟩
  obtain ⟨m, rfl⟩ : ∃ m, n = m + 1 := ⟨n - 1, by omega⟩
  simp [Builtin.clear_, run_underlying ht, hv, hst]
theorem wpList_clear_rows (hgd : o.guard = none) (s : Operand) (t : TypeId)
    (ho : o.op = .call { callee := .builtin .clear, args := #[s], argTypes := #[t] }) (e : TypeId) (z : Value) (sz : Nat) (ht : P.underlying t = some (.slice e)) (hv : ∀ w, (zeroValue e).run P w = .ok z w) (hz : z.cells.size = sz) (h1 : ∀ u ∈ z.cells.toList, u.oneCell' = true)
    (sp : Option Addr) (n c : Nat) (hs : a.eval s = .slice sp n c) (g off : Nat) (cur : List Value) (tt : TypeId) (hg : w.heap[g]? = some (.cells cur.toArray tt (0, 0)))
    (hpos : 0 < n → sp = some ⟨g, off, none⟩) (hfit : off + n * sz ≤ cur.length)
    (h : ∀ w' Z, Z.length = n * sz → Hid (w'.heap[g]? = some (.cells (splice cur off Z).toArray tt (0, 0))) → Only g w w' → wpList P ops Q rest (a.put o.dst (.tuple #[])) w') :
    wpList P ops Q (o :: rest) a w := by
  refine wpList_plain hgd fun K hK => ?_
  by_cases h0 : n = 0
  · subst h0
    have hrun : (Builtin.clear_ #[t] o.type #[.slice sp 0 c]).run P w = .ok (.tuple #[]) w := by
      cases sp <;> simp [Builtin.clear_, run_underlying ht]
    unfold Oper.wp
    simp [execOp, ho, resolve, invoke, builtin, hs, hrun, Result.andThen]
    exact hK _ _ (h w [] (by simp) (show _ = _ by simpa [splice] using hg) (Only.refl _ _))
  · obtain rfl := hpos (by omega)
    obtain ⟨Z, hZ, hrun⟩ := run_clear_rows (P := P) w t e o.type z sz ht hv hz h1 g off n c (by omega) cur.toArray tt hg (by simpa using hfit)
    unfold Oper.wp
    simp [execOp, ho, resolve, invoke, builtin, hs, hrun, Result.andThen]
    exact hK _ _ (by simpa using h _ Z hZ (show _ = _ by simpa [splice] using setRow_heap w g _ _ tt _ hg) ((Only.refl _ _).setRow _))
end
/-- A region that draws: what only reads goes first, in the order of the text, in a world that is a variable. -/
theorem still_tail_at {P : Program} {id : Nat} {Q : Exit → Act → World → Prop} {a : Act} {w : World} {l : List Oper} (n : Nat) (hm : P.follows .mixedOrders = true) (hB : Region.lexTailB .any l.toArray n = true)
    (h : ∀ W, W = w.drew → wpStill P l.toArray W (fun a' => wpList P l.toArray Q (l.drop n) a' W) (l.take n) a) : (Code.region id l.toArray true).wp P Q a w :=
  wp_region_still_tail n hm hB (h _ rfl)
end Go.Proofs.YtiohgpcbdefokaaDoor.RowLaws
/- record.Put of a mark. No condition. -/
namespace Go.Proofs.YtiohgpcbdefokaaDoor.B
open Go.RowKit Go.Proofs.YtiohgpcbdefokaaDoorW.PrintWords Go.Proofs.YtiohgpcbdefokaaDoor.RowLaws
attribute [local go_sem ↓ high] lvO_hs ldO_hs stO_hs lvO_pt ldO_pt stO_pt zero_pt eqA_pt lvO_ptR ldO_ptR stO_ptR zero_ptR eqA_ptR lvO_rc ldO_rc stO_rc zero_rc eqA_rc lvO_rcR ldO_rcR stO_rcR zero_rcR eqA_rcR lvO_tk ldO_tk stO_tk zero_tk eqA_tk lvO_tkR ldO_tkR stO_tkR zero_tkR eqA_tkR lvO_it ldO_it stO_it zero_it eqA_it blO_pt blO_ptR blO_rc blO_rcR blO_tk blO_tkR blO_it bsO_pt bsO_ptR bsO_rc bsO_rcR bsO_it
attribute [local go_sem high] rowAt_setCell rowAt_setRow cell_setRow_ne isRow_setRow_ne rowAt_alloc rowAt_drew isRow_alloc isRow_drew isRow_setCell rowRun_some okL_hs ldV_hs ldA_hs stA_hs setRow_alloc get_pt_id get_pt_path cut_pt_sum get_pt_size get_pt_off cut_pt okL_pt size_pt lenb_pt eta_pt ldV_pt ldA_pt stA_pt ldV_ptR ldA_ptR stA_ptR get_rc_kind get_rc_id get_rc_path cut_rc_sum get_rc_size get_rc_off cut_rc okL_rc size_rc lenb_rc eta_rc ldV_rc ldA_rc stA_rc ldV_rcR ldA_rcR stA_rcR get_tk_path cut_tk_sum get_tk_size get_tk_off cut_tk_old cut_tk okL_tk size_tk lenb_tk eta_tk ldV_tk ldA_tk stA_tk ldV_tkR ldA_tkR stA_tkR get_it_path get_it_dir get_it_size cut_it_sum cut_it okL_it size_it lenb_it eta_it ldV_it ldA_it stA_it bld_pt_01234 bld_pt_0123 bld_pt_z bld_ptR_01234 bld_ptR_0123 bld_ptR_z bld_rc_012345 bld_rc_015 bld_rc_01 bld_rc_z bld_rc_01234 bld_rc_24 bld_rc_05 bld_rc_0 bld_rcR_012345 bld_rcR_015 bld_rcR_01 bld_rcR_z bld_rcR_01234 bld_rcR_24 bld_rcR_05 bld_rcR_0 bld_tk_01234 bld_tk_0 bld_tk_z bld_tkR_01234 bld_tkR_0 bld_tkR_z bld_it_0123 bld_it_023 bld_it_01 bld_it_0 bld_it_z bs0_pt bs1_pt bs0_ptR bs1_ptR bs0_rc bs1_rc bs0_rcR bs1_rcR bs0_it bs1_it
theorem lit1_R (W : World) (x : Int) (B : Nat) (hB : B ≤ W.heap.size) : Kd.R (Kd.int .u8) 5 (W.alloc (.cells #[.int .u8 x] 5)) B (fun _ => True) (.slice (some ⟨W.heap.size, 0, none⟩) 1 1) [x] :=
  Kd.R_of_own (h1 := fun _ => rfl) ⟨rfl, .inr ⟨W.heap.size, 1, #[.int .u8 x], rfl, hB, heap_alloc_new _ _, Nat.le_refl 1, by unfold maxLen; decide, rfl, rfl⟩⟩ (fun _ _ => trivial)
set_option linter.unusedVariables false in
set_option maxHeartbeats 4000000 in
set_option maxRecDepth 100000 in
theorem PutMark_calls (k : Nat) (r : Rc) (a b s t : List Int) (w : World) (hT : TabOK w) (hk : r.kind = 1) (hc : chkE r = 0) (ha : field_Num.f k r.id = some a) (hb : field_Num.f k r.off = some b) (hl : a.length + b.length ≤ 100)
    (hs : crc_Seal.f k (([1] ++ a) ++ b) = some s) (ht : field_Text.f k (strOfNums s) = some t) :
    Calls Tryd.prog 23 #[.agg (rcL r).toArray] w fun e w' => ∃ v : Value, e = .returned (.tuple #[v, .int .i64 0]) ∧ Kd.R (Kd.int .u8) 5 w' w.heap.size (fun _ => True) v t ∧ Below w.heap.size w w' := by
  obtain ⟨x1, hx1⟩ : ∃ x1, [1] ++ a = x1 := ⟨_, rfl⟩
  rw [hx1] at hs
  obtain ⟨x2, hx2⟩ : ∃ x2, x1 ++ b = x2 := ⟨_, rfl⟩
  rw [hx2] at hs
  have HX1 := Aside0.mk hx1
  have HX2 := Aside0.mk hx2
  have HLL := Aside0.mk (show x1.length + b.length ≤ 101 ∧ x2.length ≤ 101 by rw [← hx2, List.length_append, ← hx1, List.length_append, List.length_singleton]; omega)
  clear hx1 hx2
  have HT := Aside0.mk hT
  have HC := Aside0.mk hc
  have HA := Aside0.mk ha
  have HB := Aside0.mk hb
  have HS := Aside0.mk hs
  have HTX := Aside0.mk ht
  have HL := Aside0.mk hl
  clear hT hc ha hb hs ht hl
  go_enter Tryd.func23, Tryd.ntmps23
  go_wp2_with (first
    | (go_at_call 26; refine (Check_calls r _ (HT.out.below ?_)).mono ?_; (exact below_alloc (Below.refl _ _) _); rintro e w2 ⟨rfl, hb2⟩; rw [HC.out]; obtain ⟨hcl, hfz⟩ := bcell0 hb2; have c0 : w2.cell? ⟨w.heap.size, 0, none⟩ = some (.int .u8 r.kind) := (by rw [hcl _ _ (by simp)]; first | (go_simp; done) | (simp [*]; done)); have c1 : w2.cell? ⟨w.heap.size, 1, none⟩ = some (.int .i64 r.id) := (by rw [hcl _ _ (by simp)]; first | (go_simp; done) | (simp [*]; done)); have c5 : w2.cell? ⟨w.heap.size, 36, none⟩ = some (.int .i64 r.off) := (by rw [hcl _ _ (by simp)]; first | (go_simp; done) | (simp [*]; done)); have HB2 := Aside0.mk (Below.trans (below_alloc (Below.refl w.heap.size w) _) (hb2.mono (by simp))); have HS2 := Aside0.mk (show w.heap.size + 1 ≤ w2.heap.size from by have h_ := hb2.size; simpa using h_); clear hb2 hcl hfz))
  go_region_held3 (fun w' => w'.cell? ⟨w.heap.size, 0, none⟩ = some (.int .u8 r.kind) ∧ w'.cell? ⟨w.heap.size, 1, none⟩ = some (.int .i64 r.id)) (first | go_keep)
    (first
      | (go_at_call 54; refine (field_Num.calls k r.id a _ HA.out).mono ?_; rintro e w4 ⟨v4, rfl, ho4, hb4⟩; obtain ⟨A4, n4, rfl⟩ := Kd.R_slice ho4;
          (first
            | have HX := Aside0.mk (And.intro (show Below (w.heap.size + 1) w2 w4 from Below.trans (below_drew (Below.alloc (Below.refl _ _) HS2.out _)) (hb4.mono (by have := HS2.out; simp; omega))) (Kd.R_below (Kd.R_drew (lit1_R w2 1 (w.heap.size + 1) HS2.out)) hb4))
            | have HX := Aside0.mk (And.intro (show Below (w.heap.size + 1) w2 w4 from Below.trans (below_drew (Below.refl _ _)) (hb4.mono (by have := HS2.out; simp; omega))) True.intro));
          have HO4 := Aside0.mk (Kd.R_lower (base' := w.heap.size + 1) ho4 (by have := HS2.out; simp; omega));
          have c40 : w4.cell? ⟨w.heap.size, 0, none⟩ = some (.int .u8 r.kind) := (HX.out.1.cell (p := ⟨w.heap.size, 0, none⟩) (by simp)).trans c0;
          have c41 : w4.cell? ⟨w.heap.size, 1, none⟩ = some (.int .i64 r.id) := (HX.out.1.cell (p := ⟨w.heap.size, 1, none⟩) (by simp)).trans c1;
          clear ho4 hb4)
      | ((with_reducible refine gate_stepb (b := .append) (xs := #[.tmp 13, .tmp 16]) rfl ?_);
          refine Kd.R_append_rows_step (Kd.int .u8) (w0 := w2) (w.heap.size + 1) rfl (.tmp 13) (.tmp 16) 22 5 (.int .u8 0) 1 rfl Tryd.underlying22 info5 rfl (by decide) (by decide) _ [1] a A4 a.length n4 (fun _ => True) (fun _ => False) rfl rfl ?aO ?aR (fun _ _ h => h) (fun _ h => h.elim) (fun _ _ => trivial) ?aB ?aS ?aL ?_;
          (case aO => first | exact HX.out.2 | exact lit1_R w4 1 (w.heap.size + 1) (by have h_ := HX.out.1.size; have := HS2.out; omega));
          (case aR => first | exact (Kd.R_reads' HO4.out).2.2 | exact Kd.C_below (Kd.R_reads' HO4.out).2.2 (below_alloc (Below.refl _ _) _));
          (case aB => first | exact HX.out.1 | exact Below.alloc HX.out.1 (by have h_ := HX.out.1.size; have := HS2.out; omega) _);
          (case aS => have h_ := HX.out.1.size; have := HS2.out; simp; omega);
          (case aL => have := HL.out; simp; omega);
          intro v5 w5 ho5 hb5 hg5 hat5;
          rw [HX1.out] at ho5;
          have HO5 := Aside0.mk ho5;
          have HB5 := Aside0.mk hb5;
          have c50 : w5.cell? ⟨w.heap.size, 0, none⟩ = some (.int .u8 r.kind) := (hb5.cell (p := ⟨w.heap.size, 0, none⟩) (by simp)).trans c0;
          have c51 : w5.cell? ⟨w.heap.size, 1, none⟩ = some (.int .i64 r.id) := (hb5.cell (p := ⟨w.heap.size, 1, none⟩) (by simp)).trans c1;
          have c55 : w5.cell? ⟨w.heap.size, 36, none⟩ = some (.int .i64 r.off) := (hb5.cell (p := ⟨w.heap.size, 36, none⟩) (by simp)).trans c5;
          clear ho5 hb5 hg5 hat5))
  all_goals
    obtain ⟨A5, n5, rfl⟩ := Kd.R_slice HO5.out
    go_wp2_with (first
      | (go_at_call 54; refine (field_Num.calls k r.off b _ HB.out).mono ?_; rintro e w6 ⟨v6, rfl, ho6, hb6⟩; obtain ⟨A6, n6, rfl⟩ := Kd.R_slice ho6;
          have HB6 := Aside0.mk (show Below (w.heap.size + 1) w2 w6 from Below.trans HB5.out (hb6.mono (by have h_ := HB5.out.size; have := HS2.out; omega)));
          have HO6 := Aside0.mk (Kd.R_lower (base' := w.heap.size + 1) ho6 (by have h_ := HB5.out.size; have := HS2.out; omega));
          have HO56 := Aside0.mk (Kd.R_below HO5.out hb6);
          clear ho6 hb6)
      | ((with_reducible refine gate_builtin (b := .append) (xs := #[.tmp 36, .tmp 39]) rfl ?_); at_builtin;
          refine Kd.R_append_rows (Kd.int .u8) (w0 := w2) (w.heap.size + 1) rfl (.tmp 36) (.tmp 39) 22 5 (.int .u8 0) 1 rfl Tryd.underlying22 info5 rfl (by decide) (by decide) (.slice A5 x1.length n5) x1 b A6 b.length n6 (fun _ => True) (fun _ => False) rfl rfl ?aO ?aR (fun _ _ h => h) (fun _ h => h.elim) (fun _ _ => trivial) ?aB ?aS ?aL ?_;
          (case aO => exact HO56.out);
          (case aR => exact (Kd.R_reads' HO6.out).2.2);
          (case aB => exact HB6.out);
          (case aS => have h_ := HB6.out.size; have := HS2.out; omega);
          (case aL => have := HLL.out; omega);
          intro v7 w7 ho7 hb7 hg7 hat7;
          rw [HX2.out] at ho7;
          obtain ⟨A7, n7, rfl⟩ := Kd.R_slice ho7;
          have HO7 := Aside0.mk ho7;
          have HB7 := Aside0.mk hb7;
          clear ho7 hb7 hg7 hat7)
      | (go_at_call 72; refine (crc_Seal.calls k A7 n7 x2 s _ (Kd.R_reads' HO7.out).2.2 (Kd.R_reads' HO7.out).2.1 (HT.out.below (Below.trans HB2.out (HB7.out.mono (by omega)))) HS.out).mono ?_; rintro e w8 ⟨v8, rfl, ho8, hb8⟩; obtain ⟨A8, n8, rfl⟩ := Kd.R_slice ho8;
          have HB8 := Aside0.mk (show Below (w.heap.size + 1) w2 w8 from Below.trans HB7.out (hb8.mono (by have h_ := HB7.out.size; have := HS2.out; omega)));
          have hcv := Kd.C_string (P := Tryd.prog) (src := 22) (dst := 9) (c := n8) Tryd.underlying22 Tryd.underlying5 Tryd.underlying9 (Kd.R_reads' ho8).2.2;
          clear ho8 hb8)
      | (go_at_call 53; refine (field_Text.calls k (strOfNums s) t _ HTX.out).mono ?_; rintro e w9 ⟨v9, rfl, ho9, hb9⟩; obtain ⟨A9, n9, rfl⟩ := Kd.R_slice ho9;
          have HO9 := Aside0.mk (Kd.R_lower (base' := w.heap.size) ho9 (by have h_ := HB8.out.size; have := HS2.out; omega));
          have HB9 := Aside0.mk (show Below w.heap.size w w9 from Below.trans HB2.out ((Below.trans HB8.out (hb9.mono (by have h_ := HB8.out.size; have := HS2.out; omega))).mono (by omega)));
          clear ho9 hb9))
    go_ret2
    exact ⟨_, rfl, HO9.out, HB9.out⟩
end Go.Proofs.YtiohgpcbdefokaaDoor.B
/- record.Put at kinds that are neither Begin nor Mark. No condition. -/
namespace Go.Proofs.YtiohgpcbdefokaaDoor.B
open Go.RowKit Go.Proofs.YtiohgpcbdefokaaDoorW.PrintWords Go.Proofs.YtiohgpcbdefokaaDoor.RowLaws
attribute [local go_sem ↓ high] lvO_hs ldO_hs stO_hs lvO_pt ldO_pt stO_pt zero_pt eqA_pt lvO_ptR ldO_ptR stO_ptR zero_ptR eqA_ptR lvO_rc ldO_rc stO_rc zero_rc eqA_rc lvO_rcR ldO_rcR stO_rcR zero_rcR eqA_rcR lvO_tk ldO_tk stO_tk zero_tk eqA_tk lvO_tkR ldO_tkR stO_tkR zero_tkR eqA_tkR lvO_it ldO_it stO_it zero_it eqA_it blO_pt blO_ptR blO_rc blO_rcR blO_tk blO_tkR blO_it bsO_pt bsO_ptR bsO_rc bsO_rcR bsO_it
attribute [local go_sem high] rowAt_setCell rowAt_setRow cell_setRow_ne isRow_setRow_ne rowAt_alloc rowAt_drew isRow_alloc isRow_drew isRow_setCell rowRun_some okL_hs ldV_hs ldA_hs stA_hs setRow_alloc get_pt_id get_pt_path cut_pt_sum get_pt_size get_pt_off cut_pt okL_pt size_pt lenb_pt eta_pt ldV_pt ldA_pt stA_pt ldV_ptR ldA_ptR stA_ptR get_rc_kind get_rc_id get_rc_path cut_rc_sum get_rc_size get_rc_off cut_rc okL_rc size_rc lenb_rc eta_rc ldV_rc ldA_rc stA_rc ldV_rcR ldA_rcR stA_rcR get_tk_path cut_tk_sum get_tk_size get_tk_off cut_tk_old cut_tk okL_tk size_tk lenb_tk eta_tk ldV_tk ldA_tk stA_tk ldV_tkR ldA_tkR stA_tkR get_it_path get_it_dir get_it_size cut_it_sum cut_it okL_it size_it lenb_it eta_it ldV_it ldA_it stA_it bld_pt_01234 bld_pt_0123 bld_pt_z bld_ptR_01234 bld_ptR_0123 bld_ptR_z bld_rc_012345 bld_rc_015 bld_rc_01 bld_rc_z bld_rc_01234 bld_rc_24 bld_rc_05 bld_rc_0 bld_rcR_012345 bld_rcR_015 bld_rcR_01 bld_rcR_z bld_rcR_01234 bld_rcR_24 bld_rcR_05 bld_rcR_0 bld_tk_01234 bld_tk_0 bld_tk_z bld_tkR_01234 bld_tkR_0 bld_tkR_z bld_it_0123 bld_it_023 bld_it_01 bld_it_0 bld_it_z bs0_pt bs1_pt bs0_ptR bs1_ptR bs0_rc bs1_rc bs0_rcR bs1_rcR bs0_it bs1_it
set_option linter.unusedVariables false in
set_option maxHeartbeats 4000000 in
set_option maxRecDepth 100000 in
theorem PutBare_calls (k : Nat) (r : Rc) (a s t : List Int) (w : World) (hT : TabOK w) (hk : ¬ r.kind = 0) (hk1 : ¬ r.kind = 1) (hc : chkE r = 0) (ha : field_Num.f k r.id = some a) (hl : a.length ≤ 100)
    (hs : crc_Seal.f k ([r.kind] ++ a) = some s) (ht : field_Text.f k (strOfNums s) = some t) :
    Calls Tryd.prog 23 #[.agg (rcL r).toArray] w fun e w' => ∃ v : Value, e = .returned (.tuple #[v, .int .i64 0]) ∧ Kd.R (Kd.int .u8) 5 w' w.heap.size (fun _ => True) v t ∧ Below w.heap.size w w' := by
  obtain ⟨x1, hx1⟩ : ∃ x1, [r.kind] ++ a = x1 := ⟨_, rfl⟩
  rw [hx1] at hs
  have HX1 := Aside0.mk hx1
  have HLL := Aside0.mk (show x1.length ≤ 101 by rw [← hx1, List.length_append, List.length_singleton]; omega)
  have hz0 : decide (r.kind = 0) = false := decide_eq_false hk
  have hz1 : decide (r.kind = 1) = false := decide_eq_false hk1
  have hy0 : (r.kind == 0) = false := by simp [hk]
  have hy1 : (r.kind == 1) = false := by simp [hk1]
  clear hx1 hk hk1
  have HT := Aside0.mk hT
  have HC := Aside0.mk hc
  have HA := Aside0.mk ha
  have HS := Aside0.mk hs
  have HTX := Aside0.mk ht
  have HL := Aside0.mk hl
  clear hT hc ha hs ht hl
  go_enter Tryd.func23, Tryd.ntmps23
  go_wp2_with (first
    | (go_at_call 26; refine (Check_calls r _ (HT.out.below ?_)).mono ?_; (exact below_alloc (Below.refl _ _) _); rintro e w2 ⟨rfl, hb2⟩; rw [HC.out]; obtain ⟨hcl, hfz⟩ := bcell0 hb2; have c0 : w2.cell? ⟨w.heap.size, 0, none⟩ = some (.int .u8 r.kind) := (by rw [hcl _ _ (by simp)]; first | (go_simp; done) | (simp [*]; done)); have c1 : w2.cell? ⟨w.heap.size, 1, none⟩ = some (.int .i64 r.id) := (by rw [hcl _ _ (by simp)]; first | (go_simp; done) | (simp [*]; done)); have c5 : w2.cell? ⟨w.heap.size, 36, none⟩ = some (.int .i64 r.off) := (by rw [hcl _ _ (by simp)]; first | (go_simp; done) | (simp [*]; done)); have HB2 := Aside0.mk (Below.trans (below_alloc (Below.refl w.heap.size w) _) (hb2.mono (by simp))); have HS2 := Aside0.mk (show w.heap.size + 1 ≤ w2.heap.size from by have h_ := hb2.size; simpa using h_); clear hb2 hcl hfz))
  go_region_held3 (fun w' => w'.cell? ⟨w.heap.size, 0, none⟩ = some (.int .u8 r.kind) ∧ w'.cell? ⟨w.heap.size, 1, none⟩ = some (.int .i64 r.id)) (first | go_keep)
    (first
      | (go_at_call 54; refine (field_Num.calls k r.id a _ HA.out).mono ?_; rintro e w4 ⟨v4, rfl, ho4, hb4⟩; obtain ⟨A4, n4, rfl⟩ := Kd.R_slice ho4;
          (first
            | have HX := Aside0.mk (And.intro (show Below (w.heap.size + 1) w2 w4 from Below.trans (below_drew (Below.alloc (Below.refl _ _) HS2.out _)) (hb4.mono (by have := HS2.out; simp; omega))) (Kd.R_below (Kd.R_drew (lit1_R w2 r.kind (w.heap.size + 1) HS2.out)) hb4))
            | have HX := Aside0.mk (And.intro (show Below (w.heap.size + 1) w2 w4 from Below.trans (below_drew (Below.refl _ _)) (hb4.mono (by have := HS2.out; simp; omega))) True.intro));
          have HO4 := Aside0.mk (Kd.R_lower (base' := w.heap.size + 1) ho4 (by have := HS2.out; simp; omega));
          have c40 : w4.cell? ⟨w.heap.size, 0, none⟩ = some (.int .u8 r.kind) := (HX.out.1.cell (p := ⟨w.heap.size, 0, none⟩) (by simp)).trans c0;
          have c41 : w4.cell? ⟨w.heap.size, 1, none⟩ = some (.int .i64 r.id) := (HX.out.1.cell (p := ⟨w.heap.size, 1, none⟩) (by simp)).trans c1;
          clear ho4 hb4)
      | ((with_reducible refine gate_stepb (b := .append) (xs := #[.tmp 13, .tmp 16]) rfl ?_);
          refine Kd.R_append_rows_step (Kd.int .u8) (w0 := w2) (w.heap.size + 1) rfl (.tmp 13) (.tmp 16) 22 5 (.int .u8 0) 1 rfl Tryd.underlying22 info5 rfl (by decide) (by decide) _ [r.kind] a A4 a.length n4 (fun _ => True) (fun _ => False) rfl rfl ?aO ?aR (fun _ _ h => h) (fun _ h => h.elim) (fun _ _ => trivial) ?aB ?aS ?aL ?_;
          (case aO => first | exact HX.out.2 | exact lit1_R w4 r.kind (w.heap.size + 1) (by have h_ := HX.out.1.size; have := HS2.out; omega));
          (case aR => first | exact (Kd.R_reads' HO4.out).2.2 | exact Kd.C_below (Kd.R_reads' HO4.out).2.2 (below_alloc (Below.refl _ _) _));
          (case aB => first | exact HX.out.1 | exact Below.alloc HX.out.1 (by have h_ := HX.out.1.size; have := HS2.out; omega) _);
          (case aS => have h_ := HX.out.1.size; have := HS2.out; simp; omega);
          (case aL => have := HL.out; simp; omega);
          intro v5 w5 ho5 hb5 hg5 hat5;
          rw [HX1.out] at ho5;
          have HO5 := Aside0.mk ho5;
          have HB5 := Aside0.mk hb5;
          have c50 : w5.cell? ⟨w.heap.size, 0, none⟩ = some (.int .u8 r.kind) := (hb5.cell (p := ⟨w.heap.size, 0, none⟩) (by simp)).trans c0;
          have c51 : w5.cell? ⟨w.heap.size, 1, none⟩ = some (.int .i64 r.id) := (hb5.cell (p := ⟨w.heap.size, 1, none⟩) (by simp)).trans c1;
          have c55 : w5.cell? ⟨w.heap.size, 36, none⟩ = some (.int .i64 r.off) := (hb5.cell (p := ⟨w.heap.size, 36, none⟩) (by simp)).trans c5;
          clear ho5 hb5 hg5 hat5))
  all_goals
    obtain ⟨A5, n5, rfl⟩ := Kd.R_slice HO5.out
    go_wp2_with (first
      | (go_at_call 72; refine (crc_Seal.calls k A5 n5 x1 s _ (Kd.R_reads' HO5.out).2.2 (Kd.R_reads' HO5.out).2.1 (HT.out.below (Below.trans HB2.out (HB5.out.mono (by omega)))) HS.out).mono ?_; rintro e w8 ⟨v8, rfl, ho8, hb8⟩; obtain ⟨A8, n8, rfl⟩ := Kd.R_slice ho8;
          have HB8 := Aside0.mk (show Below (w.heap.size + 1) w2 w8 from Below.trans HB5.out (hb8.mono (by have h_ := HB5.out.size; have := HS2.out; omega)));
          have hcv := Kd.C_string (P := Tryd.prog) (src := 22) (dst := 9) (c := n8) Tryd.underlying22 Tryd.underlying5 Tryd.underlying9 (Kd.R_reads' ho8).2.2;
          clear ho8 hb8)
      | (go_at_call 53; refine (field_Text.calls k (strOfNums s) t _ HTX.out).mono ?_; rintro e w9 ⟨v9, rfl, ho9, hb9⟩; obtain ⟨A9, n9, rfl⟩ := Kd.R_slice ho9;
          have HO9 := Aside0.mk (Kd.R_lower (base' := w.heap.size) ho9 (by have h_ := HB8.out.size; have := HS2.out; omega));
          have HB9 := Aside0.mk (show Below w.heap.size w w9 from Below.trans HB2.out ((Below.trans HB8.out (hb9.mono (by have h_ := HB8.out.size; have := HS2.out; omega))).mono (by omega)));
          clear ho9 hb9))
    go_ret2
    exact ⟨_, rfl, HO9.out, HB9.out⟩
end Go.Proofs.YtiohgpcbdefokaaDoor.B
/- slices.Grow of a nil slice of bytes. No condition. -/
namespace Go.Proofs.YtiohgpcbdefokaaDoor.B
open Go.RowKit Go.Shelf Go.Proofs.YtiohgpcbdefokaaDoorW.PrintWords Go.Proofs.YtiohgpcbdefokaaDoorW.PrintLast Go.Proofs.YtiohgpcbdefokaaDoorW.PrintMore Go.Proofs.YtiohgpcbdefokaaDoor.RowLaws
attribute [local go_sem] Oper.semAt_some
theorem wpList_zeros_nil {P : Program} {Q : Exit → Act → World → Prop} {a : Act} {w : World} {ops : Array Oper} {rest : List Oper} {o : Oper} (hgd : o.guard = none) (s x : Operand) (t tn : TypeId)
    (ho : o.op = .call { callee := .builtin .append, args := #[s, x], argTypes := #[t, tn] }) (e : TypeId) (i : TypeInfo) (z : Value) (sz : Nat) (kn : IntKind) (ht : P.underlying t = some (.slice e)) (htn : P.underlying tn = some (.int kn)) (hi : P.info? e = some i) (hz : i.zero = some z) (hsz : i.size = sz) (hzs : z.cells.size = sz)
    (hs : a.eval s = .slice none 0 0) (kq : IntKind) (k : Nat) (hx : a.eval x = .int kq k) (h0 : 0 < k) (hs0 : 0 < sz) (h63 : ((0 + k : Nat) : Int) ≤ 9223372036854775807) (h48 : k * i.bytes ≤ 281474976710656) (hfit : Builtin.nextslicecap (0 + k) 0 * i.bytes ≤ 281474976710656)
    (h : ∀ cap cur, k ≤ cap → cap ≤ maxLen → cur.size = cap * sz → wpList P ops Q rest (a.put o.dst (.slice (some ⟨w.heap.size, 0, none⟩) k cap)) (w.drew.alloc (.cells cur e))) :
    wpList P ops Q (o :: rest) a w := by
  refine wpList_plain hgd fun K hK => ?_
  have hf : (Builtin.firstCells i.size 0 (.slice none 0 0)).run P w.drew = .ok ([] : List Value).toArray w.drew := by simp [Builtin.firstCells]
  have hrun := Lib.run_append_grow_zeros (P := P) w t tn o.type e i z kq kn ht htn hi hz none 0 0 [] hf k h0 (by omega) (by omega) h63 h48 hfit
  unfold Oper.wp
  simp [execOp, ho, resolve, invoke, builtin, hs, hx, hrun, Result.andThen]
  have hge := grownCap_ge w (0 + k) 0 e
  have hle := grownCap_le_maxLen w (0 + k) 0 e (by unfold maxLen; omega)
  have h2 := h (grownCap w (0 + k) 0 e) (Builtin.zeroCells z.cells k ++ Builtin.zeroCells z.cells (grownCap w (0 + k) 0 e - (0 + k))) (by omega) hle (by
    simp only [Array.size_append, size_zeroCells, hzs, ← Nat.add_mul]
    congr 1; omega)
  refine hK _ _ ?_
  simpa using h2
theorem info5g : (Tryd.prog.info? 5).map (fun i => (i.zero, i.size, i.bytes)) = some (some (.int .u8 0), 1, 1) := by kernel_rfl
set_option maxRecDepth 100000 in
set_option maxHeartbeats 4000000 in
theorem Grow_nil (n : Nat) (hn : n ≤ 1000000) (w : World) :
    Calls Tryd.prog 134 #[.slice none 0 0, .int .i64 (n : Int)] w fun e w' => ∃ v, e = .returned v ∧ w'.ownsRow w.heap.size 5 1 v 0 [] ∧ Below w.heap.size w w' := by
  have e0 : (0 : Int) ≤ (n : Int) := by omega
  have e1 : IntKind.i64.wrap (n : Int) = (n : Int) := IntWalk.i64_in _ (by omega)
  obtain ⟨i0, hi0, hz0, hz1, hz2⟩ := info_parts info5g
  by_cases h0 : 0 < n
  · have e2 : (0 : Int) < (n : Int) := by omega
    go_enter Tryd.func134, Tryd.ntmps134
    go_wp2_with ((with_reducible refine gate_builtin (b := .append) (xs := #[.tmp 20, .tmp 21]) rfl ?_); refine wpList_zeros_nil rfl (.tmp 20) (.tmp 21) 22 3 rfl 5 i0 (.int .u8 0) 1 .i64 Tryd.underlying22 Tryd.underlying3 hi0 hz0 hz1 rfl rfl .i64 n rfl h0 (by decide) (by omega) (by rw [hz2]; omega) (by rw [hz2]; exact growslice_fits (by omega) (by omega)) ?_; intro cap cur hc1 hc2 hc3)
    go_ret
    exact ⟨_, rfl, (World.ownsRow_made w cur cap (Nat.le_refl _) hc2 hc3).drew, below_drew (below_alloc (Below.refl _ _) _)⟩
  · have hz : n = 0 := by omega
    subst hz
    go_enter Tryd.func134, Tryd.ntmps134
    go_wp2
    go_ret
    exact ⟨_, rfl, World.ownsRow_nil _ _ _ _, Below.refl _ _⟩
#print axioms Grow_nil
end Go.Proofs.YtiohgpcbdefokaaDoor.B
/- slices.Concat of rows of bytes, field.Join. No condition. -/
namespace Go.Proofs.YtiohgpcbdefokaaDoor.B
open Go.RowKit Go.Shelf Go.Proofs.YtiohgpcbdefokaaDoorW.PrintWords Go.Proofs.YtiohgpcbdefokaaDoorW.PrintLast Go.Proofs.YtiohgpcbdefokaaDoorW.PrintMore Go.Proofs.YtiohgpcbdefokaaDoor.RowLaws
attribute [local go_sem] Oper.semAt_some
def RowsAt (W : World) (p : Nat) (rows : List (List Int)) : Prop := ∀ i (h : i < rows.length), ∃ A c, W.cell? ⟨p, i, none⟩ = some (.slice A rows[i].length c) ∧ rows[i].length ≤ c ∧ Kd.C (Kd.int .u8) W A rows[i].length rows[i]
def total : List (List Int) → Nat
  | [] => 0
  | x :: r => x.length + total r
theorem total_append : ∀ (a b : List (List Int)), total (a ++ b) = total a + total b
  | [], b => by simp [total]
  | x :: r, b => by simp [total, total_append r b]; omega
theorem total_take (rows : List (List Int)) (k : Nat) (h : k < rows.length) : total (rows.take (k + 1)) = total (rows.take k) + rows[k].length := by
  rw [List.take_succ_eq_append_getElem h, total_append]; simp [total]
theorem total_le (rows : List (List Int)) (k : Nat) : total (rows.take k) ≤ total rows := by
  conv => rhs; rw [← List.take_append_drop k rows, total_append]
  omega
theorem total_flat : ∀ (rows : List (List Int)), rows.flatten.length = total rows
  | [] => rfl
  | x :: r => by simp only [List.flatten_cons, List.length_append, total, total_flat r]
theorem R_of_empty {W : World} {B : Nat} {v : Value} (h : W.ownsRow B 5 1 v 0 []) : Kd.R (Kd.int .u8) 5 W B (fun _ => True) v [] :=
  ⟨fun _ _ => trivial, ⟨[], h, ⟨rfl, fun i x hx => by simp at hx⟩⟩⟩
set_option maxRecDepth 100000 in
set_option maxHeartbeats 4000000 in
theorem Concat_calls (p m cc : Nat) (rows : List (List Int)) (w : World) (hm : rows.length = m) (hm2 : m ≤ 1000) (hr : RowsAt w p rows) (hs : total rows ≤ 1000000) :
    Calls Tryd.prog 101 #[.slice (some ⟨p, 0, none⟩) m cc] w fun e w' => ∃ v, e = .returned v ∧ Kd.R (Kd.int .u8) 5 w' w.heap.size (fun _ => True) v rows.flatten ∧ Below w.heap.size w w' := by
  have HR := Aside0.mk hr
  have HS := Aside0.mk hs
  have HM := Aside0.mk hm
  have em : (m : Int) ≤ 1000 := by omega
  clear hr hs
  go_enter Tryd.func101, Tryd.ntmps101
  go_wp2
  go_loopw [3, 11] (fun n i wr => ∃ k : Nat, k ≤ m ∧ i = .int .i64 k ∧ n = .int .i64 (total (rows.take k) : Nat) ∧ Aside0 (Below w.heap.size w wr)) (fun _ i _ => m - (intOf i).toNat)
  case atStart => exact ⟨0, Nat.zero_le _, rfl, rfl, ⟨Below.refl _ _⟩⟩
  case round =>
    obtain ⟨k, hk, rfl, rfl, HW⟩ := hrel
    by_cases hlt : k < m
    · obtain ⟨A, c, h1, h2, h3⟩ := HR.out k (by omega)
      have hc := (HW.out.cell (World.block_lt_of_cell? _ _ h1)).trans h1
      have h4 := total_take rows k (by omega)
      have h5 := total_le rows (k + 1)
      obtain ⟨S, hS⟩ : ∃ S, total (rows.take k) = S := ⟨_, rfl⟩
      obtain ⟨L, hL⟩ : ∃ L, rows[k].length = L := ⟨_, rfl⟩
      rw [hS]
      rw [hL] at hc
      rw [hS, hL] at h4
      have hS5 : S + L ≤ 1000000 := by have := HS.out; omega
      have hw1 : IntKind.i64.wrap ((S : Int) + (L : Int)) = (S : Int) + (L : Int) := IntWalk.i64_in _ (by omega)
      have H4 := Aside0.mk h4
      clear h1 h2 h3 h4 h5 hS hL
      go_wp2
      go_roundw
      case rel => exact ⟨k + 1, by omega, by simp, by rw [H4.out]; simp, HW⟩
      case measure => simp [intOf]; omega
    · have hk2 : k = m := by omega
      subst hk2
      have HT := Aside0.mk (show rows.take k = rows from List.take_of_length_le (by omega))
      rw [HT.out]
      go_wp2_with (go_at_call 134; refine (Grow_nil (total rows) HS.out wr).mono ?_; rintro e w2 ⟨v, rfl, ho, hb⟩; have HO := Aside0.mk (Kd.R_lower (R_of_empty ho) HW.out.size); have HB := Aside0.mk (below_step HW.out hb); clear ho hb)
      go_loopw [6, 27] (fun v i wr => ∃ j : Nat, j ≤ k ∧ i = .int .i64 j ∧ Aside0 (Kd.R (Kd.int .u8) 5 wr w.heap.size (fun _ => True) v (rows.take j).flatten) ∧ Aside0 (Below w.heap.size w wr)) (fun _ i _ => k - (intOf i).toNat)
      case atStart => exact ⟨0, Nat.zero_le _, rfl, HO, HB⟩
      case round =>
        obtain ⟨j, hj, rfl, HO2, HW2⟩ := hrel
        by_cases hlt2 : j < k
        · obtain ⟨A, c, h1, h2, h3⟩ := HR.out j (by omega)
          have hc := (HW2.out.cell (World.block_lt_of_cell? _ _ h1)).trans h1
          have H3 := Aside0.mk (Kd.C_below h3 HW2.out)
          have h4 := total_take rows j (by omega)
          have h5 := total_le rows (j + 1)
          have h6 := total_flat (rows.take j)
          have HFL := Aside0.mk (show (rows.take j).flatten.length + rows[j].length ≤ 1000000 by have := HS.out; omega)
          have HFT := Aside0.mk (show (rows.take (j + 1)).flatten = (rows.take j).flatten ++ rows[j] by rw [List.take_succ_eq_append_getElem (show j < rows.length by omega), List.flatten_append, List.flatten_cons, List.flatten_nil, List.append_nil])
          clear h1 h2 h3 h4 h5 h6
          go_wp2_with ((with_reducible refine gate_builtin (b := .append) (xs := #[.tmp 31, .tmp 32]) rfl ?_); at_builtin; refine Kd.R_append_rows (Kd.int .u8) (w0 := w) w.heap.size rfl (.tmp 31) (.tmp 32) 22 5 (.int .u8 0) 1 rfl Tryd.underlying22 info5 rfl (by decide) (by omega) _ (rows.take j).flatten rows[j] _ _ _ (fun _ => True) (fun _ => False) rfl rfl ?aO ?aR (fun _ _ h => h) (fun _ h => h.elim) ?aF ?aB ?aS ?aL ?_; (case aR => exact H3.out); (case aB => exact HW2.out); (case aF => exact (fun _ _ => trivial)); (case aO => exact HO2.out); (case aS => exact HW2.out.size); (case aL => have := HFL.out; omega); intro v3 w3 ho hb hg hat; have HB3 := Aside0.mk hb; have HO3 := Aside0.mk ho; clear ho hb hg hat)
          go_roundw
          case rel => exact ⟨j + 1, by omega, by simp, ⟨by rw [HFT.out]; exact HO3.out⟩, HB3⟩
          case measure => simp [intOf]; omega
        · have hj2 : j = k := by omega
          subst hj2
          rw [HT.out] at HO2
          go_wp2
          go_ret
          exact ⟨_, rfl, HO2.out, HW2.out⟩
#print axioms Concat_calls
theorem Join_calls (p m cc : Nat) (rows : List (List Int)) (w : World) (hm : rows.length = m) (hm2 : m ≤ 1000) (hr : RowsAt w p rows) (hs : total rows ≤ 1000000) :
    Calls Tryd.prog 52 #[.slice (some ⟨p, 0, none⟩) m cc] w fun e w' => ∃ v, e = .returned v ∧ Kd.R (Kd.int .u8) 5 w' w.heap.size (fun _ => True) v rows.flatten ∧ Below w.heap.size w w' := by
  have HC := Aside0.mk (Concat_calls p m cc rows w hm hm2 hr hs)
  go_enter Tryd.func52, Tryd.ntmps52
  go_wp2_with (go_at_call 101; refine HC.out.mono ?_; rintro e w2 ⟨v, rfl, ho, hb⟩; have HO := Aside0.mk ho; have HB := Aside0.mk hb; clear ho hb)
  go_ret
  exact ⟨_, rfl, HO.out, HB.out⟩
end Go.Proofs.YtiohgpcbdefokaaDoor.B
/- record.Put of a Begin. No condition. -/
namespace Go.Proofs.YtiohgpcbdefokaaDoor.B
open Go.RowKit Go.Proofs.YtiohgpcbdefokaaDoorW.PrintWords Go.Proofs.YtiohgpcbdefokaaDoor.RowLaws
attribute [local go_sem ↓ high] lvO_hs ldO_hs stO_hs lvO_pt ldO_pt stO_pt zero_pt eqA_pt lvO_ptR ldO_ptR stO_ptR zero_ptR eqA_ptR lvO_rc ldO_rc stO_rc zero_rc eqA_rc lvO_rcR ldO_rcR stO_rcR zero_rcR eqA_rcR lvO_tk ldO_tk stO_tk zero_tk eqA_tk lvO_tkR ldO_tkR stO_tkR zero_tkR eqA_tkR lvO_it ldO_it stO_it zero_it eqA_it blO_pt blO_ptR blO_rc blO_rcR blO_tk blO_tkR blO_it bsO_pt bsO_ptR bsO_rc bsO_rcR bsO_it
attribute [local go_sem high] rowAt_setCell rowAt_setRow cell_setRow_ne isRow_setRow_ne rowAt_alloc rowAt_drew isRow_alloc isRow_drew isRow_setCell rowRun_some okL_hs ldV_hs ldA_hs stA_hs setRow_alloc get_pt_id get_pt_path cut_pt_sum get_pt_size get_pt_off cut_pt okL_pt size_pt lenb_pt eta_pt ldV_pt ldA_pt stA_pt ldV_ptR ldA_ptR stA_ptR get_rc_kind get_rc_id get_rc_path cut_rc_sum get_rc_size get_rc_off cut_rc okL_rc size_rc lenb_rc eta_rc ldV_rc ldA_rc stA_rc ldV_rcR ldA_rcR stA_rcR get_tk_path cut_tk_sum get_tk_size get_tk_off cut_tk_old cut_tk okL_tk size_tk lenb_tk eta_tk ldV_tk ldA_tk stA_tk ldV_tkR ldA_tkR stA_tkR get_it_path get_it_dir get_it_size cut_it_sum cut_it okL_it size_it lenb_it eta_it ldV_it ldA_it stA_it bld_pt_01234 bld_pt_0123 bld_pt_z bld_ptR_01234 bld_ptR_0123 bld_ptR_z bld_rc_012345 bld_rc_015 bld_rc_01 bld_rc_z bld_rc_01234 bld_rc_24 bld_rc_05 bld_rc_0 bld_rcR_012345 bld_rcR_015 bld_rcR_01 bld_rcR_z bld_rcR_01234 bld_rcR_24 bld_rcR_05 bld_rcR_0 bld_tk_01234 bld_tk_0 bld_tk_z bld_tkR_01234 bld_tkR_0 bld_tkR_z bld_it_0123 bld_it_023 bld_it_01 bld_it_0 bld_it_z bs0_pt bs1_pt bs0_ptR bs1_ptR bs0_rc bs1_rc bs0_rcR bs1_rcR bs0_it bs1_it
/-- 32 bytes as numbers. -/
def hsN (h : Hs) : List Int := h.1.map fun b => (b.toNat : Int)
theorem hsN_len (h : Hs) : (hsN h).length = 32 := by simp [hsN, h.2]
theorem keepT {g B : Nat} {x y : Value} {W W' : World} (h : W.cell? ⟨g, 2, none⟩ = some x ∧ W.cell? ⟨g, 35, none⟩ = some y) (hb : Below B W W') (hg : g < B) : W'.cell? ⟨g, 2, none⟩ = some x ∧ W'.cell? ⟨g, 35, none⟩ = some y :=
  ⟨(hb.cell (p := ⟨g, 2, none⟩) hg).trans h.1, (hb.cell (p := ⟨g, 35, none⟩) hg).trans h.2⟩
theorem rows3 {W : World} {A C : Option Addr} {a c g : Nat} {x y z : List Int} {t : TypeId} (ha : x.length ≤ a) (h1 : Kd.C (Kd.int .u8) W A x.length x) (h2 : Kd.C (Kd.int .u8) W (some ⟨g, 3, none⟩) 32 y) (hc : z.length ≤ c) (h3 : Kd.C (Kd.int .u8) W C z.length z) :
    RowsAt (W.alloc (.cells #[.slice A x.length a, .slice (some ⟨g, 3, none⟩) 32 32, .slice C z.length c] t)) W.heap.size [x, y, z] := by
  have hb : Below W.heap.size W (W.alloc (.cells #[.slice A x.length a, .slice (some ⟨g, 3, none⟩) 32 32, .slice C z.length c] t)) := below_alloc (Below.refl _ _) _
  intro i hi
  match i, hi with
  | 0, _ => exact ⟨A, a, cell_of_row _ _ _ _ _ _ (heap_alloc_new _ _), ha, Kd.C_below h1 hb⟩
  | 1, _ => exact ⟨some ⟨g, 3, none⟩, 32, (cell_of_row _ _ _ _ _ _ (heap_alloc_new _ _)).trans (by show some (Value.slice (some ⟨g, 3, none⟩) 32 32) = some (Value.slice (some ⟨g, 3, none⟩) y.length 32); rw [h2.1]), by show y.length ≤ 32; rw [h2.1]; exact Nat.le_refl _, by show Kd.C (Kd.int .u8) _ _ y.length y; rw [h2.1]; exact Kd.C_below h2 hb⟩
  | 2, _ => exact ⟨C, c, cell_of_row _ _ _ _ _ _ (heap_alloc_new _ _), hc, Kd.C_below h3 hb⟩
theorem get_rc_sum (r : Rc) {j : Nat} {v : Value} (h : (hsL r.sum)[j]? = some v) : (rcL r)[3 + j]? = some v := by
  have hj := (List.getElem?_eq_some_iff.1 h).1
  have hc : ((rcL r).drop 3).take 32 = hsL r.sum := by
    show (hsL r.sum ++ [Value.int .i64 r.size, Value.int .i64 r.off]).take 32 = hsL r.sum
    exact (List.take_append_of_le_length (by rw [hsL_len]; omega)).trans (List.take_of_length_le (by rw [hsL_len]; omega))
  rw [← hc] at h
  rw [List.getElem?_take] at h
  split at h
  · rw [List.getElem?_drop] at h; exact h
  · cases h
theorem sum_C {W : World} {g : Nat} {r : Rc} (h : rowAt W ⟨g, 0, none⟩ 37 = some (rcL r)) : Kd.C (Kd.int .u8) W (some ⟨g, 3, none⟩) 32 (hsN r.sum) := by
  refine ⟨hsN_len _, by decide, fun _ => ⟨_, rfl, fun j x hx => ⟨[.int .u8 x], rfl, rfl, fun i u hu => ?_⟩⟩⟩
  have hi : i = 0 := by
    have := (List.getElem?_eq_some_iff.1 hu).1
    simp at this; exact this
  subst hi
  have hz : (Kd.int .u8).sz = 1 := rfl
  have hu : Value.int .u8 x = u := by simpa using hu
  subst hu
  rw [hz, Addr.add_mid]
  have hj : (hsL r.sum)[j]? = some (.int .u8 x) := by
    unfold hsL
    unfold hsN at hx
    rw [List.getElem?_map] at hx ⊢
    cases hb : r.sum.1[j]? with
    | none => rw [hb] at hx; cases hx
    | some b =>
      rw [hb] at hx
      obtain rfl := Option.some.inj hx
      rfl
  have h3 := (rowAt_some h).2 (3 + j) (.int .u8 x) (get_rc_sum r hj)
  rw [Addr.add_mid] at h3
  rw [show 3 + (j * 1 + 0) = 0 + (3 + j) by omega]; exact h3
set_option linter.unusedVariables false in
set_option maxHeartbeats 4000000 in
set_option maxRecDepth 100000 in
theorem PutBegin_calls (k : Nat) (r : Rc) (a tx z s t : List Int) (w : World) (hT : TabOK w) (hk : r.kind = 0) (hc : chkE r = 0) (ha : field_Num.f k r.id = some a) (hx : field_Text.f k r.path = some tx) (hz : field_Num.f k r.size = some z) (hl : a.length ≤ 100 ∧ tx.length ≤ 1000 ∧ z.length ≤ 100)
    (hs : crc_Seal.f k (([0] ++ a) ++ (tx ++ (hsN r.sum ++ z))) = some s) (ht : field_Text.f k (strOfNums s) = some t) :
    Calls Tryd.prog 23 #[.agg (rcL r).toArray] w fun e w' => ∃ v : Value, e = .returned (.tuple #[v, .int .i64 0]) ∧ Kd.R (Kd.int .u8) 5 w' w.heap.size (fun _ => True) v t ∧ Below w.heap.size w w' := by
  obtain ⟨x1, hx1⟩ : ∃ x1, [0] ++ a = x1 := ⟨_, rfl⟩
  rw [hx1] at hs
  obtain ⟨x2, hx2⟩ : ∃ x2, x1 ++ (tx ++ (hsN r.sum ++ z)) = x2 := ⟨_, rfl⟩
  rw [hx2] at hs
  have HX1 := Aside0.mk hx1
  have HX2 := Aside0.mk hx2
  have HLL := Aside0.mk (show x1.length ≤ 101 by rw [← hx1, List.length_append, List.length_singleton]; omega)
  have hz0 : decide (r.kind = 0) = true := decide_eq_true hk
  have hy0 : (r.kind == 0) = true := by simp [hk]
  clear hx1 hx2
  have HT := Aside0.mk hT
  have HC := Aside0.mk hc
  have HA := Aside0.mk ha
  have HTX0 := Aside0.mk hx
  have HZ := Aside0.mk hz
  have HS := Aside0.mk hs
  have HTX := Aside0.mk ht
  have HL := Aside0.mk hl
  clear hT hc ha hx hz hs ht hl
  go_enter Tryd.func23, Tryd.ntmps23
  go_wp2_with (first
    | (go_at_call 26; refine (Check_calls r _ (HT.out.below ?_)).mono ?_; (exact below_alloc (Below.refl _ _) _); rintro e w2 ⟨rfl, hb2⟩; rw [HC.out]; obtain ⟨hcl, hfz⟩ := bcell0 hb2; have c0 : w2.cell? ⟨w.heap.size, 0, none⟩ = some (.int .u8 r.kind) := (by rw [hcl _ _ (by simp)]; first | (go_simp; done) | (simp [*]; done)); have c1 : w2.cell? ⟨w.heap.size, 1, none⟩ = some (.int .i64 r.id) := (by rw [hcl _ _ (by simp)]; first | (go_simp; done) | (simp [*]; done)); have hr2 : rowAt w2 ⟨w.heap.size, 0, none⟩ 37 = some (rcL r) := (by rw [rowAt_below hb2 (by simp)]; first | (go_simp; done) | (simp [*]; done)); have HR2 := Aside0.mk hr2; have HB2 := Aside0.mk (Below.trans (below_alloc (Below.refl w.heap.size w) _) (hb2.mono (by simp))); have HS2 := Aside0.mk (show w.heap.size + 1 ≤ w2.heap.size from by have h_ := hb2.size; simpa using h_); clear hb2 hcl hfz))
  go_cut [5] (fun v5 wx => ∃ (A5 : Option Addr) (n5 : Nat), v5 = .slice A5 x1.length n5 ∧ Aside0 (Kd.R (Kd.int .u8) 5 wx (w.heap.size + 1) (fun _ => True) (.slice A5 x1.length n5) x1) ∧ Aside0 (Below (w.heap.size + 1) w2 wx))
  case first =>
    go_region_held3 (fun w' => w'.cell? ⟨w.heap.size, 0, none⟩ = some (.int .u8 r.kind) ∧ w'.cell? ⟨w.heap.size, 1, none⟩ = some (.int .i64 r.id)) (first | go_keep)
      (first
        | (go_at_call 54; refine (field_Num.calls k r.id a _ HA.out).mono ?_; rintro e w4 ⟨v4, rfl, ho4, hb4⟩; obtain ⟨A4, n4, rfl⟩ := Kd.R_slice ho4;
            (first
              | have HX := Aside0.mk (And.intro (show Below (w.heap.size + 1) w2 w4 from Below.trans (below_drew (Below.alloc (Below.refl _ _) HS2.out _)) (hb4.mono (by have := HS2.out; simp; omega))) (Kd.R_below (Kd.R_drew (lit1_R w2 0 (w.heap.size + 1) HS2.out)) hb4))
              | have HX := Aside0.mk (And.intro (show Below (w.heap.size + 1) w2 w4 from Below.trans (below_drew (Below.refl _ _)) (hb4.mono (by have := HS2.out; simp; omega))) True.intro));
            have HO4 := Aside0.mk (Kd.R_lower (base' := w.heap.size + 1) ho4 (by have := HS2.out; simp; omega));
            have c40 : w4.cell? ⟨w.heap.size, 0, none⟩ = some (.int .u8 r.kind) := (HX.out.1.cell (p := ⟨w.heap.size, 0, none⟩) (by simp)).trans c0;
            have c41 : w4.cell? ⟨w.heap.size, 1, none⟩ = some (.int .i64 r.id) := (HX.out.1.cell (p := ⟨w.heap.size, 1, none⟩) (by simp)).trans c1;
            clear ho4 hb4)
        | ((with_reducible refine gate_stepb (b := .append) (xs := #[.tmp 13, .tmp 16]) rfl ?_);
            refine Kd.R_append_rows_step (Kd.int .u8) (w0 := w2) (w.heap.size + 1) rfl (.tmp 13) (.tmp 16) 22 5 (.int .u8 0) 1 rfl Tryd.underlying22 info5 rfl (by decide) (by decide) _ [0] a A4 a.length n4 (fun _ => True) (fun _ => False) rfl rfl ?aO ?aR (fun _ _ h => h) (fun _ h => h.elim) (fun _ _ => trivial) ?aB ?aS ?aL ?_;
            (case aO => first | exact HX.out.2 | exact lit1_R w4 0 (w.heap.size + 1) (by have h_ := HX.out.1.size; have := HS2.out; omega));
            (case aR => first | exact (Kd.R_reads' HO4.out).2.2 | exact Kd.C_below (Kd.R_reads' HO4.out).2.2 (below_alloc (Below.refl _ _) _));
            (case aB => first | exact HX.out.1 | exact Below.alloc HX.out.1 (by have h_ := HX.out.1.size; have := HS2.out; omega) _);
            (case aS => have h_ := HX.out.1.size; have := HS2.out; simp; omega);
            (case aL => have := HL.out; simp; omega);
            intro v5 w5 ho5 hb5 hg5 hat5;
            rw [HX1.out] at ho5;
            have HO5 := Aside0.mk ho5;
            have HB5 := Aside0.mk hb5;
            have c50 : w5.cell? ⟨w.heap.size, 0, none⟩ = some (.int .u8 r.kind) := (hb5.cell (p := ⟨w.heap.size, 0, none⟩) (by simp)).trans c0;
            have c51 : w5.cell? ⟨w.heap.size, 1, none⟩ = some (.int .i64 r.id) := (hb5.cell (p := ⟨w.heap.size, 1, none⟩) (by simp)).trans c1;
            clear ho5 hb5 hg5 hat5))
    all_goals
      obtain ⟨A5, n5, rfl⟩ := Kd.R_slice HO5.out
      go_wp2_with fail
      go_meet
      exact ⟨A5, n5, rfl, HO5, HB5⟩
  case rest =>
    obtain ⟨A5, n5, rfl, HO5, HB5⟩ := hcut
    have hrw : rowAt wc ⟨w.heap.size, 0, none⟩ 37 = some (rcL r) := by rw [rowAt_below HB5.out (by simp)]; exact HR2.out
    have k0 : wc.cell? ⟨w.heap.size, 0, none⟩ = some (.int .u8 r.kind) := (rowAt_some hrw).2 0 _ (get_rc_kind r)
    have k2 : wc.cell? ⟨w.heap.size, 2, none⟩ = some (.string r.path) := (rowAt_some hrw).2 2 _ (get_rc_path r)
    have k35 : wc.cell? ⟨w.heap.size, 35, none⟩ = some (.int .i64 r.size) := (rowAt_some hrw).2 35 _ (get_rc_size r)
    have HSUM := Aside0.mk (sum_C hrw)
    have hzc : w.heap.size + 1 ≤ wc.heap.size := by have := HB5.out.size; have := HS2.out; omega
    clear hrw hr2 c0 c1
    go_upto_region 7 with (fail)
    obtain ⟨y, hy⟩ : ∃ y, tx ++ (hsN r.sum ++ z) = y := ⟨_, rfl⟩
    have HFL := Aside0.mk (show [tx, hsN r.sum, z].flatten = y by rw [← hy]; simp)
    have HXY := Aside0.mk (show x1 ++ y = x2 by rw [← hy]; exact HX2.out)
    have HYL := Aside0.mk (show y.length ≤ 1200 by rw [← hy, List.length_append, List.length_append, hsN_len]; have := HL.out; omega)
    clear hy
    go_region_held3 (fun w' => w'.cell? ⟨w.heap.size, 2, none⟩ = some (.string r.path) ∧ w'.cell? ⟨w.heap.size, 35, none⟩ = some (.int .i64 r.size)) (first | assumption | (refine keepT (B := w.heap.size + 1) (And.intro k2 k35) ?_ (by omega); (repeat' (first | exact HB9.out | exact HB8.out | exact HB7.out | exact HB6.out | (with_reducible exact Below.refl _ _) | (with_reducible refine below_drew ?_) | (with_reducible refine Below.alloc ?_ ?_ _) | (with_reducible refine below_setCell ?_ ?_ _) | omega | (simp; done) | (simp; omega))); done))
      (first
      | (go_at_call 53; refine (field_Text.calls k r.path tx _ HTX0.out).mono ?_; rintro e w6 ⟨v6, rfl, ho6, hb6⟩; obtain ⟨A6, n6, rfl⟩ := Kd.R_slice ho6; have HB6 := Aside0.mk (show Below (w.heap.size + 1) wc w6 from Below.trans (by (repeat' (first | fail | (with_reducible exact Below.refl _ _) | (with_reducible refine below_drew ?_) | (with_reducible refine Below.alloc ?_ ?_ _) | (with_reducible refine below_setCell ?_ ?_ _) | omega | (simp; done) | (simp; omega)))) (hb6.mono (by first | omega | (simp; done) | (simp; omega)))); have HO6 := Aside0.mk (Kd.R_lower (base' := w.heap.size + 1) ho6 (by first | omega | (simp; done) | (simp; omega))); have hs6 := HB6.out.size; have HX6 := Aside0.mk (Kd.R_below (Kd.R_drew HO5.out) hb6); have HM6 := Aside0.mk (Kd.C_below HSUM.out (show Below wc.heap.size wc w6 from below_step (below_drew (Below.refl _ _)) hb6)); clear ho6 hb6)
      | (go_at_call 54; refine (field_Num.calls k r.size z _ HZ.out).mono ?_; rintro e w7 ⟨v7, rfl, ho7, hb7⟩; obtain ⟨A7, n7, rfl⟩ := Kd.R_slice ho7; have HB7 := Aside0.mk (show Below (w.heap.size + 1) wc w7 from Below.trans HB6.out (hb7.mono (by first | omega | (simp; done) | (simp; omega)))); have hs7 := HB7.out.size; have HX7 := Aside0.mk (Kd.R_below HX6.out hb7); have HM7 := Aside0.mk (Kd.C_below HM6.out hb7); have HT7 := Aside0.mk (Kd.C_below (Kd.R_reads' HO6.out).2.2 hb7); have HZ7 := Aside0.mk (Kd.R_reads' ho7); clear ho7 hb7)
      | (go_at_call 52; refine (Join_calls w7.heap.size 3 3 [tx, hsN r.sum, z] _ rfl (by decide) (rows3 (Kd.R_reads' HO6.out).2.1 HT7.out HM7.out HZ7.out.2.1 HZ7.out.2.2) (by simp [total, hsN_len]; have := HL.out; omega)).mono ?_; rintro e w8 ⟨v8, rfl, ho8, hb8⟩; rw [HFL.out] at ho8; obtain ⟨A8, n8, rfl⟩ := Kd.R_slice ho8; have HB8 := Aside0.mk (show Below (w.heap.size + 1) wc w8 from Below.trans (Below.alloc HB7.out (by omega) _) (hb8.mono (by first | omega | (simp; done) | (simp; omega)))); have hs8 := HB8.out.size; have HX8 := Aside0.mk (Kd.R_below (Kd.R_below HX7.out (below_alloc (Below.refl _ _) _)) hb8); have HO8 := Aside0.mk (Kd.R_reads' ho8); clear ho8 hb8)
      | ((with_reducible refine gate_stepb (b := .append) (xs := #[.tmp 22, .tmp 32]) rfl ?_);
          refine Kd.R_append_rows_step (Kd.int .u8) (w0 := wc) (w.heap.size + 1) rfl (.tmp 22) (.tmp 32) 22 5 (.int .u8 0) 1 rfl Tryd.underlying22 info5 rfl (by decide) (by decide) (.slice A5 x1.length n5) x1 y A8 y.length n8 (fun _ => True) (fun _ => False) rfl rfl HX8.out HO8.out.2.2 (fun _ _ h => h) (fun _ h => h.elim) (fun _ _ => trivial) HB8.out (by omega) ?aL9 ?_;
          (case aL9 => have h1_ := HYL.out; have h2_ := HLL.out; omega);
          intro v9 w9 ho9 hb9 hg9 hat9;
          rw [HXY.out] at ho9;
          obtain ⟨A9, n9, rfl⟩ := Kd.R_slice ho9;
          have HO9 := Aside0.mk ho9;
          have HB9 := Aside0.mk hb9;
          clear ho9 hb9 hg9 hat9))
    all_goals
      have HB92 := Aside0.mk (Below.trans HB5.out HB9.out)
      go_wp2_with (first
        | (go_at_call 72; refine (crc_Seal.calls k A9 n9 x2 s _ (Kd.R_reads' HO9.out).2.2 (Kd.R_reads' HO9.out).2.1 (HT.out.below (Below.trans HB2.out (HB92.out.mono (by omega)))) HS.out).mono ?_; rintro e w10 ⟨v10, rfl, ho10, hb10⟩; obtain ⟨A10, n10, rfl⟩ := Kd.R_slice ho10;
            have HB10 := Aside0.mk (show Below (w.heap.size + 1) w2 w10 from Below.trans HB92.out (hb10.mono (by have h_ := HB92.out.size; have := HS2.out; omega)));
            have hcv := Kd.C_string (P := Tryd.prog) (src := 22) (dst := 9) (c := n10) Tryd.underlying22 Tryd.underlying5 Tryd.underlying9 (Kd.R_reads' ho10).2.2;
            clear ho10 hb10)
        | (go_at_call 53; refine (field_Text.calls k (strOfNums s) t _ HTX.out).mono ?_; rintro e w11 ⟨v11, rfl, ho11, hb11⟩; obtain ⟨A11, n11, rfl⟩ := Kd.R_slice ho11;
            have HO11 := Aside0.mk (Kd.R_lower (base' := w.heap.size) ho11 (by have h_ := HB10.out.size; have := HS2.out; omega));
            have HB11 := Aside0.mk (show Below w.heap.size w w11 from Below.trans HB2.out ((Below.trans HB10.out (hb11.mono (by have h_ := HB10.out.size; have := HS2.out; omega))).mono (by omega)));
            clear ho11 hb11))
      go_ret2
      exact ⟨_, rfl, HO11.out, HB11.out⟩
end Go.Proofs.YtiohgpcbdefokaaDoor.B
