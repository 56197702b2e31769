/- The statement FlowKeeps of the given program, over plain Lean values: a sender that uses no more than it was told never has a receiver refuse what came. No condition. -/
import Derived.Test.YtifidkeohcbdlaaRFlowKeeps
import Derived.OpenShut
namespace Go.Proofs.Ytifidkeohcbdlaa.Pure
open Go.RowKit Go.Proofs.Ytifidkeohcbdlaa.QFlowKeeps Go.Proofs.YtifidkeohcbdlaaW.PrintWords Go.Proofs.YtifidkeohcbdlaaW.PrintLast

theorem w64 {x : Int} (h1 : -9223372036854775808 ≤ x) (h2 : x ≤ 9223372036854775807) : wrap64 x = x := by unfold wrap64; omega

theorem awake_one : sumpterlaw26_awake.f 10 = some true := by decide +kernel
theorem awake_true (k : Nat) : sumpterlaw26_awake.f (k + 10) = some true := by
  induction k with
  | zero => exact awake_one
  | succ k ih => exact sumpterlaw26_awake.mono _ _ ih

theorem rising_step (k : Nat) (last : Int) (l : List Int) (i : Nat) (h : i < l.length) (hs : i < 100) (hge : last ≤ l[i]) : flow_rising.l0 (k + 1) last l (l.length : Int) (i : Int) = flow_rising.l0 k l[i] l (l.length : Int) ((i + 1 : Nat) : Int) := by
  have e : rd l (i : Int) = l[i] := by unfold rd; simp [List.getD_eq_getElem?_getD, List.getElem?_eq_getElem h]
  have w : wrap64 ((i : Int) + 1) = ((i + 1 : Nat) : Int) := by rw [w64 (by omega) (by omega)]; rfl
  conv => lhs; unfold flow_rising.l0
  rw [if_pos (by omega), if_pos (by omega), if_pos (by omega), e, if_neg (by omega), w]
theorem rising_end (k : Nat) (last : Int) (l : List Int) (h : last ≤ 1099511627776) : flow_rising.l0 (k + 1) last l (l.length : Int) (l.length : Int) = some true := by
  unfold flow_rising.l0
  rw [if_neg (by omega)]; simp [h]
theorem rising1 (k : Nat) (a : Int) (h0 : 0 ≤ a) (h1 : a ≤ 1099511627776) : flow_rising.f (k + 2) [a] = some true := by
  unfold flow_rising.f
  have := rising_step (k + 1) 0 [a] 0 (by simp) (by omega) (by simpa using h0)
  exact this.trans (rising_end k a [a] h1)
theorem rising2 (k : Nat) (a b : Int) (h0 : 0 ≤ a) (h1 : a ≤ b) (h2 : b ≤ 1099511627776) : flow_rising.f (k + 3) [a, b] = some true := by
  unfold flow_rising.f
  have e1 := rising_step (k + 2) 0 [a, b] 0 (by simp) (by omega) (by simpa using h0)
  have e2 := rising_step (k + 1) a [a, b] 1 (by simp) (by omega) (by simpa using h1)
  exact e1.trans (e2.trans (rising_end k b [a, b] h2))
theorem rising3 (k : Nat) (a b c : Int) (h0 : 0 ≤ a) (h1 : a ≤ b) (h2 : b ≤ c) (h3 : c ≤ 1099511627776) : flow_rising.f (k + 4) [a, b, c] = some true := by
  unfold flow_rising.f
  have e1 := rising_step (k + 3) 0 [a, b, c] 0 (by simp) (by omega) (by simpa using h0)
  have e2 := rising_step (k + 2) a [a, b, c] 1 (by simp) (by omega) (by simpa using h1)
  have e3 := rising_step (k + 1) b [a, b, c] 2 (by simp) (by omega) (by simpa using h2)
  exact e1.trans (e2.trans (e3.trans (rising_end k c [a, b, c] h3)))

/-- The receiver's window, limit, what came and what was read. -/
def Inv (W L C R : Int) : Prop := 1 ≤ W ∧ W ≤ 65535 ∧ 0 ≤ R ∧ R ≤ C ∧ C ≤ L ∧ L ≤ R + W ∧ C ≤ 20000000

theorem give_true (k : Nat) {W L C R : Int} (h : Inv W L C R) : flow_CheckGive.f (k + 4) W L C R = some true := by
  obtain ⟨h1, h2, h3, h4, h5, h6, h7⟩ := h
  have h0 : (W == 0) = false := by simp; omega
  have g : W ≤ 16777216 := by omega
  simp [flow_CheckGive.f, flow_window.f, h0, h1, g, rising3 k R C L h3 h4 h5 (by omega)]
theorem use_true (k : Nat) {W L C R : Int} (h : Inv W L C R) : flow_CheckUse.f (k + 4) L C = some true := by
  obtain ⟨h1, h2, h3, h4, h5, h6, h7⟩ := h
  simp [flow_CheckUse.f, rising2 (k + 1) C L (by omega) h5 (by omega)]
theorem left_true (k : Nat) {W L C R : Int} (h : Inv W L C R) : flow_Left.f (k + 4) L C = some (L - C) := by
  have h' := h
  obtain ⟨h1, h2, h3, h4, h5, h6, h7⟩ := h'
  have w : wrap64 (L - C) = L - C := w64 (by omega) (by omega)
  simp [flow_Left.f, use_true k h, w]
theorem spend_true (k : Nat) {W L C R : Int} (h : Inv W L C R) (n : Int) (n0 : 0 ≤ n) (n1 : n ≤ L - C) : flow_Spend.f (k + 5) L C n = some (L, C + n, 0) := by
  have h' := h
  obtain ⟨h1, h2, h3, h4, h5, h6, h7⟩ := h'
  have w : wrap64 (C + n) = C + n := w64 (by omega) (by omega)
  have a1 : ¬ n < 0 := by omega
  have a2 : ¬ L - C < n := by omega
  simp [flow_Spend.f, flow_Spend.j0, use_true (k + 1) h, left_true k h, a1, a2, w]
theorem take_true (k : Nat) {W L C R : Int} (h : Inv W L C R) (n : Int) (n0 : 0 ≤ n) (n1 : n ≤ L - C) : flow_Take.f (k + 5) W L C R n = some (W, L, C + n, R, 0) := by
  have h' := h
  obtain ⟨h1, h2, h3, h4, h5, h6, h7⟩ := h'
  have w : wrap64 (C + n) = C + n := w64 (by omega) (by omega)
  have w' : wrap64 (L - C) = L - C := w64 (by omega) (by omega)
  have a1 : ¬ n < 0 := by omega
  have a2 : ¬ L - C < n := by omega
  simp [flow_Take.f, flow_Take.j0, give_true (k + 1) h, a1, a2, w, w']
theorem consume_true (k : Nat) {W L C R : Int} (h : Inv W L C R) (n : Int) (n0 : 0 ≤ n) (n1 : n ≤ C - R) : flow_Consume.f (k + 5) W L C R n = some (W, L, C, R + n, 0) := by
  have h' := h
  obtain ⟨h1, h2, h3, h4, h5, h6, h7⟩ := h'
  have w : wrap64 (R + n) = R + n := w64 (by omega) (by omega)
  have w' : wrap64 (C - R) = C - R := w64 (by omega) (by omega)
  have a1 : ¬ n < 0 := by omega
  have a2 : ¬ C - R < n := by omega
  simp [flow_Consume.f, flow_Consume.j0, give_true (k + 1) h, a1, a2, w, w']
/-- What is told anew: nothing, or a limit of a window behind what was read. -/
theorem update_true (k : Nat) {W L C R : Int} (h : Inv W L C R) :
    (flow_Update.f (k + 5) W L C R = some (W, L, C, R, false) ∧ (W / 2 < L - R ∨ R + W ≤ L)) ∨ (flow_Update.f (k + 5) W L C R = some (W, R + W, C, R, true) ∧ L < R + W) := by
  have h' := h
  obtain ⟨h1, h2, h3, h4, h5, h6, h7⟩ := h'
  have w : wrap64 (L - R) = L - R := w64 (by omega) (by omega)
  have w' : wrap64 (R + W) = R + W := w64 (by omega) (by omega)
  have t : wrap64 (Int.tdiv W 2) = W / 2 := by rw [Int.tdiv_eq_ediv_of_nonneg (by omega), w64 (by omega) (by omega)]
  have g := give_true (k + 1) h
  have a3 : ¬ 1099511627776 < R + W := by omega
  by_cases c1 : W / 2 < L - R
  · exact .inl ⟨by simp [flow_Update.f, flow_Update.j0, g, w, t, c1], .inl c1⟩
  · by_cases c2 : R + W ≤ L
    · exact .inl ⟨by simp [flow_Update.f, flow_Update.j0, g, w, w', t, c1, c2], .inr c2⟩
    · exact .inr ⟨by simp [flow_Update.f, flow_Update.j0, g, w, w', t, c1, c2, a3], by omega⟩
theorem raise_true {L C N : Int} (h : L < N) (h' : N ≤ 1099511627776) : flow_Raise.f L C N = some (N, C, true) := by
  have a : ¬ N ≤ L := by omega
  have b : ¬ 1099511627776 < N := by omega
  simp [flow_Raise.f, a, b]

theorem j3_step (k : Nat) (l : List S27) (i was : Int) {W L C R : Int} (h : Inv W L C R) (hw : was ≤ L) (hi : 0 ≤ i) (hi' : i ≤ 300) :
    sumpterlaw26_FlowKeeps.j3 (k + 5) l 0 0 i was W L C R L C = sumpterlaw26_FlowKeeps.l0 (k + 4) l 0 0 (i + 1) W L C R L C := by
  have e : wrap64 (i + 1) = i + 1 := w64 (by omega) (by omega)
  have a1 : ¬ L < was := by omega
  simp [sumpterlaw26_FlowKeeps.j3, a1, give_true k h, use_true k h, e]

theorem loop_true (l : List S27) (hl : ∀ x ∈ l, ok27 x) (hn : l.length ≤ 200) (D : Nat) :
    ∀ (k : Nat) (i W L C R : Int), 0 ≤ i → i ≤ l.length → (l.length : Int) - i = D → 2 * D + 20 < k → Inv W L C R → C ≤ 65535 * i → sumpterlaw26_FlowKeeps.l0 k l 0 0 i W L C R L C = some true := by
  induction D with
  | zero =>
    intro k i W L C R hi h1 hd hk h hC
    obtain ⟨k, rfl⟩ : ∃ m, k = m + 11 := ⟨k - 11, by omega⟩
    have h' := h
    obtain ⟨h1', h2, h3, h4, h5, h6, h7⟩ := h'
    have w : wrap64 (C - R) = C - R := w64 (by omega) (by omega)
    have hI : Inv W L C C := ⟨h1', h2, by omega, by omega, h5, by omega, h7⟩
    have ec : R + (C - R) = C := by omega
    have hc := consume_true (k + 5) h (C - R) (by omega) (by omega)
    rw [ec] at hc
    unfold sumpterlaw26_FlowKeeps.l0
    rw [if_neg (by omega), w, hc]
    simp only [Option.bind_some]
    rcases update_true (k + 5) hI with ⟨hu, ht⟩ | ⟨hu, ht⟩
    · rw [hu]
      simp only [Option.bind_some, Bool.false_eq_true, if_false]
      rw [left_true (k + 6) hI]
      simp only [Option.bind_some]
      rw [if_pos (by omega), awake_true]; rfl
    · rw [hu]
      simp only [Option.bind_some, if_true]
      rw [raise_true ht (by omega)]
      simp only [Option.bind_some]
      have hI2 : Inv W (C + W) C C := ⟨h1', h2, by omega, by omega, by omega, by omega, h7⟩
      rw [left_true (k + 6) hI2]
      simp only [Option.bind_some]
      rw [if_pos (by omega), awake_true]; rfl
  | succ D ih =>
    intro k i W L C R hi h1 hd hk h hC
    obtain ⟨k, rfl⟩ : ∃ m, k = m + 11 := ⟨k - 11, by omega⟩
    have h' := h
    obtain ⟨h1', h2, h3, h4, h5, h6, h7⟩ := h'
    have hlt : i < (l.length : Int) := by omega
    have hx : ok27 (rd_T27 l i) := by
      unfold rd_T27
      rw [List.getD_eq_getElem?_getD, List.getElem?_eq_getElem (by omega)]
      exact hl _ (List.getElem_mem _)
    have b1 := bounds_u16 hx.2
    obtain ⟨n0, en⟩ : ∃ n0, n0 = (rd_T27 l i).f1 := ⟨_, rfl⟩
    rw [← en] at b1
    have wn : wrap64 n0 = n0 := w64 (by omega) (by omega)
    have hmn : ∀ x y : Int, mn x y = if y < x then y else x := fun _ _ => rfl
    unfold sumpterlaw26_FlowKeeps.l0
    rw [if_pos hlt, if_pos hi, ← en, wn]
    by_cases c0 : Int.tmod (rd_T27 l i).f0 3 = 0
    · rw [if_pos c0, left_true (k + 6) h]
      simp only [Option.bind_some]
      obtain ⟨m, hm⟩ : ∃ m, m = mn n0 (L - C) := ⟨_, rfl⟩
      have bm : 0 ≤ m ∧ m ≤ L - C ∧ m ≤ n0 := by rw [hm, hmn]; split <;> omega
      rw [← hm, spend_true (k + 5) h m bm.1 bm.2.1]
      simp only [Option.bind_some]
      rw [take_true (k + 5) h m bm.1 bm.2.1]
      simp only [Option.bind_some]
      have hI : Inv W L (C + m) R := ⟨h1', h2, h3, by omega, by omega, h6, by omega⟩
      rw [j3_step (k + 5) l i L hI (Int.le_refl _) hi (by omega)]
      exact ih (k + 9) (i + 1) W L (C + m) R (by omega) (by omega) (by omega) (by omega) hI (by omega)
    · rw [if_neg c0]
      by_cases c1 : Int.tmod (rd_T27 l i).f0 3 = 1
      · rw [if_pos c1]
        have w : wrap64 (C - R) = C - R := w64 (by omega) (by omega)
        obtain ⟨m, hm⟩ : ∃ m, m = mn n0 (C - R) := ⟨_, rfl⟩
        have bm : 0 ≤ m ∧ m ≤ C - R := by rw [hm, hmn]; split <;> omega
        rw [w, ← hm, consume_true (k + 5) h m bm.1 bm.2]
        simp only [Option.bind_some]
        have hI : Inv W L C (R + m) := ⟨h1', h2, by omega, by omega, h5, by omega, h7⟩
        rw [j3_step (k + 5) l i L hI (Int.le_refl _) hi (by omega)]
        exact ih (k + 9) (i + 1) W L C (R + m) (by omega) (by omega) (by omega) (by omega) hI (by omega)
      · rw [if_neg c1]
        rcases update_true (k + 5) h with ⟨hu, ht⟩ | ⟨hu, ht⟩
        · rw [hu]
          simp only [Option.bind_some, Bool.false_eq_true, if_false]
          rw [j3_step (k + 5) l i L h (Int.le_refl _) hi (by omega)]
          exact ih (k + 9) (i + 1) W L C R (by omega) (by omega) (by omega) (by omega) h (by omega)
        · rw [hu]
          simp only [Option.bind_some, if_true]
          rw [raise_true ht (by omega)]
          simp only [Option.bind_some]
          have hI : Inv W (R + W) C R := ⟨h1', h2, h3, h4, by omega, by omega, h7⟩
          rw [j3_step (k + 5) l i L hI (by omega) hi (by omega)]
          exact ih (k + 9) (i + 1) W (R + W) C R (by omega) (by omega) (by omega) (by omega) hI (by omega)

theorem FlowKeeps : sumpterlaw26_FlowKeeps.Pure2 := by
  intro w l hw h
  have bw := bounds_u16 hw
  obtain ⟨K, hK⟩ : ∃ K : Nat, K = 2 * l.length + 29 := ⟨_, rfl⟩
  refine ⟨K + 10 + 1, ?_⟩
  unfold sumpterlaw26_FlowKeeps.f
  by_cases hc : (l.length : Int) > 200
  · rw [if_pos hc]
    simp only [sumpterlaw26_FlowKeeps.j0, if_true]
    rw [awake_true]; rfl
  · rw [if_neg hc]
    simp only [sumpterlaw26_FlowKeeps.j0]
    by_cases h0 : w = 0
    · rw [if_pos (by simp [h0]), awake_true]; rfl
    · rw [if_neg (by simp [h0])]
      have e : wrap64 w = w := w64 (by omega) (by omega)
      have a1 : 1 ≤ w := by omega
      have a2 : w ≤ 16777216 := by omega
      have hg : flow_NewGive.f w = some (w, w, 0, 0, 0) := by simp [flow_NewGive.f, flow_window.f, a1, a2]
      have hu : flow_NewUse.f (K + 10) w = some (w, 0, 0) := by
        unfold flow_NewUse.f
        rw [rising1 (K + 8) w (by omega) (by omega)]; rfl
      rw [e, hg, hu]
      simp only [Option.bind_some, if_true, bne_self_eq_false]
      simp only [sumpterlaw26_FlowKeeps.j1]
      rw [if_neg (by simp)]
      exact loop_true l h.2 (by omega) l.length _ 0 w w 0 0 (by omega) (by omega) (by omega) (by omega) ⟨a1, by omega, by omega, by omega, by omega, by omega, by omega⟩ (by omega)

end Go.Proofs.Ytifidkeohcbdlaa.Pure
