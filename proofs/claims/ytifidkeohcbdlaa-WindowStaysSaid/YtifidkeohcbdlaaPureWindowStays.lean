/- The statement WindowStays of the given program, over plain Lean values: whatever is acknowledged and lost, a state may be. No condition. -/
import Derived.Test.YtifidkeohcbdlaaRWindowStays
import Derived.OpenShut
namespace Go.Proofs.Ytifidkeohcbdlaa.Pure
open Go.RowKit Go.Proofs.Ytifidkeohcbdlaa.QWindowStays Go.Proofs.YtifidkeohcbdlaaW.PrintWords Go.Proofs.YtifidkeohcbdlaaW.PrintLast

theorem w64 {x : Int} (h1 : -9223372036854775808 ≤ x) (h2 : x ≤ 9223372036854775807) : wrap64 x = x := by unfold wrap64; omega

theorem awake_true (k : Nat) : sumpterlaw22_awake.f (k + 1) = some true := by
  simp [sumpterlaw22_awake.f, window_New.f, window_Acked.f, window_Acked.j0, window_Lost.f, window_Check.f, window_within.f, window_State_recovering.f, window_State_grown.f, window_Room.f, window_Collapsed.f, wrap64, mx, mn]

/-- A state may be. -/
def May (a b c d : Int) : Prop := 2400 ≤ a ∧ a ≤ 1073741824 ∧ 2400 ≤ b ∧ b ≤ 1073741824 ∧ -1 ≤ c ∧ c ≤ 1099511627776 ∧ 0 ≤ d ∧ d < a

theorem check_true {a b c d : Int} (h : May a b c d) : window_Check.f a b c d = some true := by
  obtain ⟨h1, h2, h3, h4, h5, h6, h7, h8⟩ := h
  have hw : wrap64 (a - 1) = a - 1 := w64 (by omega) (by omega)
  have h0 : (a == 0) = false := by simp; omega
  have h9 : d ≤ a - 1 := by omega
  simp [window_Check.f, window_within.f, hw, h0, h1, h2, h3, h4, h5, h6, h7, h9]

theorem lost_may {a b c d : Int} (h : May a b c d) (t now : Int) (n0 : 0 ≤ now) (n1 : now ≤ 65535) : ∃ a' b' c' d', window_Lost.f a b c d t now = some (a', b', c', d') ∧ May a' b' c' d' := by
  have hc := check_true h
  have g : now ≤ 1099511627776 := by omega
  by_cases ht : t ≤ c
  · exact ⟨a, b, c, d, by simp [window_Lost.f, window_within.f, window_State_recovering.f, hc, n0, g, ht], h⟩
  · have e : wrap64 (Int.tdiv a 2) = a / 2 := by
      have := h.1; have := h.2.1
      rw [Int.tdiv_eq_ediv_of_nonneg (by omega), w64 (by omega) (by omega)]
    have hm : mx (a / 2) 2400 = if a / 2 < 2400 then 2400 else a / 2 := rfl
    have hb : 2400 ≤ mx (a / 2) 2400 ∧ mx (a / 2) 2400 ≤ 1073741824 := by
      have := h.1; have := h.2.1
      rw [hm]; split <;> omega
    exact ⟨mx (a / 2) 2400, mx (a / 2) 2400, now, 0, by simp [window_Lost.f, window_within.f, window_State_recovering.f, hc, n0, g, ht, e], hb.1, hb.2, hb.1, hb.2, by omega, by omega, by omega, by omega⟩

theorem collapsed_may {a b c d : Int} (h : May a b c d) : window_Collapsed.f a b c d = some (2400, b, -1, 0) ∧ May 2400 b (-1) 0 := by
  refine ⟨by simp [window_Collapsed.f, check_true h], ?_⟩
  have h' := h
  obtain ⟨h1, h2, h3, h4, h5, h6, h7, h8⟩ := h'
  exact ⟨by omega, by omega, h3, h4, by omega, by omega, by omega, by omega⟩

theorem acked_may {a b c d : Int} (h : May a b c d) (k : Nat) (n t : Int) (n0 : 0 ≤ n) (n1 : n ≤ 65535) : ∃ a' b' c' d', window_Acked.f (k + 1) a b c d n t = some (a', b', c', d') ∧ May a' b' c' d' := by
  have hc := check_true h
  have h' := h
  obtain ⟨h1, h2, h3, h4, h5, h6, h7, h8⟩ := h'
  have g : n ≤ 1048576 := by omega
  have hmn : ∀ x y : Int, mn x y = if y < x then y else x := fun _ _ => rfl
  by_cases ht : t ≤ c
  · exact ⟨a, b, c, d, by simp [window_Acked.f, window_Acked.j0, window_within.f, window_State_recovering.f, hc, n0, g, ht], h⟩
  · by_cases hs : a < b
    · have e : wrap64 (a + n) = a + n := w64 (by omega) (by omega)
      refine ⟨mn (a + n) 1073741824, b, c, d, by simp [window_Acked.f, window_Acked.j0, window_within.f, window_State_recovering.f, window_State_grown.f, hc, n0, g, ht, hs, e], ?_⟩
      have hm : a ≤ mn (a + n) 1073741824 ∧ mn (a + n) 1073741824 ≤ 1073741824 := by rw [hmn]; split <;> omega
      exact ⟨by omega, hm.2, h3, h4, h5, h6, h7, by omega⟩
    · have e : wrap64 (d + n) = d + n := w64 (by omega) (by omega)
      by_cases hf : a ≤ d + n
      · have e1 : wrap64 (d + n - a) = d + n - a := w64 (by omega) (by omega)
        have e2 : wrap64 (a + 1200) = a + 1200 := w64 (by omega) (by omega)
        obtain ⟨A, hA⟩ : ∃ A, A = mn (a + 1200) 1073741824 := ⟨_, rfl⟩
        have bA : a ≤ A ∧ A ≤ 1073741824 := by rw [hA, hmn]; split <;> omega
        have e3 : wrap64 (A - 1) = A - 1 := w64 (by omega) (by omega)
        have bC : 0 ≤ mn (d + n - a) (A - 1) ∧ mn (d + n - a) (A - 1) ≤ A - 1 := by rw [hmn]; split <;> omega
        refine ⟨A, b, c, mn (d + n - a) (A - 1), by simp [window_Acked.f, window_Acked.j0, window_within.f, window_State_recovering.f, window_State_grown.f, hc, n0, g, ht, hs, e, hf, e1, e2, ← hA, e3], ?_⟩
        exact ⟨by omega, bA.2, h3, h4, h5, h6, bC.1, by omega⟩
      · have e3 : wrap64 (a - 1) = a - 1 := w64 (by omega) (by omega)
        have bC : 0 ≤ mn (d + n) (a - 1) ∧ mn (d + n) (a - 1) ≤ a - 1 := by rw [hmn]; split <;> omega
        refine ⟨a, b, c, mn (d + n) (a - 1), by simp [window_Acked.f, window_Acked.j0, window_within.f, window_State_recovering.f, hc, n0, g, ht, hs, e, hf, e3], ?_⟩
        exact ⟨h1, h2, h3, h4, h5, h6, bC.1, by omega⟩

theorem j1_step {a b c d : Int} (h : May a b c d) (k : Nat) (l : List S40) (i : Int) (i0 : 0 ≤ i) (i1 : i ≤ 300) : sumpterlaw22_WindowStays.j1 (k + 1) l i a b c d = sumpterlaw22_WindowStays.l0 k l (i + 1) a b c d := by
  have hc := check_true h
  have h' := h
  obtain ⟨h1, h2, _⟩ := h'
  have e1 : wrap64 (i + 1) = i + 1 := w64 (by omega) (by omega)
  have e2 : wrap64 a = a := w64 (by omega) (by omega)
  have e3 : mx a 0 = a := by show (if a < 0 then 0 else a) = a; split <;> omega
  have t : ¬ a < 2400 := by omega
  simp [sumpterlaw22_WindowStays.j1, window_Room.f, hc, e1, e2, e3, t]

theorem loop_true (l : List S40) (hl : ∀ x ∈ l, ok40 x) (hn : l.length ≤ 200) (D : Nat) :
    ∀ (k : Nat) (i a b c d : Int), 0 ≤ i → i ≤ l.length → (l.length : Int) - i = D → 2 * D + 5 < k → May a b c d → sumpterlaw22_WindowStays.l0 k l i a b c d = some true := by
  induction D with
  | zero =>
    intro k i a b c d hi h1 hd hk _
    obtain ⟨k, rfl⟩ : ∃ m, k = m + 2 := ⟨k - 2, by omega⟩
    unfold sumpterlaw22_WindowStays.l0
    rw [if_neg (by omega), awake_true]; rfl
  | succ D ih =>
    intro k i a b c d hi h1 hd hk hm
    obtain ⟨k, rfl⟩ : ∃ m, k = m + 2 := ⟨k - 2, by omega⟩
    have hlt : i < (l.length : Int) := by omega
    have hx : ok40 (rd_T40 l i) := by
      unfold rd_T40
      rw [List.getD_eq_getElem?_getD, List.getElem?_eq_getElem (by omega)]
      exact hl _ (List.getElem_mem _)
    have b1 := bounds_u16 hx.2.1
    have b2 := bounds_u16 hx.2.2
    have w1 : wrap64 (rd_T40 l i).f1 = (rd_T40 l i).f1 := w64 (by omega) (by omega)
    have w2 : wrap64 (rd_T40 l i).f2 = (rd_T40 l i).f2 := w64 (by omega) (by omega)
    unfold sumpterlaw22_WindowStays.l0
    rw [if_pos hlt, if_pos hi, w1, w2]
    by_cases c3 : Int.tmod (rd_T40 l i).f0 5 = 3
    · rw [if_pos c3]
      obtain ⟨a', b', c', d', he, hm'⟩ := lost_may hm (rd_T40 l i).f1 (rd_T40 l i).f2 b2.1 b2.2
      rw [he]; simp only [Option.bind_some]
      rw [j1_step hm' k l i hi (by omega)]
      exact ih k (i + 1) a' b' c' d' (by omega) (by omega) (by omega) (by omega) hm'
    · rw [if_neg c3]
      by_cases c4 : Int.tmod (rd_T40 l i).f0 5 = 4
      · rw [if_pos c4, (collapsed_may hm).1]; simp only [Option.bind_some]
        rw [j1_step (collapsed_may hm).2 k l i hi (by omega)]
        exact ih k (i + 1) _ _ _ _ (by omega) (by omega) (by omega) (by omega) (collapsed_may hm).2
      · rw [if_neg c4]
        obtain ⟨a', b', c', d', he, hm'⟩ := acked_may hm k (rd_T40 l i).f1 (rd_T40 l i).f2 b1.1 b1.2
        rw [he]; simp only [Option.bind_some]
        rw [j1_step hm' k l i hi (by omega)]
        exact ih k (i + 1) a' b' c' d' (by omega) (by omega) (by omega) (by omega) hm'

theorem WindowStays : sumpterlaw22_WindowStays.Pure2 := by
  intro l h
  refine ⟨2 * l.length + 10, ?_⟩
  unfold sumpterlaw22_WindowStays.f
  by_cases hc : (l.length : Int) > 200
  · rw [if_pos hc, show 2 * l.length + 10 = (2 * l.length + 9) + 1 from rfl, awake_true]; rfl
  · rw [if_neg hc]
    simp only [window_New.f, Option.bind_some]
    exact loop_true l h.2 (by omega) l.length _ 0 12000 1073741824 (-1) 0 (by omega) (by omega) (by omega) (by omega) ⟨by omega, by omega, by omega, by omega, by omega, by omega, by omega, by omega⟩

end Go.Proofs.Ytifidkeohcbdlaa.Pure
