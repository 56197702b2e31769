/- The statement RttMakes of the given program, over plain Lean values: behind any samples a state may be, its least and last times are the samples', its mean and variance lie within bounds. No condition. -/
import Derived.Test.YtifidkeohcbdlaaRRttMakes
import Derived.OpenShut
namespace Go.Proofs.Ytifidkeohcbdlaa.Pure
open Go.RowKit Go.Proofs.Ytifidkeohcbdlaa.QRttMakes Go.Proofs.YtifidkeohcbdlaaW.PrintWords Go.Proofs.YtifidkeohcbdlaaW.PrintLast

theorem w64 {x : Int} (h1 : -9223372036854775808 ≤ x) (h2 : x ≤ 9223372036854775807) : wrap64 x = x := by unfold wrap64; omega

theorem awake_one : sumpterlaw20_awake.f 4 = some true := by decide +kernel
theorem awake_true (k : Nat) : sumpterlaw20_awake.f (k + 4) = some true := by
  induction k with
  | zero => exact awake_one
  | succ k ih => exact sumpterlaw20_awake.mono _ _ ih

theorem sample_first (k : Nat) (n d : Int) (h0 : 0 ≤ n) (h1 : n ≤ 65535) (h2 : 0 ≤ d) (h3 : d ≤ 65535) : rtt_Sample.f (k + 1) false 0 0 0 0 n d = some (true, n, n, n, n / 2) := by
  have g1 : n ≤ 1099511627776 := by omega
  have g2 : d ≤ 1099511627776 := by omega
  have e1 : wrap64 (Int.tdiv n 2) = n / 2 := by rw [Int.tdiv_eq_ediv_of_nonneg h0, w64 (by omega) (by omega)]
  simp [rtt_Sample.f, rtt_may.f, rtt_Sample.j0, rtt_State_known.f, h0, g1, h2, g2, e1]

theorem check_true (la m s v : Int) (h1 : 0 ≤ m) (h2 : m ≤ la) (h3 : la ≤ 65535) (h4 : 0 ≤ s) (h5 : s ≤ 65535) (h6 : 0 ≤ v) (h7 : v ≤ 200000) : rtt_Check.f true la m s v = some true := by
  have a1 : 0 ≤ la := by omega
  have a2 : la ≤ 1099511627776 := by omega
  have a3 : m ≤ 1099511627776 := by omega
  have a4 : s ≤ 1099511627776 := by omega
  have a5 : v ≤ 1099511627776 := by omega
  simp [rtt_Check.f, rtt_may.f, a1, a2, h1, a3, h4, a4, h6, a5, h2]

/-- A further sample: the least, the last, and bounds of the mean and of the variance. -/
theorem sample_next (k : Nat) (la m s v n d most delay : Int) (h1 : 0 ≤ m) (h2 : m ≤ la) (h3 : la ≤ most) (h4 : most ≤ 65535) (h5 : 0 ≤ s) (h6 : m - delay ≤ s) (h7 : s ≤ most) (h8 : 0 ≤ v) (h9 : v ≤ most + delay)
    (hd0 : 0 ≤ delay) (hd1 : delay ≤ 65535) (n0 : 0 ≤ n) (n1 : n ≤ 65535) (d0 : 0 ≤ d) (d1 : d ≤ 65535) :
    ∃ s' v', rtt_Sample.f (k + 1) true la m s v n d = some (true, n, mn m n, s', v') ∧ 0 ≤ s' ∧ mn m n - mx delay d ≤ s' ∧ s' ≤ mx most n ∧ 0 ≤ v' ∧ v' ≤ mx most n + mx delay d := by
  have hm : mn m n = if n < m then n else m := rfl
  have hx : mx most n = if most < n then n else most := rfl
  have hy : mx delay d = if delay < d then d else delay := rfl
  obtain ⟨M, hM⟩ : ∃ M, M = mn m n := ⟨_, rfl⟩
  obtain ⟨X, hX⟩ : ∃ X, X = mx most n := ⟨_, rfl⟩
  obtain ⟨D, hD⟩ : ∃ D, D = mx delay d := ⟨_, rfl⟩
  have m1 : M ≤ m ∧ M ≤ n ∧ 0 ≤ M := by rw [hM, hm]; split <;> omega
  have x1 : most ≤ X ∧ n ≤ X ∧ X ≤ 65535 := by rw [hX, hx]; split <;> omega
  have y1 : delay ≤ D ∧ d ≤ D ∧ D ≤ 65535 := by rw [hD, hy]; split <;> omega
  rw [← hM, ← hX, ← hD]
  have g1 : n ≤ 1099511627776 := by omega
  have g2 : d ≤ 1099511627776 := by omega
  have hc := check_true la m s v h1 h2 (by omega) h5 (by omega) h8 (by omega)
  have e1 : wrap64 (n - d) = n - d := w64 (by omega) (by omega)
  have e2 : wrap64 (7 * s) = 7 * s := w64 (by omega) (by omega)
  have e3 : wrap64 (3 * v) = 3 * v := w64 (by omega) (by omega)
  have key : ∀ adj : Int, M ≤ adj → adj ≤ n → ∃ a, rtt_apart.f s adj = some a ∧ 0 ≤ a ∧ a ≤ X + D ∧ wrap64 (Int.tdiv (wrap64 (7 * s + adj)) 8) = (7 * s + adj) / 8 ∧ wrap64 (Int.tdiv (wrap64 (3 * v + a)) 4) = (3 * v + a) / 4 := by
    intro adj a0 a1
    have e4 : wrap64 (7 * s + adj) = 7 * s + adj := w64 (by omega) (by omega)
    have e5 : wrap64 (Int.tdiv (7 * s + adj) 8) = (7 * s + adj) / 8 := by rw [Int.tdiv_eq_ediv_of_nonneg (by omega), w64 (by omega) (by omega)]
    have fin : ∀ a : Int, 0 ≤ a → a ≤ X + D → wrap64 (Int.tdiv (wrap64 (3 * v + a)) 4) = (3 * v + a) / 4 := by
      intro a b0 b1
      rw [w64 (x := 3 * v + a) (by omega) (by omega), Int.tdiv_eq_ediv_of_nonneg (by omega), w64 (by omega) (by omega)]
    by_cases hs : s < adj
    · exact ⟨adj - s, by unfold rtt_apart.f; rw [if_pos hs, w64 (by omega) (by omega)], by omega, by omega, by rw [e4, e5], fin _ (by omega) (by omega)⟩
    · exact ⟨s - adj, by unfold rtt_apart.f; rw [if_neg hs, w64 (by omega) (by omega)], by omega, by omega, by rw [e4, e5], fin _ (by omega) (by omega)⟩
  by_cases hlt : n - d < M
  · obtain ⟨a, ha, a0, a1, ea, eb⟩ := key n m1.2.1 (Int.le_refl _)
    refine ⟨(7 * s + n) / 8, (3 * v + a) / 4, ?_, by omega, by omega, by omega, by omega, by omega⟩
    simp [rtt_Sample.f, rtt_may.f, rtt_Sample.j0, rtt_State_known.f, n0, g1, d0, g2, hc, e1, e2, e3, ← hM, hlt, ha, ea, eb]
  · obtain ⟨a, ha, a0, a1, ea, eb⟩ := key (n - d) (by omega) (by omega)
    refine ⟨(7 * s + (n - d)) / 8, (3 * v + a) / 4, ?_, by omega, by omega, by omega, by omega, by omega⟩
    simp [rtt_Sample.f, rtt_may.f, rtt_Sample.j0, rtt_State_known.f, n0, g1, d0, g2, hc, e1, e2, e3, ← hM, hlt, ha, ea, eb]

/-- One round's tests, and on to the next. -/
theorem j1_step (k : Nat) (l : List S27) (least most delay i n d : Int) (b : Bool) (la m s v : Int) (hb : b = true → m = n) (hb' : b = false → m = least) (hla : la = n)
    (h1 : 0 ≤ m) (h2 : m ≤ la) (h4 : mx most n ≤ 65535) (h4' : n ≤ 65535) (h5 : 0 ≤ s) (h6 : m - mx delay d ≤ s) (h7 : s ≤ mx most n) (h8 : 0 ≤ v) (h9 : v ≤ mx most n + mx delay d) (hd0 : 0 ≤ mx delay d) (hd1 : mx delay d ≤ 65535) (hi : 0 ≤ i) (hi' : i ≤ 100) :
    sumpterlaw20_RttMakes.j1 (k + 1) l least most delay i n d b true la m s v = sumpterlaw20_RttMakes.l0 k l m (mx most n) (mx delay d) (i + 1) true la m s v := by
  subst hla
  have hc := check_true la m s v h1 h2 h4' h5 (by omega) h8 (by omega)
  have e1 : wrap64 (m - mx delay d) = m - mx delay d := w64 (by omega) (by omega)
  have e2 : wrap64 (mx most la + mx delay d) = mx most la + mx delay d := w64 (by omega) (by omega)
  have e3 : wrap64 (i + 1) = i + 1 := w64 (by omega) (by omega)
  have t1 : ¬ s < m - mx delay d := by omega
  have t2 : ¬ mx most la < s := by omega
  have t3 : ¬ s < 0 := by omega
  have t4 : ¬ v < 0 := by omega
  have t5 : ¬ mx most la + mx delay d < v := by omega
  unfold sumpterlaw20_RttMakes.j1
  cases b with
  | true => obtain rfl := hb rfl; simp [hc, e1, e2, e3, t1, t2, t3, t4, t5]
  | false => obtain rfl := hb' rfl; simp [hc, e1, e2, e3, t1, t2, t3, t4, t5]

theorem loop_true (l : List S27) (hl : ∀ x ∈ l, ok27 x) (hn : l.length ≤ 60) (d : Nat) :
    ∀ (k : Nat) (i least most delay la s v : Int), 1 ≤ i → i ≤ l.length → (l.length : Int) - i = d → 2 * d + 10 < k → 0 ≤ least → least ≤ la → la ≤ most → most ≤ 65535 → 0 ≤ delay → delay ≤ 65535 → 0 ≤ s → least - delay ≤ s → s ≤ most → 0 ≤ v → v ≤ most + delay →
      sumpterlaw20_RttMakes.l0 k l least most delay i true la least s v = some true := by
  induction d with
  | zero =>
    intro k i least most delay la s v hi h1 hd hk
    intros
    obtain ⟨k, rfl⟩ : ∃ m, k = m + 5 := ⟨k - 5, by omega⟩
    unfold sumpterlaw20_RttMakes.l0
    rw [if_neg (by omega), awake_true]; rfl
  | succ d ih =>
    intro k i least most delay la s v hi h1 hd hk p1 p2 p3 p4 p5 p6 p7 p8 p9 p10 p11
    obtain ⟨k, rfl⟩ : ∃ m, k = m + 5 := ⟨k - 5, by omega⟩
    have hlt : i < (l.length : Int) := by omega
    have hx : ok27 (rd_T27 l i) := by
      unfold rd_T27
      rw [List.getD_eq_getElem?_getD, List.getElem?_eq_getElem (by omega)]
      exact hl _ (List.getElem_mem _)
    have hx0 := bounds_u16 hx.1
    have hx1 := bounds_u16 hx.2
    obtain ⟨n, en⟩ : ∃ n, n = (rd_T27 l i).f0 := ⟨_, rfl⟩
    obtain ⟨dl, ed⟩ : ∃ n, n = (rd_T27 l i).f1 := ⟨_, rfl⟩
    rw [← en] at hx0
    rw [← ed] at hx1
    have wn : wrap64 n = n := w64 (by omega) (by omega)
    have wd : wrap64 dl = dl := w64 (by omega) (by omega)
    obtain ⟨s', v', hs, q1, q2, q3, q4, q5⟩ := sample_next (k + 3) la least s v n dl most delay p1 p2 p3 p4 p7 p8 p9 p10 p11 p5 p6 hx0.1 hx0.2 hx1.1 hx1.2
    have hm : mn least n = if n < least then n else least := rfl
    have hX : mx most n = if most < n then n else most := rfl
    have hY : mx delay dl = if delay < dl then dl else delay := rfl
    have b1 : 0 ≤ mn least n ∧ mn least n ≤ n := by rw [hm]; split <;> omega
    have b2 : n ≤ mx most n ∧ mx most n ≤ 65535 := by rw [hX]; split <;> omega
    have b3 : 0 ≤ mx delay dl ∧ mx delay dl ≤ 65535 := by rw [hY]; split <;> omega
    unfold sumpterlaw20_RttMakes.l0
    rw [if_pos hlt, if_pos (by omega), ← en, ← ed, wn, wd, hs]
    simp only [Option.bind_some]
    rw [if_neg (by omega)]
    rw [j1_step (k + 3) l least most delay i n dl (decide (n < least)) n (mn least n) s' v' (fun h => by rw [hm, if_pos (of_decide_eq_true h)]) (fun h => by rw [hm, if_neg (of_decide_eq_false h)]) rfl b1.1 b1.2 b2.2 hx0.2 q1 q2 q3 q4 q5 b3.1 b3.2 (by omega) (by omega)]
    exact ih (k + 3) (i + 1) _ _ _ n s' v' (by omega) (by omega) (by omega) (by omega) b1.1 b1.2 b2.1 b2.2 b3.1 b3.2 q1 q2 q3 q4 q5

theorem RttMakes : sumpterlaw20_RttMakes.Pure2 := by
  intro l h
  refine ⟨2 * l.length + 40, ?_⟩
  unfold sumpterlaw20_RttMakes.f
  by_cases hc : (l.length : Int) > 60
  · rw [if_pos hc, show 2 * l.length + 40 = (2 * l.length + 36) + 4 from rfl, awake_true]; rfl
  · rw [if_neg hc]
    by_cases h0 : l.length = 0
    · have : 2 * l.length + 40 = (2 * l.length + 35) + 4 + 1 := rfl
      rw [this]
      unfold sumpterlaw20_RttMakes.l0
      rw [if_neg (by omega), awake_true]; rfl
    · have hx : ok27 (rd_T27 l 0) := by
        unfold rd_T27
        rw [List.getD_eq_getElem?_getD, List.getElem?_eq_getElem (by simp; omega)]
        exact h.2 _ (List.getElem_mem _)
      have hx0 := bounds_u16 hx.1
      have hx1 := bounds_u16 hx.2
      obtain ⟨n, en⟩ : ∃ n, n = (rd_T27 l 0).f0 := ⟨_, rfl⟩
      obtain ⟨dl, ed⟩ : ∃ n, n = (rd_T27 l 0).f1 := ⟨_, rfl⟩
      rw [← en] at hx0
      rw [← ed] at hx1
      have wn : wrap64 n = n := w64 (by omega) (by omega)
      have wd : wrap64 dl = dl := w64 (by omega) (by omega)
      have m0 : mx 0 n = n := by show (if 0 < n then n else 0) = n; split <;> omega
      have m1 : mx 0 dl = dl := by show (if 0 < dl then dl else 0) = dl; split <;> omega
      have e2 : 2 * l.length + 40 = (2 * l.length + 35) + 3 + 1 + 1 := rfl
      rw [e2]
      unfold sumpterlaw20_RttMakes.l0
      rw [if_pos (by omega), if_pos (by omega), ← en, ← ed, wn, wd, sample_first _ n dl hx0.1 hx0.2 hx1.1 hx1.2]
      simp only [Option.bind_some, if_true]
      rw [j1_step (2 * l.length + 35 + 3) l 0 0 0 0 n dl true n n n (n / 2) (fun _ => rfl) (fun h => by cases h) rfl hx0.1 (Int.le_refl _) (by rw [m0]; exact hx0.2) hx0.2 hx0.1 (by rw [m1]; omega) (by rw [m0]; omega) (by omega) (by rw [m0, m1]; omega) (by rw [m1]; omega) (by rw [m1]; omega) (by omega) (by omega), m0, m1]
      exact loop_true l h.2 (by omega) (l.length - 1) _ (0 + 1) n n dl n n (n / 2) (by omega) (by omega) (by omega) (by omega) hx0.1 (Int.le_refl _) (Int.le_refl _) hx0.2 hx1.1 hx1.2 hx0.1 (by omega) (Int.le_refl _) (by omega) (by omega)

end Go.Proofs.Ytifidkeohcbdlaa.Pure
